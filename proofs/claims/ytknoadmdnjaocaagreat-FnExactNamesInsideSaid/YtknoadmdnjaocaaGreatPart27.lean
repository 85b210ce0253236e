/- Texts of the claim, joined: The walks of batch g2; The walks of batch g3; The walks of batch g4; The walks of batch g5; The walks of batch n1; The walks of batch h3; The walks of batch i4; The walks of batch n2. -/
import Derived.Test.YtknoadmdnjaocaaGreatPart18
import Derived.Test.YtknoadmdnjaocaaGreatChecked
import Derived.Test.YtknoadmdnjaocaaGreatH35
import Derived.Test.YtknoadmdnjaocaaGreatPart25
import Derived.Test.YtknoadmdnjaocaaGreatSE
import Derived.Test.YtknoadmdnjaocaaGreatPart21
import Derived.Test.YtknoadmdnjaocaaGreatH40
import Derived.Test.YtknoadmdnjaocaaGreatH41
import Derived.Test.YtknoadmdnjaocaaGreatPart17
import Derived.Test.YtknoadmdnjaocaaGreatH36
namespace Go.Proofs.YtknoadmdnjaocaaGreat
open Go.H
set_option linter.unusedVariables false
set_option linter.unusedSimpArgs false
set_option maxRecDepth 10000
theorem F00 (h : Hp) (csp0 : List Value) (p0 : j0) (rp0 : P1.R h csp0 p0) (r : j0) (hM0 : o6 p0 = some r) :
  Tr Tryz.prog 83 #[.agg csp0.toArray] h fun v h' => ∃ (g0 : Nat) (n0 c0 : Nat), v = .agg ([.int .i64 r.1, .int .i64 r.2.1, .slice (some ⟨g0, 0, none⟩) n0 c0] : List Value).toArray ∧ New P1 h h' [.int .i64 r.1, .int .i64 r.2.1, .slice (some ⟨g0, 0, none⟩) n0 c0] r := by
 obtain ⟨p0_0, p0_1, ap0_2, np0_2, cp0_2, p0_2, rfl, rfl, ip0_0, ip0_1, rp0_2⟩ := K0 rp0
 obtain ⟨rfl, lp0_2⟩ := Sl.len rp0_2
 unfold o6 at hM0
 dsimp only at hM0
 refine A3 (args := [.agg #[.int .i64 p0_0, .int .i64 p0_1, .slice ap0_2 p0_2.length cp0_2]]) (fn := Tryz.f83) rfl ?_
 refine Or.inr (Or.inr (Or.inl (And.intro (And.intro (by kernel_rfl) (by kernel_rfl)) ?_)))
 refine Or.inr ?_
 refine Or.inr ?_
 refine Or.inr ?_
 refine Or.inr ?_
 refine Exists.intro 0 (And.intro (And.intro rfl rfl) ?_)
 refine And.intro trivial (And.intro (by first | exact trivial | exact rfl) ?_)
 obtain ⟨vsy1, ey1, fy1⟩ := Sl.rows (r := N0.toRp) rp0_2
 refine Exists.intro vsy1 (And.intro ey1 ?_)
 obtain ⟨q2, gq2, hM0⟩ := l0 hM0
 refine And.intro (l3 gq2 (by first | rw [F2.length (show F2 (N0.R h) ([] : List (List Value)) ([] : D0) from trivial), F2.length fy1] | exact congrArg (· + 1) (F2.length (show F2 (N0.R h) ([] : List (List Value)) ([] : D0) from trivial)))) ?_
 refine And.intro trivial (And.intro (by first | exact trivial | exact rfl) ?_)
 refine And.intro trivial (And.intro (by first | exact trivial | exact rfl) ?_)
 refine And.intro trivial (And.intro (by first | exact trivial | exact rfl) ?_)
 intro v3 k4 f5
 obtain ⟨gz6, cz6, rfl, rz6, sz6, lz6⟩ := S0.outS (r := N0.toRp) f5 (F2.append (show F2 (N0.R h) ([] : List (List Value)) ([] : D0) from trivial) fy1)
 have hE := Option.some.inj hM0; subst hE
 exact ⟨gz6, ((([] : D0) ++ p0_2)).length, cz6, rfl, (New.pair (New.int ip0_0) (New.pair (New.int ip0_1) (S0.newPlain (r := N0) f5 (F2.append (show F2 (N0.R h) ([] : List (List Value)) ([] : D0) from trivial) fy1) (A0c _))))⟩
theorem n08 (h : Hp) (csp0 : List Value) (p0 : j0) (rp0 : P1.R h csp0 p0) (p1 : Int) (ip1 : P0 p1) (r : Int) (hM0 : A8 p0 p1 = some r) :
  Tr Tryz.prog 250 #[.agg csp0.toArray, .int .i64 p1] h fun v h' => v = .int .i64 r ∧ h' = h := by
 obtain ⟨p0_0, p0_1, ap0_2, np0_2, cp0_2, p0_2, rfl, rfl, ip0_0, ip0_1, rp0_2⟩ := K0 rp0
 obtain ⟨rfl, lp0_2⟩ := Sl.len rp0_2
 unfold A8 at hM0
 dsimp only at hM0
 refine Tr.forget (A3 (args := [.agg #[.int .i64 p0_0, .int .i64 p0_1, .slice ap0_2 p0_2.length cp0_2], .int .i64 p1]) (fn := Tryz.f250) rfl ?_)
 obtain ⟨X1, hLX1, hM0⟩ := l0 hM0
 refine Exists.intro { vars := [5, 11], boxes := [], owns := [], fuel := true } (Exists.intro (fun vs os h' => ∃ (u2 : Int) (u3 : Int), vs.tail = [.int .i64 u2, .int .i64 u3] ∧ os = [] ∧ Sub h h' ∧ P0 u2 ∧ P0 u3 ∧ f4 p0_2 p1 (C2 vs) u2 u3 = some X1) (Exists.intro (fun _ _ => 0) ?_))
 refine And.intro (Exists.intro T0 ⟨0, 0, rfl, rfl, (Sub.refl _), (c64 (by decide) (by decide)), (c64 (by decide) (by decide)), hLX1⟩) ?_
 rintro v_0 v_1 m5 k4 ⟨u2, u3, evX1, eoX1, sX1, iu2, iu3, hM1⟩
 cases evX1
 cases eoX1
 replace hM1 : f4 p0_2 p1 m5 u2 u3 = some X1 := hM1
 obtain _ | m5 := m5
 ·cases (show (none : Option _) = some X1 from hM1)
 rw [f4.eq_2] at hM1
 refine And.intro (fun hc6 => ?_) (fun hc6 => ?_)
 ·replace hM1 := ifP hM1 hc6
  obtain ⟨x7, gx7, hM1⟩ := l0 hM1
  obtain ⟨bx7, csx7, ex7, rx7⟩ := Sl.getI (r := N0.toRp) (O0.mono sX1 rp0_2) gx7 (by decide)
  refine And.intro bx7 ?_
  obtain ⟨x7_0, x7_1, x7_2, rfl, rfl, ix7_0, ix7_1, ix7_2⟩ := H1 rx7
  try dsimp only at hM1
  refine Exists.intro _ (And.intro ex7 ?_)
  refine And.intro (fun hc8 => ?_) (fun hc8 => ?_)
  ·replace hM1 := ifP hM1 hc8
   refine And.intro (fun hc9 => ?_) (fun hc9 => ?_)
   ·replace hM1 := ifP hM1 hc9
    refine And.intro rfl (And.intro (by repeat (first | exact trivial | refine And.intro rfl ?_)) (And.intro (by repeat (first | exact trivial | refine And.intro rfl ?_)) (Exists.intro m5 (And.intro ⟨(IntKind.i64.wrap ((IntKind.i64.wrap (u2 + 1)) + 1)), (IntKind.i64.wrap (u3 + 1)), rfl, rfl, sX1, (M0 _), (M0 _), hM1⟩ (Nat.lt_succ_self _)))))
   ·replace hM1 := ifN hM1 hc9
    refine And.intro rfl (And.intro (by repeat (first | exact trivial | refine And.intro rfl ?_)) (And.intro (by repeat (first | exact trivial | refine And.intro rfl ?_)) (Exists.intro m5 (And.intro ⟨(IntKind.i64.wrap (u2 + 1)), (IntKind.i64.wrap (u3 + 1)), rfl, rfl, sX1, (M0 _), (M0 _), hM1⟩ (Nat.lt_succ_self _)))))
  ·replace hM1 := ifN hM1 hc8
   refine And.intro (fun hc10 => ?_) (fun hc10 => ?_)
   ·replace hM1 := ifP hM1 hc10
    refine And.intro rfl (And.intro (by repeat (first | exact trivial | refine And.intro rfl ?_)) (And.intro (by repeat (first | exact trivial | refine And.intro rfl ?_)) (Exists.intro m5 (And.intro ⟨(IntKind.i64.wrap (u2 + 1)), (IntKind.i64.wrap (u3 + 1)), rfl, rfl, sX1, (M0 _), (M0 _), hM1⟩ (Nat.lt_succ_self _)))))
   ·replace hM1 := ifN hM1 hc10
    refine And.intro rfl (And.intro (by repeat (first | exact trivial | refine And.intro rfl ?_)) (And.intro (by repeat (first | exact trivial | refine And.intro rfl ?_)) (Exists.intro m5 (And.intro ⟨u2, (IntKind.i64.wrap (u3 + 1)), rfl, rfl, sX1, iu2, (M0 _), hM1⟩ (Nat.lt_succ_self _)))))
 ·replace hM1 := ifN hM1 hc6
  have hE := Option.some.inj hM1; subst hE
  try dsimp only [V0, Z0] at hM0
  have hE := Option.some.inj hM0; subst hE
  exact And.intro rfl sX1
theorem n9 (h : Hp) (ap0 : Option Addr) (np0 cp0 : Nat) (p0 : D0) (rp0 : O0.R h [.slice ap0 np0 cp0] p0) (ap1 : Option Addr) (np1 cp1 : Nat) (p1 : D0) (rp1 : O0.R h [.slice ap1 np1 cp1] p1) (r : Bool) (hM0 : V1 p0 p1 = some r) :
  Tr Tryz.prog 252 #[.slice ap0 np0 cp0, .slice ap1 np1 cp1] h fun v h' => v = .bool r ∧ h' = h := by
 obtain ⟨rfl, lp0⟩ := Sl.len rp0
 obtain ⟨rfl, lp1⟩ := Sl.len rp1
 unfold V1 at hM0
 refine Tr.forget (A3 (args := [.slice ap0 p0.length cp0, .slice ap1 p1.length cp1]) (fn := Tryz.f252) rfl ?_)
 refine And.intro (fun hc1 => ?_) (fun hc1 => ?_)
 ·replace hM0 := ifP hM0 hc1
  have hE := Option.some.inj hM0; subst hE
  exact And.intro rfl (Sub.refl _)
 ·replace hM0 := ifN hM0 hc1
  obtain ⟨X2, hLX2, hM0⟩ := l0 hM0
  refine Exists.intro { vars := [13], boxes := [], owns := [], fuel := true } (Exists.intro (fun vs os h' => ∃ (u3 : Int), vs.tail = [.int .i64 u3] ∧ os = [] ∧ Sub h h' ∧ P0 u3 ∧ Q0 p0 p1 (C2 vs) u3 = some X2) (Exists.intro (fun _ _ => 0) ?_))
  refine And.intro (Exists.intro T0 ⟨0, rfl, rfl, (Sub.refl _), (c64 (by decide) (by decide)), hLX2⟩) ?_
  rintro v_0 m5 k4 ⟨u3, evX2, eoX2, sX2, iu3, hM1⟩
  cases evX2
  cases eoX2
  replace hM1 : Q0 p0 p1 m5 u3 = some X2 := hM1
  obtain _ | m5 := m5
  ·cases (show (none : Option _) = some X2 from hM1)
  rw [Q0.eq_2] at hM1
  refine And.intro (fun hc6 => ?_) (fun hc6 => ?_)
  ·replace hM1 := ifP hM1 hc6
   refine Or.inl (And.intro (And.intro (by kernel_rfl) (by kernel_rfl)) ?_)
   obtain ⟨x7, gx7, hM1⟩ := l0 hM1
   obtain ⟨bx7, csx7, ex7, rx7⟩ := Sl.getI (r := N0.toRp) (O0.mono sX2 rp0) gx7 (by decide)
   refine And.intro bx7 ?_
   obtain ⟨x7_0, x7_1, x7_2, rfl, rfl, ix7_0, ix7_1, ix7_2⟩ := H1 rx7
   try dsimp only at hM1
   refine Exists.intro _ (And.intro ex7 ?_)
   obtain ⟨x8, gx8, hM1⟩ := l0 hM1
   obtain ⟨bx8, csx8, ex8, rx8⟩ := Sl.getI (r := N0.toRp) (O0.mono sX2 rp1) gx8 (by decide)
   refine And.intro bx8 ?_
   obtain ⟨x8_0, x8_1, x8_2, rfl, rfl, ix8_0, ix8_1, ix8_2⟩ := H1 rx8
   try dsimp only at hM1
   refine Exists.intro _ (And.intro ex8 ?_)
   refine Exists.intro (!eqE (x7_0, x7_1, x7_2) (x8_0, x8_1, x8_2)) (And.intro (z0c _ _ _ rfl _ _ _ _ _ _) ?_)
   refine And.intro (fun hc9 => ?_) (fun hc9 => ?_)
   ·replace hM1 := ifP hM1 hc9
    have hE := Option.some.inj hM1; subst hE
    try dsimp only [Q3, Y3] at hM0
    have hE := Option.some.inj hM0; subst hE
    exact And.intro rfl sX2
   ·replace hM1 := ifN hM1 hc9
    refine And.intro rfl (And.intro (by repeat (first | exact trivial | refine And.intro rfl ?_)) (And.intro (by repeat (first | exact trivial | refine And.intro rfl ?_)) (Exists.intro m5 (And.intro ⟨(IntKind.i64.wrap (u3 + 1)), rfl, rfl, sX2, (M0 _), hM1⟩ (Nat.lt_succ_self _)))))
  ·replace hM1 := ifN hM1 hc6
   have hE := Option.some.inj hM1; subst hE
   try dsimp only [V0, Z0] at hM0
   have hE := Option.some.inj hM0; subst hE
   exact And.intro rfl sX2
theorem N05 (h : Hp) (csp0 : List Value) (p0 : j0) (rp0 : P1.R h csp0 p0) (csp1 : List Value) (p1 : j0) (rp1 : P1.R h csp1 p1) (r : Bool) (hM0 : o7 p0 p1 = some r) :
  Tr Tryz.prog 168 #[.agg csp0.toArray, .agg csp1.toArray] h fun v h' => v = .bool r ∧ h' = h := by
 obtain ⟨p0_0, p0_1, ap0_2, np0_2, cp0_2, p0_2, rfl, rfl, ip0_0, ip0_1, rp0_2⟩ := K0 rp0
 obtain ⟨rfl, lp0_2⟩ := Sl.len rp0_2
 obtain ⟨p1_0, p1_1, ap1_2, np1_2, cp1_2, p1_2, rfl, rfl, ip1_0, ip1_1, rp1_2⟩ := K0 rp1
 obtain ⟨rfl, lp1_2⟩ := Sl.len rp1_2
 unfold o7 at hM0
 dsimp only at hM0
 refine Tr.forget (A3 (args := [.agg #[.int .i64 p0_0, .int .i64 p0_1, .slice ap0_2 p0_2.length cp0_2], .agg #[.int .i64 p1_0, .int .i64 p1_1, .slice ap1_2 p1_2.length cp1_2]]) (fn := Tryz.f168) rfl ?_)
 obtain ⟨x1, gx1, hM0⟩ := l0 hM0
 refine Exists.intro (.bool x1) (And.intro (fun q => n9 _ ap0_2 p0_2.length cp0_2 p0_2 rp0_2 ap1_2 p1_2.length cp1_2 p1_2 rp1_2 _  (Q2 gx1 q)) ?_)
 have hE := Option.some.inj hM0; subst hE
 exact And.intro rfl (Sub.refl _)
theorem X04 (h : Hp) (csp0 : List Value) (p0 : j0) (rp0 : P1.R h csp0 p0) (p1 : Int) (ip1 : P0 p1) (r : (List Bool)) (hM0 : T6 p0 p1 = some r) :
  Tr Tryz.prog 249 #[.agg csp0.toArray, .int .i64 p1] h fun v h' => ∃ (a0 : Option Addr) (n0 c0 : Nat), v = .slice a0 n0 c0 ∧ (Wp.slice Wp.bool).R h' [.slice a0 n0 c0] r ∧ Sub h h' := by
 obtain ⟨p0_0, p0_1, ap0_2, np0_2, cp0_2, p0_2, rfl, rfl, ip0_0, ip0_1, rp0_2⟩ := K0 rp0
 obtain ⟨rfl, lp0_2⟩ := Sl.len rp0_2
 unfold T6 at hM0
 dsimp only at hM0
 refine A3 (args := [.agg #[.int .i64 p0_0, .int .i64 p0_1, .slice ap0_2 p0_2.length cp0_2], .int .i64 p1]) (fn := Tryz.f249) rfl ?_
 obtain ⟨q1, gq1, hM0⟩ := l0 hM0
 refine And.intro (E3 gq1) ?_
 obtain ⟨x2, gx2, hM0⟩ := l0 hM0
 obtain ⟨bx2, csx2, ex2, rx2⟩ := K4 (F2.rep (p := Wp.bool.R h) (a := [.bool false]) (b := false) rfl (p0_1.toNat)) gx2
 refine And.intro bx2 ?_
 obtain rfl := rx2
 refine Exists.intro _ (And.intro ex2 ?_)
 obtain ⟨X3, hLX3, hM0⟩ := l0 hM0
 refine Exists.intro { vars := [6], boxes := [], owns := [0], fuel := true, kept := [0] } (Exists.intro (fun vs os h' => ∃ (u4 : Bool) (wu5 : List (List Value)) (u5 : List Bool), vs.tail = [.bool u4] ∧ os = [wu5] ∧ Sub h h' ∧ F2 (Wp.bool.R h') wu5 u5 ∧ S3 p0_2 (C2 vs) u4 u5 = some X3) (Exists.intro (fun _ _ => 0) ?_))
 refine And.intro (Exists.intro T0 ⟨true, ((List.replicate p0_1.toNat ([.bool false] : List Value)).set p1.toNat [.bool true]), ((List.replicate p0_1.toNat (false : Bool)).set p1.toNat true), rfl, rfl, (Sub.refl _), (F2.set (p := Wp.bool.R h) (a := [.bool true]) (b := true) rfl p1.toNat (F2.rep (p := Wp.bool.R h) (a := [.bool false]) (b := false) rfl (p0_1.toNat))), hLX3⟩) ?_
 rintro v_0 wu5 m7 k6 ⟨u4, zzu5, u5, evX3, eoX3, sX3, fu5, hM1⟩
 cases evX3
 cases eoX3
 replace hM1 : S3 p0_2 m7 u4 u5 = some X3 := hM1
 obtain _ | m7 := m7
 ·cases (show (none : Option _) = some X3 from hM1)
 rw [S3.eq_2] at hM1
 refine And.intro (fun hc8 => ?_) (fun hc8 => ?_)
 ·replace hM1 := ifP hM1 hc8
  obtain ⟨X9, hLX9, hM1⟩ := l0 hM1
  refine Exists.intro { vars := [6, 19], boxes := [], owns := [0], fuel := true, kept := [0] } (Exists.intro (fun vs os h' => ∃ (u10 : Bool) (u11 : Int) (wu12 : List (List Value)) (u12 : List Bool), vs.tail = [.bool u10, .int .i64 u11] ∧ os = [wu12] ∧ Sub k6 h' ∧ P0 u11 ∧ F2 (Wp.bool.R h') wu12 u12 ∧ D3 p0_2 (C2 vs) u10 u11 u12 = some X9) (Exists.intro (fun _ _ => 0) ?_))
  refine And.intro (Exists.intro T0 ⟨false, 0, wu5, u5, rfl, rfl, (Sub.refl _), (c64 (by decide) (by decide)), fu5, hLX9⟩) ?_
  rintro v_0 v_1 wu12 m14 k13 ⟨u10, u11, zzu12, u12, evX9, eoX9, sX9, iu11, fu12, hM2⟩
  cases evX9
  cases eoX9
  replace hM2 : D3 p0_2 m14 u10 u11 u12 = some X9 := hM2
  obtain _ | m14 := m14
  ·cases (show (none : Option _) = some X9 from hM2)
  rw [D3.eq_2] at hM2
  refine And.intro (fun hc15 => ?_) (fun hc15 => ?_)
  ·replace hM2 := ifP hM2 hc15
   obtain ⟨x16, gx16, hM2⟩ := l0 hM2
   obtain ⟨bx16, csx16, ex16, rx16⟩ := Sl.getI (r := N0.toRp) (O0.mono (sX3.trans sX9) rp0_2) gx16 (by decide)
   refine And.intro bx16 ?_
   obtain ⟨x16_0, x16_1, x16_2, rfl, rfl, ix16_0, ix16_1, ix16_2⟩ := H1 rx16
   try dsimp only at hM2
   refine Exists.intro _ (And.intro ex16 ?_)
   refine Or.inl (And.intro (And.intro (by kernel_rfl) (by kernel_rfl)) ?_)
   obtain ⟨x17, gx17, hM2⟩ := l0 hM2
   obtain ⟨bx17, csx17, ex17, rx17⟩ := K4 fu12 gx17
   refine And.intro bx17 ?_
   obtain rfl := rx17
   refine Exists.intro _ (And.intro ex17 ?_)
   obtain ⟨x18, gx18, hM2⟩ := l0 hM2
   obtain ⟨bx18, csx18, ex18, rx18⟩ := K4 fu12 gx18
   refine And.intro bx18 ?_
   obtain rfl := rx18
   refine Exists.intro _ (And.intro ex18 ?_)
   refine And.intro (fun hc19 => ?_) (fun hc19 => ?_)
   ·replace hM2 := ifP hM2 hc19
    obtain ⟨x20, gx20, hM2⟩ := l0 hM2
    obtain ⟨bx20, csx20, ex20, rx20⟩ := K4 fu12 gx20
    refine And.intro bx20 ?_
    obtain rfl := rx20
    refine Exists.intro _ (And.intro ex20 ?_)
    obtain ⟨x21, gx21, hM2⟩ := l0 hM2
    obtain ⟨bx21, csx21, ex21, rx21⟩ := K4 (F2.set (p := Wp.bool.R k13) (a := [.bool true]) (b := true) rfl x16_0.toNat fu12) gx21
    refine And.intro bx21 ?_
    obtain rfl := rx21
    refine Exists.intro _ (And.intro ex21 ?_)
    refine And.intro rfl (And.intro (by repeat (first | exact trivial | refine And.intro rfl ?_)) (And.intro (by repeat (first | exact trivial | refine And.intro rfl ?_)) (Exists.intro m14 (And.intro ⟨true, (IntKind.i64.wrap (u11 + 1)), ((wu12.set x16_0.toNat [.bool true]).set x16_2.toNat [.bool true]), ((u12.set x16_0.toNat true).set x16_2.toNat true), rfl, rfl, sX9, (M0 _), (F2.set (p := Wp.bool.R k13) (a := [.bool true]) (b := true) rfl x16_2.toNat (F2.set (p := Wp.bool.R k13) (a := [.bool true]) (b := true) rfl x16_0.toNat fu12)), hM2⟩ (Nat.lt_succ_self _)))))
   ·replace hM2 := ifN hM2 hc19
    refine And.intro rfl (And.intro (by repeat (first | exact trivial | refine And.intro rfl ?_)) (And.intro (by repeat (first | exact trivial | refine And.intro rfl ?_)) (Exists.intro m14 (And.intro ⟨u10, (IntKind.i64.wrap (u11 + 1)), wu12, u12, rfl, rfl, sX9, (M0 _), fu12, hM2⟩ (Nat.lt_succ_self _)))))
  ·replace hM2 := ifN hM2 hc15
   have hE := Option.some.inj hM2; subst hE
   try dsimp only [V0, Z0] at hM1
   refine And.intro rfl (And.intro (by repeat (first | exact trivial | refine And.intro rfl ?_)) (And.intro (by repeat (first | exact trivial | refine And.intro rfl ?_)) (Exists.intro m7 (And.intro ⟨u10, wu12, u12, rfl, rfl, (sX3.trans sX9), fu12, hM1⟩ (Nat.lt_succ_self _)))))
 ·replace hM1 := ifN hM1 hc8
  have hE := Option.some.inj hM1; subst hE
  try dsimp only [V0, Z0] at hM0
  intro v27 k28 f29
  obtain ⟨az30, cz30, rfl, rz30, sz30, lz30⟩ := S0.out (r := Wp.bool.toRp) f29 fu5
  have hE := Option.some.inj hM0; subst hE
  exact ⟨az30, u5.length, cz30, rfl, rz30, (sX3.trans sz30)⟩
theorem j0a (h : Hp) (p0 : Int) (ip0 : P0 p0) (r : J0) (hM0 : h8 p0 = some r) :
  Tr Tryz.prog 265 #[.int .i64 p0] h fun v h' => ∃ (a0 : Option Addr) (n0 c0 : Nat), v = .slice a0 n0 c0 ∧ O1.R h' [.slice a0 n0 c0] r ∧ Sub h h' := by
 unfold h8 at hM0
 refine A3 (args := [.int .i64 p0]) (fn := Tryz.f265) rfl ?_
 obtain ⟨X1, hLX1, hM0⟩ := l0 hM0
 refine Exists.intro { vars := [4], boxes := [], owns := [0], fuel := true } (Exists.intro (fun vs os h' => ∃ (u2 : Int) (wu3 : List (List Value)) (u3 : List Int), vs.tail = [.int .i64 u2] ∧ os = [wu3] ∧ Sub h h' ∧ P0 u2 ∧ F2 (Wp.int.R h') wu3 u3 ∧ H5 p0 (C2 vs) u2 u3 = some X1) (Exists.intro (fun _ _ => 0) ?_))
 refine And.intro (Exists.intro T0 ⟨1, [], ([] : J0), rfl, rfl, (Sub.refl _), (c64 (by decide) (by decide)), (show F2 (Wp.int.R h) ([] : List (List Value)) ([] : J0) from trivial), hLX1⟩) ?_
 rintro v_0 wu3 m5 k4 ⟨u2, zzu3, u3, evX1, eoX1, sX1, iu2, fu3, hM1⟩
 cases evX1
 cases eoX1
 replace hM1 : H5 p0 m5 u2 u3 = some X1 := hM1
 obtain _ | m5 := m5
 ·cases (show (none : Option _) = some X1 from hM1)
 rw [H5.eq_2] at hM1
 refine And.intro (fun hc6 => ?_) (fun hc6 => ?_)
 ·replace hM1 := ifP hM1 hc6
  obtain ⟨q7, gq7, hM1⟩ := l0 hM1
  refine And.intro (l3 gq7 (by first | rw [F2.length fu3, F2.length (show F2 (Wp.int.R k4) ([[.int .i64 u2], [.int .i64 (IntKind.i64.wrap (0 - u2))]] : List (List Value)) [u2, (IntKind.i64.wrap (0 - u2))] from ⟨⟨rfl, iu2⟩, ⟨⟨rfl, (M0 _)⟩, trivial⟩⟩)] | exact congrArg (· + 2) (F2.length fu3))) ?_
  refine And.intro rfl (And.intro (by repeat (first | exact trivial | refine And.intro rfl ?_)) (And.intro (by repeat (first | exact trivial | refine And.intro rfl ?_)) (Exists.intro m5 (And.intro ⟨(IntKind.i64.wrap (u2 + 1)), (wu3 ++ ([[.int .i64 u2], [.int .i64 (IntKind.i64.wrap (0 - u2))]] : List (List Value))), (u3 ++ [u2, (IntKind.i64.wrap (0 - u2))]), rfl, rfl, sX1, (M0 _), (F2.append fu3 (show F2 (Wp.int.R k4) ([[.int .i64 u2], [.int .i64 (IntKind.i64.wrap (0 - u2))]] : List (List Value)) [u2, (IntKind.i64.wrap (0 - u2))] from ⟨⟨rfl, iu2⟩, ⟨⟨rfl, (M0 _)⟩, trivial⟩⟩)), hM1⟩ (Nat.lt_succ_self _)))))
 ·replace hM1 := ifN hM1 hc6
  have hE := Option.some.inj hM1; subst hE
  try dsimp only [V0, Z0] at hM0
  intro v8 k9 f10
  obtain ⟨az11, cz11, rfl, rz11, sz11, lz11⟩ := S0.out (r := Wp.int.toRp) f10 fu3
  have hE := Option.some.inj hM0; subst hE
  exact ⟨az11, u3.length, cz11, rfl, rz11, (sX1.trans sz11)⟩
theorem o05 (h : Hp) (ap0 : Option Addr) (np0 cp0 : Nat) (p0 : D0) (rp0 : O0.R h [.slice ap0 np0 cp0] p0) (r : D0) (hM0 : I8 p0 = some r) :
  Tr Tryz.prog 178 #[.slice ap0 np0 cp0] h fun v h' => ∃ (a0 : Option Addr) (n0 c0 : Nat), v = .slice a0 n0 c0 ∧ New O0 h h' [.slice a0 n0 c0] r := by
 obtain ⟨rfl, lp0⟩ := Sl.len rp0
 unfold I8 at hM0
 refine A3 (args := [.slice ap0 p0.length cp0]) (fn := Tryz.f178) rfl ?_
 obtain ⟨vsy1, ey1, fy1⟩ := Sl.rows (r := N0.toRp) rp0
 refine Exists.intro vsy1 (And.intro ey1 ?_)
 obtain ⟨q2, gq2, hM0⟩ := l0 hM0
 refine And.intro (l3 gq2 (by first | rw [F2.length (show F2 (N0.R h) ([] : List (List Value)) ([] : D0) from trivial), F2.length fy1] | exact congrArg (· + 1) (F2.length (show F2 (N0.R h) ([] : List (List Value)) ([] : D0) from trivial)))) ?_
 refine Or.inl ?_
 intro v3 k4 f5
 obtain ⟨q6, gq6, hM0⟩ := l0 hM0
 refine Tr.mono (k0e _ f5 (F2.append (show F2 (N0.R h) ([] : List (List Value)) ([] : D0) from trivial) fy1) (E3 gq6)) ?_
 rintro _ kz7 ⟨rfl, vsz7, fz7, qz7⟩
 obtain ⟨az7, cz7, rfl, rz7, sz7, lz7⟩ := S0.out (r := N0.toRp) fz7 qz7
 refine Tr.mono (l0e _ fz7 qz7) ?_
 rintro _ kz8 ⟨vsz8, fz8, qz8⟩
 obtain ⟨az8, cz8, rfl, rz8, sz8, lz8⟩ := S0.out (r := N0.toRp) fz8 qz8
 have hE := Option.some.inj hM0; subst hE
 exact ⟨az8, ((w00 eqE (O02 C1 (([] : D0) ++ p0)))).length, cz8, rfl, (S0.newPlain (r := N0) fz8 qz8 (A0c _))⟩
theorem h08 (h : Hp) (csp0 : List Value) (p0 : j0) (rp0 : P1.R h csp0 p0) (ap1 : Option Addr) (np1 cp1 : Nat) (p1 : J0) (rp1 : O1.R h [.slice ap1 np1 cp1] p1) (r : j0) (hM0 : a00 p0 p1 = some r) :
  Tr Tryz.prog 251 #[.agg csp0.toArray, .slice ap1 np1 cp1] h fun v h' => ∃ (cs0 : List Value), v = .agg cs0.toArray ∧ New P1 h h' cs0 r := by
 obtain ⟨p0_0, p0_1, ap0_2, np0_2, cp0_2, p0_2, rfl, rfl, ip0_0, ip0_1, rp0_2⟩ := K0 rp0
 obtain ⟨rfl, lp0_2⟩ := Sl.len rp0_2
 obtain ⟨rfl, lp1⟩ := Sl.len rp1
 unfold a00 at hM0
 dsimp only at hM0
 refine A3 (args := [.agg #[.int .i64 p0_0, .int .i64 p0_1, .slice ap0_2 p0_2.length cp0_2], .slice ap1 p1.length cp1]) (fn := Tryz.f251) rfl ?_
 obtain ⟨q1, gq1, hM0⟩ := l0 hM0
 refine And.intro (E3 gq1) ?_
 obtain ⟨m2, gm2, hM0⟩ := l0 hM0
 obtain rfl : (List.replicate p0_1.toNat ([.int .i64 0] : List Value)).length = m2 := (F2.length (F2.rep (p := Wp.int.R h) (a := [.int .i64 0]) (b := 0) ⟨rfl, (c64 (by decide) (by decide))⟩ (p0_1.toNat))).trans (Option.some.inj gm2)
 obtain ⟨q3, gq3, hM0⟩ := l0 hM0
 obtain ⟨X4, hLX4, hM0⟩ := l0 hM0
 refine Exists.intro { vars := [17], boxes := [], owns := [0], fuel := true, kept := [0] } (Exists.intro (fun vs os h' => ∃ (u5 : Int) (wu6 : List (List Value)) (u6 : List Int), vs.tail = [.int .i64 u5] ∧ os = [wu6] ∧ Sub h h' ∧ P0 u5 ∧ F2 (Wp.int.R h') wu6 u6 ∧ c7 ((List.replicate p0_1.toNat ([.int .i64 0] : List Value))).length (C2 vs) u5 u6 = some X4) (Exists.intro (fun _ _ => 0) ?_))
 refine And.intro (Exists.intro T0 ⟨0, (List.replicate p0_1.toNat ([.int .i64 0] : List Value)), (List.replicate p0_1.toNat (0 : Int)), rfl, rfl, (Sub.refl _), (c64 (by decide) (by decide)), (F2.rep (p := Wp.int.R h) (a := [.int .i64 0]) (b := 0) ⟨rfl, (c64 (by decide) (by decide))⟩ (p0_1.toNat)), hLX4⟩) ?_
 rintro v_0 wu6 m8 k7 ⟨u5, zzu6, u6, evX4, eoX4, sX4, iu5, fu6, hM1⟩
 cases evX4
 cases eoX4
 replace hM1 : c7 ((List.replicate p0_1.toNat ([.int .i64 0] : List Value))).length m8 u5 u6 = some X4 := hM1
 obtain _ | m8 := m8
 ·cases (show (none : Option _) = some X4 from hM1)
 rw [c7.eq_2] at hM1
 refine And.intro (fun hc9 => ?_) (fun hc9 => ?_)
 ·replace hM1 := ifP hM1 hc9
  obtain ⟨x10, gx10, hM1⟩ := l0 hM1
  obtain ⟨bx10, csx10, ex10, rx10⟩ := K4 fu6 gx10
  refine And.intro bx10 ?_
  obtain ⟨rfl, ix10⟩ := rx10
  refine Exists.intro _ (And.intro ex10 ?_)
  refine And.intro rfl (And.intro (by repeat (first | exact trivial | refine And.intro rfl ?_)) (And.intro (by repeat (first | exact trivial | refine And.intro rfl ?_)) (Exists.intro m8 (And.intro ⟨(IntKind.i64.wrap (u5 + 1)), (wu6.set u5.toNat [.int .i64 (-1)]), (u6.set u5.toNat (-1)), rfl, rfl, sX4, (M0 _), (F2.set (p := Wp.int.R k7) (a := [.int .i64 (-1)]) (b := (-1)) ⟨rfl, (c64 (by decide) (by decide))⟩ u5.toNat fu6), hM1⟩ (Nat.lt_succ_self _)))))
 ·replace hM1 := ifN hM1 hc9
  have hE := Option.some.inj hM1; subst hE
  try dsimp only [V0, Z0] at hM0
  obtain ⟨X11, hLX11, hM0⟩ := l0 hM0
  refine Exists.intro { vars := [26], boxes := [], owns := [0], fuel := true, kept := [0] } (Exists.intro (fun vs os h' => ∃ (u12 : Int) (wu13 : List (List Value)) (u13 : List Int), vs.tail = [.int .i64 u12] ∧ os = [wu13] ∧ Sub k7 h' ∧ P0 u12 ∧ F2 (Wp.int.R h') wu13 u13 ∧ Z6 p1 (C2 vs) u12 u13 = some X11) (Exists.intro (fun _ _ => 0) ?_))
  refine And.intro (Exists.intro T0 ⟨0, wu6, u6, rfl, rfl, (Sub.refl _), (c64 (by decide) (by decide)), fu6, hLX11⟩) ?_
  rintro v_0 wu13 m15 k14 ⟨u12, zzu13, u13, evX11, eoX11, sX11, iu12, fu13, hM1⟩
  cases evX11
  cases eoX11
  replace hM1 : Z6 p1 m15 u12 u13 = some X11 := hM1
  obtain _ | m15 := m15
  ·cases (show (none : Option _) = some X11 from hM1)
  rw [Z6.eq_2] at hM1
  refine And.intro (fun hc16 => ?_) (fun hc16 => ?_)
  ·replace hM1 := ifP hM1 hc16
   obtain ⟨x17, gx17, hM1⟩ := l0 hM1
   obtain ⟨bx17, csx17, ex17, rx17⟩ := Sl.getI (r := Wp.int.toRp) (O1.mono (sX4.trans sX11) rp1) gx17 (by decide)
   refine And.intro bx17 ?_
   obtain ⟨rfl, ix17⟩ := rx17
   refine Exists.intro _ (And.intro ex17 ?_)
   obtain ⟨x18, gx18, hM1⟩ := l0 hM1
   obtain ⟨bx18, csx18, ex18, rx18⟩ := K4 fu13 gx18
   refine And.intro bx18 ?_
   obtain ⟨rfl, ix18⟩ := rx18
   refine Exists.intro _ (And.intro ex18 ?_)
   refine And.intro rfl (And.intro (by repeat (first | exact trivial | refine And.intro rfl ?_)) (And.intro (by repeat (first | exact trivial | refine And.intro rfl ?_)) (Exists.intro m15 (And.intro ⟨(IntKind.i64.wrap (u12 + 1)), (wu13.set x17.toNat [.int .i64 u12]), (u13.set x17.toNat u12), rfl, rfl, sX11, (M0 _), (F2.set (p := Wp.int.R k14) (a := [.int .i64 u12]) (b := u12) ⟨rfl, iu12⟩ x17.toNat fu13), hM1⟩ (Nat.lt_succ_self _)))))
  ·replace hM1 := ifN hM1 hc16
   have hE := Option.some.inj hM1; subst hE
   try dsimp only [V0, Z0] at hM0
   obtain ⟨X19, hLX19, hM0⟩ := l0 hM0
   refine Exists.intro { vars := [44], boxes := [2], owns := [1], fuel := true, nilsB := [(2, 2, 141, 3, 24)] } (Exists.intro (fun vs os h' => ∃ (u20 : Int) (u21 : Int) (u22 : Int) (wu23 : List (List Value)) (u23 : List B0), vs.tail = [.int .i64 u20, .int .i64 u21, .int .i64 u22] ∧ os = [wu23] ∧ Sub k14 h' ∧ P0 u20 ∧ P0 u21 ∧ P0 u22 ∧ F2 (N0.R h') wu23 u23 ∧ B6 p0_2 u13 (C2 vs) u20 u21 u22 u23 = some X19) (Exists.intro (fun _ _ => 0) ?_))
   refine And.intro (Exists.intro T0 ⟨0, p0_0, ((p1.length : Nat) : Int), [], ([] : D0), rfl, rfl, (Sub.refl _), (c64 (by decide) (by decide)), ip0_0, (Z0f lp1), (show F2 (N0.R k14) [] [] from trivial), hLX19⟩) ?_
   rintro v_0 v_1 v_2 wu23 m25 k24 ⟨u20, u21, u22, zzu23, u23, evX19, eoX19, sX19, iu20, iu21, iu22, fu23, hM1⟩
   cases evX19
   cases eoX19
   replace hM1 : B6 p0_2 u13 m25 u20 u21 u22 u23 = some X19 := hM1
   obtain _ | m25 := m25
   ·cases (show (none : Option _) = some X19 from hM1)
   rw [B6.eq_2] at hM1
   refine And.intro (fun hc26 => ?_) (fun hc26 => ?_)
   ·replace hM1 := ifP hM1 hc26
    obtain ⟨x27, gx27, hM1⟩ := l0 hM1
    obtain ⟨bx27, csx27, ex27, rx27⟩ := Sl.getI (r := N0.toRp) (O0.mono ((sX4.trans sX11).trans sX19) rp0_2) gx27 (by decide)
    refine And.intro bx27 ?_
    obtain ⟨x27_0, x27_1, x27_2, rfl, rfl, ix27_0, ix27_1, ix27_2⟩ := H1 rx27
    try dsimp only at hM1
    refine Exists.intro _ (And.intro ex27 ?_)
    obtain ⟨x28, gx28, hM1⟩ := l0 hM1
    obtain ⟨bx28, csx28, ex28, rx28⟩ := K4 (F2.up (r := Wp.int.toRp) sX19 fu13) gx28
    refine And.intro bx28 ?_
    obtain ⟨rfl, ix28⟩ := rx28
    refine Exists.intro _ (And.intro ex28 ?_)
    obtain ⟨x29, gx29, hM1⟩ := l0 hM1
    obtain ⟨csx29, ex29, rx29⟩ := i04 (F2.up (r := Wp.int.toRp) sX19 fu13) gx29 (u0d k24)
    refine And.intro (fun q => (ex29 q).1) ?_
    obtain ⟨rfl, ix29⟩ := rx29
    refine Exists.intro _ (And.intro (fun q => (ex29 q).2) ?_)
    refine And.intro (fun hc30 => ?_) (fun hc30 => ?_)
    ·replace hM1 := ifP hM1 hc30
     refine Or.inr (Or.inr (Or.inl (And.intro (And.intro (by kernel_rfl) (by kernel_rfl)) ?_)))
     obtain ⟨x31, gx31, hM1⟩ := l0 hM1
     obtain ⟨bx31, csx31, ex31, rx31⟩ := K4 (F2.up (r := Wp.int.toRp) sX19 fu13) gx31
     obtain ⟨rfl, ix31⟩ := rx31
     refine Or.inl ?_
     apply Exists.intro
     refine And.intro ?_ ?_
     ·intro k32 s33
      exact And.intro bx31 (And.intro rfl (And.intro rfl rfl))
     refine Or.inl (Exists.intro (.val (.int .i64 x31)) (And.intro ?_ ?_))
     ·intro k34 s35
      exact Exists.intro _ (And.intro ex31 (And.intro rfl (And.intro rfl rfl)))
     obtain ⟨x36, gx36, hM1⟩ := l0 hM1
     obtain ⟨bx36, csx36, ex36, rx36⟩ := K4 (F2.up (r := Wp.int.toRp) sX19 fu13) gx36
     obtain ⟨rfl, ix36⟩ := rx36
     refine Or.inl ?_
     apply Exists.intro
     refine And.intro ?_ ?_
     ·intro k37 s38
      exact And.intro bx36 (And.intro rfl (And.intro rfl rfl))
     refine Or.inl (Exists.intro (.val (.int .i64 x36)) (And.intro ?_ ?_))
     ·intro k39 s40
      exact Exists.intro _ (And.intro ex36 (And.intro rfl (And.intro rfl rfl)))
     refine Or.inl (Exists.intro (.agg [.val (.int .i64 x31), .val (.int .i64 x27_1), .val (.int .i64 x36)]) (And.intro ?_ ?_))
     ·intro k41 s42
      exact And.intro rfl (And.intro rfl rfl)
     refine Or.inr ?_
     refine Or.inr ?_
     refine Or.inr ?_
     refine Exists.intro 0 (And.intro (And.intro rfl rfl) ?_)
     refine And.intro trivial (And.intro (by first | exact trivial | exact rfl) ?_)
     obtain ⟨q43, gq43, hM1⟩ := l0 hM1
     refine And.intro (l3 gq43 (by first | rw [F2.length fu23, F2.length (show F2 (N0.R k24) ([[.int .i64 x31, .int .i64 x27_1, .int .i64 x36]] : List (List Value)) [(x31, x27_1, x36)] from ⟨(D1 ix31 ix27_1 ix36), trivial⟩)] | exact congrArg (· + 1) (F2.length fu23))) ?_
     refine And.intro trivial (And.intro (by first | exact trivial | exact rfl) ?_)
     refine And.intro trivial (And.intro (by first | exact trivial | exact rfl) ?_)
     refine And.intro rfl (And.intro (by repeat (first | exact trivial | refine And.intro rfl ?_)) (And.intro (by repeat (first | exact trivial | refine And.intro rfl ?_)) (Exists.intro m25 (And.intro ⟨(IntKind.i64.wrap (u20 + 1)), u21, u22, (wu23 ++ ([[.int .i64 x31, .int .i64 x27_1, .int .i64 x36]] : List (List Value))), (u23 ++ [(x31, x27_1, x36)]), rfl, rfl, sX19, (M0 _), iu21, iu22, (F2.append fu23 (show F2 (N0.R k24) ([[.int .i64 x31, .int .i64 x27_1, .int .i64 x36]] : List (List Value)) [(x31, x27_1, x36)] from ⟨(D1 ix31 ix27_1 ix36), trivial⟩)), hM1⟩ (Nat.lt_succ_self _)))))
    ·replace hM1 := ifN hM1 hc30
     refine And.intro rfl (And.intro (by repeat (first | exact trivial | refine And.intro rfl ?_)) (And.intro (by repeat (first | exact trivial | refine And.intro rfl ?_)) (Exists.intro m25 (And.intro ⟨(IntKind.i64.wrap (u20 + 1)), u21, u22, wu23, u23, rfl, rfl, sX19, (M0 _), iu21, iu22, fu23, hM1⟩ (Nat.lt_succ_self _)))))
   ·replace hM1 := ifN hM1 hc26
    have hE := Option.some.inj hM1; subst hE
    try dsimp only [V0, Z0] at hM0
    refine Or.inl ?_
    intro v44 k45 f46
    obtain ⟨az47, cz47, rfl, rz47, sz47, lz47⟩ := S0.out (r := N0.toRp) f46 fu23
    obtain ⟨x48, gx48, hM0⟩ := l0 hM0
    refine Tr.mono (o05 _ az47 u23.length cz47 u23 rz47 _  gx48) ?_
    rintro v50 k49 ⟨ax48, nx48, cx48, rfl, wx48⟩
    have sx48 : Sub k45 k49 := wx48.sub
    have rx48 := wx48.r
    obtain ⟨rfl, lx48⟩ := Sl.len rx48
    have hE := Option.some.inj hM0; subst hE
    exact ⟨([.int .i64 u21, .int .i64 u22, .slice ax48 x48.length cx48]), rfl, (New.pair (New.int iu21) (New.pair (New.int iu22) (New.from wx48 (((sX4.trans sX11).trans sX19).trans sz47))))⟩
theorem x0a (h : Hp) (p0 : ByteArray) (ip0 : p0.size ≤ 9223372036854775807) (r : Bool) (hM0 : E9 p0 = some r) :
  Tr Tryz.prog 81 #[.string p0] h fun v h' => v = .bool r ∧ h' = h := by
 unfold E9 at hM0
 refine Tr.forget (A3 (args := [.string p0]) (fn := Tryz.f81) rfl ?_)
 obtain ⟨x1, gx1, hM0⟩ := l0 hM0
 refine Tr.val (L8 _ ((p0.size : Nat) : Int) (Z0f ip0) 1 (c64 (by decide) (by decide)) 8 (c64 (by decide) (by decide)) _  gx1) ?_
 refine And.intro (fun hc2 => ?_) (fun hc2 => ?_)
 ·replace hM0 := ifP hM0 hc2
  have hE := Option.some.inj hM0; subst hE
  exact And.intro rfl (Sub.refl _)
 ·replace hM0 := ifN hM0 hc2
  obtain ⟨X3, hLX3, hM0⟩ := l0 hM0
  refine Exists.intro { vars := [3], boxes := [], owns := [], fuel := true } (Exists.intro (fun vs os h' => ∃ (u4 : Int), vs.tail = [.int .i64 u4] ∧ os = [] ∧ Sub h h' ∧ P0 u4 ∧ V5 p0 (C2 vs) u4 = some X3) (Exists.intro (fun _ _ => 0) ?_))
  refine And.intro (Exists.intro T0 ⟨0, rfl, rfl, (Sub.refl _), (c64 (by decide) (by decide)), hLX3⟩) ?_
  rintro v_0 m6 k5 ⟨u4, evX3, eoX3, sX3, iu4, hM1⟩
  cases evX3
  cases eoX3
  replace hM1 : V5 p0 m6 u4 = some X3 := hM1
  obtain _ | m6 := m6
  ·cases (show (none : Option _) = some X3 from hM1)
  rw [V5.eq_2] at hM1
  refine And.intro (fun hc7 => ?_) (fun hc7 => ?_)
  ·replace hM1 := ifP hM1 hc7
   obtain ⟨x8, gx8, hM1⟩ := l0 hM1
   refine Exists.intro _ (And.intro (W00 gx8) ?_)
   obtain ⟨x9, gx9, hM1⟩ := l0 hM1
   refine Exists.intro x9 (And.intro (fun q => W00 (Q2 gx9 q)) ?_)
   obtain ⟨x10, gx10, hM1⟩ := l0 hM1
   refine Exists.intro _ (And.intro (W00 gx10) ?_)
   obtain ⟨x11, gx11, hM1⟩ := l0 hM1
   refine Exists.intro x11 (And.intro (fun q => W00 (Q2 gx11 q)) ?_)
   refine And.intro (fun hc12 => ?_) (fun hc12 => ?_)
   ·replace hM1 := ifP hM1 hc12
    have hE := Option.some.inj hM1; subst hE
    try dsimp only [Q3, Y3] at hM0
    have hE := Option.some.inj hM0; subst hE
    exact And.intro rfl sX3
   ·replace hM1 := ifN hM1 hc12
    refine And.intro rfl (And.intro (by repeat (first | exact trivial | refine And.intro rfl ?_)) (And.intro (by repeat (first | exact trivial | refine And.intro rfl ?_)) (Exists.intro m6 (And.intro ⟨(IntKind.i64.wrap (u4 + 1)), rfl, rfl, sX3, (M0 _), hM1⟩ (Nat.lt_succ_self _)))))
  ·replace hM1 := ifN hM1 hc7
   have hE := Option.some.inj hM1; subst hE
   try dsimp only [V0, Z0] at hM0
   have hE := Option.some.inj hM0; subst hE
   exact And.intro rfl sX3
end Go.Proofs.YtknoadmdnjaocaaGreat
namespace Go.Proofs.YtknoadmdnjaocaaGreat
open Go.H
set_option linter.unusedVariables false
set_option linter.unusedSimpArgs false
set_option maxRecDepth 10000
theorem o08 (h : Hp) (ap0 : Option Addr) (np0 cp0 : Nat) (p0 : J0) (rp0 : O1.R h [.slice ap0 np0 cp0] p0) (r : J0) (hM0 : B8 p0 = some r) :
  Tr Tryz.prog 176 #[.slice ap0 np0 cp0] h fun v h' => ∃ (g0 : Nat) (n0 c0 : Nat), v = .slice (some ⟨g0, 0, none⟩) n0 c0 ∧ New O1 h h' [.slice (some ⟨g0, 0, none⟩) n0 c0] r := by
 obtain ⟨rfl, lp0⟩ := Sl.len rp0
 unfold B8 at hM0
 refine A3 (args := [.slice ap0 p0.length cp0]) (fn := Tryz.f176) rfl ?_
 obtain ⟨vsy1, ey1, fy1⟩ := Sl.rows (r := Wp.int.toRp) rp0
 refine Exists.intro vsy1 (And.intro ey1 ?_)
 obtain ⟨q2, gq2, hM0⟩ := l0 hM0
 refine And.intro (l3 gq2 (by first | rw [F2.length (show F2 (Wp.int.R h) ([] : List (List Value)) ([] : J0) from trivial), F2.length fy1] | exact congrArg (· + 1) (F2.length (show F2 (Wp.int.R h) ([] : List (List Value)) ([] : J0) from trivial)))) ?_
 intro v3 k4 f5
 obtain ⟨gz6, cz6, rfl, rz6, sz6, lz6⟩ := S0.outS (r := Wp.int.toRp) f5 (F2.append (show F2 (Wp.int.R h) ([] : List (List Value)) ([] : J0) from trivial) fy1)
 have hE := Option.some.inj hM0; subst hE
 exact ⟨gz6, ((([] : J0) ++ p0)).length, cz6, rfl, (S0.newPlain (r := Wp.int) f5 (F2.append (show F2 (Wp.int.R h) ([] : List (List Value)) ([] : J0) from trivial) fy1) (c0b _))⟩
theorem u00 (h : Hp) (csp0 : List Value) (p0 : j0) (rp0 : P1.R h csp0 p0) (p1 : Int) (ip1 : P0 p1) (r : J0 × W7) (hM0 : n5 p0 p1 = some r) :
  Tr Tryz.prog 229 #[.agg csp0.toArray, .int .i64 p1] h fun v h' => ∃ (a0 : Option Addr) (n0 c0 : Nat) (a1 : Option Addr) (n1 c1 : Nat), v = .tuple #[.slice a0 n0 c0, .slice a1 n1 c1] ∧ O1.R h' [.slice a0 n0 c0] r.1 ∧ S9.R h' [.slice a1 n1 c1] r.2 ∧ Sub h h' := by
 obtain ⟨p0_0, p0_1, ap0_2, np0_2, cp0_2, p0_2, rfl, rfl, ip0_0, ip0_1, rp0_2⟩ := K0 rp0
 obtain ⟨rfl, lp0_2⟩ := Sl.len rp0_2
 unfold n5 at hM0
 dsimp only at hM0
 refine A3 (args := [.agg #[.int .i64 p0_0, .int .i64 p0_1, .slice ap0_2 p0_2.length cp0_2], .int .i64 p1]) (fn := Tryz.f229) rfl ?_
 obtain ⟨q1, gq1, hM0⟩ := l0 hM0
 refine And.intro (E3 gq1) ?_
 obtain ⟨x2, gx2, hM0⟩ := l0 hM0
 obtain ⟨bx2, csx2, ex2, rx2⟩ := K4 (F2.rep (p := Wp.opt.R h) (a := [.slice none 0 0]) (b := none) (J0k h) (p0_1.toNat)) gx2
 refine And.intro bx2 ?_
 obtain ⟨ax2, nx2, cx2, rfl, ox2, qx2⟩ := rx2
 obtain ⟨rfl, lx2⟩ := Sl.len qx2
 intro v3 k4 f5
 obtain ⟨gz6, cz6, rfl, rz6, sz6, lz6⟩ := S0.outS (r := Wp.int.toRp) f5 (show F2 (Wp.int.R h) ([] : List (List Value)) ([] : J0) from trivial)
 refine Exists.intro _ (And.intro ex2 ?_)
 obtain ⟨X7, hLX7, hM0⟩ := l0 hM0
 refine Exists.intro { vars := [8], boxes := [], owns := [0, 2], fuel := true, kept := [0] } (Exists.intro (fun vs os h' => ∃ (u8 : Int) (wu9 : List (List Value)) (u9 : List (Option J0)) (wu10 : List (List Value)) (u10 : List Int), vs.tail = [.int .i64 u8] ∧ os = [wu9, wu10] ∧ Sub k4 h' ∧ P0 u8 ∧ F2 (Wp.opt.R h') wu9 u9 ∧ F2 (Wp.int.R h') wu10 u10 ∧ U3 p0_0 p0_1 p0_2 (C2 vs) u8 u9 u10 = some X7) (Exists.intro (fun _ _ => 0) ?_))
 refine And.intro (Exists.intro T0 ⟨0, ((List.replicate p0_1.toNat ([.slice none 0 0] : List Value)).set p1.toNat [.slice (some ⟨gz6, 0, none⟩) (([] : J0)).length cz6]), ((List.replicate p0_1.toNat (none : Option J0)).set p1.toNat (some ([] : J0))), ([[.int .i64 p1]] : List (List Value)), [p1], rfl, rfl, (Sub.refl _), (c64 (by decide) (by decide)), (F2.set (p := Wp.opt.R k4) (a := [.slice (some ⟨gz6, 0, none⟩) (([] : J0)).length cz6]) (b := some ([] : J0)) (K0k rz6) p1.toNat (F2.up (r := Wp.opt.toRp) sz6 (F2.rep (p := Wp.opt.R h) (a := [.slice none 0 0]) (b := none) (J0k h) (p0_1.toNat)))), (show F2 (Wp.int.R k4) ([[.int .i64 p1]] : List (List Value)) [p1] from ⟨⟨rfl, ip1⟩, trivial⟩), hLX7⟩) ?_
 rintro v_0 wu9 wu10 m12 k11 ⟨u8, zzu9, u9, zzu10, u10, evX7, eoX7, sX7, iu8, fu9, fu10, hM1⟩
 cases evX7
 cases eoX7
 replace hM1 : U3 p0_0 p0_1 p0_2 m12 u8 u9 u10 = some X7 := hM1
 obtain _ | m12 := m12
 ·cases (show (none : Option _) = some X7 from hM1)
 rw [U3.eq_2] at hM1
 obtain ⟨m13, gm13, hM1⟩ := l0 hM1
 obtain rfl : wu10.length = m13 := (F2.length fu10).trans (Option.some.inj gm13)
 obtain ⟨q14, gq14, hM1⟩ := l0 hM1
 refine And.intro (fun hc15 => ?_) (fun hc15 => ?_)
 ·replace hM1 := ifP hM1 hc15
  obtain ⟨x16, gx16, hM1⟩ := l0 hM1
  obtain ⟨bx16, csx16, ex16, rx16⟩ := K4 fu10 gx16
  refine And.intro bx16 ?_
  obtain ⟨rfl, ix16⟩ := rx16
  refine Exists.intro _ (And.intro ex16 ?_)
  obtain ⟨x17, gx17, hM1⟩ := l0 hM1
  refine Tr.mono (j0a _ p0_0 ip0_0 _  gx17) ?_
  rintro v19 k18 ⟨ax17, nx17, cx17, rfl, rx17, sx17⟩
  obtain ⟨rfl, lx17⟩ := Sl.len rx17
  obtain ⟨X20, hLX20, hM1⟩ := l0 hM1
  refine Exists.intro { vars := [36], boxes := [], owns := [0, 2], fuel := true, kept := [0] } (Exists.intro (fun vs os h' => ∃ (u21 : Int) (wu22 : List (List Value)) (u22 : List (Option J0)) (wu23 : List (List Value)) (u23 : List Int), vs.tail = [.int .i64 u21] ∧ os = [wu22, wu23] ∧ Sub k18 h' ∧ P0 u21 ∧ F2 (Wp.opt.R h') wu22 u22 ∧ F2 (Wp.int.R h') wu23 u23 ∧ D2 x17 p0_0 p0_1 p0_2 x16 (C2 vs) u21 u22 u23 = some X20) (Exists.intro (fun _ _ => 0) ?_))
  refine And.intro (Exists.intro T0 ⟨0, wu9, u9, wu10, u10, rfl, rfl, (Sub.refl _), (c64 (by decide) (by decide)), (F2.up (r := Wp.opt.toRp) sx17 fu9), (F2.up (r := Wp.int.toRp) sx17 fu10), hLX20⟩) ?_
  rintro v_0 wu22 wu23 m25 k24 ⟨u21, zzu22, u22, zzu23, u23, evX20, eoX20, sX20, iu21, fu22, fu23, hM2⟩
  cases evX20
  cases eoX20
  replace hM2 : D2 x17 p0_0 p0_1 p0_2 x16 m25 u21 u22 u23 = some X20 := hM2
  obtain _ | m25 := m25
  ·cases (show (none : Option _) = some X20 from hM2)
  rw [D2.eq_2] at hM2
  refine And.intro (fun hc26 => ?_) (fun hc26 => ?_)
  ·replace hM2 := ifP hM2 hc26
   obtain ⟨x27, gx27, hM2⟩ := l0 hM2
   obtain ⟨bx27, csx27, ex27, rx27⟩ := Sl.getI (r := Wp.int.toRp) (O1.mono sX20 rx17) gx27 (by decide)
   refine And.intro bx27 ?_
   obtain ⟨rfl, ix27⟩ := rx27
   refine Exists.intro _ (And.intro ex27 ?_)
   obtain ⟨x28, gx28, hM2⟩ := l0 hM2
   refine Tr.val (s00 _ [.int .i64 p0_0, .int .i64 p0_1, .slice ap0_2 p0_2.length cp0_2] (p0_0, p0_1, p0_2) (z0 ip0_0 ip0_1 (O0.mono (((sz6.trans sX7).trans sx17).trans sX20) rp0_2)) x16 ix16 x27 ix27 _  gx28) ?_
   obtain ⟨q29, gq29, hM2⟩ := l0 hM2
   have ix28 : P0 x28 := E3 gq29
   obtain ⟨x30, gx30, hM2⟩ := l0 hM2
   obtain ⟨csx30, ex30, rx30⟩ := i04 fu22 gx30 (M0l k24)
   refine And.intro (fun q => (ex30 q).1) ?_
   obtain ⟨ax30, nx30, cx30, rfl, ox30, qx30⟩ := rx30
   obtain ⟨rfl, lx30⟩ := Sl.len qx30
   refine Exists.intro _ (And.intro (fun q => (ex30 q).2) ?_)
   refine Exists.intro (x30.isNone) (And.intro (fun _ => by rw [← ox30]; exact L0l _ _ _ rfl _ _ _) ?_)
   refine And.intro (fun hc31 => ?_) (fun hc31 => ?_)
   ·replace hM2 := ifP hM2 hc31
    obtain ⟨x32, gx32, hM2⟩ := l0 hM2
    obtain ⟨bx32, csx32, ex32, rx32⟩ := K4 fu22 gx32
    refine And.intro bx32 ?_
    obtain ⟨ax32, nx32, cx32, rfl, ox32, qx32⟩ := rx32
    obtain ⟨rfl, lx32⟩ := Sl.len qx32
    refine Exists.intro _ (And.intro ex32 ?_)
    obtain ⟨x33, gx33, hM2⟩ := l0 hM2
    refine Tr.mono (o08 _ ax32 (x32.getD []).length cx32 (x32.getD []) qx32 _  gx33) ?_
    rintro v35 k34 ⟨gx33, nx33, cx33, rfl, wx33⟩
    have sx33 : Sub k24 k34 := wx33.sub
    have rx33 := wx33.r
    obtain ⟨rfl, lx33⟩ := Sl.len rx33
    obtain ⟨q36, gq36, hM2⟩ := l0 hM2
    obtain ⟨vsz37, rxz37, lnz37, apz37⟩ := New.app wx33 (Sub.refl _)
    refine Exists.intro vsz37 (And.intro rxz37 (And.intro (l3 gq36 (by first | rw [lnz37, F2.length (show F2 (Wp.int.R k34) ([[.int .i64 x27]] : List (List Value)) [x27] from ⟨⟨rfl, ix27⟩, trivial⟩)] | (rw [lnz37]; rfl))) ?_))
    intro vz37 kz37 happz37
    obtain ⟨wz37, gz37, oz37, nz37, cz37, rfl⟩ := apz37 _ _ _ _ _ (F3.ofPlain (c0b _) (show F2 (Wp.int.R k34) ([[.int .i64 x27]] : List (List Value)) [x27] from ⟨⟨rfl, ix27⟩, trivial⟩)) R6.ofPlain happz37
    have rz37 := wz37.r
    obtain ⟨ez37, lz37⟩ := Sl.len rz37
    subst ez37
    obtain ⟨x38, gx38, hM2⟩ := l0 hM2
    obtain ⟨bx38, csx38, ex38, rx38⟩ := K4 (F2.up (r := Wp.opt.toRp) wz37.sub fu22) gx38
    refine And.intro bx38 ?_
    obtain ⟨ax38, nx38, cx38, rfl, ox38, qx38⟩ := rx38
    obtain ⟨rfl, lx38⟩ := Sl.len qx38
    refine Exists.intro _ (And.intro ex38 ?_)
    obtain ⟨q39, gq39, hM2⟩ := l0 hM2
    refine And.intro (l3 gq39 (by first | rw [F2.length (F2.up (r := Wp.int.toRp) wz37.sub fu23), F2.length (show F2 (Wp.int.R kz37) ([[.int .i64 x28]] : List (List Value)) [x28] from ⟨⟨rfl, ix28⟩, trivial⟩)] | exact congrArg (· + 1) (F2.length (F2.up (r := Wp.int.toRp) wz37.sub fu23)))) ?_
    refine And.intro rfl (And.intro (by repeat (first | exact trivial | refine And.intro rfl ?_)) (And.intro (by repeat (first | exact trivial | refine And.intro rfl ?_)) (Exists.intro m25 (And.intro ⟨(IntKind.i64.wrap (u21 + 1)), (wu22.set x28.toNat [.slice (some ⟨gz37, oz37, none⟩) (x33 ++ [x27]).length cz37]), (u22.set x28.toNat (some (x33 ++ [x27]))), (wu23 ++ ([[.int .i64 x28]] : List (List Value))), (u23 ++ [x28]), rfl, rfl, (sX20.trans wz37.sub), (M0 _), (F2.set (p := Wp.opt.R kz37) (a := [.slice (some ⟨gz37, oz37, none⟩) (x33 ++ [x27]).length cz37]) (b := some (x33 ++ [x27])) (K0k rz37) x28.toNat (F2.up (r := Wp.opt.toRp) wz37.sub fu22)), (F2.append (F2.up (r := Wp.int.toRp) wz37.sub fu23) (show F2 (Wp.int.R kz37) ([[.int .i64 x28]] : List (List Value)) [x28] from ⟨⟨rfl, ix28⟩, trivial⟩)), hM2⟩ (Nat.lt_succ_self _)))))
   ·replace hM2 := ifN hM2 hc31
    refine And.intro rfl (And.intro (by repeat (first | exact trivial | refine And.intro rfl ?_)) (And.intro (by repeat (first | exact trivial | refine And.intro rfl ?_)) (Exists.intro m25 (And.intro ⟨(IntKind.i64.wrap (u21 + 1)), wu22, u22, wu23, u23, rfl, rfl, sX20, (M0 _), fu22, fu23, hM2⟩ (Nat.lt_succ_self _)))))
  ·replace hM2 := ifN hM2 hc26
   have hE := Option.some.inj hM2; subst hE
   try dsimp only [V0, Z0] at hM1
   refine And.intro rfl (And.intro (by repeat (first | exact trivial | refine And.intro rfl ?_)) (And.intro (by repeat (first | exact trivial | refine And.intro rfl ?_)) (Exists.intro m12 (And.intro ⟨(IntKind.i64.wrap (u8 + 1)), wu22, u22, wu23, u23, rfl, rfl, ((sX7.trans sx17).trans sX20), (M0 _), fu22, fu23, hM1⟩ (Nat.lt_succ_self _)))))
 ·replace hM1 := ifN hM1 hc15
  have hE := Option.some.inj hM1; subst hE
  try dsimp only [V0, Z0] at hM0
  intro v45 k46 f47
  obtain ⟨az48, cz48, rfl, rz48, sz48, lz48⟩ := S0.out (r := Wp.int.toRp) f47 fu10
  intro v49 k50 f51
  obtain ⟨az52, cz52, rfl, rz52, sz52, lz52⟩ := S0.out (r := O1.toRp) f51 (F2.ofOpt (F2.up (r := Wp.opt.toRp) sz48 fu9))
  have hE := Option.some.inj hM0; subst hE
  exact ⟨az48, u10.length, cz48, az52, (List.map (fun o : Option J0 => o.getD ([] : J0)) u9).length, cz52, rfl, (O1.mono sz52 rz48), rz52, (((sz6.trans sX7).trans sz48).trans sz52)⟩
theorem E03 (h : Hp) (csp0 : List Value) (p0 : j0) (rp0 : P1.R h csp0 p0) (r : J0) (hM0 : d6 p0 = some r) :
  Tr Tryz.prog 253 #[.agg csp0.toArray] h fun v h' => ∃ (a0 : Option Addr) (n0 c0 : Nat), v = .slice a0 n0 c0 ∧ O1.R h' [.slice a0 n0 c0] r ∧ Sub h h' := by
 obtain ⟨p0_0, p0_1, ap0_2, np0_2, cp0_2, p0_2, rfl, rfl, ip0_0, ip0_1, rp0_2⟩ := K0 rp0
 obtain ⟨rfl, lp0_2⟩ := Sl.len rp0_2
 unfold d6 at hM0
 dsimp only at hM0
 refine A3 (args := [.agg #[.int .i64 p0_0, .int .i64 p0_1, .slice ap0_2 p0_2.length cp0_2]]) (fn := Tryz.f253) rfl ?_
 obtain ⟨x1, gx1, hM0⟩ := l0 hM0
 refine Tr.val (K9 _ [.int .i64 p0_0, .int .i64 p0_1, .slice ap0_2 p0_2.length cp0_2] (p0_0, p0_1, p0_2) (z0 ip0_0 ip0_1 rp0_2) _  gx1) ?_
 refine And.intro (fun hc2 => ?_) (fun hc2 => ?_)
 ·replace hM0 := ifP hM0 hc2
  intro v3 k4 f5
  obtain ⟨az6, cz6, rfl, rz6, sz6, lz6⟩ := S0.out (r := Wp.int.toRp) f5 (show F2 (Wp.int.R h) ([] : List (List Value)) ([] : J0) from trivial)
  have hE := Option.some.inj hM0; subst hE
  exact ⟨az6, (([] : J0)).length, cz6, rfl, rz6, sz6⟩
 ·replace hM0 := ifN hM0 hc2
  obtain ⟨x7, gx7, hM0⟩ := l0 hM0
  refine Tr.mono (u00 _ [.int .i64 p0_0, .int .i64 p0_1, .slice ap0_2 p0_2.length cp0_2] (p0_0, p0_1, p0_2) (z0 ip0_0 ip0_1 rp0_2) 0 (c64 (by decide) (by decide)) _  gx7) ?_
  rintro v9 k8 ⟨ax7_0, nx7_0, cx7_0, ax7_1, nx7_1, cx7_1, rfl, rx7_0, rx7_1, sx7⟩
  obtain ⟨x7_0, x7_1⟩ := x7
  dsimp only at hM0 rx7_0 rx7_1
  obtain ⟨rfl, lx7_0⟩ := Sl.len rx7_0
  obtain ⟨rfl, lx7_1⟩ := Sl.len rx7_1
  have hE := Option.some.inj hM0; subst hE
  exact ⟨ax7_0, x7_0.length, cx7_0, rfl, rx7_0, sx7⟩
theorem F03 (h : Hp) (csp0 : List Value) (p0 : j0) (rp0 : P1.R h csp0 p0) (r : j0) (hM0 : g6 p0 = some r) :
  Tr Tryz.prog 169 #[.agg csp0.toArray] h fun v h' => ∃ (cs0 : List Value), v = .agg cs0.toArray ∧ New P1 h h' cs0 r := by
 obtain ⟨p0_0, p0_1, ap0_2, np0_2, cp0_2, p0_2, rfl, rfl, ip0_0, ip0_1, rp0_2⟩ := K0 rp0
 obtain ⟨rfl, lp0_2⟩ := Sl.len rp0_2
 unfold g6 at hM0
 dsimp only at hM0
 refine A3 (args := [.agg #[.int .i64 p0_0, .int .i64 p0_1, .slice ap0_2 p0_2.length cp0_2]]) (fn := Tryz.f169) rfl ?_
 obtain ⟨x1, gx1, hM0⟩ := l0 hM0
 refine Tr.val (K9 _ [.int .i64 p0_0, .int .i64 p0_1, .slice ap0_2 p0_2.length cp0_2] (p0_0, p0_1, p0_2) (z0 ip0_0 ip0_1 rp0_2) _  gx1) ?_
 refine And.intro (fun hc2 => ?_) (fun hc2 => ?_)
 ·replace hM0 := ifP hM0 hc2
  obtain ⟨x3, gx3, hM0⟩ := l0 hM0
  refine Tr.mono (F00 _ [.int .i64 p0_0, .int .i64 p0_1, .slice ap0_2 p0_2.length cp0_2] (p0_0, p0_1, p0_2) (z0 ip0_0 ip0_1 rp0_2) _  gx3) ?_
  rintro v5 k4 ⟨gx3_2, nx3_2, cx3_2, rfl, wx3⟩
  have sx3 : Sub h k4 := wx3.sub
  have rx3 := wx3.r
  obtain ⟨x3_0, x3_1, x3_2⟩ := x3
  dsimp only at hM0 wx3 rx3
  obtain ⟨_, _, _, _, _, _, ecx3, exx3, ix3_0, ix3_1, rx3_2⟩ := K0 rx3
  cases ecx3
  cases exx3
  obtain ⟨rfl, lx3_2⟩ := Sl.len rx3_2
  try dsimp only at hM0
  have we6 := New.sndI (New.sndI (wx3))
  have hE := Option.some.inj hM0; subst hE
  exact ⟨([.int .i64 x3_0, .int .i64 x3_1, .slice (some ⟨gx3_2, 0, none⟩) x3_2.length cx3_2]), rfl, (New.pair (New.int ix3_0) (New.pair (New.int ix3_1) we6))⟩
 ·replace hM0 := ifN hM0 hc2
  refine Or.inr (Or.inr (Or.inl (And.intro (And.intro (by kernel_rfl) (by kernel_rfl)) ?_)))
  refine Or.inr ?_
  refine Or.inr ?_
  refine Or.inr ?_
  refine Exists.intro 2 (And.intro (And.intro rfl rfl) ?_)
  obtain ⟨x7, gx7, hM0⟩ := l0 hM0
  refine Tr.mono (E03 _ [.int .i64 p0_0, .int .i64 p0_1, .slice ap0_2 p0_2.length cp0_2] (p0_0, p0_1, p0_2) (z0 ip0_0 ip0_1 rp0_2) _  gx7) ?_
  rintro v9 k8 ⟨ax7, nx7, cx7, rfl, rx7, sx7⟩
  obtain ⟨rfl, lx7⟩ := Sl.len rx7
  refine And.intro (And.intro rfl sx7) (And.intro (by first | exact trivial | exact rfl) ?_)
  obtain ⟨x10, gx10, hM0⟩ := l0 hM0
  refine Tr.mono (h08 _ [.int .i64 p0_0, .int .i64 p0_1, .slice ap0_2 p0_2.length cp0_2] (p0_0, p0_1, p0_2) (z0 ip0_0 ip0_1 (O0.mono sx7 rp0_2)) ax7 x7.length cx7 x7 rx7 _  gx10) ?_
  rintro v12 k11 ⟨csx10, rfl, wx10⟩
  have sx10 : Sub k8 k11 := wx10.sub
  have rx10 := wx10.r
  obtain ⟨x10_0, x10_1, ax10_2, nx10_2, cx10_2, x10_2, rfl, rfl, ix10_0, ix10_1, rx10_2⟩ := K0 rx10
  obtain ⟨rfl, lx10_2⟩ := Sl.len rx10_2
  try dsimp only at hM0
  have we13 := New.sndI (New.sndI (wx10))
  refine And.intro (And.intro rfl sx10) (And.intro (by first | exact trivial | exact rfl) ?_)
  refine And.intro trivial (And.intro (by first | exact trivial | exact rfl) ?_)
  have hE := Option.some.inj hM0; subst hE
  exact ⟨([.int .i64 x10_0, .int .i64 x10_1, .slice ax10_2 x10_2.length cx10_2]), rfl, (New.pair (New.int ix10_0) (New.pair (New.int ix10_1) (New.from we13 sx7)))⟩
end Go.Proofs.YtknoadmdnjaocaaGreat
namespace Go.Proofs.YtknoadmdnjaocaaGreat
open Go.H
set_option linter.unusedVariables false
set_option linter.unusedSimpArgs false
set_option maxRecDepth 10000
theorem N07 (h : Hp) (csp0 : List Value) (p0 : j0) (rp0 : P1.R h csp0 p0) (r : j0 × J0) (hM0 : i8 p0 = some r) :
  Tr Tryz.prog 167 #[.agg csp0.toArray] h fun v h' => ∃ (cs0 : List Value) (a1 : Option Addr) (n1 c1 : Nat), v = .tuple #[.agg cs0.toArray, .slice a1 n1 c1] ∧ New P1 h h' cs0 r.1 ∧ O1.R h' [.slice a1 n1 c1] r.2 := by
 obtain ⟨p0_0, p0_1, ap0_2, np0_2, cp0_2, p0_2, rfl, rfl, ip0_0, ip0_1, rp0_2⟩ := K0 rp0
 obtain ⟨rfl, lp0_2⟩ := Sl.len rp0_2
 unfold i8 at hM0
 dsimp only at hM0
 refine A3 (args := [.agg #[.int .i64 p0_0, .int .i64 p0_1, .slice ap0_2 p0_2.length cp0_2]]) (fn := Tryz.f167) rfl ?_
 obtain ⟨x1, gx1, hM0⟩ := l0 hM0
 refine Tr.mono (F00 _ [.int .i64 p0_0, .int .i64 p0_1, .slice ap0_2 p0_2.length cp0_2] (p0_0, p0_1, p0_2) (z0 ip0_0 ip0_1 rp0_2) _  gx1) ?_
 rintro v3 k2 ⟨gx1_2, nx1_2, cx1_2, rfl, wx1⟩
 have sx1 : Sub h k2 := wx1.sub
 have rx1 := wx1.r
 obtain ⟨x1_0, x1_1, x1_2⟩ := x1
 dsimp only at hM0 wx1 rx1
 obtain ⟨_, _, _, _, _, _, ecx1, exx1, ix1_0, ix1_1, rx1_2⟩ := K0 rx1
 cases ecx1
 cases exx1
 obtain ⟨rfl, lx1_2⟩ := Sl.len rx1_2
 try dsimp only at hM0
 have we4 := New.sndI (New.sndI (wx1))
 obtain ⟨x5, gx5, hM0⟩ := l0 hM0
 refine Tr.val (v04 _ [.int .i64 p0_0, .int .i64 p0_1, .slice ap0_2 p0_2.length cp0_2] (p0_0, p0_1, p0_2) (z0 ip0_0 ip0_1 (O0.mono sx1 rp0_2)) _  gx5) ?_
 refine And.intro (fun hc6 => ?_) (fun hc6 => ?_)
 ·replace hM0 := ifP hM0 hc6
  intro v7 k8 f9
  obtain ⟨az10, cz10, rfl, rz10, sz10, lz10⟩ := S0.out (r := Wp.int.toRp) f9 (show F2 (Wp.int.R k2) ([] : List (List Value)) ([] : J0) from trivial)
  have hE := Option.some.inj hM0; subst hE
  exact ⟨([.int .i64 x1_0, .int .i64 x1_1, .slice (some ⟨gx1_2, 0, none⟩) x1_2.length cx1_2]), az10, (([] : J0)).length, cz10, rfl, (New.pair (New.int ix1_0) (New.pair (New.int ix1_1) (New.mono we4 sz10))), rz10⟩
 ·replace hM0 := ifN hM0 hc6
  obtain ⟨X11, hLX11, hM0⟩ := l0 hM0
  refine Exists.intro { vars := [6], boxes := [], owns := [0], fuel := true } (Exists.intro (fun vs os h' => ∃ (u12 : Int) (wu13 : List (List Value)) (u13 : List Int), vs.tail = [.int .i64 u12] ∧ os = [wu13] ∧ Sub k2 h' ∧ P0 u12 ∧ F2 (Wp.int.R h') wu13 u13 ∧ Q4 p0_1 (C2 vs) u12 u13 = some X11) (Exists.intro (fun _ _ => 0) ?_))
  refine And.intro (Exists.intro T0 ⟨0, [], ([] : J0), rfl, rfl, (Sub.refl _), (c64 (by decide) (by decide)), (show F2 (Wp.int.R k2) ([] : List (List Value)) ([] : J0) from trivial), hLX11⟩) ?_
  rintro v_0 wu13 m15 k14 ⟨u12, zzu13, u13, evX11, eoX11, sX11, iu12, fu13, hM1⟩
  cases evX11
  cases eoX11
  replace hM1 : Q4 p0_1 m15 u12 u13 = some X11 := hM1
  obtain _ | m15 := m15
  ·cases (show (none : Option _) = some X11 from hM1)
  rw [Q4.eq_2] at hM1
  refine And.intro (fun hc16 => ?_) (fun hc16 => ?_)
  ·replace hM1 := ifP hM1 hc16
   obtain ⟨q17, gq17, hM1⟩ := l0 hM1
   refine And.intro (l3 gq17 (by first | rw [F2.length fu13, F2.length (show F2 (Wp.int.R k14) ([[.int .i64 u12]] : List (List Value)) [u12] from ⟨⟨rfl, iu12⟩, trivial⟩)] | exact congrArg (· + 1) (F2.length fu13))) ?_
   refine And.intro rfl (And.intro (by repeat (first | exact trivial | refine And.intro rfl ?_)) (And.intro (by repeat (first | exact trivial | refine And.intro rfl ?_)) (Exists.intro m15 (And.intro ⟨(IntKind.i64.wrap (u12 + 1)), (wu13 ++ ([[.int .i64 u12]] : List (List Value))), (u13 ++ [u12]), rfl, rfl, sX11, (M0 _), (F2.append fu13 (show F2 (Wp.int.R k14) ([[.int .i64 u12]] : List (List Value)) [u12] from ⟨⟨rfl, iu12⟩, trivial⟩)), hM1⟩ (Nat.lt_succ_self _)))))
  ·replace hM1 := ifN hM1 hc16
   have hE := Option.some.inj hM1; subst hE
   try dsimp only [V0, Z0] at hM0
   obtain ⟨X22, hLX22, hM0⟩ := l0 hM0
   refine Exists.intro { vars := [5], boxes := [2], owns := [], fuel := true, pubs := [5] } (Exists.intro (fun vs os h' => ∃ (au23 : Option Addr) (nu23 cu23 : Nat) (u23 : J0) (u24 : Int) (u25 : Int) (au26 : Option Addr) (nu26 cu26 : Nat) (u26 : D0), vs.tail = [.slice au23 nu23 cu23, .int .i64 u24, .int .i64 u25, .slice au26 nu26 cu26] ∧ os = [] ∧ Sub h h' ∧ New O1 h h' [.slice au23 nu23 cu23] u23 ∧ P0 u24 ∧ P0 u25 ∧ New O0 h h' [.slice au26 nu26 cu26] u26 ∧ D5 (C2 vs) u23 u24 u25 u26 = some X22) (Exists.intro (fun _ _ => 0) ?_))
   intro v18 k19 f20
   obtain ⟨az21, cz21, rfl, rz21, sz21, lz21⟩ := S0.out (r := Wp.int.toRp) f20 fu13
   refine And.intro (Exists.intro T0 ⟨az21, u13.length, cz21, u13, x1_0, x1_1, (some ⟨gx1_2, 0, none⟩), x1_2.length, cx1_2, x1_2, rfl, rfl, ((sx1.trans sX11).trans sz21), (New.from (S0.newPlain (r := Wp.int) f20 fu13 (c0b _)) (sx1.trans sX11)), ix1_0, ix1_1, (New.mono we4 (sX11.trans sz21)), hLX22⟩) ?_
   rintro v_0 v_1 v_2 v_3 m28 k27 ⟨au23, nu23, cu23, u23, u24, u25, au26, nu26, cu26, u26, evX22, eoX22, sX22, wwu23, iu24, iu25, wwu26, hM1⟩
   cases evX22
   cases eoX22
   replace hM1 : D5 m28 u23 u24 u25 u26 = some X22 := hM1
   obtain _ | m28 := m28
   ·cases (show (none : Option _) = some X22 from hM1)
   rw [D5.eq_2] at hM1
   have ru23 := wwu23.r
   obtain ⟨rfl, lu23⟩ := Sl.len ru23
   have ru26 := wwu26.r
   obtain ⟨rfl, lu26⟩ := Sl.len ru26
   obtain ⟨x29, gx29, hM1⟩ := l0 hM1
   refine Tr.mono (X04 _ [.int .i64 u24, .int .i64 u25, .slice au26 u26.length cu26] (u24, u25, u26) (z0 iu24 iu25 ru26) 0 (c64 (by decide) (by decide)) _  gx29) ?_
   rintro v31 k30 ⟨ax29, nx29, cx29, rfl, rx29, sx29⟩
   obtain ⟨rfl, lx29⟩ := Sl.len rx29
   obtain ⟨X32, hLX32, hM1⟩ := l0 hM1
   refine Exists.intro { vars := [8, 9], boxes := [], owns := [], fuel := true } (Exists.intro (fun vs os h' => ∃ (u33 : Int) (u34 : Int), vs.tail = [.int .i64 u33, .int .i64 u34] ∧ os = [] ∧ Sub k30 h' ∧ P0 u33 ∧ P0 u34 ∧ C3 u25 u24 u26 x29 (C2 vs) u33 u34 = some X32) (Exists.intro (fun _ _ => 0) ?_))
   refine And.intro (Exists.intro T0 ⟨0, 1, rfl, rfl, (Sub.refl _), (c64 (by decide) (by decide)), (c64 (by decide) (by decide)), hLX32⟩) ?_
   rintro v_0 v_1 m36 k35 ⟨u33, u34, evX32, eoX32, sX32, iu33, iu34, hM2⟩
   cases evX32
   cases eoX32
   replace hM2 : C3 u25 u24 u26 x29 m36 u33 u34 = some X32 := hM2
   obtain _ | m36 := m36
   ·cases (show (none : Option _) = some X32 from hM2)
   rw [C3.eq_2] at hM2
   refine And.intro (fun hc37 => ?_) (fun hc37 => ?_)
   ·replace hM2 := ifP hM2 hc37
    obtain ⟨x38, gx38, hM2⟩ := l0 hM2
    refine Tr.val (n08 _ [.int .i64 u24, .int .i64 u25, .slice au26 u26.length cu26] (u24, u25, u26) (z0 iu24 iu25 (O0.mono (sx29.trans sX32) ru26)) u34 iu34 _  gx38) ?_
    obtain ⟨q39, gq39, hM2⟩ := l0 hM2
    have ix38 : P0 x38 := E3 gq39
    obtain ⟨x40, gx40, hM2⟩ := l0 hM2
    obtain ⟨csx40, ex40, rx40⟩ := Sl.getG (r := Wp.bool.toRp) ((Wp.slice Wp.bool).mono sX32 rx29) gx40 (by decide) (a0l k35)
    refine And.intro (fun q => (ex40 q).1) ?_
    obtain rfl := rx40
    refine Exists.intro _ (And.intro (fun q => (ex40 q).2) ?_)
    refine And.intro (fun hc41 => ?_) (fun hc41 => ?_)
    ·replace hM2 := ifP hM2 hc41
     refine And.intro rfl (And.intro (by repeat (first | exact trivial | refine And.intro rfl ?_)) (And.intro (by repeat (first | exact trivial | refine And.intro rfl ?_)) (Exists.intro m36 (And.intro ⟨u34, (IntKind.i64.wrap (u34 + 1)), rfl, rfl, sX32, iu34, (M0 _), hM2⟩ (Nat.lt_succ_self _)))))
    ·replace hM2 := ifN hM2 hc41
     refine And.intro rfl (And.intro (by repeat (first | exact trivial | refine And.intro rfl ?_)) (And.intro (by repeat (first | exact trivial | refine And.intro rfl ?_)) (Exists.intro m36 (And.intro ⟨u33, (IntKind.i64.wrap (u34 + 1)), rfl, rfl, sX32, iu33, (M0 _), hM2⟩ (Nat.lt_succ_self _)))))
   ·replace hM2 := ifN hM2 hc37
    have hE := Option.some.inj hM2; subst hE
    try dsimp only [V0, Z0] at hM1
    refine And.intro (fun hc42 => ?_) (fun hc42 => ?_)
    ·replace hM1 := ifP hM1 hc42
     have hE := Option.some.inj hM1; subst hE
     try dsimp only [Q3, Y3] at hM0
     have hE := Option.some.inj hM0; subst hE
     exact ⟨([.int .i64 u24, .int .i64 u25, .slice au26 u26.length cu26]), au23, u23.length, cu23, rfl, (New.pair (New.int iu24) (New.pair (New.int iu25) (New.mono wwu26 (sx29.trans sX32)))), (O1.mono (sx29.trans sX32) ru23)⟩
    ·replace hM1 := ifN hM1 hc42
     obtain ⟨X43, hLX43, hM1⟩ := l0 hM1
     refine Exists.intro { vars := [11], boxes := [], owns := [1], fuel := true } (Exists.intro (fun vs os h' => ∃ (u44 : Int) (wu45 : List (List Value)) (u45 : List Int), vs.tail = [.int .i64 u44] ∧ os = [wu45] ∧ Sub k35 h' ∧ P0 u44 ∧ F2 (Wp.int.R h') wu45 u45 ∧ B4 u25 u33 (C2 vs) u44 u45 = some X43) (Exists.intro (fun _ _ => 0) ?_))
     refine And.intro (Exists.intro T0 ⟨0, [], ([] : J0), rfl, rfl, (Sub.refl _), (c64 (by decide) (by decide)), (show F2 (Wp.int.R k35) ([] : List (List Value)) ([] : J0) from trivial), hLX43⟩) ?_
     rintro v_0 wu45 m47 k46 ⟨u44, zzu45, u45, evX43, eoX43, sX43, iu44, fu45, hM2⟩
     cases evX43
     cases eoX43
     replace hM2 : B4 u25 u33 m47 u44 u45 = some X43 := hM2
     obtain _ | m47 := m47
     ·cases (show (none : Option _) = some X43 from hM2)
     rw [B4.eq_2] at hM2
     refine And.intro (fun hc48 => ?_) (fun hc48 => ?_)
     ·replace hM2 := ifP hM2 hc48
      refine And.intro (fun hc49 => ?_) (fun hc49 => ?_)
      ·replace hM2 := ifP hM2 hc49
       obtain ⟨q50, gq50, hM2⟩ := l0 hM2
       refine And.intro (l3 gq50 (by first | rw [F2.length fu45, F2.length (show F2 (Wp.int.R k46) ([[.int .i64 u44]] : List (List Value)) [u44] from ⟨⟨rfl, iu44⟩, trivial⟩)] | exact congrArg (· + 1) (F2.length fu45))) ?_
       refine And.intro rfl (And.intro (by repeat (first | exact trivial | refine And.intro rfl ?_)) (And.intro (by repeat (first | exact trivial | refine And.intro rfl ?_)) (Exists.intro m47 (And.intro ⟨(IntKind.i64.wrap (u44 + 1)), (wu45 ++ ([[.int .i64 u44]] : List (List Value))), (u45 ++ [u44]), rfl, rfl, sX43, (M0 _), (F2.append fu45 (show F2 (Wp.int.R k46) ([[.int .i64 u44]] : List (List Value)) [u44] from ⟨⟨rfl, iu44⟩, trivial⟩)), hM2⟩ (Nat.lt_succ_self _)))))
      ·replace hM2 := ifN hM2 hc49
       refine And.intro rfl (And.intro (by repeat (first | exact trivial | refine And.intro rfl ?_)) (And.intro (by repeat (first | exact trivial | refine And.intro rfl ?_)) (Exists.intro m47 (And.intro ⟨(IntKind.i64.wrap (u44 + 1)), wu45, u45, rfl, rfl, sX43, (M0 _), fu45, hM2⟩ (Nat.lt_succ_self _)))))
     ·replace hM2 := ifN hM2 hc48
      have hE := Option.some.inj hM2; subst hE
      try dsimp only [V0, Z0] at hM1
      refine Or.inl ?_
      intro v51 k52 f53
      obtain ⟨az54, cz54, rfl, rz54, sz54, lz54⟩ := S0.out (r := Wp.int.toRp) f53 fu45
      obtain ⟨x55, gx55, hM1⟩ := l0 hM1
      refine Tr.mono (h08 _ [.int .i64 u24, .int .i64 u25, .slice au26 u26.length cu26] (u24, u25, u26) (z0 iu24 iu25 (O0.mono (((sx29.trans sX32).trans sX43).trans sz54) ru26)) az54 u45.length cz54 u45 rz54 _  gx55) ?_
      rintro v57 k56 ⟨csx55, rfl, wx55⟩
      have sx55 : Sub k52 k56 := wx55.sub
      have rx55 := wx55.r
      obtain ⟨x55_0, x55_1, ax55_2, nx55_2, cx55_2, x55_2, rfl, rfl, ix55_0, ix55_1, rx55_2⟩ := K0 rx55
      obtain ⟨rfl, lx55_2⟩ := Sl.len rx55_2
      try dsimp only at hM1
      have we58 := New.sndI (New.sndI (wx55))
      obtain ⟨x61, gx61, hM1⟩ := l0 hM1
      obtain ⟨x62, gx62, hM1⟩ := l0 hM1
      obtain ⟨q63, gq63, hM1⟩ := l0 hM1
      obtain ⟨qaz64, baz64, eaz64, gz64, oz64, Az64, Cz64, usz64, vsz64, eqz64, qbz64, bbz64, lcz64, mcz64, rxz64, sxz64, luz64, lvz64, apz64⟩ := New.drop wwu23 ((((sx29.trans sX32).trans sX43).trans sz54).trans sx55) gx61 gx62 (p0l lu23 gx61 gx62)
      subst eqz64
      refine Or.inr (Or.inr (Or.inl (And.intro (And.intro (by kernel_rfl) (by kernel_rfl)) ?_)))
      refine Or.inl (Exists.intro (.val (.slice (some ⟨gz64, oz64, none⟩) x61.length cu23)) (And.intro ?_ ?_))
      ·intro hh sb
       obtain ⟨vs, e⟩ := eaz64 hh sb
       exact And.intro baz64 (Exists.intro vs (And.intro e (fun v _ hv => And.intro (congrArg AV.val (qaz64 v hv)) (And.intro rfl rfl))))
      refine Or.inl (Exists.intro (.val (.int .i64 (IntKind.i64.wrap (u33 + 1)))) (And.intro ?_ ?_))
      ·intro k59 s60
       exact And.intro rfl (And.intro rfl rfl)
      refine Or.inl (Exists.intro (.val (.slice Az64 x62.length Cz64)) (And.intro ?_ ?_))
      ·intro hh sb
       obtain ⟨vs, e⟩ := eaz64 hh sb
       exact And.intro bbz64 (Exists.intro vs (And.intro e (fun v _ hv => And.intro (congrArg AV.val (qbz64 v hv)) (And.intro rfl rfl))))
      refine Or.inr ?_
      refine Exists.intro 0 (And.intro (And.intro rfl rfl) ?_)
      refine Exists.intro vsz64 (And.intro sxz64 (Exists.intro usz64 (And.intro rxz64 (And.intro (l3 gq63 (by rw [luz64, lvz64])) ?_))))
      intro vz64 kz64 happz64
      obtain ⟨wz64, ⟨az64, nz64, cz64, rfl⟩, kpz64⟩ := apz64 _ _ happz64
      have rz64 := wz64.r
      obtain ⟨ez64, lz64⟩ := Sl.len rz64
      subst ez64
      refine And.intro trivial (And.intro (by first | exact trivial | exact rfl) ?_)
      have wy65 := kpz64 N0.slice _ _ _ we58 (((sx29.trans sX32).trans sX43).trans sz54)
      refine And.intro rfl (And.intro (by repeat (first | exact trivial | refine And.intro rfl ?_)) (And.intro (by repeat (first | exact trivial | refine And.intro rfl ?_)) (Exists.intro m28 (And.intro ⟨az64, (x61 ++ x62).length, cz64, (x61 ++ x62), x55_0, x55_1, ax55_2, x55_2.length, cx55_2, x55_2, rfl, rfl, wz64.sub, wz64, ix55_0, ix55_1, wy65, hM1⟩ (Nat.lt_succ_self _)))))
theorem H9 (h : Hp) (csp0 : List Value) (p0 : j0) (rp0 : P1.R h csp0 p0) (r : Bool) (hM0 : K5 p0 = some r) :
  Tr Tryz.prog 82 #[.agg csp0.toArray] h fun v h' => v = .bool r ∧ h' = h := by
 obtain ⟨p0_0, p0_1, ap0_2, np0_2, cp0_2, p0_2, rfl, rfl, ip0_0, ip0_1, rp0_2⟩ := K0 rp0
 obtain ⟨rfl, lp0_2⟩ := Sl.len rp0_2
 unfold K5 at hM0
 dsimp only at hM0
 refine Tr.forget (A3 (args := [.agg #[.int .i64 p0_0, .int .i64 p0_1, .slice ap0_2 p0_2.length cp0_2]]) (fn := Tryz.f82) rfl ?_)
 obtain ⟨x1, gx1, hM0⟩ := l0 hM0
 refine Tr.val (K9 _ [.int .i64 p0_0, .int .i64 p0_1, .slice ap0_2 p0_2.length cp0_2] (p0_0, p0_1, p0_2) (z0 ip0_0 ip0_1 rp0_2) _  gx1) ?_
 refine And.intro (fun hc2 => ?_) (fun hc2 => ?_)
 ·replace hM0 := ifP hM0 hc2
  have hE := Option.some.inj hM0; subst hE
  exact And.intro rfl (Sub.refl _)
 ·replace hM0 := ifN hM0 hc2
  obtain ⟨x3, gx3, hM0⟩ := l0 hM0
  refine Tr.mono (N07 _ [.int .i64 p0_0, .int .i64 p0_1, .slice ap0_2 p0_2.length cp0_2] (p0_0, p0_1, p0_2) (z0 ip0_0 ip0_1 rp0_2) _  gx3) ?_
  rintro v5 k4 ⟨csx3_0, ax3_1, nx3_1, cx3_1, rfl, wx3_0, rx3_1⟩
  obtain ⟨x3_0, x3_1⟩ := x3
  dsimp only at hM0 wx3_0 rx3_1
  have sx3 : Sub h k4 := wx3_0.sub
  have rx3_0 := wx3_0.r
  obtain ⟨x3_0_0, x3_0_1, ax3_0_2, nx3_0_2, cx3_0_2, x3_0_2, rfl, rfl, ix3_0_0, ix3_0_1, rx3_0_2⟩ := K0 rx3_0
  obtain ⟨rfl, lx3_0_2⟩ := Sl.len rx3_0_2
  try dsimp only at hM0
  obtain ⟨rfl, lx3_1⟩ := Sl.len rx3_1
  refine Or.inr (Or.inr (Or.inr (Or.inl (And.intro (And.intro (by kernel_rfl) (by kernel_rfl)) ?_))))
  refine Or.inl (Exists.intro (.val (.bool (decide (x3_0_1 = p0_1)))) (And.intro ?_ ?_))
  ·intro k6 s7
   exact And.intro rfl (And.intro rfl rfl)
  obtain ⟨x8, gx8, hM0⟩ := l0 hM0
  obtain ⟨x8_0, x8_1, x8_2⟩ := x8
  try dsimp only at hM0
  refine Or.inr (Exists.intro (fun v hh => ∃ (ax8_2 : Option Addr) (cx8_2 : Nat), v = .agg #[.int .i64 x8_0, .int .i64 x8_1, .slice ax8_2 x8_2.length cx8_2] ∧ P0 x8_0 ∧ P0 x8_1 ∧ O0.R hh [.slice ax8_2 x8_2.length cx8_2] x8_2 ∧ x8_2.length ≤ 9223372036854775807) (And.intro (fun v h1 h2 sb q => by obtain ⟨ax8_2, cx8_2, e, f0, f1, f2, f3⟩ := q; exact ⟨ax8_2, cx8_2, e, f0, f1, O0.mono sb f2, f3⟩) (And.intro ?_ ?_)))
  ·intro k9 s10 hq
   refine Tr.mono (F03 _ [.int .i64 p0_0, .int .i64 p0_1, .slice ap0_2 p0_2.length cp0_2] (p0_0, p0_1, p0_2) (z0 ip0_0 ip0_1 (O0.mono (sx3.trans s10) rp0_2)) _ (Q2 gx8 hq)) ?_
   rintro _ kk ⟨csx8, rfl, wx8⟩
   have sb := wx8.sub
   have rx8 := wx8.r
   obtain ⟨yx8_0, yx8_1, ayx8_2, nyx8_2, cyx8_2, yx8_2, rfl, ey, iyx8_0, iyx8_1, ryx8_2⟩ := K0 rx8
   cases ey
   obtain ⟨rfl, lyx8_2⟩ := Sl.len ryx8_2
   exact And.intro b0b (And.intro sb ⟨ayx8_2, cyx8_2, rfl, iyx8_0, iyx8_1, ryx8_2, lyx8_2⟩)
  obtain ⟨x11, gx11, hM0⟩ := l0 hM0
  refine Or.inl (Exists.intro (.val (.bool x11)) (And.intro ?_ ?_))
  ·intro k12 s13 hq
   rintro _ ⟨az142, cz142, rfl, iz140, iz141, rz142, lz142⟩
   exact Tr.val (N05 _ [.int .i64 x8_0, .int .i64 x8_1, .slice az142 x8_2.length cz142] (x8_0, x8_1, x8_2) (z0 iz140 iz141 rz142) [.int .i64 p0_0, .int .i64 p0_1, .slice ap0_2 p0_2.length cp0_2] (p0_0, p0_1, p0_2) (z0 ip0_0 ip0_1 (O0.mono (sx3.trans s13) rp0_2)) _ (Q2 gx11 hq)) (And.intro rfl (And.intro rfl rfl))
  intro k15 s16
  have hE := Option.some.inj hM0; subst hE
  exact And.intro rfl (sx3.trans s16)
theorem O07 (h : Hp) (csp0 : List Value) (p0 : L1) (rp0 : I3.R h csp0 p0) (r : Bool) (hM0 : j8 p0 = some r) :
  Tr Tryz.prog 69 #[.agg csp0.toArray] h fun v h' => v = .bool r ∧ h' = h := by
 obtain ⟨p0_0, ap0_1, np0_1, cp0_1, p0_1, rfl, rfl, ip0_0, rp0_1⟩ := H4 rp0
 obtain ⟨rfl, lp0_1⟩ := Sl.len rp0_1
 unfold j8 at hM0
 dsimp only at hM0
 refine Tr.forget (A3 (args := [.agg #[.int .i64 p0_0, .slice ap0_1 p0_1.length cp0_1]]) (fn := Tryz.f69) rfl ?_)
 obtain ⟨x1, gx1, hM0⟩ := l0 hM0
 refine Tr.val (L8 _ p0_0 ip0_0 1 (c64 (by decide) (by decide)) 3 (c64 (by decide) (by decide)) _  gx1) ?_
 refine And.intro (fun hc2 => ?_) (fun hc2 => ?_)
 ·replace hM0 := ifP hM0 hc2
  have hE := Option.some.inj hM0; subst hE
  exact And.intro rfl (Sub.refl _)
 ·replace hM0 := ifN hM0 hc2
  obtain ⟨X3, hLX3, hM0⟩ := l0 hM0
  refine Exists.intro { vars := [18], boxes := [], owns := [], fuel := true } (Exists.intro (fun vs os h' => ∃ (u4 : Int), vs.tail = [.int .i64 u4] ∧ os = [] ∧ Sub h h' ∧ P0 u4 ∧ R4 p0_1 p0_0 (C2 vs) u4 = some X3) (Exists.intro (fun _ _ => 0) ?_))
  refine And.intro (Exists.intro T0 ⟨0, rfl, rfl, (Sub.refl _), (c64 (by decide) (by decide)), hLX3⟩) ?_
  rintro v_0 m6 k5 ⟨u4, evX3, eoX3, sX3, iu4, hM1⟩
  cases evX3
  cases eoX3
  replace hM1 : R4 p0_1 p0_0 m6 u4 = some X3 := hM1
  obtain _ | m6 := m6
  ·cases (show (none : Option _) = some X3 from hM1)
  rw [R4.eq_2] at hM1
  refine And.intro (fun hc7 => ?_) (fun hc7 => ?_)
  ·replace hM1 := ifP hM1 hc7
   obtain ⟨x8, gx8, hM1⟩ := l0 hM1
   obtain ⟨bx8, csx8, ex8, rx8⟩ := Sl.getI (r := M4.toRp) (A4.mono sX3 rp0_1) gx8 (by decide)
   refine And.intro bx8 ?_
   obtain ⟨x8_0, x8_1, x8_2, ax8_3, nx8_3, cx8_3, x8_3, rfl, rfl, ix8_0, ix8_1, ix8_2, rx8_3⟩ := L4 rx8
   obtain ⟨rfl, lx8_3⟩ := Sl.len rx8_3
   try dsimp only at hM1
   refine Exists.intro _ (And.intro ex8 ?_)
   refine Or.inl (And.intro (And.intro (by kernel_rfl) (by kernel_rfl)) ?_)
   obtain ⟨x9, gx9, hM1⟩ := l0 hM1
   refine Exists.intro (.bool x9) (And.intro (x0a _ x8_0 ix8_0 _  gx9) ?_)
   obtain ⟨x10, gx10, hM1⟩ := l0 hM1
   obtain ⟨csx10, ex10, rx10⟩ := Sl.getG (r := M4.toRp) (A4.mono sX3 rp0_1) gx10 (by decide) (b0g k5)
   refine And.intro (fun q => (ex10 q).1) ?_
   obtain ⟨x10_0, x10_1, x10_2, ax10_3, nx10_3, cx10_3, x10_3, rfl, rfl, ix10_0, ix10_1, ix10_2, rx10_3⟩ := L4 rx10
   obtain ⟨rfl, lx10_3⟩ := Sl.len rx10_3
   try dsimp only at hM1
   refine Exists.intro _ (And.intro (fun q => (ex10 q).2) ?_)
   obtain ⟨x11, gx11, hM1⟩ := l0 hM1
   refine Exists.intro (.bool x11) (And.intro (fun q => H9 _ [.int .i64 x8_1, .int .i64 x8_2, .slice ax8_3 x8_3.length cx8_3] (x8_1, x8_2, x8_3) (z0 ix8_1 ix8_2 rx8_3) _  (Q2 gx11 q)) ?_)
   refine And.intro (fun hc12 => ?_) (fun hc12 => ?_)
   ·replace hM1 := ifP hM1 hc12
    have hE := Option.some.inj hM1; subst hE
    try dsimp only [Q3, Y3] at hM0
    have hE := Option.some.inj hM0; subst hE
    exact And.intro rfl sX3
   ·replace hM1 := ifN hM1 hc12
    refine And.intro rfl (And.intro (by repeat (first | exact trivial | refine And.intro rfl ?_)) (And.intro (by repeat (first | exact trivial | refine And.intro rfl ?_)) (Exists.intro m6 (And.intro ⟨(IntKind.i64.wrap (u4 + 1)), rfl, rfl, sX3, (M0 _), hM1⟩ (Nat.lt_succ_self _)))))
  ·replace hM1 := ifN hM1 hc7
   have hE := Option.some.inj hM1; subst hE
   try dsimp only [V0, Z0] at hM0
   have hE := Option.some.inj hM0; subst hE
   exact And.intro rfl sX3
end Go.Proofs.YtknoadmdnjaocaaGreat
namespace Go.Proofs.YtknoadmdnjaocaaGreat
open Go.H
set_option linter.unusedVariables false
set_option linter.unusedSimpArgs false
set_option maxRecDepth 10000
theorem Y04 (h : Hp) (csp0 : List Value) (p0 : L1) (rp0 : I3.R h csp0 p0) (p1 : ByteArray) (ip1 : p1.size ≤ 9223372036854775807) (r : Int) (hM0 : U6 p0 p1 = some r) :
  Tr Tryz.prog 84 #[.agg csp0.toArray, .string p1] h fun v h' => v = .int .i64 r ∧ h' = h := by
 obtain ⟨p0_0, ap0_1, np0_1, cp0_1, p0_1, rfl, rfl, ip0_0, rp0_1⟩ := H4 rp0
 obtain ⟨rfl, lp0_1⟩ := Sl.len rp0_1
 unfold U6 at hM0
 dsimp only at hM0
 refine Tr.forget (A3 (args := [.agg #[.int .i64 p0_0, .slice ap0_1 p0_1.length cp0_1], .string p1]) (fn := Tryz.f84) rfl ?_)
 obtain ⟨X1, hLX1, hM0⟩ := l0 hM0
 refine Exists.intro { vars := [10], boxes := [], owns := [], fuel := true } (Exists.intro (fun vs os h' => ∃ (u2 : Int), vs.tail = [.int .i64 u2] ∧ os = [] ∧ Sub h h' ∧ P0 u2 ∧ T3 p0_1 p1 (C2 vs) u2 = some X1) (Exists.intro (fun _ _ => 0) ?_))
 refine And.intro (Exists.intro T0 ⟨0, rfl, rfl, (Sub.refl _), (c64 (by decide) (by decide)), hLX1⟩) ?_
 rintro v_0 m4 k3 ⟨u2, evX1, eoX1, sX1, iu2, hM1⟩
 cases evX1
 cases eoX1
 replace hM1 : T3 p0_1 p1 m4 u2 = some X1 := hM1
 obtain _ | m4 := m4
 ·cases (show (none : Option _) = some X1 from hM1)
 rw [T3.eq_2] at hM1
 refine And.intro (fun hc5 => ?_) (fun hc5 => ?_)
 ·replace hM1 := ifP hM1 hc5
  obtain ⟨x6, gx6, hM1⟩ := l0 hM1
  obtain ⟨bx6, csx6, ex6, rx6⟩ := Sl.getI (r := M4.toRp) (A4.mono sX1 rp0_1) gx6 (by decide)
  refine And.intro bx6 ?_
  obtain ⟨x6_0, x6_1, x6_2, ax6_3, nx6_3, cx6_3, x6_3, rfl, rfl, ix6_0, ix6_1, ix6_2, rx6_3⟩ := L4 rx6
  obtain ⟨rfl, lx6_3⟩ := Sl.len rx6_3
  try dsimp only at hM1
  refine Exists.intro _ (And.intro ex6 ?_)
  refine And.intro (fun hc7 => ?_) (fun hc7 => ?_)
  ·replace hM1 := ifP hM1 hc7
   have hE := Option.some.inj hM1; subst hE
   try dsimp only [Q3, Y3] at hM0
   have hE := Option.some.inj hM0; subst hE
   exact And.intro rfl sX1
  ·replace hM1 := ifN hM1 hc7
   refine And.intro rfl (And.intro (by repeat (first | exact trivial | refine And.intro rfl ?_)) (And.intro (by repeat (first | exact trivial | refine And.intro rfl ?_)) (Exists.intro m4 (And.intro ⟨(IntKind.i64.wrap (u2 + 1)), rfl, rfl, sX1, (M0 _), hM1⟩ (Nat.lt_succ_self _)))))
 ·replace hM1 := ifN hM1 hc5
  have hE := Option.some.inj hM1; subst hE
  try dsimp only [V0, Z0] at hM0
  have hE := Option.some.inj hM0; subst hE
  exact And.intro rfl sX1
end Go.Proofs.YtknoadmdnjaocaaGreat
namespace Go.Proofs.YtknoadmdnjaocaaGreat
open Go.H
set_option linter.unusedVariables false
set_option linter.unusedSimpArgs false
set_option maxRecDepth 10000
set_option maxHeartbeats 0
theorem y0a (h : Hp) (csp0 : List Value) (p0 : L1) (rp0 : I3.R h csp0 p0) (p1 : ByteArray) (ip1 : p1.size ≤ 9223372036854775807) (r : j0 × Bool) (hM0 : F9 p0 p1 = some r) :
  Tr Tryz.prog 64 #[.agg csp0.toArray, .string p1] h fun v h' => ∃ (cs0 : List Value), v = .tuple #[.agg cs0.toArray, .bool r.2] ∧ P1.R h' cs0 r.1 ∧ Sub h h' := by
 obtain ⟨p0_0, ap0_1, np0_1, cp0_1, p0_1, rfl, rfl, ip0_0, rp0_1⟩ := H4 rp0
 obtain ⟨rfl, lp0_1⟩ := Sl.len rp0_1
 unfold F9 at hM0
 dsimp only at hM0
 refine A3 (args := [.agg #[.int .i64 p0_0, .slice ap0_1 p0_1.length cp0_1], .string p1]) (fn := Tryz.f64) rfl ?_
 obtain ⟨X1, hLX1, hM0⟩ := l0 hM0
 refine Exists.intro { vars := [6], boxes := [], owns := [], fuel := true } (Exists.intro (fun vs os h' => ∃ (u2 : Int), vs.tail = [.int .i64 u2] ∧ os = [] ∧ Sub h h' ∧ P0 u2 ∧ W5 p0_1 p1 (C2 vs) u2 = some X1) (Exists.intro (fun _ _ => 0) ?_))
 refine And.intro (Exists.intro T0 ⟨0, rfl, rfl, (Sub.refl _), (c64 (by decide) (by decide)), hLX1⟩) ?_
 rintro v_0 m4 k3 ⟨u2, evX1, eoX1, sX1, iu2, hM1⟩
 cases evX1
 cases eoX1
 replace hM1 : W5 p0_1 p1 m4 u2 = some X1 := hM1
 obtain _ | m4 := m4
 ·cases (show (none : Option _) = some X1 from hM1)
 rw [W5.eq_2] at hM1
 refine And.intro (fun hc5 => ?_) (fun hc5 => ?_)
 ·replace hM1 := ifP hM1 hc5
  obtain ⟨x6, gx6, hM1⟩ := l0 hM1
  obtain ⟨bx6, csx6, ex6, rx6⟩ := Sl.getI (r := M4.toRp) (A4.mono sX1 rp0_1) gx6 (by decide)
  refine And.intro bx6 ?_
  obtain ⟨x6_0, x6_1, x6_2, ax6_3, nx6_3, cx6_3, x6_3, rfl, rfl, ix6_0, ix6_1, ix6_2, rx6_3⟩ := L4 rx6
  obtain ⟨rfl, lx6_3⟩ := Sl.len rx6_3
  try dsimp only at hM1
  refine Exists.intro _ (And.intro ex6 ?_)
  refine And.intro (fun hc7 => ?_) (fun hc7 => ?_)
  ·replace hM1 := ifP hM1 hc7
   obtain ⟨x8, gx8, hM1⟩ := l0 hM1
   obtain ⟨bx8, csx8, ex8, rx8⟩ := Sl.getI (r := M4.toRp) (A4.mono sX1 rp0_1) gx8 (by decide)
   refine And.intro bx8 ?_
   obtain ⟨x8_0, x8_1, x8_2, ax8_3, nx8_3, cx8_3, x8_3, rfl, rfl, ix8_0, ix8_1, ix8_2, rx8_3⟩ := L4 rx8
   obtain ⟨rfl, lx8_3⟩ := Sl.len rx8_3
   try dsimp only at hM1
   refine Exists.intro _ (And.intro ex8 ?_)
   obtain ⟨x9, gx9, hM1⟩ := l0 hM1
   refine Tr.mono (M00 _ [.int .i64 x8_1, .int .i64 x8_2, .slice ax8_3 x8_3.length cx8_3] (x8_1, x8_2, x8_3) (z0 ix8_1 ix8_2 rx8_3) _  gx9) ?_
   rintro v11 k10 ⟨csx9, rfl, rx9, sx9⟩
   obtain ⟨x9_0, x9_1, ax9_2, nx9_2, cx9_2, x9_2, rfl, rfl, ix9_0, ix9_1, rx9_2⟩ := K0 rx9
   obtain ⟨rfl, lx9_2⟩ := Sl.len rx9_2
   try dsimp only at hM1
   have hE := Option.some.inj hM1; subst hE
   try dsimp only [Q3, Y3] at hM0
   have hE := Option.some.inj hM0; subst hE
   exact ⟨([.int .i64 x9_0, .int .i64 x9_1, .slice ax9_2 x9_2.length cx9_2]), rfl, (z0 ix9_0 ix9_1 rx9_2), (sX1.trans sx9)⟩
  ·replace hM1 := ifN hM1 hc7
   refine And.intro rfl (And.intro (by repeat (first | exact trivial | refine And.intro rfl ?_)) (And.intro (by repeat (first | exact trivial | refine And.intro rfl ?_)) (Exists.intro m4 (And.intro ⟨(IntKind.i64.wrap (u2 + 1)), rfl, rfl, sX1, (M0 _), hM1⟩ (Nat.lt_succ_self _)))))
 ·replace hM1 := ifN hM1 hc5
  have hE := Option.some.inj hM1; subst hE
  try dsimp only [V0, Z0] at hM0
  have hE := Option.some.inj hM0; subst hE
  exact ⟨([.int .i64 0, .int .i64 0, .slice none 0 0]), rfl, (z0 (c64 (by decide) (by decide)) (c64 (by decide) (by decide)) (b0l N0 k3)), sX1⟩
theorem p08 (h : Hp) (csp0 : List Value) (p0 : j0) (rp0 : P1.R h csp0 p0) (csp1 : List Value) (p1 : j0) (rp1 : P1.R h csp1 p1) (r : Bool) (hM0 : D8 p0 p1 = some r) :
  Tr Tryz.prog 66 #[.agg csp0.toArray, .agg csp1.toArray] h fun v h' => v = .bool r ∧ h' = h := by
 obtain ⟨p0_0, p0_1, ap0_2, np0_2, cp0_2, p0_2, rfl, rfl, ip0_0, ip0_1, rp0_2⟩ := K0 rp0
 obtain ⟨rfl, lp0_2⟩ := Sl.len rp0_2
 obtain ⟨p1_0, p1_1, ap1_2, np1_2, cp1_2, p1_2, rfl, rfl, ip1_0, ip1_1, rp1_2⟩ := K0 rp1
 obtain ⟨rfl, lp1_2⟩ := Sl.len rp1_2
 unfold D8 at hM0
 dsimp only at hM0
 refine Tr.forget (A3 (args := [.agg #[.int .i64 p0_0, .int .i64 p0_1, .slice ap0_2 p0_2.length cp0_2], .agg #[.int .i64 p1_0, .int .i64 p1_1, .slice ap1_2 p1_2.length cp1_2]]) (fn := Tryz.f66) rfl ?_)
 obtain ⟨x1, gx1, hM0⟩ := l0 hM0
 refine Tr.val (t00 _ [.int .i64 p0_0, .int .i64 p0_1, .slice ap0_2 p0_2.length cp0_2] (p0_0, p0_1, p0_2) (z0 ip0_0 ip0_1 rp0_2) _  gx1) ?_
 obtain ⟨x2, gx2, hM0⟩ := l0 hM0
 refine Exists.intro (.bool x2) (And.intro (fun q => t00 _ [.int .i64 p1_0, .int .i64 p1_1, .slice ap1_2 p1_2.length cp1_2] (p1_0, p1_1, p1_2) (z0 ip1_0 ip1_1 rp1_2) _  (Q2 gx2 q)) ?_)
 refine And.intro (fun hc3 => ?_) (fun hc3 => ?_)
 ·replace hM0 := ifP hM0 hc3
  have hE := Option.some.inj hM0; subst hE
  exact And.intro rfl (Sub.refl _)
 ·replace hM0 := ifN hM0 hc3
  obtain ⟨q4, gq4, hM0⟩ := l0 hM0
  refine And.intro (E3 gq4) ?_
  obtain ⟨x5, gx5, hM0⟩ := l0 hM0
  refine Tr.mono (X02 _ p0_0 ip0_0 _  gx5) ?_
  rintro v7 k6 ⟨ax5, nx5, cx5, rfl, rx5, sx5⟩
  obtain ⟨rfl, lx5⟩ := Sl.len rx5
  obtain ⟨X8, hLX8, hM0⟩ := l0 hM0
  refine Exists.intro { vars := [8], boxes := [], owns := [0, 1], fuel := true, kept := [0] } (Exists.intro (fun vs os h' => ∃ (u9 : Int) (wu10 : List (List Value)) (u10 : List Int) (wu11 : List (List Value)) (u11 : List Int), vs.tail = [.int .i64 u9] ∧ os = [wu10, wu11] ∧ Sub k6 h' ∧ P0 u9 ∧ F2 (Wp.int.R h') wu10 u10 ∧ F2 (Wp.int.R h') wu11 u11 ∧ o5 x5 p0_0 p0_1 p0_2 p1_0 p1_1 p1_2 (C2 vs) u9 u10 u11 = some X8) (Exists.intro (fun _ _ => 0) ?_))
  refine And.intro (Exists.intro T0 ⟨0, (List.replicate p0_1.toNat ([.int .i64 0] : List Value)), (List.replicate p0_1.toNat (0 : Int)), ([[.int .i64 0]] : List (List Value)), [0], rfl, rfl, (Sub.refl _), (c64 (by decide) (by decide)), (F2.up (r := Wp.int.toRp) sx5 (F2.rep (p := Wp.int.R h) (a := [.int .i64 0]) (b := 0) ⟨rfl, (c64 (by decide) (by decide))⟩ (p0_1.toNat))), (F2.up (r := Wp.int.toRp) sx5 (show F2 (Wp.int.R h) ([[.int .i64 0]] : List (List Value)) [0] from ⟨⟨rfl, (c64 (by decide) (by decide))⟩, trivial⟩)), hLX8⟩) ?_
  rintro v_0 wu10 wu11 m13 k12 ⟨u9, zzu10, u10, zzu11, u11, evX8, eoX8, sX8, iu9, fu10, fu11, hM1⟩
  cases evX8
  cases eoX8
  replace hM1 : o5 x5 p0_0 p0_1 p0_2 p1_0 p1_1 p1_2 m13 u9 u10 u11 = some X8 := hM1
  obtain _ | m13 := m13
  ·cases (show (none : Option _) = some X8 from hM1)
  rw [o5.eq_2] at hM1
  obtain ⟨m14, gm14, hM1⟩ := l0 hM1
  obtain rfl : wu11.length = m14 := (F2.length fu11).trans (Option.some.inj gm14)
  obtain ⟨q15, gq15, hM1⟩ := l0 hM1
  refine And.intro (fun hc16 => ?_) (fun hc16 => ?_)
  ·replace hM1 := ifP hM1 hc16
   obtain ⟨X17, hLX17, hM1⟩ := l0 hM1
   refine Exists.intro { vars := [9], boxes := [], owns := [0, 1], fuel := true, kept := [0] } (Exists.intro (fun vs os h' => ∃ (u18 : Int) (wu19 : List (List Value)) (u19 : List Int) (wu20 : List (List Value)) (u20 : List Int), vs.tail = [.int .i64 u18] ∧ os = [wu19, wu20] ∧ Sub k12 h' ∧ P0 u18 ∧ F2 (Wp.int.R h') wu19 u19 ∧ F2 (Wp.int.R h') wu20 u20 ∧ i4 x5 u9 p0_0 p0_1 p0_2 p1_0 p1_1 p1_2 (C2 vs) u18 u19 u20 = some X17) (Exists.intro (fun _ _ => 0) ?_))
   refine And.intro (Exists.intro T0 ⟨0, wu10, u10, wu11, u11, rfl, rfl, (Sub.refl _), (c64 (by decide) (by decide)), fu10, fu11, hLX17⟩) ?_
   rintro v_0 wu19 wu20 m22 k21 ⟨u18, zzu19, u19, zzu20, u20, evX17, eoX17, sX17, iu18, fu19, fu20, hM2⟩
   cases evX17
   cases eoX17
   replace hM2 : i4 x5 u9 p0_0 p0_1 p0_2 p1_0 p1_1 p1_2 m22 u18 u19 u20 = some X17 := hM2
   obtain _ | m22 := m22
   ·cases (show (none : Option _) = some X17 from hM2)
   rw [i4.eq_2] at hM2
   refine And.intro (fun hc23 => ?_) (fun hc23 => ?_)
   ·replace hM2 := ifP hM2 hc23
    refine Or.inl (And.intro (And.intro (by kernel_rfl) (by kernel_rfl)) ?_)
    obtain ⟨x24, gx24, hM2⟩ := l0 hM2
    obtain ⟨bx24, csx24, ex24, rx24⟩ := K4 fu20 gx24
    refine And.intro bx24 ?_
    obtain ⟨rfl, ix24⟩ := rx24
    refine Exists.intro _ (And.intro ex24 ?_)
    obtain ⟨x25, gx25, hM2⟩ := l0 hM2
    obtain ⟨bx25, csx25, ex25, rx25⟩ := Sl.getI (r := Wp.int.toRp) (O1.mono (sX8.trans sX17) rx5) gx25 (by decide)
    refine And.intro bx25 ?_
    obtain ⟨rfl, ix25⟩ := rx25
    refine Exists.intro _ (And.intro ex25 ?_)
    obtain ⟨x26, gx26, hM2⟩ := l0 hM2
    refine Exists.intro (.int .i64 x26) (And.intro (r00 _ [.int .i64 p0_0, .int .i64 p0_1, .slice ap0_2 p0_2.length cp0_2] (p0_0, p0_1, p0_2) (z0 ip0_0 ip0_1 (O0.mono ((sx5.trans sX8).trans sX17) rp0_2)) x24 ix24 x25 ix25 _  gx26) ?_)
    obtain ⟨q27, gq27, hM2⟩ := l0 hM2
    have ix26 : P0 x26 := E3 gq27
    refine And.intro (fun hc28 => ?_) (fun hc28 => ?_)
    ·replace hM2 := ifP hM2 hc28
     refine And.intro rfl (And.intro (by repeat (first | exact trivial | refine And.intro rfl ?_)) (And.intro (by repeat (first | exact trivial | refine And.intro rfl ?_)) (Exists.intro m22 (And.intro ⟨(IntKind.i64.wrap (u18 + 1)), wu19, u19, wu20, u20, rfl, rfl, sX17, (M0 _), fu19, fu20, hM2⟩ (Nat.lt_succ_self _)))))
    ·replace hM2 := ifN hM2 hc28
     refine Or.inl (And.intro (And.intro (by kernel_rfl) (by kernel_rfl)) ?_)
     obtain ⟨x29, gx29, hM2⟩ := l0 hM2
     obtain ⟨bx29, csx29, ex29, rx29⟩ := K4 fu20 gx29
     refine And.intro bx29 ?_
     obtain ⟨rfl, ix29⟩ := rx29
     refine Exists.intro _ (And.intro ex29 ?_)
     obtain ⟨x30, gx30, hM2⟩ := l0 hM2
     obtain ⟨bx30, csx30, ex30, rx30⟩ := K4 fu19 gx30
     refine And.intro bx30 ?_
     obtain ⟨rfl, ix30⟩ := rx30
     refine Exists.intro _ (And.intro ex30 ?_)
     obtain ⟨x31, gx31, hM2⟩ := l0 hM2
     obtain ⟨bx31, csx31, ex31, rx31⟩ := Sl.getI (r := Wp.int.toRp) (O1.mono (sX8.trans sX17) rx5) gx31 (by decide)
     refine And.intro bx31 ?_
     obtain ⟨rfl, ix31⟩ := rx31
     refine Exists.intro _ (And.intro ex31 ?_)
     obtain ⟨x32, gx32, hM2⟩ := l0 hM2
     refine Exists.intro (.int .i64 x32) (And.intro (r00 _ [.int .i64 p1_0, .int .i64 p1_1, .slice ap1_2 p1_2.length cp1_2] (p1_0, p1_1, p1_2) (z0 ip1_0 ip1_1 (O0.mono ((sx5.trans sX8).trans sX17) rp1_2)) x30 ix30 x31 ix31 _  gx32) ?_)
     obtain ⟨q33, gq33, hM2⟩ := l0 hM2
     have ix32 : P0 x32 := E3 gq33
     refine And.intro (fun hc34 => ?_) (fun hc34 => ?_)
     ·replace hM2 := ifP hM2 hc34
      have hE := Option.some.inj hM2; subst hE
      try dsimp only [Q3, Y3] at hM1
      have hE := Option.some.inj hM1; subst hE
      try dsimp only [Q3, Y3] at hM0
      have hE := Option.some.inj hM0; subst hE
      exact And.intro rfl ((sx5.trans sX8).trans sX17)
     ·replace hM2 := ifN hM2 hc34
      refine Or.inr ?_
      intro v35 k36 f37
      obtain ⟨az38, cz38, rfl, rz38, sz38, lz38⟩ := S0.out (r := Wp.int.toRp) f37 fu20
      obtain ⟨x39, gx39, hM2⟩ := l0 hM2
      refine Tr.val (l9 _ az38 u20.length cz38 u20 rz38 x26 ix26 _  gx39) (And.intro rfl ?_)
      refine And.intro (fun hc40 => ?_) (fun hc40 => ?_)
      ·replace hM2 := ifP hM2 hc40
       obtain ⟨q41, gq41, hM2⟩ := l0 hM2
       refine And.intro (l3 gq41 (by first | rw [F2.length fu20, F2.length (show F2 (Wp.int.R k21) ([[.int .i64 x26]] : List (List Value)) [x26] from ⟨⟨rfl, ix26⟩, trivial⟩)] | exact congrArg (· + 1) (F2.length fu20))) ?_
       obtain ⟨x42, gx42, hM2⟩ := l0 hM2
       obtain ⟨bx42, csx42, ex42, rx42⟩ := K4 fu19 gx42
       refine And.intro bx42 ?_
       obtain ⟨rfl, ix42⟩ := rx42
       refine Exists.intro _ (And.intro ex42 ?_)
       refine And.intro rfl (And.intro (by repeat (first | exact trivial | refine And.intro rfl ?_)) (And.intro (by repeat (first | exact trivial | refine And.intro rfl ?_)) (Exists.intro m22 (And.intro ⟨(IntKind.i64.wrap (u18 + 1)), (wu19.set x26.toNat [.int .i64 x32]), (u19.set x26.toNat x32), (wu20 ++ ([[.int .i64 x26]] : List (List Value))), (u20 ++ [x26]), rfl, rfl, sX17, (M0 _), (F2.set (p := Wp.int.R k21) (a := [.int .i64 x32]) (b := x32) ⟨rfl, ix32⟩ x26.toNat fu19), (F2.append fu20 (show F2 (Wp.int.R k21) ([[.int .i64 x26]] : List (List Value)) [x26] from ⟨⟨rfl, ix26⟩, trivial⟩)), hM2⟩ (Nat.lt_succ_self _)))))
      ·replace hM2 := ifN hM2 hc40
       obtain ⟨x43, gx43, hM2⟩ := l0 hM2
       obtain ⟨bx43, csx43, ex43, rx43⟩ := K4 fu19 gx43
       refine And.intro bx43 ?_
       obtain ⟨rfl, ix43⟩ := rx43
       refine Exists.intro _ (And.intro ex43 ?_)
       refine And.intro (fun hc44 => ?_) (fun hc44 => ?_)
       ·replace hM2 := ifP hM2 hc44
        have hE := Option.some.inj hM2; subst hE
        try dsimp only [Q3, Y3] at hM1
        have hE := Option.some.inj hM1; subst hE
        try dsimp only [Q3, Y3] at hM0
        have hE := Option.some.inj hM0; subst hE
        exact And.intro rfl ((sx5.trans sX8).trans sX17)
       ·replace hM2 := ifN hM2 hc44
        refine And.intro rfl (And.intro (by repeat (first | exact trivial | refine And.intro rfl ?_)) (And.intro (by repeat (first | exact trivial | refine And.intro rfl ?_)) (Exists.intro m22 (And.intro ⟨(IntKind.i64.wrap (u18 + 1)), wu19, u19, wu20, u20, rfl, rfl, sX17, (M0 _), fu19, fu20, hM2⟩ (Nat.lt_succ_self _)))))
   ·replace hM2 := ifN hM2 hc23
    have hE := Option.some.inj hM2; subst hE
    try dsimp only [V0, Z0] at hM1
    refine And.intro rfl (And.intro (by repeat (first | exact trivial | refine And.intro rfl ?_)) (And.intro (by repeat (first | exact trivial | refine And.intro rfl ?_)) (Exists.intro m13 (And.intro ⟨(IntKind.i64.wrap (u9 + 1)), wu19, u19, wu20, u20, rfl, rfl, (sX8.trans sX17), (M0 _), fu19, fu20, hM1⟩ (Nat.lt_succ_self _)))))
  ·replace hM1 := ifN hM1 hc16
   have hE := Option.some.inj hM1; subst hE
   try dsimp only [V0, Z0] at hM0
   have hE := Option.some.inj hM0; subst hE
   exact And.intro rfl (sx5.trans sX8)
theorem O05 (h : Hp) (csp0 : List Value) (p0 : L1) (rp0 : I3.R h csp0 p0) (p1 : ByteArray) (ip1 : p1.size ≤ 9223372036854775807) (r : (List ByteArray)) (hM0 : t8 p0 p1 = some r) :
  Tr Tryz.prog 15 #[.agg csp0.toArray, .string p1] h fun v h' => ∃ (a0 : Option Addr) (n0 c0 : Nat), v = .slice a0 n0 c0 ∧ (Wp.slice Wp.str).R h' [.slice a0 n0 c0] r ∧ Sub h h' := by
 obtain ⟨p0_0, ap0_1, np0_1, cp0_1, p0_1, rfl, rfl, ip0_0, rp0_1⟩ := H4 rp0
 obtain ⟨rfl, lp0_1⟩ := Sl.len rp0_1
 unfold t8 at hM0
 dsimp only at hM0
 refine A3 (args := [.agg #[.int .i64 p0_0, .slice ap0_1 p0_1.length cp0_1], .string p1]) (fn := Tryz.f15) rfl ?_
 obtain ⟨x1, gx1, hM0⟩ := l0 hM0
 refine Tr.mono (y0a _ [.int .i64 p0_0, .slice ap0_1 p0_1.length cp0_1] (p0_0, p0_1) (t6 ip0_0 rp0_1) p1 ip1 _  gx1) ?_
 rintro v3 k2 ⟨csx1_0, rfl, rx1_0, sx1⟩
 obtain ⟨x1_0, x1_1⟩ := x1
 dsimp only at hM0 rx1_0
 obtain ⟨x1_0_0, x1_0_1, ax1_0_2, nx1_0_2, cx1_0_2, x1_0_2, rfl, rfl, ix1_0_0, ix1_0_1, rx1_0_2⟩ := K0 rx1_0
 obtain ⟨rfl, lx1_0_2⟩ := Sl.len rx1_0_2
 try dsimp only at hM0
 obtain ⟨X4, hLX4, hM0⟩ := l0 hM0
 refine Exists.intro { vars := [8], boxes := [], owns := [0], fuel := true } (Exists.intro (fun vs os h' => ∃ (u5 : Int) (wu6 : List (List Value)) (u6 : List ByteArray), vs.tail = [.int .i64 u5] ∧ os = [wu6] ∧ Sub k2 h' ∧ P0 u5 ∧ F2 (Wp.str.R h') wu6 u6 ∧ P2 p0_1 x1_1 p0_0 x1_0_0 x1_0_1 x1_0_2 (C2 vs) u5 u6 = some X4) (Exists.intro (fun _ _ => 0) ?_))
 refine And.intro (Exists.intro T0 ⟨0, [], ([] : (List ByteArray)), rfl, rfl, (Sub.refl _), (c64 (by decide) (by decide)), (F2.up (r := Wp.str.toRp) sx1 (show F2 (Wp.str.R h) ([] : List (List Value)) ([] : (List ByteArray)) from trivial)), hLX4⟩) ?_
 rintro v_0 wu6 m8 k7 ⟨u5, zzu6, u6, evX4, eoX4, sX4, iu5, fu6, hM1⟩
 cases evX4
 cases eoX4
 replace hM1 : P2 p0_1 x1_1 p0_0 x1_0_0 x1_0_1 x1_0_2 m8 u5 u6 = some X4 := hM1
 obtain _ | m8 := m8
 ·cases (show (none : Option _) = some X4 from hM1)
 rw [P2.eq_2] at hM1
 obtain ⟨x9, gx9, hM1⟩ := l0 hM1
 refine Exists.intro (.bool x9) (And.intro (fun q => M07 _ [.int .i64 p0_0, .slice ap0_1 p0_1.length cp0_1] (p0_0, p0_1) (t6 ip0_0 (A4.mono (sx1.trans sX4) rp0_1)) _  (Q2 gx9 q)) ?_)
 refine And.intro (fun hc10 => ?_) (fun hc10 => ?_)
 ·replace hM1 := ifP hM1 hc10
  refine Or.inl (And.intro (And.intro (by kernel_rfl) (by kernel_rfl)) ?_)
  obtain ⟨x11, gx11, hM1⟩ := l0 hM1
  obtain ⟨bx11, csx11, ex11, rx11⟩ := Sl.getI (r := M4.toRp) (A4.mono (sx1.trans sX4) rp0_1) gx11 (by decide)
  refine And.intro bx11 ?_
  obtain ⟨x11_0, x11_1, x11_2, ax11_3, nx11_3, cx11_3, x11_3, rfl, rfl, ix11_0, ix11_1, ix11_2, rx11_3⟩ := L4 rx11
  obtain ⟨rfl, lx11_3⟩ := Sl.len rx11_3
  try dsimp only at hM1
  refine Exists.intro _ (And.intro ex11 ?_)
  obtain ⟨x12, gx12, hM1⟩ := l0 hM1
  refine Exists.intro (.bool x12) (And.intro (p08 _ [.int .i64 x11_1, .int .i64 x11_2, .slice ax11_3 x11_3.length cx11_3] (x11_1, x11_2, x11_3) (z0 ix11_1 ix11_2 rx11_3) [.int .i64 x1_0_0, .int .i64 x1_0_1, .slice ax1_0_2 x1_0_2.length cx1_0_2] (x1_0_0, x1_0_1, x1_0_2) (z0 ix1_0_0 ix1_0_1 (O0.mono sX4 rx1_0_2)) _  gx12) ?_)
  refine And.intro (fun hc13 => ?_) (fun hc13 => ?_)
  ·replace hM1 := ifP hM1 hc13
   obtain ⟨x14, gx14, hM1⟩ := l0 hM1
   obtain ⟨bx14, csx14, ex14, rx14⟩ := Sl.getI (r := M4.toRp) (A4.mono (sx1.trans sX4) rp0_1) gx14 (by decide)
   refine And.intro bx14 ?_
   obtain ⟨x14_0, x14_1, x14_2, ax14_3, nx14_3, cx14_3, x14_3, rfl, rfl, ix14_0, ix14_1, ix14_2, rx14_3⟩ := L4 rx14
   obtain ⟨rfl, lx14_3⟩ := Sl.len rx14_3
   try dsimp only at hM1
   refine Exists.intro _ (And.intro ex14 ?_)
   obtain ⟨q15, gq15, hM1⟩ := l0 hM1
   refine And.intro (l3 gq15 (by first | rw [F2.length fu6, F2.length (show F2 (Wp.str.R k7) ([[.string x14_0]] : List (List Value)) [x14_0] from ⟨⟨rfl, ix14_0⟩, trivial⟩)] | exact congrArg (· + 1) (F2.length fu6))) ?_
   refine And.intro rfl (And.intro (by repeat (first | exact trivial | refine And.intro rfl ?_)) (And.intro (by repeat (first | exact trivial | refine And.intro rfl ?_)) (Exists.intro m8 (And.intro ⟨(IntKind.i64.wrap (u5 + 1)), (wu6 ++ ([[.string x14_0]] : List (List Value))), (u6 ++ [x14_0]), rfl, rfl, sX4, (M0 _), (F2.append fu6 (show F2 (Wp.str.R k7) ([[.string x14_0]] : List (List Value)) [x14_0] from ⟨⟨rfl, ix14_0⟩, trivial⟩)), hM1⟩ (Nat.lt_succ_self _)))))
  ·replace hM1 := ifN hM1 hc13
   refine And.intro rfl (And.intro (by repeat (first | exact trivial | refine And.intro rfl ?_)) (And.intro (by repeat (first | exact trivial | refine And.intro rfl ?_)) (Exists.intro m8 (And.intro ⟨(IntKind.i64.wrap (u5 + 1)), wu6, u6, rfl, rfl, sX4, (M0 _), fu6, hM1⟩ (Nat.lt_succ_self _)))))
 ·replace hM1 := ifN hM1 hc10
  have hE := Option.some.inj hM1; subst hE
  try dsimp only [V0, Z0] at hM0
  intro v16 k17 f18
  obtain ⟨az19, cz19, rfl, rz19, sz19, lz19⟩ := S0.out (r := Wp.str.toRp) f18 fu6
  have hE := Option.some.inj hM0; subst hE
  exact ⟨az19, u6.length, cz19, rfl, rz19, ((sx1.trans sX4).trans sz19)⟩
end Go.Proofs.YtknoadmdnjaocaaGreat
namespace Go.Proofs.YtknoadmdnjaocaaGreat
open Go.H
set_option linter.unusedVariables false
set_option linter.unusedSimpArgs false
set_option maxRecDepth 10000
theorem m0e (h : Hp) (p0 : Int) (ip0 : P0 p0) (p1 : Int) (ip1 : P0 p1) (p2 : Int) (ip2 : P0 p2) (r : B0) (hM0 : Y00 p0 p1 p2 = some r) :
  Tr Tryz.prog 220 #[.int .i64 p0, .int .i64 p1, .int .i64 p2] h fun v h' => ∃ (cs0 : List Value), v = .agg cs0.toArray ∧ N0.R h' cs0 r ∧ Sub h h' := by
 unfold Y00 at hM0
 refine A3 (args := [.int .i64 p0, .int .i64 p1, .int .i64 p2]) (fn := Tryz.f220) rfl ?_
 refine And.intro (fun hc1 => ?_) (fun hc1 => ?_)
 ·replace hM0 := ifP hM0 hc1
  have hE := Option.some.inj hM0; subst hE
  exact ⟨([.int .i64 p2, .int .i64 (IntKind.i64.wrap (0 - p1)), .int .i64 p0]), rfl, (D1 ip2 (M0 _) ip0), (Sub.refl _)⟩
 ·replace hM0 := ifN hM0 hc1
  have hE := Option.some.inj hM0; subst hE
  exact ⟨([.int .i64 p0, .int .i64 p1, .int .i64 p2]), rfl, (D1 ip0 ip1 ip2), (Sub.refl _)⟩
theorem o9 (h : Hp) (ap0 : Option Addr) (np0 cp0 : Nat) (p0 : D0) (rp0 : O0.R h [.slice ap0 np0 cp0] p0) (csp1 : List Value) (p1 : B0) (rp1 : N0.R h csp1 p1) (r : Int) (hM0 : P3 p0 p1 = some r) :
  Tr Tryz.prog 219 #[.slice ap0 np0 cp0, .agg csp1.toArray] h fun v h' => v = .int .i64 r ∧ h' = h := by
 obtain ⟨rfl, lp0⟩ := Sl.len rp0
 obtain ⟨p1_0, p1_1, p1_2, rfl, rfl, ip1_0, ip1_1, ip1_2⟩ := H1 rp1
 unfold P3 at hM0
 dsimp only at hM0
 refine Tr.forget (A3 (args := [.slice ap0 p0.length cp0, .agg #[.int .i64 p1_0, .int .i64 p1_1, .int .i64 p1_2]]) (fn := Tryz.f219) rfl ?_)
 obtain ⟨X1, hLX1, hM0⟩ := l0 hM0
 refine Exists.intro { vars := [8], boxes := [], owns := [], fuel := true } (Exists.intro (fun vs os h' => ∃ (u2 : Int), vs.tail = [.int .i64 u2] ∧ os = [] ∧ Sub h h' ∧ P0 u2 ∧ Y0 p0 p1_0 p1_1 p1_2 (C2 vs) u2 = some X1) (Exists.intro (fun _ _ => 0) ?_))
 refine And.intro (Exists.intro T0 ⟨0, rfl, rfl, (Sub.refl _), (c64 (by decide) (by decide)), hLX1⟩) ?_
 rintro v_0 m4 k3 ⟨u2, evX1, eoX1, sX1, iu2, hM1⟩
 cases evX1
 cases eoX1
 replace hM1 : Y0 p0 p1_0 p1_1 p1_2 m4 u2 = some X1 := hM1
 obtain _ | m4 := m4
 ·cases (show (none : Option _) = some X1 from hM1)
 rw [Y0.eq_2] at hM1
 refine And.intro (fun hc5 => ?_) (fun hc5 => ?_)
 ·replace hM1 := ifP hM1 hc5
  refine Or.inl (And.intro (And.intro (by kernel_rfl) (by kernel_rfl)) ?_)
  obtain ⟨x6, gx6, hM1⟩ := l0 hM1
  obtain ⟨bx6, csx6, ex6, rx6⟩ := Sl.getI (r := N0.toRp) (O0.mono sX1 rp0) gx6 (by decide)
  refine And.intro bx6 ?_
  obtain ⟨x6_0, x6_1, x6_2, rfl, rfl, ix6_0, ix6_1, ix6_2⟩ := H1 rx6
  try dsimp only at hM1
  refine Exists.intro _ (And.intro ex6 ?_)
  refine Exists.intro (eqE (p1_0, p1_1, p1_2) (x6_0, x6_1, x6_2)) (And.intro (K0g _ _ _ rfl _ _ _ _ _ _) ?_)
  refine And.intro (fun hc7 => ?_) (fun hc7 => ?_)
  ·replace hM1 := ifP hM1 hc7
   have hE := Option.some.inj hM1; subst hE
   try dsimp only [Q3, Y3] at hM0
   have hE := Option.some.inj hM0; subst hE
   exact And.intro rfl sX1
  ·replace hM1 := ifN hM1 hc7
   refine And.intro rfl (And.intro (by repeat (first | exact trivial | refine And.intro rfl ?_)) (And.intro (by repeat (first | exact trivial | refine And.intro rfl ?_)) (Exists.intro m4 (And.intro ⟨(IntKind.i64.wrap (u2 + 1)), rfl, rfl, sX1, (M0 _), hM1⟩ (Nat.lt_succ_self _)))))
 ·replace hM1 := ifN hM1 hc5
  have hE := Option.some.inj hM1; subst hE
  try dsimp only [V0, Z0] at hM0
  have hE := Option.some.inj hM0; subst hE
  exact And.intro rfl sX1
theorem N8 (h : Hp) (ap0 : Option Addr) (np0 cp0 : Nat) (p0 : D0) (rp0 : O0.R h [.slice ap0 np0 cp0] p0) (csp1 : List Value) (p1 : B0) (rp1 : N0.R h csp1 p1) (r : Bool) (hM0 : A2 p0 p1 = some r) :
  Tr Tryz.prog 284 #[.slice ap0 np0 cp0, .agg csp1.toArray] h fun v h' => v = .bool r ∧ h' = h := by
 obtain ⟨rfl, lp0⟩ := Sl.len rp0
 obtain ⟨p1_0, p1_1, p1_2, rfl, rfl, ip1_0, ip1_1, ip1_2⟩ := H1 rp1
 unfold A2 at hM0
 dsimp only at hM0
 refine Tr.forget (A3 (args := [.slice ap0 p0.length cp0, .agg #[.int .i64 p1_0, .int .i64 p1_1, .int .i64 p1_2]]) (fn := Tryz.f284) rfl ?_)
 obtain ⟨x1, gx1, hM0⟩ := l0 hM0
 refine Tr.val (o9 _ ap0 p0.length cp0 p0 rp0 [.int .i64 p1_0, .int .i64 p1_1, .int .i64 p1_2] (p1_0, p1_1, p1_2) (D1 ip1_0 ip1_1 ip1_2) _  gx1) ?_
 obtain ⟨q2, gq2, hM0⟩ := l0 hM0
 have ix1 : P0 x1 := E3 gq2
 have hE := Option.some.inj hM0; subst hE
 exact And.intro rfl (Sub.refl _)
end Go.Proofs.YtknoadmdnjaocaaGreat
namespace Go.Proofs.YtknoadmdnjaocaaGreat
open Go.H
set_option linter.unusedVariables false
set_option linter.unusedSimpArgs false
set_option maxRecDepth 10000
theorem P05 (h : Hp) (csp0 : List Value) (p0 : j0) (rp0 : P1.R h csp0 p0) (ap1 : Option Addr) (np1 cp1 : Nat) (p1 : J0) (rp1 : O1.R h [.slice ap1 np1 cp1] p1) (r : Bool) (hM0 : r7 p0 p1 = some r) :
  Tr Tryz.prog 244 #[.agg csp0.toArray, .slice ap1 np1 cp1] h fun v h' => v = .bool r ∧ h' = h := by
 obtain ⟨p0_0, p0_1, ap0_2, np0_2, cp0_2, p0_2, rfl, rfl, ip0_0, ip0_1, rp0_2⟩ := K0 rp0
 obtain ⟨rfl, lp0_2⟩ := Sl.len rp0_2
 obtain ⟨rfl, lp1⟩ := Sl.len rp1
 unfold r7 at hM0
 dsimp only at hM0
 refine Tr.forget (A3 (args := [.agg #[.int .i64 p0_0, .int .i64 p0_1, .slice ap0_2 p0_2.length cp0_2], .slice ap1 p1.length cp1]) (fn := Tryz.f244) rfl ?_)
 obtain ⟨x1, gx1, hM0⟩ := l0 hM0
 obtain ⟨x1_0, x1_1⟩ := x1
 try dsimp only at hM0
 refine Tr.val (S06 _ [.int .i64 p0_0, .int .i64 p0_1, .slice ap0_2 p0_2.length cp0_2] (p0_0, p0_1, p0_2) (z0 ip0_0 ip0_1 rp0_2) 0 (c64 (by decide) (by decide)) ap1 p1.length cp1 p1 rp1 _  gx1) ?_
 obtain ⟨q2, gq2, hM0⟩ := l0 hM0
 have ix1_0 : P0 x1_0 := E3 gq2
 obtain ⟨q3, gq3, hM0⟩ := l0 hM0
 have ix1_1 : P0 x1_1 := E3 gq3
 have hE := Option.some.inj hM0; subst hE
 exact And.intro rfl (Sub.refl _)
end Go.Proofs.YtknoadmdnjaocaaGreat
namespace Go.Proofs.YtknoadmdnjaocaaGreat
open Go.H
set_option linter.unusedVariables false
set_option linter.unusedSimpArgs false
set_option maxRecDepth 10000
set_option maxHeartbeats 0
theorem z0a (h : Hp) (csp0 : List Value) (p0 : L1) (rp0 : I3.R h csp0 p0) (p1 : ByteArray) (ip1 : p1.size ≤ 9223372036854775807) (r : j0 × Bool) (hM0 : G9 p0 p1 = some r) :
  Tr Tryz.prog 68 #[.agg csp0.toArray, .string p1] h fun v h' => ∃ (cs0 : List Value), v = .tuple #[.agg cs0.toArray, .bool r.2] ∧ New P1 h h' cs0 r.1 := by
 obtain ⟨p0_0, ap0_1, np0_1, cp0_1, p0_1, rfl, rfl, ip0_0, rp0_1⟩ := H4 rp0
 obtain ⟨rfl, lp0_1⟩ := Sl.len rp0_1
 unfold G9 at hM0
 dsimp only at hM0
 refine A3 (args := [.agg #[.int .i64 p0_0, .slice ap0_1 p0_1.length cp0_1], .string p1]) (fn := Tryz.f68) rfl ?_
 obtain ⟨x1, gx1, hM0⟩ := l0 hM0
 refine Tr.val (Y04 _ [.int .i64 p0_0, .slice ap0_1 p0_1.length cp0_1] (p0_0, p0_1) (t6 ip0_0 rp0_1) p1 ip1 _  gx1) ?_
 obtain ⟨q2, gq2, hM0⟩ := l0 hM0
 have ix1 : P0 x1 := E3 gq2
 refine And.intro (fun hc3 => ?_) (fun hc3 => ?_)
 ·replace hM0 := ifP hM0 hc3
  have hE := Option.some.inj hM0; subst hE
  exact ⟨([.int .i64 0, .int .i64 0, .slice none 0 0]), rfl, (New.pair (New.int (c64 (by decide) (by decide))) (New.pair (New.int (c64 (by decide) (by decide))) ((New.nilSlice (r := N0)).mono (Sub.refl _))))⟩
 ·replace hM0 := ifN hM0 hc3
  obtain ⟨x4, gx4, hM0⟩ := l0 hM0
  obtain ⟨bx4, csx4, ex4, rx4⟩ := Sl.getI (r := M4.toRp) rp0_1 gx4 (by decide)
  refine And.intro bx4 ?_
  obtain ⟨x4_0, x4_1, x4_2, ax4_3, nx4_3, cx4_3, x4_3, rfl, rfl, ix4_0, ix4_1, ix4_2, rx4_3⟩ := L4 rx4
  obtain ⟨rfl, lx4_3⟩ := Sl.len rx4_3
  try dsimp only at hM0
  refine Exists.intro _ (And.intro ex4 ?_)
  obtain ⟨x5, gx5, hM0⟩ := l0 hM0
  refine Tr.mono (F00 _ [.int .i64 x4_1, .int .i64 x4_2, .slice ax4_3 x4_3.length cx4_3] (x4_1, x4_2, x4_3) (z0 ix4_1 ix4_2 rx4_3) _  gx5) ?_
  rintro v7 k6 ⟨gx5_2, nx5_2, cx5_2, rfl, wx5⟩
  have sx5 : Sub h k6 := wx5.sub
  have rx5 := wx5.r
  obtain ⟨x5_0, x5_1, x5_2⟩ := x5
  dsimp only at hM0 wx5 rx5
  obtain ⟨_, _, _, _, _, _, ecx5, exx5, ix5_0, ix5_1, rx5_2⟩ := K0 rx5
  cases ecx5
  cases exx5
  obtain ⟨rfl, lx5_2⟩ := Sl.len rx5_2
  try dsimp only at hM0
  have we8 := New.sndI (New.sndI (wx5))
  have hE := Option.some.inj hM0; subst hE
  exact ⟨([.int .i64 x5_0, .int .i64 x5_1, .slice (some ⟨gx5_2, 0, none⟩) x5_2.length cx5_2]), rfl, (New.pair (New.int ix5_0) (New.pair (New.int ix5_1) we8))⟩
theorem P07 (h : Hp) (csp0 : List Value) (p0 : j0) (rp0 : P1.R h csp0 p0) (r : D0) (hM0 : l8 p0 = some r) :
  Tr Tryz.prog 283 #[.agg csp0.toArray] h fun v h' => ∃ (a0 : Option Addr) (n0 c0 : Nat), v = .slice a0 n0 c0 ∧ New O0 h h' [.slice a0 n0 c0] r := by
 obtain ⟨p0_0, p0_1, ap0_2, np0_2, cp0_2, p0_2, rfl, rfl, ip0_0, ip0_1, rp0_2⟩ := K0 rp0
 obtain ⟨rfl, lp0_2⟩ := Sl.len rp0_2
 unfold l8 at hM0
 dsimp only at hM0
 refine A3 (args := [.agg #[.int .i64 p0_0, .int .i64 p0_1, .slice ap0_2 p0_2.length cp0_2]]) (fn := Tryz.f283) rfl ?_
 obtain ⟨x1, gx1, hM0⟩ := l0 hM0
 refine Tr.mono (u00 _ [.int .i64 p0_0, .int .i64 p0_1, .slice ap0_2 p0_2.length cp0_2] (p0_0, p0_1, p0_2) (z0 ip0_0 ip0_1 rp0_2) 0 (c64 (by decide) (by decide)) _  gx1) ?_
 rintro v3 k2 ⟨ax1_0, nx1_0, cx1_0, ax1_1, nx1_1, cx1_1, rfl, rx1_0, rx1_1, sx1⟩
 obtain ⟨x1_0, x1_1⟩ := x1
 dsimp only at hM0 rx1_0 rx1_1
 obtain ⟨rfl, lx1_0⟩ := Sl.len rx1_0
 obtain ⟨rfl, lx1_1⟩ := Sl.len rx1_1
 obtain ⟨x4, gx4, hM0⟩ := l0 hM0
 obtain ⟨qx4, vsx4, ex4, fx4⟩ := Sl.cutI (r := Wp.int.toRp) rx1_0 gx4
 refine And.intro qx4 (Exists.intro vsx4 (And.intro ex4 ?_))
 intro vx4 hvx4 _
 obtain ⟨ax4, cx4, rfl, rx4⟩ := fx4 vx4 hvx4
 have lx4 := (Sl.len rx4).2
 obtain ⟨X5, hLX5, hM0⟩ := l0 hM0
 refine Exists.intro { vars := [20], boxes := [], owns := [0], fuel := true } (Exists.intro (fun vs os h' => ∃ (u6 : Int) (wu7 : List (List Value)) (u7 : List B0), vs.tail = [.int .i64 u6] ∧ os = [wu7] ∧ Sub k2 h' ∧ P0 u6 ∧ F2 (N0.R h') wu7 u7 ∧ S4 x4 x1_1 p0_0 p0_1 p0_2 (C2 vs) u6 u7 = some X5) (Exists.intro (fun _ _ => 0) ?_))
 refine And.intro (Exists.intro T0 ⟨0, [], ([] : D0), rfl, rfl, (Sub.refl _), (c64 (by decide) (by decide)), (F2.up (r := N0.toRp) sx1 (show F2 (N0.R h) ([] : List (List Value)) ([] : D0) from trivial)), hLX5⟩) ?_
 rintro v_0 wu7 m9 k8 ⟨u6, zzu7, u7, evX5, eoX5, sX5, iu6, fu7, hM1⟩
 cases evX5
 cases eoX5
 replace hM1 : S4 x4 x1_1 p0_0 p0_1 p0_2 m9 u6 u7 = some X5 := hM1
 obtain _ | m9 := m9
 ·cases (show (none : Option _) = some X5 from hM1)
 rw [S4.eq_2] at hM1
 refine And.intro (fun hc10 => ?_) (fun hc10 => ?_)
 ·replace hM1 := ifP hM1 hc10
  obtain ⟨x11, gx11, hM1⟩ := l0 hM1
  obtain ⟨bx11, csx11, ex11, rx11⟩ := Sl.getI (r := Wp.int.toRp) (O1.mono sX5 rx4) gx11 (by decide)
  refine And.intro bx11 ?_
  obtain ⟨rfl, ix11⟩ := rx11
  refine Exists.intro _ (And.intro ex11 ?_)
  obtain ⟨x12, gx12, hM1⟩ := l0 hM1
  obtain ⟨bx12, csx12, ex12, rx12⟩ := Sl.getI (r := O1.toRp) (S9.mono sX5 rx1_1) gx12 (by decide)
  refine And.intro bx12 ?_
  obtain ⟨ax12, nx12, cx12, rfl⟩ := Wp.slice_cell rx12
  obtain ⟨rfl, lx12⟩ := Sl.len rx12
  refine Exists.intro _ (And.intro ex12 ?_)
  obtain ⟨x13, gx13, hM1⟩ := l0 hM1
  obtain ⟨bx13, csx13, ex13, rx13⟩ := Sl.getI (r := Wp.int.toRp) rx12 gx13 (by decide)
  refine And.intro bx13 ?_
  obtain ⟨rfl, ix13⟩ := rx13
  refine Exists.intro _ (And.intro ex13 ?_)
  obtain ⟨x14, gx14, hM1⟩ := l0 hM1
  refine Tr.val (s00 _ [.int .i64 p0_0, .int .i64 p0_1, .slice ap0_2 p0_2.length cp0_2] (p0_0, p0_1, p0_2) (z0 ip0_0 ip0_1 (O0.mono (sx1.trans sX5) rp0_2)) x11 ix11 (IntKind.i64.wrap (0 - x13)) (M0 _) _  gx14) ?_
  obtain ⟨q15, gq15, hM1⟩ := l0 hM1
  have ix14 : P0 x14 := E3 gq15
  obtain ⟨x16, gx16, hM1⟩ := l0 hM1
  refine Tr.mono (m0e _ x14 ix14 x13 ix13 x11 ix11 _  gx16) ?_
  rintro v18 k17 ⟨csx16, rfl, rx16, sx16⟩
  obtain ⟨x16_0, x16_1, x16_2, rfl, rfl, ix16_0, ix16_1, ix16_2⟩ := H1 rx16
  try dsimp only at hM1
  obtain ⟨q19, gq19, hM1⟩ := l0 hM1
  refine And.intro (l3 gq19 (by first | rw [F2.length (F2.up (r := N0.toRp) sx16 fu7), F2.length (show F2 (N0.R k17) ([[.int .i64 x16_0, .int .i64 x16_1, .int .i64 x16_2]] : List (List Value)) [(x16_0, x16_1, x16_2)] from ⟨(D1 ix16_0 ix16_1 ix16_2), trivial⟩)] | exact congrArg (· + 1) (F2.length (F2.up (r := N0.toRp) sx16 fu7)))) ?_
  refine And.intro rfl (And.intro (by repeat (first | exact trivial | refine And.intro rfl ?_)) (And.intro (by repeat (first | exact trivial | refine And.intro rfl ?_)) (Exists.intro m9 (And.intro ⟨(IntKind.i64.wrap (u6 + 1)), (wu7 ++ ([[.int .i64 x16_0, .int .i64 x16_1, .int .i64 x16_2]] : List (List Value))), (u7 ++ [(x16_0, x16_1, x16_2)]), rfl, rfl, (sX5.trans sx16), (M0 _), (F2.append (F2.up (r := N0.toRp) sx16 fu7) (show F2 (N0.R k17) ([[.int .i64 x16_0, .int .i64 x16_1, .int .i64 x16_2]] : List (List Value)) [(x16_0, x16_1, x16_2)] from ⟨(D1 ix16_0 ix16_1 ix16_2), trivial⟩)), hM1⟩ (Nat.lt_succ_self _)))))
 ·replace hM1 := ifN hM1 hc10
  have hE := Option.some.inj hM1; subst hE
  try dsimp only [V0, Z0] at hM0
  refine Or.inl ?_
  intro v20 k21 f22
  obtain ⟨az23, cz23, rfl, rz23, sz23, lz23⟩ := S0.out (r := N0.toRp) f22 fu7
  obtain ⟨x24, gx24, hM0⟩ := l0 hM0
  refine Tr.mono (o05 _ az23 u7.length cz23 u7 rz23 _  gx24) ?_
  rintro v26 k25 ⟨ax24, nx24, cx24, rfl, wx24⟩
  have sx24 : Sub k21 k25 := wx24.sub
  have rx24 := wx24.r
  obtain ⟨rfl, lx24⟩ := Sl.len rx24
  have hE := Option.some.inj hM0; subst hE
  exact ⟨ax24, x24.length, cx24, rfl, (New.from wx24 ((sx1.trans sX5).trans sz23))⟩
theorem T06 (h : Hp) (csp0 : List Value) (p0 : j0) (rp0 : P1.R h csp0 p0) (r : D0) (hM0 : I7 p0 = some r) :
  Tr Tryz.prog 217 #[.agg csp0.toArray] h fun v h' => ∃ (a0 : Option Addr) (n0 c0 : Nat), v = .slice a0 n0 c0 ∧ New O0 h h' [.slice a0 n0 c0] r := by
 obtain ⟨p0_0, p0_1, ap0_2, np0_2, cp0_2, p0_2, rfl, rfl, ip0_0, ip0_1, rp0_2⟩ := K0 rp0
 obtain ⟨rfl, lp0_2⟩ := Sl.len rp0_2
 unfold I7 at hM0
 dsimp only at hM0
 refine A3 (args := [.agg #[.int .i64 p0_0, .int .i64 p0_1, .slice ap0_2 p0_2.length cp0_2]]) (fn := Tryz.f217) rfl ?_
 obtain ⟨x1, gx1, hM0⟩ := l0 hM0
 refine Tr.val (K9 _ [.int .i64 p0_0, .int .i64 p0_1, .slice ap0_2 p0_2.length cp0_2] (p0_0, p0_1, p0_2) (z0 ip0_0 ip0_1 rp0_2) _  gx1) ?_
 refine And.intro (fun hc2 => ?_) (fun hc2 => ?_)
 ·replace hM0 := ifP hM0 hc2
  intro v3 k4 f5
  obtain ⟨az6, cz6, rfl, rz6, sz6, lz6⟩ := S0.out (r := N0.toRp) f5 (show F2 (N0.R h) ([] : List (List Value)) ([] : D0) from trivial)
  have hE := Option.some.inj hM0; subst hE
  exact ⟨az6, (([] : D0)).length, cz6, rfl, (S0.newPlain (r := N0) f5 (show F2 (N0.R h) ([] : List (List Value)) ([] : D0) from trivial) (A0c _))⟩
 ·replace hM0 := ifN hM0 hc2
  obtain ⟨x7, gx7, hM0⟩ := l0 hM0
  refine Tr.mono (P07 _ [.int .i64 p0_0, .int .i64 p0_1, .slice ap0_2 p0_2.length cp0_2] (p0_0, p0_1, p0_2) (z0 ip0_0 ip0_1 rp0_2) _  gx7) ?_
  rintro v9 k8 ⟨ax7, nx7, cx7, rfl, wx7⟩
  have sx7 : Sub h k8 := wx7.sub
  have rx7 := wx7.r
  obtain ⟨rfl, lx7⟩ := Sl.len rx7
  obtain ⟨X10, hLX10, hM0⟩ := l0 hM0
  refine Exists.intro { vars := [17], boxes := [], owns := [0], fuel := true } (Exists.intro (fun vs os h' => ∃ (u11 : Int) (wu12 : List (List Value)) (u12 : List B0), vs.tail = [.int .i64 u11] ∧ os = [wu12] ∧ Sub k8 h' ∧ P0 u11 ∧ F2 (N0.R h') wu12 u12 ∧ V3 p0_2 x7 (C2 vs) u11 u12 = some X10) (Exists.intro (fun _ _ => 0) ?_))
  refine And.intro (Exists.intro T0 ⟨0, [], ([] : D0), rfl, rfl, (Sub.refl _), (c64 (by decide) (by decide)), (F2.up (r := N0.toRp) sx7 (show F2 (N0.R h) ([] : List (List Value)) ([] : D0) from trivial)), hLX10⟩) ?_
  rintro v_0 wu12 m14 k13 ⟨u11, zzu12, u12, evX10, eoX10, sX10, iu11, fu12, hM1⟩
  cases evX10
  cases eoX10
  replace hM1 : V3 p0_2 x7 m14 u11 u12 = some X10 := hM1
  obtain _ | m14 := m14
  ·cases (show (none : Option _) = some X10 from hM1)
  rw [V3.eq_2] at hM1
  refine And.intro (fun hc15 => ?_) (fun hc15 => ?_)
  ·replace hM1 := ifP hM1 hc15
   obtain ⟨x16, gx16, hM1⟩ := l0 hM1
   obtain ⟨bx16, csx16, ex16, rx16⟩ := Sl.getI (r := N0.toRp) (O0.mono (sx7.trans sX10) rp0_2) gx16 (by decide)
   refine And.intro bx16 ?_
   obtain ⟨x16_0, x16_1, x16_2, rfl, rfl, ix16_0, ix16_1, ix16_2⟩ := H1 rx16
   try dsimp only at hM1
   refine Exists.intro _ (And.intro ex16 ?_)
   obtain ⟨x17, gx17, hM1⟩ := l0 hM1
   refine Tr.val (N8 _ ax7 x7.length cx7 x7 (O0.mono sX10 rx7) [.int .i64 x16_0, .int .i64 x16_1, .int .i64 x16_2] (x16_0, x16_1, x16_2) (D1 ix16_0 ix16_1 ix16_2) _  gx17) ?_
   refine And.intro (fun hc18 => ?_) (fun hc18 => ?_)
   ·replace hM1 := ifP hM1 hc18
    obtain ⟨q19, gq19, hM1⟩ := l0 hM1
    refine And.intro (l3 gq19 (by first | rw [F2.length fu12, F2.length (show F2 (N0.R k13) ([[.int .i64 x16_0, .int .i64 x16_1, .int .i64 x16_2]] : List (List Value)) [(x16_0, x16_1, x16_2)] from ⟨(D1 ix16_0 ix16_1 ix16_2), trivial⟩)] | exact congrArg (· + 1) (F2.length fu12))) ?_
    refine And.intro rfl (And.intro (by repeat (first | exact trivial | refine And.intro rfl ?_)) (And.intro (by repeat (first | exact trivial | refine And.intro rfl ?_)) (Exists.intro m14 (And.intro ⟨(IntKind.i64.wrap (u11 + 1)), (wu12 ++ ([[.int .i64 x16_0, .int .i64 x16_1, .int .i64 x16_2]] : List (List Value))), (u12 ++ [(x16_0, x16_1, x16_2)]), rfl, rfl, sX10, (M0 _), (F2.append fu12 (show F2 (N0.R k13) ([[.int .i64 x16_0, .int .i64 x16_1, .int .i64 x16_2]] : List (List Value)) [(x16_0, x16_1, x16_2)] from ⟨(D1 ix16_0 ix16_1 ix16_2), trivial⟩)), hM1⟩ (Nat.lt_succ_self _)))))
   ·replace hM1 := ifN hM1 hc18
    refine And.intro rfl (And.intro (by repeat (first | exact trivial | refine And.intro rfl ?_)) (And.intro (by repeat (first | exact trivial | refine And.intro rfl ?_)) (Exists.intro m14 (And.intro ⟨(IntKind.i64.wrap (u11 + 1)), wu12, u12, rfl, rfl, sX10, (M0 _), fu12, hM1⟩ (Nat.lt_succ_self _)))))
  ·replace hM1 := ifN hM1 hc15
   have hE := Option.some.inj hM1; subst hE
   try dsimp only [V0, Z0] at hM0
   intro v20 k21 f22
   obtain ⟨az23, cz23, rfl, rz23, sz23, lz23⟩ := S0.out (r := N0.toRp) f22 fu12
   have hE := Option.some.inj hM0; subst hE
   exact ⟨az23, u12.length, cz23, rfl, (New.from (S0.newPlain (r := N0) f22 fu12 (A0c _)) (sx7.trans sX10))⟩
theorem k0a (h : Hp) (csp0 : List Value) (p0 : j0) (rp0 : P1.R h csp0 p0) (r : W7) (hM0 : n8 p0 = some r) :
  Tr Tryz.prog 144 #[.agg csp0.toArray] h fun v h' => ∃ (a0 : Option Addr) (n0 c0 : Nat), v = .slice a0 n0 c0 ∧ S9.R h' [.slice a0 n0 c0] r ∧ Sub h h' := by
 obtain ⟨p0_0, p0_1, ap0_2, np0_2, cp0_2, p0_2, rfl, rfl, ip0_0, ip0_1, rp0_2⟩ := K0 rp0
 obtain ⟨rfl, lp0_2⟩ := Sl.len rp0_2
 unfold n8 at hM0
 dsimp only at hM0
 refine A3 (args := [.agg #[.int .i64 p0_0, .int .i64 p0_1, .slice ap0_2 p0_2.length cp0_2]]) (fn := Tryz.f144) rfl ?_
 obtain ⟨x1, gx1, hM0⟩ := l0 hM0
 refine Tr.val (H9 _ [.int .i64 p0_0, .int .i64 p0_1, .slice ap0_2 p0_2.length cp0_2] (p0_0, p0_1, p0_2) (z0 ip0_0 ip0_1 rp0_2) _  gx1) ?_
 refine And.intro (fun hc2 => ?_) (fun hc2 => ?_)
 ·replace hM0 := ifP hM0 hc2
  intro v3 k4 f5
  obtain ⟨az6, cz6, rfl, rz6, sz6, lz6⟩ := S0.out (r := O1.toRp) f5 (show F2 (O1.R h) ([] : List (List Value)) ([] : W7) from trivial)
  have hE := Option.some.inj hM0; subst hE
  exact ⟨az6, (([] : W7)).length, cz6, rfl, rz6, sz6⟩
 ·replace hM0 := ifN hM0 hc2
  obtain ⟨x7, gx7, hM0⟩ := l0 hM0
  refine Tr.mono (u00 _ [.int .i64 p0_0, .int .i64 p0_1, .slice ap0_2 p0_2.length cp0_2] (p0_0, p0_1, p0_2) (z0 ip0_0 ip0_1 rp0_2) 0 (c64 (by decide) (by decide)) _  gx7) ?_
  rintro v9 k8 ⟨ax7_0, nx7_0, cx7_0, ax7_1, nx7_1, cx7_1, rfl, rx7_0, rx7_1, sx7⟩
  obtain ⟨x7_0, x7_1⟩ := x7
  dsimp only at hM0 rx7_0 rx7_1
  obtain ⟨rfl, lx7_0⟩ := Sl.len rx7_0
  obtain ⟨rfl, lx7_1⟩ := Sl.len rx7_1
  obtain ⟨x10, gx10, hM0⟩ := l0 hM0
  refine Tr.mono (T06 _ [.int .i64 p0_0, .int .i64 p0_1, .slice ap0_2 p0_2.length cp0_2] (p0_0, p0_1, p0_2) (z0 ip0_0 ip0_1 (O0.mono sx7 rp0_2)) _  gx10) ?_
  rintro v12 k11 ⟨ax10, nx10, cx10, rfl, wx10⟩
  have sx10 : Sub k8 k11 := wx10.sub
  have rx10 := wx10.r
  obtain ⟨rfl, lx10⟩ := Sl.len rx10
  obtain ⟨X13, hLX13, hM0⟩ := l0 hM0
  refine Exists.intro { vars := [21], boxes := [], owns := [0], fuel := true } (Exists.intro (fun vs os h' => ∃ (u14 : Int) (wu15 : List (List Value)) (u15 : List J0), vs.tail = [.int .i64 u14] ∧ os = [wu15] ∧ Sub k11 h' ∧ P0 u14 ∧ F2 (O1.R h') wu15 u15 ∧ J5 x10 x7_1 (C2 vs) u14 u15 = some X13) (Exists.intro (fun _ _ => 0) ?_))
  refine And.intro (Exists.intro T0 ⟨0, [], ([] : W7), rfl, rfl, (Sub.refl _), (c64 (by decide) (by decide)), (F2.up (r := O1.toRp) (sx7.trans sx10) (show F2 (O1.R h) ([] : List (List Value)) ([] : W7) from trivial)), hLX13⟩) ?_
  rintro v_0 wu15 m17 k16 ⟨u14, zzu15, u15, evX13, eoX13, sX13, iu14, fu15, hM1⟩
  cases evX13
  cases eoX13
  replace hM1 : J5 x10 x7_1 m17 u14 u15 = some X13 := hM1
  obtain _ | m17 := m17
  ·cases (show (none : Option _) = some X13 from hM1)
  rw [J5.eq_2] at hM1
  refine And.intro (fun hc18 => ?_) (fun hc18 => ?_)
  ·replace hM1 := ifP hM1 hc18
   obtain ⟨x19, gx19, hM1⟩ := l0 hM1
   obtain ⟨bx19, csx19, ex19, rx19⟩ := Sl.getI (r := N0.toRp) (O0.mono sX13 rx10) gx19 (by decide)
   refine And.intro bx19 ?_
   obtain ⟨x19_0, x19_1, x19_2, rfl, rfl, ix19_0, ix19_1, ix19_2⟩ := H1 rx19
   try dsimp only at hM1
   refine Exists.intro _ (And.intro ex19 ?_)
   refine Or.inr (Or.inr (Or.inr (Or.inr (Exists.intro 18 (And.intro (And.intro (by kernel_rfl) (by kernel_rfl)) ?_)))))
   obtain ⟨x20, gx20, hM1⟩ := l0 hM1
   obtain ⟨bx20, csx20, ex20, rx20⟩ := Sl.getI (r := O1.toRp) (S9.mono (sx10.trans sX13) rx7_1) gx20 (by decide)
   obtain ⟨ax20, nx20, cx20, rfl⟩ := Wp.slice_cell rx20
   obtain ⟨rfl, lx20⟩ := Sl.len rx20
   refine Or.inl (Exists.intro (.hel (.slice ax7_1 x7_1.length cx7_1) x19_0 1 0) (And.intro ?_ ?_))
   ·intro k21 s22
    exact And.intro bx20 (And.intro rfl (And.intro rfl rfl))
   refine Or.inl (Exists.intro (.val (.slice ax20 x20.length cx20)) (And.intro ?_ ?_))
   ·intro k23 s24
    exact Exists.intro _ (And.intro (L9.up s24 ex20) (And.intro rfl (And.intro rfl rfl)))
   obtain ⟨x25, gx25, hM1⟩ := l0 hM1
   refine Or.inr (Exists.intro (fun v hh => ∃ (a : Option Addr) (c : Nat), v = .slice a x25.length c ∧ O1.R hh [.slice a x25.length c] x25 ∧ x25.length ≤ 9223372036854775807) (And.intro (fun v h1 h2 sb q => by obtain ⟨a, c, e, r, l⟩ := q; exact ⟨a, c, e, O1.mono sb r, l⟩) (And.intro ?_ ?_)))
   ·intro k26 s27
    have ex25 : [x19_1] = x25 := Option.some.inj gx25
    intro v k hf
    obtain ⟨a, c, rfl, r, sb, l⟩ := S0.out (r := Wp.int.toRp) (xs := x25) hf (show F2 (Wp.int.R k26) [[.int .i64 x19_1]] x25 from ex25 ▸ (show F2 (Wp.int.R k26) [[.int .i64 x19_1]] [x19_1] from ⟨⟨rfl, ix19_1⟩, trivial⟩))
    exact And.intro ⟨rfl, rfl, rfl, [_], rfl⟩ (And.intro sb ⟨a, c, rfl, r, l⟩)
   obtain ⟨x28, gx28, hM1⟩ := l0 hM1
   obtain ⟨bx28, csx28, ex28, rx28⟩ := Sl.getI (r := O1.toRp) (S9.mono (sx10.trans sX13) rx7_1) gx28 (by decide)
   obtain ⟨ax28, nx28, cx28, rfl⟩ := Wp.slice_cell rx28
   obtain ⟨rfl, lx28⟩ := Sl.len rx28
   refine Or.inl (Exists.intro (.hel (.slice ax7_1 x7_1.length cx7_1) x19_2 1 0) (And.intro ?_ ?_))
   ·intro k29 s30
    exact And.intro bx28 (And.intro rfl (And.intro rfl rfl))
   refine Or.inl (Exists.intro (.val (.slice ax28 x28.length cx28)) (And.intro ?_ ?_))
   ·intro k31 s32
    exact Exists.intro _ (And.intro (L9.up s32 ex28) (And.intro rfl (And.intro rfl rfl)))
   obtain ⟨x33, gx33, hM1⟩ := l0 hM1
   refine Or.inr (Exists.intro (fun v hh => ∃ (a : Option Addr) (c : Nat), v = .slice a x33.length c ∧ O1.R hh [.slice a x33.length c] x33 ∧ x33.length ≤ 9223372036854775807) (And.intro (fun v h1 h2 sb q => by obtain ⟨a, c, e, r, l⟩ := q; exact ⟨a, c, e, O1.mono sb r, l⟩) (And.intro ?_ ?_)))
   ·intro k34 s35
    refine Tr.mono (R06 _ ax28 x28.length cx28 x28 (O1.mono s35 rx28) _ gx33) ?_
    rintro _ kk ⟨ax33, nx33, cx33, rfl, wx33⟩
    have sb := wx33.sub
    have rx33 := wx33.r
    obtain ⟨rfl, lx33⟩ := Sl.len rx33
    exact And.intro b0b (And.intro sb ⟨ax33, cx33, rfl, rx33, lx33⟩)
   obtain ⟨x36, gx36, hM1⟩ := l0 hM1
   refine Or.inr (Exists.intro (fun v hh => ∃ (a : Option Addr) (c : Nat), v = .slice a x36.length c ∧ S9.R hh [.slice a x36.length c] x36 ∧ x36.length ≤ 9223372036854775807) (And.intro (fun v h1 h2 sb q => by obtain ⟨a, c, e, r, l⟩ := q; exact ⟨a, c, e, S9.mono sb r, l⟩) (And.intro ?_ ?_)))
   ·intro k37 s38
    rintro _ ⟨az39, cz39, rfl, rz39, lz39⟩
    rintro _ ⟨az40, cz40, rfl, rz40, lz40⟩
    have ex36 : [x20, x25, x33] = x36 := Option.some.inj gx36
    intro v k hf
    obtain ⟨a, c, rfl, r, sb, l⟩ := S0.out (r := O1.toRp) (xs := x36) hf (show F2 (O1.R k37) [[.slice ax20 x20.length cx20], [.slice az39 x25.length cz39], [.slice az40 x33.length cz40]] x36 from ex36 ▸ (show F2 (O1.R k37) [[.slice ax20 x20.length cx20], [.slice az39 x25.length cz39], [.slice az40 x33.length cz40]] [x20, x25, x33] from ⟨(O1.mono s38 rx20), ⟨rz39, ⟨rz40, trivial⟩⟩⟩))
    exact And.intro ⟨rfl, rfl, rfl, [_], rfl⟩ (And.intro sb ⟨a, c, rfl, r, l⟩)
   obtain ⟨x41, gx41, hM1⟩ := l0 hM1
   refine Or.inr (Exists.intro (fun v hh => ∃ (a : Option Addr) (c : Nat), v = .slice a x41.length c ∧ O1.R hh [.slice a x41.length c] x41 ∧ x41.length ≤ 9223372036854775807) (And.intro (fun v h1 h2 sb q => by obtain ⟨a, c, e, r, l⟩ := q; exact ⟨a, c, e, O1.mono sb r, l⟩) (And.intro ?_ ?_)))
   ·intro k42 s43
    rintro _ ⟨az44, cz44, rfl, rz44, lz44⟩
    refine Tr.mono (t04 _ az44 x36.length cz44 x36 rz44 _ gx41) ?_
    rintro _ kk ⟨ax41, nx41, cx41, rfl, wx41⟩
    have sb := wx41.sub
    have rx41 := wx41.r
    obtain ⟨rfl, lx41⟩ := Sl.len rx41
    exact And.intro b0b (And.intro sb ⟨ax41, cx41, rfl, rx41, lx41⟩)
   obtain ⟨x45, gx45, hM1⟩ := l0 hM1
   refine Or.inr (Exists.intro (fun v hh => ∃ (a : Option Addr) (c : Nat), v = .slice a x45.length c ∧ S9.R hh [.slice a x45.length c] x45 ∧ x45.length ≤ 9223372036854775807) (And.intro (fun v h1 h2 sb q => by obtain ⟨a, c, e, r, l⟩ := q; exact ⟨a, c, e, S9.mono sb r, l⟩) (And.intro ?_ ?_)))
   ·intro k46 s47
    rintro _ ⟨az48, cz48, rfl, rz48, lz48⟩
    have ex45 : [x41] = x45 := Option.some.inj gx45
    intro v k hf
    obtain ⟨a, c, rfl, r, sb, l⟩ := S0.out (r := O1.toRp) (xs := x45) hf (show F2 (O1.R k46) [[.slice az48 x41.length cz48]] x45 from ex45 ▸ (show F2 (O1.R k46) [[.slice az48 x41.length cz48]] [x41] from ⟨rz48, trivial⟩))
    exact And.intro ⟨rfl, rfl, rfl, [_], rfl⟩ (And.intro sb ⟨a, c, rfl, r, l⟩)
   intro k49 s50
   rintro _ ⟨az51, cz51, rfl, rz51, lz51⟩
   rintro _ ⟨az52, cz52, rfl, rz52, lz52⟩
   rintro _ ⟨az53, cz53, rfl, rz53, lz53⟩
   rintro _ ⟨az54, cz54, rfl, rz54, lz54⟩
   rintro _ ⟨az55, cz55, rfl, rz55, lz55⟩
   obtain ⟨vsy56, ey56, fy56⟩ := Sl.rows (r := O1.toRp) rz51
   refine Exists.intro vsy56 (And.intro ey56 ?_)
   obtain ⟨q57, gq57, hM1⟩ := l0 hM1
   refine And.intro (l3 gq57 (by first | rw [F2.length (F2.up (r := O1.toRp) s50 fu15), F2.length fy56] | exact congrArg (· + 1) (F2.length (F2.up (r := O1.toRp) s50 fu15)))) ?_
   refine And.intro rfl (And.intro (by repeat (first | exact trivial | refine And.intro rfl ?_)) (And.intro (by repeat (first | exact trivial | refine And.intro rfl ?_)) (Exists.intro m17 (And.intro ⟨(IntKind.i64.wrap (u14 + 1)), (wu15 ++ vsy56), (u15 ++ x45), rfl, rfl, (sX13.trans s50), (M0 _), (F2.append (F2.up (r := O1.toRp) s50 fu15) fy56), hM1⟩ (Nat.lt_succ_self _)))))
  ·replace hM1 := ifN hM1 hc18
   have hE := Option.some.inj hM1; subst hE
   try dsimp only [V0, Z0] at hM0
   intro v58 k59 f60
   obtain ⟨az61, cz61, rfl, rz61, sz61, lz61⟩ := S0.out (r := O1.toRp) f60 fu15
   have hE := Option.some.inj hM0; subst hE
   exact ⟨az61, u15.length, cz61, rfl, rz61, (((sx7.trans sx10).trans sX13).trans sz61)⟩
theorem Q05 (h : Hp) (csp0 : List Value) (p0 : j0) (rp0 : P1.R h csp0 p0) (ap1 : Option Addr) (np1 cp1 : Nat) (p1 : W7) (rp1 : S9.R h [.slice ap1 np1 cp1] p1) (r : Bool) (hM0 : r6 p0 p1 = some r) :
  Tr Tryz.prog 162 #[.agg csp0.toArray, .slice ap1 np1 cp1] h fun v h' => v = .bool r ∧ h' = h := by
 obtain ⟨p0_0, p0_1, ap0_2, np0_2, cp0_2, p0_2, rfl, rfl, ip0_0, ip0_1, rp0_2⟩ := K0 rp0
 obtain ⟨rfl, lp0_2⟩ := Sl.len rp0_2
 obtain ⟨rfl, lp1⟩ := Sl.len rp1
 unfold r6 at hM0
 dsimp only at hM0
 refine Tr.forget (A3 (args := [.agg #[.int .i64 p0_0, .int .i64 p0_1, .slice ap0_2 p0_2.length cp0_2], .slice ap1 p1.length cp1]) (fn := Tryz.f162) rfl ?_)
 obtain ⟨x1, gx1, hM0⟩ := l0 hM0
 refine Tr.val (H9 _ [.int .i64 p0_0, .int .i64 p0_1, .slice ap0_2 p0_2.length cp0_2] (p0_0, p0_1, p0_2) (z0 ip0_0 ip0_1 rp0_2) _  gx1) ?_
 refine And.intro (fun hc2 => ?_) (fun hc2 => ?_)
 ·replace hM0 := ifP hM0 hc2
  have hE := Option.some.inj hM0; subst hE
  exact And.intro rfl (Sub.refl _)
 ·replace hM0 := ifN hM0 hc2
  obtain ⟨X3, hLX3, hM0⟩ := l0 hM0
  refine Exists.intro { vars := [12], boxes := [], owns := [], fuel := true } (Exists.intro (fun vs os h' => ∃ (u4 : Int), vs.tail = [.int .i64 u4] ∧ os = [] ∧ Sub h h' ∧ P0 u4 ∧ l4 p1 p0_0 p0_1 p0_2 (C2 vs) u4 = some X3) (Exists.intro (fun _ _ => 0) ?_))
  refine And.intro (Exists.intro T0 ⟨0, rfl, rfl, (Sub.refl _), (c64 (by decide) (by decide)), hLX3⟩) ?_
  rintro v_0 m6 k5 ⟨u4, evX3, eoX3, sX3, iu4, hM1⟩
  cases evX3
  cases eoX3
  replace hM1 : l4 p1 p0_0 p0_1 p0_2 m6 u4 = some X3 := hM1
  obtain _ | m6 := m6
  ·cases (show (none : Option _) = some X3 from hM1)
  rw [l4.eq_2] at hM1
  refine And.intro (fun hc7 => ?_) (fun hc7 => ?_)
  ·replace hM1 := ifP hM1 hc7
   obtain ⟨x8, gx8, hM1⟩ := l0 hM1
   obtain ⟨bx8, csx8, ex8, rx8⟩ := Sl.getI (r := O1.toRp) (S9.mono sX3 rp1) gx8 (by decide)
   refine And.intro bx8 ?_
   obtain ⟨ax8, nx8, cx8, rfl⟩ := Wp.slice_cell rx8
   obtain ⟨rfl, lx8⟩ := Sl.len rx8
   refine Exists.intro _ (And.intro ex8 ?_)
   refine Or.inr (Or.inr (Or.inr (Or.inl (And.intro (And.intro (by kernel_rfl) (by kernel_rfl)) ?_))))
   obtain ⟨x9, gx9, hM1⟩ := l0 hM1
   refine Or.inr (Exists.intro (fun v hh => ∃ (a : Option Addr) (c : Nat), v = .slice a x9.length c ∧ O1.R hh [.slice a x9.length c] x9 ∧ x9.length ≤ 9223372036854775807) (And.intro (fun v h1 h2 sb q => by obtain ⟨a, c, e, r, l⟩ := q; exact ⟨a, c, e, O1.mono sb r, l⟩) (And.intro ?_ ?_)))
   ·intro k10 s11
    refine Tr.mono (x04 _ ax8 x8.length cx8 x8 (O1.mono s11 rx8) _ gx9) ?_
    rintro _ kk ⟨ax9, nx9, cx9, rfl, wx9⟩
    have sb := wx9.sub
    have rx9 := wx9.r
    obtain ⟨rfl, lx9⟩ := Sl.len rx9
    exact And.intro b0b (And.intro sb ⟨ax9, cx9, rfl, rx9, lx9⟩)
   obtain ⟨x12, gx12, hM1⟩ := l0 hM1
   refine Or.inl (Exists.intro (.val (.bool x12)) (And.intro ?_ ?_))
   ·intro k13 s14
    rintro _ ⟨az15, cz15, rfl, rz15, lz15⟩
    exact Tr.val (P05 _ [.int .i64 p0_0, .int .i64 p0_1, .slice ap0_2 p0_2.length cp0_2] (p0_0, p0_1, p0_2) (z0 ip0_0 ip0_1 (O0.mono (sX3.trans s14) rp0_2)) az15 x9.length cz15 x9 rz15 _ gx12) (And.intro rfl (And.intro rfl rfl))
   refine Or.inl (Exists.intro (.val (.bool (!x12))) (And.intro ?_ ?_))
   ·intro k16 s17
    exact And.intro rfl (And.intro rfl rfl)
   intro k18 s19
   rintro _ ⟨az20, cz20, rfl, rz20, lz20⟩
   refine And.intro (fun hc21 => ?_) (fun hc21 => ?_)
   ·replace hM1 := ifP hM1 hc21
    have hE := Option.some.inj hM1; subst hE
    try dsimp only [Q3, Y3] at hM0
    have hE := Option.some.inj hM0; subst hE
    exact And.intro rfl (sX3.trans s19)
   ·replace hM1 := ifN hM1 hc21
    refine And.intro rfl (And.intro (by repeat (first | exact trivial | refine And.intro rfl ?_)) (And.intro (by repeat (first | exact trivial | refine And.intro rfl ?_)) (Exists.intro m6 (And.intro ⟨(IntKind.i64.wrap (u4 + 1)), rfl, rfl, (sX3.trans s19), (M0 _), hM1⟩ (Nat.lt_succ_self _)))))
  ·replace hM1 := ifN hM1 hc7
   have hE := Option.some.inj hM1; subst hE
   try dsimp only [V0, Z0] at hM0
   have hE := Option.some.inj hM0; subst hE
   exact And.intro rfl sX3
theorem q08 (h : Hp) (csp0 : List Value) (p0 : j0) (rp0 : P1.R h csp0 p0) (csp1 : List Value) (p1 : j0) (rp1 : P1.R h csp1 p1) (r : Bool) (hM0 : E8 p0 p1 = some r) :
  Tr Tryz.prog 70 #[.agg csp0.toArray, .agg csp1.toArray] h fun v h' => v = .bool r ∧ h' = h := by
 obtain ⟨p0_0, p0_1, ap0_2, np0_2, cp0_2, p0_2, rfl, rfl, ip0_0, ip0_1, rp0_2⟩ := K0 rp0
 obtain ⟨rfl, lp0_2⟩ := Sl.len rp0_2
 obtain ⟨p1_0, p1_1, ap1_2, np1_2, cp1_2, p1_2, rfl, rfl, ip1_0, ip1_1, rp1_2⟩ := K0 rp1
 obtain ⟨rfl, lp1_2⟩ := Sl.len rp1_2
 unfold E8 at hM0
 dsimp only at hM0
 refine Tr.forget (A3 (args := [.agg #[.int .i64 p0_0, .int .i64 p0_1, .slice ap0_2 p0_2.length cp0_2], .agg #[.int .i64 p1_0, .int .i64 p1_1, .slice ap1_2 p1_2.length cp1_2]]) (fn := Tryz.f70) rfl ?_)
 refine Or.inr (Or.inr (Or.inr (Or.inl (And.intro (And.intro (by kernel_rfl) (by kernel_rfl)) ?_))))
 obtain ⟨x1, gx1, hM0⟩ := l0 hM0
 refine Or.inl (Exists.intro (.val (.bool x1)) (And.intro ?_ ?_))
 ·intro k2 s3
  exact Tr.val (H9 _ [.int .i64 p0_0, .int .i64 p0_1, .slice ap0_2 p0_2.length cp0_2] (p0_0, p0_1, p0_2) (z0 ip0_0 ip0_1 (O0.mono s3 rp0_2)) _ gx1) (And.intro rfl (And.intro rfl rfl))
 obtain ⟨x4, gx4, hM0⟩ := l0 hM0
 refine Or.inl (Exists.intro (.val (.bool x4)) (And.intro ?_ ?_))
 ·intro k5 s6 hq
  exact Tr.val (H9 _ [.int .i64 p1_0, .int .i64 p1_1, .slice ap1_2 p1_2.length cp1_2] (p1_0, p1_1, p1_2) (z0 ip1_0 ip1_1 (O0.mono s6 rp1_2)) _ (Q2 gx4 hq)) (And.intro rfl (And.intro rfl rfl))
 refine Or.inl (Exists.intro (.val (.bool (decide (p0_0 = p1_0)))) (And.intro ?_ ?_))
 ·intro k7 s8 hq
  exact And.intro rfl (And.intro rfl rfl)
 obtain ⟨x9, gx9, hM0⟩ := l0 hM0
 refine Or.inr (Exists.intro (fun v hh => ∃ (a : Option Addr) (c : Nat), v = .slice a x9.length c ∧ S9.R hh [.slice a x9.length c] x9 ∧ x9.length ≤ 9223372036854775807) (And.intro (fun v h1 h2 sb q => by obtain ⟨a, c, e, r, l⟩ := q; exact ⟨a, c, e, S9.mono sb r, l⟩) (And.intro ?_ ?_)))
 ·intro k10 s11 hq
  refine Tr.mono (k0a _ [.int .i64 p0_0, .int .i64 p0_1, .slice ap0_2 p0_2.length cp0_2] (p0_0, p0_1, p0_2) (z0 ip0_0 ip0_1 (O0.mono s11 rp0_2)) _ (Q2 gx9 hq)) ?_
  rintro _ kk ⟨ax9, nx9, cx9, rfl, rx9, sb⟩
  obtain ⟨rfl, lx9⟩ := Sl.len rx9
  exact And.intro b0b (And.intro sb ⟨ax9, cx9, rfl, rx9, lx9⟩)
 obtain ⟨x12, gx12, hM0⟩ := l0 hM0
 refine Or.inl (Exists.intro (.val (.bool x12)) (And.intro ?_ ?_))
 ·intro k13 s14 hq
  rintro _ ⟨az15, cz15, rfl, rz15, lz15⟩
  exact Tr.val (Q05 _ [.int .i64 p1_0, .int .i64 p1_1, .slice ap1_2 p1_2.length cp1_2] (p1_0, p1_1, p1_2) (z0 ip1_0 ip1_1 (O0.mono s14 rp1_2)) az15 x9.length cz15 x9 rz15 _ (Q2 gx12 hq)) (And.intro rfl (And.intro rfl rfl))
 intro k16 s17
 have hE := Option.some.inj hM0; subst hE
 exact And.intro rfl s17
theorem R05 (h : Hp) (csp0 : List Value) (p0 : L1) (rp0 : I3.R h csp0 p0) (p1 : ByteArray) (ip1 : p1.size ≤ 9223372036854775807) (r : (List ByteArray)) (hM0 : w8 p0 p1 = some r) :
  Tr Tryz.prog 17 #[.agg csp0.toArray, .string p1] h fun v h' => ∃ (a0 : Option Addr) (n0 c0 : Nat), v = .slice a0 n0 c0 ∧ New (Wp.slice Wp.str) h h' [.slice a0 n0 c0] r := by
 obtain ⟨p0_0, ap0_1, np0_1, cp0_1, p0_1, rfl, rfl, ip0_0, rp0_1⟩ := H4 rp0
 obtain ⟨rfl, lp0_1⟩ := Sl.len rp0_1
 unfold w8 at hM0
 dsimp only at hM0
 refine A3 (args := [.agg #[.int .i64 p0_0, .slice ap0_1 p0_1.length cp0_1], .string p1]) (fn := Tryz.f17) rfl ?_
 obtain ⟨x1, gx1, hM0⟩ := l0 hM0
 refine Tr.mono (z0a _ [.int .i64 p0_0, .slice ap0_1 p0_1.length cp0_1] (p0_0, p0_1) (t6 ip0_0 rp0_1) p1 ip1 _  gx1) ?_
 rintro v3 k2 ⟨csx1_0, rfl, wx1_0⟩
 obtain ⟨x1_0, x1_1⟩ := x1
 dsimp only at hM0 wx1_0
 have sx1 : Sub h k2 := wx1_0.sub
 have rx1_0 := wx1_0.r
 obtain ⟨x1_0_0, x1_0_1, ax1_0_2, nx1_0_2, cx1_0_2, x1_0_2, rfl, rfl, ix1_0_0, ix1_0_1, rx1_0_2⟩ := K0 rx1_0
 obtain ⟨rfl, lx1_0_2⟩ := Sl.len rx1_0_2
 try dsimp only at hM0
 have we4 := New.sndI (New.sndI (wx1_0))
 obtain ⟨x5, gx5, hM0⟩ := l0 hM0
 refine Exists.intro (.bool x5) (And.intro (fun q => O07 _ [.int .i64 p0_0, .slice ap0_1 p0_1.length cp0_1] (p0_0, p0_1) (t6 ip0_0 (A4.mono sx1 rp0_1)) _  (Q2 gx5 q)) ?_)
 refine And.intro (fun hc6 => ?_) (fun hc6 => ?_)
 ·replace hM0 := ifP hM0 hc6
  intro v7 k8 f9
  obtain ⟨az10, cz10, rfl, rz10, sz10, lz10⟩ := S0.out (r := Wp.str.toRp) f9 (F2.up (r := Wp.str.toRp) sx1 (show F2 (Wp.str.R h) ([] : List (List Value)) ([] : (List ByteArray)) from trivial))
  have hE := Option.some.inj hM0; subst hE
  exact ⟨az10, (([] : (List ByteArray))).length, cz10, rfl, (New.from (S0.newPlain (r := Wp.str) f9 (F2.up (r := Wp.str.toRp) sx1 (show F2 (Wp.str.R h) ([] : List (List Value)) ([] : (List ByteArray)) from trivial)) (z0k _)) sx1)⟩
 ·replace hM0 := ifN hM0 hc6
  obtain ⟨X11, hLX11, hM0⟩ := l0 hM0
  refine Exists.intro { vars := [28], boxes := [], owns := [0], fuel := true } (Exists.intro (fun vs os h' => ∃ (u12 : Int) (wu13 : List (List Value)) (u13 : List ByteArray), vs.tail = [.int .i64 u12] ∧ os = [wu13] ∧ Sub k2 h' ∧ P0 u12 ∧ F2 (Wp.str.R h') wu13 u13 ∧ N3 p0_1 x1_0_0 x1_0_1 x1_0_2 (C2 vs) u12 u13 = some X11) (Exists.intro (fun _ _ => 0) ?_))
  refine And.intro (Exists.intro T0 ⟨0, [], ([] : (List ByteArray)), rfl, rfl, (Sub.refl _), (c64 (by decide) (by decide)), (F2.up (r := Wp.str.toRp) sx1 (show F2 (Wp.str.R h) ([] : List (List Value)) ([] : (List ByteArray)) from trivial)), hLX11⟩) ?_
  rintro v_0 wu13 m15 k14 ⟨u12, zzu13, u13, evX11, eoX11, sX11, iu12, fu13, hM1⟩
  cases evX11
  cases eoX11
  replace hM1 : N3 p0_1 x1_0_0 x1_0_1 x1_0_2 m15 u12 u13 = some X11 := hM1
  obtain _ | m15 := m15
  ·cases (show (none : Option _) = some X11 from hM1)
  rw [N3.eq_2] at hM1
  refine And.intro (fun hc16 => ?_) (fun hc16 => ?_)
  ·replace hM1 := ifP hM1 hc16
   obtain ⟨x17, gx17, hM1⟩ := l0 hM1
   obtain ⟨bx17, csx17, ex17, rx17⟩ := Sl.getI (r := M4.toRp) (A4.mono (sx1.trans sX11) rp0_1) gx17 (by decide)
   refine And.intro bx17 ?_
   obtain ⟨x17_0, x17_1, x17_2, ax17_3, nx17_3, cx17_3, x17_3, rfl, rfl, ix17_0, ix17_1, ix17_2, rx17_3⟩ := L4 rx17
   obtain ⟨rfl, lx17_3⟩ := Sl.len rx17_3
   try dsimp only at hM1
   refine Exists.intro _ (And.intro ex17 ?_)
   obtain ⟨x18, gx18, hM1⟩ := l0 hM1
   refine Tr.val (q08 _ [.int .i64 x17_1, .int .i64 x17_2, .slice ax17_3 x17_3.length cx17_3] (x17_1, x17_2, x17_3) (z0 ix17_1 ix17_2 rx17_3) [.int .i64 x1_0_0, .int .i64 x1_0_1, .slice ax1_0_2 x1_0_2.length cx1_0_2] (x1_0_0, x1_0_1, x1_0_2) (z0 ix1_0_0 ix1_0_1 (O0.mono sX11 rx1_0_2)) _  gx18) ?_
   refine And.intro (fun hc19 => ?_) (fun hc19 => ?_)
   ·replace hM1 := ifP hM1 hc19
    obtain ⟨q20, gq20, hM1⟩ := l0 hM1
    refine And.intro (l3 gq20 (by first | rw [F2.length fu13, F2.length (show F2 (Wp.str.R k14) ([[.string x17_0]] : List (List Value)) [x17_0] from ⟨⟨rfl, ix17_0⟩, trivial⟩)] | exact congrArg (· + 1) (F2.length fu13))) ?_
    refine And.intro rfl (And.intro (by repeat (first | exact trivial | refine And.intro rfl ?_)) (And.intro (by repeat (first | exact trivial | refine And.intro rfl ?_)) (Exists.intro m15 (And.intro ⟨(IntKind.i64.wrap (u12 + 1)), (wu13 ++ ([[.string x17_0]] : List (List Value))), (u13 ++ [x17_0]), rfl, rfl, sX11, (M0 _), (F2.append fu13 (show F2 (Wp.str.R k14) ([[.string x17_0]] : List (List Value)) [x17_0] from ⟨⟨rfl, ix17_0⟩, trivial⟩)), hM1⟩ (Nat.lt_succ_self _)))))
   ·replace hM1 := ifN hM1 hc19
    refine And.intro rfl (And.intro (by repeat (first | exact trivial | refine And.intro rfl ?_)) (And.intro (by repeat (first | exact trivial | refine And.intro rfl ?_)) (Exists.intro m15 (And.intro ⟨(IntKind.i64.wrap (u12 + 1)), wu13, u13, rfl, rfl, sX11, (M0 _), fu13, hM1⟩ (Nat.lt_succ_self _)))))
  ·replace hM1 := ifN hM1 hc16
   have hE := Option.some.inj hM1; subst hE
   try dsimp only [V0, Z0] at hM0
   intro v21 k22 f23
   obtain ⟨az24, cz24, rfl, rz24, sz24, lz24⟩ := S0.out (r := Wp.str.toRp) f23 fu13
   have hE := Option.some.inj hM0; subst hE
   exact ⟨az24, u13.length, cz24, rfl, (New.from (S0.newPlain (r := Wp.str) f23 fu13 (z0k _)) (sx1.trans sX11))⟩
end Go.Proofs.YtknoadmdnjaocaaGreat
