/- Texts of the claim, joined: The walks of batch 1; The walks of batch 4g; The walks of batch 9; The walks of batch g1; The walks of batch h1. -/
import Derived.Test.YtknoadmdnjaocaaGreatPart18
import Derived.Test.YtknoadmdnjaocaaGreatChecked
import Derived.Test.YtknoadmdnjaocaaGreatH35
import Derived.Test.YtknoadmdnjaocaaGreatSI
import Derived.Test.YtknoadmdnjaocaaGreatPart21
namespace Go.Proofs.YtknoadmdnjaocaaGreat
open Go.H
set_option linter.unusedVariables false
set_option linter.unusedSimpArgs false
set_option maxRecDepth 10000
theorem A7 (h : Hp) (p0 : Int) (ip0 : N0 p0) (p1 : Int) (ip1 : N0 p1) (p2 : Int) (ip2 : N0 p2) (r : Bool) (hM0 : d5 p0 p1 p2 = some r) :
  Tr Tryz.prog 88 #[.int .i64 p0, .int .i64 p1, .int .i64 p2] h fun v h' => v = .bool r ∧ h' = h := by
 unfold d5 at hM0
 refine Tr.forget (j3 (args := [.int .i64 p0, .int .i64 p1, .int .i64 p2]) (fn := Tryz.f88) rfl ?_)
 have hE := Option.some.inj hM0; subst hE
 exact And.intro rfl (Sub.refl _)
theorem X00 (h : Hp) (p0 : Int) (ip0 : N0 p0) (p1 : Int) (ip1 : N0 p1) (p2 : Int) (ip2 : N0 p2) (r : Bool) (hM0 : d8 p0 p1 p2 = some r) :
  Tr Tryz.prog 93 #[.int .i64 p0, .int .i64 p1, .int .i64 p2] h fun v h' => v = .bool r ∧ h' = h := by
 unfold d8 at hM0
 refine Tr.forget (j3 (args := [.int .i64 p0, .int .i64 p1, .int .i64 p2]) (fn := Tryz.f93) rfl ?_)
 have hE := Option.some.inj hM0; subst hE
 exact And.intro rfl (Sub.refl _)
theorem o00 (h : Hp) (p0 : Int) (ip0 : N0 p0) (p1 : Int) (ip1 : N0 p1) (r : Int) (hM0 : F5 p0 p1 = some r) :
  Tr Tryz.prog 305 #[.int .i64 p0, .int .i64 p1] h fun v h' => v = .int .i64 r ∧ h' = h := by
 unfold F5 at hM0
 refine Tr.forget (j3 (args := [.int .i64 p0, .int .i64 p1]) (fn := Tryz.f305) rfl ?_)
 refine And.intro (fun hc1 => ?_) (fun hc1 => ?_)
 ·replace hM0 := ifP hM0 hc1
  have hE := Option.some.inj hM0; subst hE
  exact And.intro rfl (Sub.refl _)
 ·replace hM0 := ifN hM0 hc1
  refine And.intro (fun hc2 => ?_) (fun hc2 => ?_)
  ·replace hM0 := ifP hM0 hc2
   have hE := Option.some.inj hM0; subst hE
   exact And.intro rfl (Sub.refl _)
  ·replace hM0 := ifN hM0 hc2
   have hE := Option.some.inj hM0; subst hE
   exact And.intro rfl (Sub.refl _)
end Go.Proofs.YtknoadmdnjaocaaGreat
namespace Go.Proofs.YtknoadmdnjaocaaGreat
open Go.H
set_option linter.unusedVariables false
set_option linter.unusedSimpArgs false
set_option maxRecDepth 10000
theorem M0a (h : Hp) (csp0 : List Value) (p0 : j0) (rp0 : S0.R h csp0 p0) (csp1 : List Value) (p1 : C0) (rp1 : P0.R h csp1 p1) (r : Bool) (hM0 : c00 p0 p1 = some r) :
  Tr Tryz.prog 310 #[.agg csp0.toArray, .agg csp1.toArray] h fun v h' => v = .bool r ∧ h' = h := by
 obtain ⟨p0_0, p0_1, ap0_2, np0_2, cp0_2, p0_2, rfl, rfl, ip0_0, ip0_1, rp0_2⟩ := B0 rp0
 obtain ⟨rfl, lp0_2⟩ := Sl.len rp0_2
 obtain ⟨p1_0, p1_1, p1_2, rfl, rfl, ip1_0, ip1_1, ip1_2⟩ := E1 rp1
 unfold c00 at hM0
 dsimp only at hM0
 refine Tr.forget (j3 (args := [.agg #[.int .i64 p0_0, .int .i64 p0_1, .slice ap0_2 p0_2.length cp0_2], .agg #[.int .i64 p1_0, .int .i64 p1_1, .int .i64 p1_2]]) (fn := Tryz.f310) rfl ?_)
 obtain ⟨x1, gx1, hM0⟩ := l0 hM0
 refine Tr.val (A7 _ p1_0 ip1_0 0 (c64 (by decide) (by decide)) (IntKind.i64.wrap (p0_1 - 1)) (M0 _) _  gx1) ?_
 obtain ⟨x2, gx2, hM0⟩ := l0 hM0
 refine Exists.intro (.bool x2) (And.intro (fun q => A7 _ p1_2 ip1_2 0 (c64 (by decide) (by decide)) (IntKind.i64.wrap (p0_1 - 1)) (M0 _) _  (E2 gx2 q)) ?_)
 obtain ⟨x3, gx3, hM0⟩ := l0 hM0
 refine Exists.intro (.bool x3) (And.intro (fun q => A7 _ p1_1 ip1_1 1 (c64 (by decide) (by decide)) p0_0 ip0_0 _  (E2 gx3 q)) ?_)
 have hE := Option.some.inj hM0; subst hE
 exact And.intro rfl (Sub.refl _)
theorem l01 (h : Hp) (csp0 : List Value) (p0 : C0) (rp0 : P0.R h csp0 p0) (csp1 : List Value) (p1 : C0) (rp1 : P0.R h csp1 p1) (r : Int) (hM0 : j6 p0 p1 = some r) :
  Tr Tryz.prog 254 #[.agg csp0.toArray, .agg csp1.toArray] h fun v h' => v = .int .i64 r ∧ h' = h := by
 obtain ⟨p0_0, p0_1, p0_2, rfl, rfl, ip0_0, ip0_1, ip0_2⟩ := E1 rp0
 obtain ⟨p1_0, p1_1, p1_2, rfl, rfl, ip1_0, ip1_1, ip1_2⟩ := E1 rp1
 unfold j6 at hM0
 dsimp only at hM0
 refine Tr.forget (j3 (args := [.agg #[.int .i64 p0_0, .int .i64 p0_1, .int .i64 p0_2], .agg #[.int .i64 p1_0, .int .i64 p1_1, .int .i64 p1_2]]) (fn := Tryz.f254) rfl ?_)
 obtain ⟨X1, hLX1, hM0⟩ := l0 hM0
 refine Exists.intro { vars := [7], boxes := [], owns := [], fuel := true } (Exists.intro (fun vs os h' => ∃ (u2 : Int), vs.tail = [.int .i64 u2] ∧ os = [] ∧ Sub h h' ∧ N0 u2 ∧ p5 p0_0 p0_1 p0_2 p1_0 p1_1 p1_2 (Y1 vs) u2 = some X1) (Exists.intro (fun _ _ => 0) ?_))
 refine And.intro (Exists.intro U0 ⟨0, rfl, rfl, (Sub.refl _), (c64 (by decide) (by decide)), hLX1⟩) ?_
 rintro v_0 m4 k3 ⟨u2, evX1, eoX1, sX1, iu2, hM1⟩
 cases evX1
 cases eoX1
 replace hM1 : p5 p0_0 p0_1 p0_2 p1_0 p1_1 p1_2 m4 u2 = some X1 := hM1
 obtain _ | m4 := m4
 ·cases (show (none : Option _) = some X1 from hM1)
 rw [p5.eq_2] at hM1
 refine And.intro (fun hc5 => ?_) (fun hc5 => ?_)
 ·replace hM1 := ifP hM1 hc5
  refine Or.inl (And.intro (And.intro (by kernel_rfl) (by kernel_rfl)) ?_)
  obtain ⟨x6, gx6, hM1⟩ := l0 hM1
  obtain ⟨bx6, csx6, ex6, rx6⟩ := G3 (F2.up (r := Wp.int.toRp) sX1 (show F2 (Wp.int.R h) ([[.int .i64 p0_0], [.int .i64 p0_1], [.int .i64 p0_2]] : List (List Value)) [p0_0, p0_1, p0_2] from ⟨⟨rfl, ip0_0⟩, ⟨⟨rfl, ip0_1⟩, ⟨⟨rfl, ip0_2⟩, trivial⟩⟩⟩)) gx6
  refine And.intro bx6 ?_
  obtain ⟨rfl, ix6⟩ := rx6
  refine Exists.intro _ (And.intro ex6 ?_)
  obtain ⟨x7, gx7, hM1⟩ := l0 hM1
  obtain ⟨bx7, csx7, ex7, rx7⟩ := G3 (F2.up (r := Wp.int.toRp) sX1 (show F2 (Wp.int.R h) ([[.int .i64 p1_0], [.int .i64 p1_1], [.int .i64 p1_2]] : List (List Value)) [p1_0, p1_1, p1_2] from ⟨⟨rfl, ip1_0⟩, ⟨⟨rfl, ip1_1⟩, ⟨⟨rfl, ip1_2⟩, trivial⟩⟩⟩)) gx7
  refine And.intro bx7 ?_
  obtain ⟨rfl, ix7⟩ := rx7
  refine Exists.intro _ (And.intro ex7 ?_)
  refine And.intro (fun hc8 => ?_) (fun hc8 => ?_)
  ·replace hM1 := ifP hM1 hc8
   have hE := Option.some.inj hM1; subst hE
   try dsimp only [P6, Q6] at hM0
   have hE := Option.some.inj hM0; subst hE
   exact And.intro rfl sX1
  ·replace hM1 := ifN hM1 hc8
   refine Or.inl (And.intro (And.intro (by kernel_rfl) (by kernel_rfl)) ?_)
   obtain ⟨x9, gx9, hM1⟩ := l0 hM1
   obtain ⟨bx9, csx9, ex9, rx9⟩ := G3 (F2.up (r := Wp.int.toRp) sX1 (show F2 (Wp.int.R h) ([[.int .i64 p0_0], [.int .i64 p0_1], [.int .i64 p0_2]] : List (List Value)) [p0_0, p0_1, p0_2] from ⟨⟨rfl, ip0_0⟩, ⟨⟨rfl, ip0_1⟩, ⟨⟨rfl, ip0_2⟩, trivial⟩⟩⟩)) gx9
   refine And.intro bx9 ?_
   obtain ⟨rfl, ix9⟩ := rx9
   refine Exists.intro _ (And.intro ex9 ?_)
   obtain ⟨x10, gx10, hM1⟩ := l0 hM1
   obtain ⟨bx10, csx10, ex10, rx10⟩ := G3 (F2.up (r := Wp.int.toRp) sX1 (show F2 (Wp.int.R h) ([[.int .i64 p1_0], [.int .i64 p1_1], [.int .i64 p1_2]] : List (List Value)) [p1_0, p1_1, p1_2] from ⟨⟨rfl, ip1_0⟩, ⟨⟨rfl, ip1_1⟩, ⟨⟨rfl, ip1_2⟩, trivial⟩⟩⟩)) gx10
   refine And.intro bx10 ?_
   obtain ⟨rfl, ix10⟩ := rx10
   refine Exists.intro _ (And.intro ex10 ?_)
   refine And.intro (fun hc11 => ?_) (fun hc11 => ?_)
   ·replace hM1 := ifP hM1 hc11
    have hE := Option.some.inj hM1; subst hE
    try dsimp only [P6, Q6] at hM0
    have hE := Option.some.inj hM0; subst hE
    exact And.intro rfl sX1
   ·replace hM1 := ifN hM1 hc11
    refine And.intro rfl (And.intro (by repeat (first | exact trivial | refine And.intro rfl ?_)) (And.intro (by repeat (first | exact trivial | refine And.intro rfl ?_)) (Exists.intro m4 (And.intro ⟨(IntKind.i64.wrap (u2 + 1)), rfl, rfl, sX1, (M0 _), hM1⟩ (Nat.lt_succ_self _)))))
 ·replace hM1 := ifN hM1 hc5
  have hE := Option.some.inj hM1; subst hE
  try dsimp only [Y0, Z0] at hM0
  have hE := Option.some.inj hM0; subst hE
  exact And.intro rfl sX1
theorem c7 (h : Hp) (csp0 : List Value) (p0 : j0) (rp0 : S0.R h csp0 p0) (r : Bool) (hM0 : C4 p0 = some r) :
  Tr Tryz.prog 277 #[.agg csp0.toArray] h fun v h' => v = .bool r ∧ h' = h := by
 obtain ⟨p0_0, p0_1, ap0_2, np0_2, cp0_2, p0_2, rfl, rfl, ip0_0, ip0_1, rp0_2⟩ := B0 rp0
 obtain ⟨rfl, lp0_2⟩ := Sl.len rp0_2
 unfold C4 at hM0
 dsimp only at hM0
 refine Tr.forget (j3 (args := [.agg #[.int .i64 p0_0, .int .i64 p0_1, .slice ap0_2 p0_2.length cp0_2]]) (fn := Tryz.f277) rfl ?_)
 obtain ⟨X1, hLX1, hM0⟩ := l0 hM0
 refine Exists.intro { vars := [3], boxes := [], owns := [], fuel := true } (Exists.intro (fun vs os h' => ∃ (u2 : Int), vs.tail = [.int .i64 u2] ∧ os = [] ∧ Sub h h' ∧ N0 u2 ∧ H5 p0_2 p0_0 p0_1 (Y1 vs) u2 = some X1) (Exists.intro (fun _ _ => 0) ?_))
 refine And.intro (Exists.intro U0 ⟨0, rfl, rfl, (Sub.refl _), (c64 (by decide) (by decide)), hLX1⟩) ?_
 rintro v_0 m4 k3 ⟨u2, evX1, eoX1, sX1, iu2, hM1⟩
 cases evX1
 cases eoX1
 replace hM1 : H5 p0_2 p0_0 p0_1 m4 u2 = some X1 := hM1
 obtain _ | m4 := m4
 ·cases (show (none : Option _) = some X1 from hM1)
 rw [H5.eq_2] at hM1
 refine And.intro (fun hc5 => ?_) (fun hc5 => ?_)
 ·replace hM1 := ifP hM1 hc5
  refine Or.inl (And.intro (And.intro (by kernel_rfl) (by kernel_rfl)) ?_)
  obtain ⟨x6, gx6, hM1⟩ := l0 hM1
  obtain ⟨bx6, csx6, ex6, rx6⟩ := Sl.getI (r := P0.toRp) (J0.mono sX1 rp0_2) gx6 (by decide)
  refine And.intro bx6 ?_
  obtain ⟨x6_0, x6_1, x6_2, rfl, rfl, ix6_0, ix6_1, ix6_2⟩ := E1 rx6
  try dsimp only at hM1
  refine Exists.intro _ (And.intro ex6 ?_)
  obtain ⟨x7, gx7, hM1⟩ := l0 hM1
  refine Exists.intro (.bool x7) (And.intro (M0a _ [.int .i64 p0_0, .int .i64 p0_1, .slice ap0_2 p0_2.length cp0_2] (p0_0, p0_1, p0_2) (z0 ip0_0 ip0_1 (J0.mono sX1 rp0_2)) [.int .i64 x6_0, .int .i64 x6_1, .int .i64 x6_2] (x6_0, x6_1, x6_2) (K1 ix6_0 ix6_1 ix6_2) _  gx7) ?_)
  obtain ⟨x8, gx8, hM1⟩ := l0 hM1
  obtain ⟨csx8, ex8, rx8⟩ := Sl.getG (r := P0.toRp) (J0.mono sX1 rp0_2) gx8 (by decide) (o0f k3)
  refine And.intro (fun q => (ex8 q).1) ?_
  obtain ⟨x8_0, x8_1, x8_2, rfl, rfl, ix8_0, ix8_1, ix8_2⟩ := E1 rx8
  try dsimp only at hM1
  refine Exists.intro _ (And.intro (fun q => (ex8 q).2) ?_)
  obtain ⟨x9, gx9, hM1⟩ := l0 hM1
  obtain ⟨csx9, ex9, rx9⟩ := Sl.getG (r := P0.toRp) (J0.mono sX1 rp0_2) gx9 (by decide) (o0f k3)
  refine And.intro (fun q => (ex9 q).1) ?_
  obtain ⟨x9_0, x9_1, x9_2, rfl, rfl, ix9_0, ix9_1, ix9_2⟩ := E1 rx9
  try dsimp only at hM1
  refine Exists.intro _ (And.intro (fun q => (ex9 q).2) ?_)
  obtain ⟨x10, gx10, hM1⟩ := l0 hM1
  refine Exists.intro (.int .i64 x10) (And.intro (fun q => l01 _ [.int .i64 x8_0, .int .i64 x8_1, .int .i64 x8_2] (x8_0, x8_1, x8_2) (K1 ix8_0 ix8_1 ix8_2) [.int .i64 x9_0, .int .i64 x9_1, .int .i64 x9_2] (x9_0, x9_1, x9_2) (K1 ix9_0 ix9_1 ix9_2) _  (E2 gx10 q)) ?_)
  obtain ⟨q11, gq11, hM1⟩ := l0 hM1
  have ix10 : N0 x10 := B3 gq11
  refine And.intro (fun hc12 => ?_) (fun hc12 => ?_)
  ·replace hM1 := ifP hM1 hc12
   have hE := Option.some.inj hM1; subst hE
   try dsimp only [P6, Q6] at hM0
   have hE := Option.some.inj hM0; subst hE
   exact And.intro rfl sX1
  ·replace hM1 := ifN hM1 hc12
   refine And.intro rfl (And.intro (by repeat (first | exact trivial | refine And.intro rfl ?_)) (And.intro (by repeat (first | exact trivial | refine And.intro rfl ?_)) (Exists.intro m4 (And.intro ⟨(IntKind.i64.wrap (u2 + 1)), rfl, rfl, sX1, (M0 _), hM1⟩ (Nat.lt_succ_self _)))))
 ·replace hM1 := ifN hM1 hc5
  have hE := Option.some.inj hM1; subst hE
  try dsimp only [Y0, Z0] at hM0
  obtain ⟨x13, gx13, hM0⟩ := l0 hM0
  refine Tr.val (A7 _ p0_0 ip0_0 1 (c64 (by decide) (by decide)) 3 (c64 (by decide) (by decide)) _  gx13) ?_
  obtain ⟨x14, gx14, hM0⟩ := l0 hM0
  refine Exists.intro (.bool x14) (And.intro (fun q => A7 _ p0_1 ip0_1 1 (c64 (by decide) (by decide)) 40 (c64 (by decide) (by decide)) _  (E2 gx14 q)) ?_)
  have hE := Option.some.inj hM0; subst hE
  exact And.intro rfl sX1
theorem t8 (h : Hp) (csp0 : List Value) (p0 : j0) (rp0 : S0.R h csp0 p0) (p1 : Int) (ip1 : N0 p1) (r : Bool) (hM0 : D3 p0 p1 = some r) :
  Tr Tryz.prog 266 #[.agg csp0.toArray, .int .i64 p1] h fun v h' => v = .bool r ∧ h' = h := by
 obtain ⟨p0_0, p0_1, ap0_2, np0_2, cp0_2, p0_2, rfl, rfl, ip0_0, ip0_1, rp0_2⟩ := B0 rp0
 obtain ⟨rfl, lp0_2⟩ := Sl.len rp0_2
 unfold D3 at hM0
 dsimp only at hM0
 refine Tr.forget (j3 (args := [.agg #[.int .i64 p0_0, .int .i64 p0_1, .slice ap0_2 p0_2.length cp0_2], .int .i64 p1]) (fn := Tryz.f266) rfl ?_)
 obtain ⟨x1, gx1, hM0⟩ := l0 hM0
 refine Tr.val (X00 _ p1 ip1 0 (c64 (by decide) (by decide)) (IntKind.i64.wrap (p0_1 - 1)) (M0 _) _  gx1) ?_
 have hE := Option.some.inj hM0; subst hE
 exact And.intro rfl (Sub.refl _)
theorem y04 (h : Hp) (csp0 : List Value) (p0 : j0) (rp0 : S0.R h csp0 p0) (csp1 : List Value) (p1 : C0) (rp1 : P0.R h csp1 p1) (r : Bool) (hM0 : S6 p0 p1 = some r) :
  Tr Tryz.prog 301 #[.agg csp0.toArray, .agg csp1.toArray] h fun v h' => v = .bool r ∧ h' = h := by
 obtain ⟨p0_0, p0_1, ap0_2, np0_2, cp0_2, p0_2, rfl, rfl, ip0_0, ip0_1, rp0_2⟩ := B0 rp0
 obtain ⟨rfl, lp0_2⟩ := Sl.len rp0_2
 obtain ⟨p1_0, p1_1, p1_2, rfl, rfl, ip1_0, ip1_1, ip1_2⟩ := E1 rp1
 unfold S6 at hM0
 dsimp only at hM0
 refine Tr.forget (j3 (args := [.agg #[.int .i64 p0_0, .int .i64 p0_1, .slice ap0_2 p0_2.length cp0_2], .agg #[.int .i64 p1_0, .int .i64 p1_1, .int .i64 p1_2]]) (fn := Tryz.f301) rfl ?_)
 obtain ⟨x1, gx1, hM0⟩ := l0 hM0
 refine Tr.val (t8 _ [.int .i64 p0_0, .int .i64 p0_1, .slice ap0_2 p0_2.length cp0_2] (p0_0, p0_1, p0_2) (z0 ip0_0 ip0_1 rp0_2) p1_0 ip1_0 _  gx1) ?_
 obtain ⟨x2, gx2, hM0⟩ := l0 hM0
 refine Exists.intro (.bool x2) (And.intro (fun q => t8 _ [.int .i64 p0_0, .int .i64 p0_1, .slice ap0_2 p0_2.length cp0_2] (p0_0, p0_1, p0_2) (z0 ip0_0 ip0_1 rp0_2) p1_2 ip1_2 _  (E2 gx2 q)) ?_)
 obtain ⟨x3, gx3, hM0⟩ := l0 hM0
 refine Exists.intro (.bool x3) (And.intro (fun q => X00 _ p1_1 ip1_1 1 (c64 (by decide) (by decide)) p0_0 ip0_0 _  (E2 gx3 q)) ?_)
 have hE := Option.some.inj hM0; subst hE
 exact And.intro rfl (Sub.refl _)
theorem m01 (h : Hp) (csp0 : List Value) (p0 : C0) (rp0 : P0.R h csp0 p0) (csp1 : List Value) (p1 : C0) (rp1 : P0.R h csp1 p1) (r : Int) (hM0 : n7 p0 p1 = some r) :
  Tr Tryz.prog 258 #[.agg csp0.toArray, .agg csp1.toArray] h fun v h' => v = .int .i64 r ∧ h' = h := by
 obtain ⟨p0_0, p0_1, p0_2, rfl, rfl, ip0_0, ip0_1, ip0_2⟩ := E1 rp0
 obtain ⟨p1_0, p1_1, p1_2, rfl, rfl, ip1_0, ip1_1, ip1_2⟩ := E1 rp1
 unfold n7 at hM0
 dsimp only at hM0
 refine Tr.forget (j3 (args := [.agg #[.int .i64 p0_0, .int .i64 p0_1, .int .i64 p0_2], .agg #[.int .i64 p1_0, .int .i64 p1_1, .int .i64 p1_2]]) (fn := Tryz.f258) rfl ?_)
 obtain ⟨x1, gx1, hM0⟩ := l0 hM0
 refine Tr.val (o00 _ p0_0 ip0_0 p1_0 ip1_0 _  gx1) ?_
 obtain ⟨q2, gq2, hM0⟩ := l0 hM0
 have ix1 : N0 x1 := B3 gq2
 refine And.intro (fun hc3 => ?_) (fun hc3 => ?_)
 ·replace hM0 := ifP hM0 hc3
  have hE := Option.some.inj hM0; subst hE
  exact And.intro rfl (Sub.refl _)
 ·replace hM0 := ifN hM0 hc3
  obtain ⟨x4, gx4, hM0⟩ := l0 hM0
  refine Tr.val (o00 _ p0_1 ip0_1 p1_1 ip1_1 _  gx4) ?_
  obtain ⟨q5, gq5, hM0⟩ := l0 hM0
  have ix4 : N0 x4 := B3 gq5
  refine And.intro (fun hc6 => ?_) (fun hc6 => ?_)
  ·replace hM0 := ifP hM0 hc6
   have hE := Option.some.inj hM0; subst hE
   exact And.intro rfl (Sub.refl _)
  ·replace hM0 := ifN hM0 hc6
   obtain ⟨x7, gx7, hM0⟩ := l0 hM0
   refine Tr.val (o00 _ p0_2 ip0_2 p1_2 ip1_2 _  gx7) ?_
   obtain ⟨q8, gq8, hM0⟩ := l0 hM0
   have ix7 : N0 x7 := B3 gq8
   have hE := Option.some.inj hM0; subst hE
   exact And.intro rfl (Sub.refl _)
theorem E00 (h : Hp) (csp0 : List Value) (p0 : j0) (rp0 : S0.R h csp0 p0) (r : Bool) (hM0 : T6 p0 = some r) :
  Tr Tryz.prog 248 #[.agg csp0.toArray] h fun v h' => v = .bool r ∧ h' = h := by
 obtain ⟨p0_0, p0_1, ap0_2, np0_2, cp0_2, p0_2, rfl, rfl, ip0_0, ip0_1, rp0_2⟩ := B0 rp0
 obtain ⟨rfl, lp0_2⟩ := Sl.len rp0_2
 unfold T6 at hM0
 dsimp only at hM0
 refine Tr.forget (j3 (args := [.agg #[.int .i64 p0_0, .int .i64 p0_1, .slice ap0_2 p0_2.length cp0_2]]) (fn := Tryz.f248) rfl ?_)
 obtain ⟨x1, gx1, hM0⟩ := l0 hM0
 refine Tr.val (X00 _ p0_0 ip0_0 1 (c64 (by decide) (by decide)) 3 (c64 (by decide) (by decide)) _  gx1) ?_
 obtain ⟨x2, gx2, hM0⟩ := l0 hM0
 refine Exists.intro (.bool x2) (And.intro (fun q => X00 _ p0_1 ip0_1 1 (c64 (by decide) (by decide)) 40 (c64 (by decide) (by decide)) _  (E2 gx2 q)) ?_)
 refine And.intro (fun hc3 => ?_) (fun hc3 => ?_)
 ·replace hM0 := ifP hM0 hc3
  have hE := Option.some.inj hM0; subst hE
  exact And.intro rfl (Sub.refl _)
 ·replace hM0 := ifN hM0 hc3
  obtain ⟨X4, hLX4, hM0⟩ := l0 hM0
  refine Exists.intro { vars := [24], boxes := [], owns := [], fuel := true } (Exists.intro (fun vs os h' => ∃ (u5 : Int), vs.tail = [.int .i64 u5] ∧ os = [] ∧ Sub h h' ∧ N0 u5 ∧ I5 p0_2 p0_0 p0_1 (Y1 vs) u5 = some X4) (Exists.intro (fun _ _ => 0) ?_))
  refine And.intro (Exists.intro U0 ⟨0, rfl, rfl, (Sub.refl _), (c64 (by decide) (by decide)), hLX4⟩) ?_
  rintro v_0 m7 k6 ⟨u5, evX4, eoX4, sX4, iu5, hM1⟩
  cases evX4
  cases eoX4
  replace hM1 : I5 p0_2 p0_0 p0_1 m7 u5 = some X4 := hM1
  obtain _ | m7 := m7
  ·cases (show (none : Option _) = some X4 from hM1)
  rw [I5.eq_2] at hM1
  refine And.intro (fun hc8 => ?_) (fun hc8 => ?_)
  ·replace hM1 := ifP hM1 hc8
   obtain ⟨x9, gx9, hM1⟩ := l0 hM1
   obtain ⟨bx9, csx9, ex9, rx9⟩ := Sl.getI (r := P0.toRp) (J0.mono sX4 rp0_2) gx9 (by decide)
   refine And.intro bx9 ?_
   obtain ⟨x9_0, x9_1, x9_2, rfl, rfl, ix9_0, ix9_1, ix9_2⟩ := E1 rx9
   try dsimp only at hM1
   refine Exists.intro _ (And.intro ex9 ?_)
   refine Or.inl (And.intro (And.intro (by kernel_rfl) (by kernel_rfl)) ?_)
   obtain ⟨x10, gx10, hM1⟩ := l0 hM1
   refine Exists.intro (.bool x10) (And.intro (y04 _ [.int .i64 p0_0, .int .i64 p0_1, .slice ap0_2 p0_2.length cp0_2] (p0_0, p0_1, p0_2) (z0 ip0_0 ip0_1 (J0.mono sX4 rp0_2)) [.int .i64 x9_0, .int .i64 x9_1, .int .i64 x9_2] (x9_0, x9_1, x9_2) (K1 ix9_0 ix9_1 ix9_2) _  gx10) ?_)
   obtain ⟨x11, gx11, hM1⟩ := l0 hM1
   obtain ⟨csx11, ex11, rx11⟩ := Sl.getG (r := P0.toRp) (J0.mono sX4 rp0_2) gx11 (by decide) (o0f k6)
   refine And.intro (fun q => (ex11 q).1) ?_
   obtain ⟨x11_0, x11_1, x11_2, rfl, rfl, ix11_0, ix11_1, ix11_2⟩ := E1 rx11
   try dsimp only at hM1
   refine Exists.intro _ (And.intro (fun q => (ex11 q).2) ?_)
   obtain ⟨x12, gx12, hM1⟩ := l0 hM1
   refine Exists.intro (.int .i64 x12) (And.intro (fun q => m01 _ [.int .i64 x11_0, .int .i64 x11_1, .int .i64 x11_2] (x11_0, x11_1, x11_2) (K1 ix11_0 ix11_1 ix11_2) [.int .i64 x9_0, .int .i64 x9_1, .int .i64 x9_2] (x9_0, x9_1, x9_2) (K1 ix9_0 ix9_1 ix9_2) _  (E2 gx12 q)) ?_)
   obtain ⟨q13, gq13, hM1⟩ := l0 hM1
   have ix12 : N0 x12 := B3 gq13
   refine And.intro (fun hc14 => ?_) (fun hc14 => ?_)
   ·replace hM1 := ifP hM1 hc14
    have hE := Option.some.inj hM1; subst hE
    try dsimp only [P6, Q6] at hM0
    have hE := Option.some.inj hM0; subst hE
    exact And.intro rfl sX4
   ·replace hM1 := ifN hM1 hc14
    refine And.intro rfl (And.intro (by repeat (first | exact trivial | refine And.intro rfl ?_)) (And.intro (by repeat (first | exact trivial | refine And.intro rfl ?_)) (Exists.intro m7 (And.intro ⟨(IntKind.i64.wrap (u5 + 1)), rfl, rfl, sX4, (M0 _), hM1⟩ (Nat.lt_succ_self _)))))
  ·replace hM1 := ifN hM1 hc8
   have hE := Option.some.inj hM1; subst hE
   try dsimp only [Y0, Z0] at hM0
   have hE := Option.some.inj hM0; subst hE
   exact And.intro rfl sX4
end Go.Proofs.YtknoadmdnjaocaaGreat
namespace Go.Proofs.YtknoadmdnjaocaaGreat
open Go.H
set_option linter.unusedVariables false
set_option linter.unusedSimpArgs false
set_option maxRecDepth 10000
theorem R9 (h : Hp) (ap0 : Option Addr) (np0 cp0 : Nat) (p0 : D0) (rp0 : D1.R h [.slice ap0 np0 cp0] p0) (p1 : Int) (ip1 : N0 p1) (r : D0) (hM0 : I6 p0 p1 = some r) :
  Tr Tryz.prog 298 #[.slice ap0 np0 cp0, .int .i64 p1] h fun v h' => ∃ (a0 : Option Addr) (n0 c0 : Nat), v = .slice a0 n0 c0 ∧ D1.R h' [.slice a0 n0 c0] r ∧ Sub h h' := by
 obtain ⟨rfl, lp0⟩ := Sl.len rp0
 unfold I6 at hM0
 refine j3 (args := [.slice ap0 p0.length cp0, .int .i64 p1]) (fn := Tryz.f298) rfl ?_
 obtain ⟨X1, hLX1, hM0⟩ := l0 hM0
 refine Exists.intro { vars := [6, 7], boxes := [], owns := [0], fuel := true } (Exists.intro (fun vs os h' => ∃ (u2 : Bool) (u3 : Int) (wu4 : List (List Value)) (u4 : List Int), vs.tail = [.bool u2, .int .i64 u3] ∧ os = [wu4] ∧ Sub h h' ∧ N0 u3 ∧ F2 (Wp.int.R h') wu4 u4 ∧ I3 p0 p1 (Y1 vs) u2 u3 u4 = some X1) (Exists.intro (fun _ _ => 0) ?_))
 refine And.intro (Exists.intro U0 ⟨false, 0, [], ([] : D0), rfl, rfl, (Sub.refl _), (c64 (by decide) (by decide)), (show F2 (Wp.int.R h) ([] : List (List Value)) ([] : D0) from trivial), hLX1⟩) ?_
 rintro v_0 v_1 wu4 m6 k5 ⟨u2, u3, zzu4, u4, evX1, eoX1, sX1, iu3, fu4, hM1⟩
 cases evX1
 cases eoX1
 replace hM1 : I3 p0 p1 m6 u2 u3 u4 = some X1 := hM1
 obtain _ | m6 := m6
 ·cases (show (none : Option _) = some X1 from hM1)
 rw [I3.eq_2] at hM1
 refine And.intro (fun hc7 => ?_) (fun hc7 => ?_)
 ·replace hM1 := ifP hM1 hc7
  obtain ⟨x8, gx8, hM1⟩ := l0 hM1
  obtain ⟨bx8, csx8, ex8, rx8⟩ := Sl.getI (r := Wp.int.toRp) (D1.mono sX1 rp0) gx8 (by decide)
  refine And.intro bx8 ?_
  obtain ⟨rfl, ix8⟩ := rx8
  refine Exists.intro _ (And.intro ex8 ?_)
  refine And.intro (fun hc9 => ?_) (fun hc9 => ?_)
  ·replace hM1 := ifP hM1 hc9
   obtain ⟨x10, gx10, hM1⟩ := l0 hM1
   obtain ⟨bx10, csx10, ex10, rx10⟩ := Sl.getI (r := Wp.int.toRp) (D1.mono sX1 rp0) gx10 (by decide)
   refine And.intro bx10 ?_
   obtain ⟨rfl, ix10⟩ := rx10
   refine Exists.intro _ (And.intro ex10 ?_)
   refine And.intro (fun hc11 => ?_) (fun hc11 => ?_)
   ·replace hM1 := ifP hM1 hc11
    obtain ⟨q12, gq12, hM1⟩ := l0 hM1
    refine And.intro (N1 gq12 (by first | rw [F2.length fu4, F2.length (show F2 (Wp.int.R k5) ([[.int .i64 p1]] : List (List Value)) [p1] from ⟨⟨rfl, ip1⟩, trivial⟩)] | exact congrArg (· + 1) (F2.length fu4))) ?_
    obtain ⟨x13, gx13, hM1⟩ := l0 hM1
    obtain ⟨bx13, csx13, ex13, rx13⟩ := Sl.getI (r := Wp.int.toRp) (D1.mono sX1 rp0) gx13 (by decide)
    refine And.intro bx13 ?_
    obtain ⟨rfl, ix13⟩ := rx13
    refine Exists.intro _ (And.intro ex13 ?_)
    obtain ⟨q14, gq14, hM1⟩ := l0 hM1
    refine And.intro (N1 gq14 (by first | rw [F2.length (F2.append fu4 (show F2 (Wp.int.R k5) ([[.int .i64 p1]] : List (List Value)) [p1] from ⟨⟨rfl, ip1⟩, trivial⟩)), F2.length (show F2 (Wp.int.R k5) ([[.int .i64 x13]] : List (List Value)) [x13] from ⟨⟨rfl, ix13⟩, trivial⟩)] | exact congrArg (· + 1) (F2.length (F2.append fu4 (show F2 (Wp.int.R k5) ([[.int .i64 p1]] : List (List Value)) [p1] from ⟨⟨rfl, ip1⟩, trivial⟩))))) ?_
    refine And.intro rfl (And.intro (by repeat (first | exact trivial | refine And.intro rfl ?_)) (And.intro (by repeat (first | exact trivial | refine And.intro rfl ?_)) (Exists.intro m6 (And.intro ⟨true, (IntKind.i64.wrap (u3 + 1)), ((wu4 ++ ([[.int .i64 p1]] : List (List Value))) ++ ([[.int .i64 x13]] : List (List Value))), ((u4 ++ [p1]) ++ [x13]), rfl, rfl, sX1, (M0 _), (F2.append (F2.append fu4 (show F2 (Wp.int.R k5) ([[.int .i64 p1]] : List (List Value)) [p1] from ⟨⟨rfl, ip1⟩, trivial⟩)) (show F2 (Wp.int.R k5) ([[.int .i64 x13]] : List (List Value)) [x13] from ⟨⟨rfl, ix13⟩, trivial⟩)), hM1⟩ (Nat.lt_succ_self _)))))
   ·replace hM1 := ifN hM1 hc11
    obtain ⟨x15, gx15, hM1⟩ := l0 hM1
    obtain ⟨bx15, csx15, ex15, rx15⟩ := Sl.getI (r := Wp.int.toRp) (D1.mono sX1 rp0) gx15 (by decide)
    refine And.intro bx15 ?_
    obtain ⟨rfl, ix15⟩ := rx15
    refine Exists.intro _ (And.intro ex15 ?_)
    obtain ⟨q16, gq16, hM1⟩ := l0 hM1
    refine And.intro (N1 gq16 (by first | rw [F2.length fu4, F2.length (show F2 (Wp.int.R k5) ([[.int .i64 x15]] : List (List Value)) [x15] from ⟨⟨rfl, ix15⟩, trivial⟩)] | exact congrArg (· + 1) (F2.length fu4))) ?_
    refine And.intro rfl (And.intro (by repeat (first | exact trivial | refine And.intro rfl ?_)) (And.intro (by repeat (first | exact trivial | refine And.intro rfl ?_)) (Exists.intro m6 (And.intro ⟨true, (IntKind.i64.wrap (u3 + 1)), (wu4 ++ ([[.int .i64 x15]] : List (List Value))), (u4 ++ [x15]), rfl, rfl, sX1, (M0 _), (F2.append fu4 (show F2 (Wp.int.R k5) ([[.int .i64 x15]] : List (List Value)) [x15] from ⟨⟨rfl, ix15⟩, trivial⟩)), hM1⟩ (Nat.lt_succ_self _)))))
  ·replace hM1 := ifN hM1 hc9
   obtain ⟨x17, gx17, hM1⟩ := l0 hM1
   obtain ⟨bx17, csx17, ex17, rx17⟩ := Sl.getI (r := Wp.int.toRp) (D1.mono sX1 rp0) gx17 (by decide)
   refine And.intro bx17 ?_
   obtain ⟨rfl, ix17⟩ := rx17
   refine Exists.intro _ (And.intro ex17 ?_)
   refine And.intro (fun hc18 => ?_) (fun hc18 => ?_)
   ·replace hM1 := ifP hM1 hc18
    obtain ⟨q19, gq19, hM1⟩ := l0 hM1
    refine And.intro (N1 gq19 (by first | rw [F2.length fu4, F2.length (show F2 (Wp.int.R k5) ([[.int .i64 p1]] : List (List Value)) [p1] from ⟨⟨rfl, ip1⟩, trivial⟩)] | exact congrArg (· + 1) (F2.length fu4))) ?_
    obtain ⟨x20, gx20, hM1⟩ := l0 hM1
    obtain ⟨bx20, csx20, ex20, rx20⟩ := Sl.getI (r := Wp.int.toRp) (D1.mono sX1 rp0) gx20 (by decide)
    refine And.intro bx20 ?_
    obtain ⟨rfl, ix20⟩ := rx20
    refine Exists.intro _ (And.intro ex20 ?_)
    obtain ⟨q21, gq21, hM1⟩ := l0 hM1
    refine And.intro (N1 gq21 (by first | rw [F2.length (F2.append fu4 (show F2 (Wp.int.R k5) ([[.int .i64 p1]] : List (List Value)) [p1] from ⟨⟨rfl, ip1⟩, trivial⟩)), F2.length (show F2 (Wp.int.R k5) ([[.int .i64 x20]] : List (List Value)) [x20] from ⟨⟨rfl, ix20⟩, trivial⟩)] | exact congrArg (· + 1) (F2.length (F2.append fu4 (show F2 (Wp.int.R k5) ([[.int .i64 p1]] : List (List Value)) [p1] from ⟨⟨rfl, ip1⟩, trivial⟩))))) ?_
    refine And.intro rfl (And.intro (by repeat (first | exact trivial | refine And.intro rfl ?_)) (And.intro (by repeat (first | exact trivial | refine And.intro rfl ?_)) (Exists.intro m6 (And.intro ⟨true, (IntKind.i64.wrap (u3 + 1)), ((wu4 ++ ([[.int .i64 p1]] : List (List Value))) ++ ([[.int .i64 x20]] : List (List Value))), ((u4 ++ [p1]) ++ [x20]), rfl, rfl, sX1, (M0 _), (F2.append (F2.append fu4 (show F2 (Wp.int.R k5) ([[.int .i64 p1]] : List (List Value)) [p1] from ⟨⟨rfl, ip1⟩, trivial⟩)) (show F2 (Wp.int.R k5) ([[.int .i64 x20]] : List (List Value)) [x20] from ⟨⟨rfl, ix20⟩, trivial⟩)), hM1⟩ (Nat.lt_succ_self _)))))
   ·replace hM1 := ifN hM1 hc18
    obtain ⟨x22, gx22, hM1⟩ := l0 hM1
    obtain ⟨bx22, csx22, ex22, rx22⟩ := Sl.getI (r := Wp.int.toRp) (D1.mono sX1 rp0) gx22 (by decide)
    refine And.intro bx22 ?_
    obtain ⟨rfl, ix22⟩ := rx22
    refine Exists.intro _ (And.intro ex22 ?_)
    obtain ⟨q23, gq23, hM1⟩ := l0 hM1
    refine And.intro (N1 gq23 (by first | rw [F2.length fu4, F2.length (show F2 (Wp.int.R k5) ([[.int .i64 x22]] : List (List Value)) [x22] from ⟨⟨rfl, ix22⟩, trivial⟩)] | exact congrArg (· + 1) (F2.length fu4))) ?_
    refine And.intro rfl (And.intro (by repeat (first | exact trivial | refine And.intro rfl ?_)) (And.intro (by repeat (first | exact trivial | refine And.intro rfl ?_)) (Exists.intro m6 (And.intro ⟨u2, (IntKind.i64.wrap (u3 + 1)), (wu4 ++ ([[.int .i64 x22]] : List (List Value))), (u4 ++ [x22]), rfl, rfl, sX1, (M0 _), (F2.append fu4 (show F2 (Wp.int.R k5) ([[.int .i64 x22]] : List (List Value)) [x22] from ⟨⟨rfl, ix22⟩, trivial⟩)), hM1⟩ (Nat.lt_succ_self _)))))
 ·replace hM1 := ifN hM1 hc7
  have hE := Option.some.inj hM1; subst hE
  try dsimp only [Y0, Z0] at hM0
  refine And.intro (fun hc24 => ?_) (fun hc24 => ?_)
  ·replace hM0 := ifP hM0 hc24
   obtain ⟨q25, gq25, hM0⟩ := l0 hM0
   refine And.intro (N1 gq25 (by first | rw [F2.length fu4, F2.length (show F2 (Wp.int.R k5) ([[.int .i64 p1]] : List (List Value)) [p1] from ⟨⟨rfl, ip1⟩, trivial⟩)] | exact congrArg (· + 1) (F2.length fu4))) ?_
   intro v26 k27 f28
   obtain ⟨az29, cz29, rfl, rz29, sz29, lz29⟩ := Q0.out (r := Wp.int.toRp) f28 (F2.append fu4 (show F2 (Wp.int.R k5) ([[.int .i64 p1]] : List (List Value)) [p1] from ⟨⟨rfl, ip1⟩, trivial⟩))
   have hE := Option.some.inj hM0; subst hE
   exact ⟨az29, ((u4 ++ [p1])).length, cz29, rfl, rz29, (sX1.trans sz29)⟩
  ·replace hM0 := ifN hM0 hc24
   intro v30 k31 f32
   obtain ⟨az33, cz33, rfl, rz33, sz33, lz33⟩ := Q0.out (r := Wp.int.toRp) f32 fu4
   have hE := Option.some.inj hM0; subst hE
   exact ⟨az33, u4.length, cz33, rfl, rz33, (sX1.trans sz33)⟩
theorem F00 (h : Hp) (ap0 : Option Addr) (np0 cp0 : Nat) (p0 : D0) (rp0 : D1.R h [.slice ap0 np0 cp0] p0) (p1 : Int) (ip1 : N0 p1) (r : Bool) (hM0 : r7 p0 p1 = some r) :
  Tr Tryz.prog 160 #[.slice ap0 np0 cp0, .int .i64 p1] h fun v h' => v = .bool r ∧ h' = h := by
 obtain ⟨rfl, lp0⟩ := Sl.len rp0
 unfold r7 at hM0
 refine Tr.forget (j3 (args := [.slice ap0 p0.length cp0, .int .i64 p1]) (fn := Tryz.f160) rfl ?_)
 obtain ⟨X1, hLX1, hM0⟩ := l0 hM0
 refine Exists.intro { vars := [5], boxes := [], owns := [], fuel := true } (Exists.intro (fun vs os h' => ∃ (u2 : Int), vs.tail = [.int .i64 u2] ∧ os = [] ∧ Sub h h' ∧ N0 u2 ∧ U6 p0 p1 (Y1 vs) u2 = some X1) (Exists.intro (fun _ _ => 0) ?_))
 refine And.intro (Exists.intro U0 ⟨0, rfl, rfl, (Sub.refl _), (c64 (by decide) (by decide)), hLX1⟩) ?_
 rintro v_0 m4 k3 ⟨u2, evX1, eoX1, sX1, iu2, hM1⟩
 cases evX1
 cases eoX1
 replace hM1 : U6 p0 p1 m4 u2 = some X1 := hM1
 obtain _ | m4 := m4
 ·cases (show (none : Option _) = some X1 from hM1)
 rw [U6.eq_2] at hM1
 refine And.intro (fun hc5 => ?_) (fun hc5 => ?_)
 ·replace hM1 := ifP hM1 hc5
  obtain ⟨x6, gx6, hM1⟩ := l0 hM1
  obtain ⟨bx6, csx6, ex6, rx6⟩ := Sl.getI (r := Wp.int.toRp) (D1.mono sX1 rp0) gx6 (by decide)
  refine And.intro bx6 ?_
  obtain ⟨rfl, ix6⟩ := rx6
  refine Exists.intro _ (And.intro ex6 ?_)
  refine And.intro (fun hc7 => ?_) (fun hc7 => ?_)
  ·replace hM1 := ifP hM1 hc7
   have hE := Option.some.inj hM1; subst hE
   try dsimp only [P6, Q6] at hM0
   have hE := Option.some.inj hM0; subst hE
   exact And.intro rfl sX1
  ·replace hM1 := ifN hM1 hc7
   refine And.intro rfl (And.intro (by repeat (first | exact trivial | refine And.intro rfl ?_)) (And.intro (by repeat (first | exact trivial | refine And.intro rfl ?_)) (Exists.intro m4 (And.intro ⟨(IntKind.i64.wrap (u2 + 1)), rfl, rfl, sX1, (M0 _), hM1⟩ (Nat.lt_succ_self _)))))
 ·replace hM1 := ifN hM1 hc5
  have hE := Option.some.inj hM1; subst hE
  try dsimp only [Y0, Z0] at hM0
  have hE := Option.some.inj hM0; subst hE
  exact And.intro rfl sX1
theorem K07 (h : Hp) (csp0 : List Value) (p0 : j0) (rp0 : S0.R h csp0 p0) (p1 : Int) (ip1 : N0 p1) (p2 : Int) (ip2 : N0 p2) (r : D0) (hM0 : h8 p0 p1 p2 = some r) :
  Tr Tryz.prog 243 #[.agg csp0.toArray, .int .i64 p1, .int .i64 p2] h fun v h' => ∃ (a0 : Option Addr) (n0 c0 : Nat), v = .slice a0 n0 c0 ∧ D1.R h' [.slice a0 n0 c0] r ∧ Sub h h' := by
 obtain ⟨p0_0, p0_1, ap0_2, np0_2, cp0_2, p0_2, rfl, rfl, ip0_0, ip0_1, rp0_2⟩ := B0 rp0
 obtain ⟨rfl, lp0_2⟩ := Sl.len rp0_2
 unfold h8 at hM0
 dsimp only at hM0
 refine j3 (args := [.agg #[.int .i64 p0_0, .int .i64 p0_1, .slice ap0_2 p0_2.length cp0_2], .int .i64 p1, .int .i64 p2]) (fn := Tryz.f243) rfl ?_
 obtain ⟨X5, hLX5, hM0⟩ := l0 hM0
 refine Exists.intro { vars := [7, 8], boxes := [], owns := [], fuel := true, pubs := [7, 10] } (Exists.intro (fun vs os h' => ∃ (au6 : Option Addr) (nu6 cu6 : Nat) (u6 : D0) (u7 : Int), vs.tail = [.slice au6 nu6 cu6, .int .i64 u7] ∧ os = [] ∧ Sub h h' ∧ D1.R h' [.slice au6 nu6 cu6] u6 ∧ N0 u7 ∧ l3 p0_2 p2 p1 (Y1 vs) u6 u7 = some X5) (Exists.intro (fun _ _ => 0) ?_))
 intro v1 k2 f3
 obtain ⟨az4, cz4, rfl, rz4, sz4, lz4⟩ := Q0.out (r := Wp.int.toRp) f3 (show F2 (Wp.int.R h) ([] : List (List Value)) ([] : D0) from trivial)
 refine And.intro (Exists.intro U0 ⟨az4, (([] : D0)).length, cz4, ([] : D0), 0, rfl, rfl, sz4, rz4, (c64 (by decide) (by decide)), hLX5⟩) ?_
 rintro v_0 v_1 m9 k8 ⟨au6, nu6, cu6, u6, u7, evX5, eoX5, sX5, ru6, iu7, hM1⟩
 cases evX5
 cases eoX5
 replace hM1 : l3 p0_2 p2 p1 m9 u6 u7 = some X5 := hM1
 obtain _ | m9 := m9
 ·cases (show (none : Option _) = some X5 from hM1)
 rw [l3.eq_2] at hM1
 obtain ⟨rfl, lu6⟩ := Sl.len ru6
 refine And.intro (fun hc10 => ?_) (fun hc10 => ?_)
 ·replace hM1 := ifP hM1 hc10
  obtain ⟨x11, gx11, hM1⟩ := l0 hM1
  obtain ⟨bx11, csx11, ex11, rx11⟩ := Sl.getI (r := P0.toRp) (J0.mono sX5 rp0_2) gx11 (by decide)
  refine And.intro bx11 ?_
  obtain ⟨x11_0, x11_1, x11_2, rfl, rfl, ix11_0, ix11_1, ix11_2⟩ := E1 rx11
  try dsimp only at hM1
  refine Exists.intro _ (And.intro ex11 ?_)
  refine And.intro (fun hc12 => ?_) (fun hc12 => ?_)
  ·replace hM1 := ifP hM1 hc12
   obtain ⟨x13, gx13, hM1⟩ := l0 hM1
   refine Tr.mono (R9 _ au6 u6.length cu6 u6 ru6 x11_2 ix11_2 _  gx13) ?_
   rintro v15 k14 ⟨ax13, nx13, cx13, rfl, rx13, sx13⟩
   obtain ⟨rfl, lx13⟩ := Sl.len rx13
   refine And.intro (fun hc16 => ?_) (fun hc16 => ?_)
   ·replace hM1 := ifP hM1 hc16
    obtain ⟨x17, gx17, hM1⟩ := l0 hM1
    refine Tr.mono (R9 _ ax13 x13.length cx13 x13 rx13 x11_0 ix11_0 _  gx17) ?_
    rintro v19 k18 ⟨ax17, nx17, cx17, rfl, rx17, sx17⟩
    obtain ⟨rfl, lx17⟩ := Sl.len rx17
    refine And.intro rfl (And.intro (by repeat (first | exact trivial | refine And.intro rfl ?_)) (And.intro (by repeat (first | exact trivial | refine And.intro rfl ?_)) (Exists.intro m9 (And.intro ⟨ax17, x17.length, cx17, x17, (IntKind.i64.wrap (u7 + 1)), rfl, rfl, ((sX5.trans sx13).trans sx17), rx17, (M0 _), hM1⟩ (Nat.lt_succ_self _)))))
   ·replace hM1 := ifN hM1 hc16
    refine And.intro rfl (And.intro (by repeat (first | exact trivial | refine And.intro rfl ?_)) (And.intro (by repeat (first | exact trivial | refine And.intro rfl ?_)) (Exists.intro m9 (And.intro ⟨ax13, x13.length, cx13, x13, (IntKind.i64.wrap (u7 + 1)), rfl, rfl, (sX5.trans sx13), rx13, (M0 _), hM1⟩ (Nat.lt_succ_self _)))))
  ·replace hM1 := ifN hM1 hc12
   refine And.intro (fun hc20 => ?_) (fun hc20 => ?_)
   ·replace hM1 := ifP hM1 hc20
    obtain ⟨x21, gx21, hM1⟩ := l0 hM1
    refine Tr.mono (R9 _ au6 u6.length cu6 u6 ru6 x11_0 ix11_0 _  gx21) ?_
    rintro v23 k22 ⟨ax21, nx21, cx21, rfl, rx21, sx21⟩
    obtain ⟨rfl, lx21⟩ := Sl.len rx21
    refine And.intro rfl (And.intro (by repeat (first | exact trivial | refine And.intro rfl ?_)) (And.intro (by repeat (first | exact trivial | refine And.intro rfl ?_)) (Exists.intro m9 (And.intro ⟨ax21, x21.length, cx21, x21, (IntKind.i64.wrap (u7 + 1)), rfl, rfl, (sX5.trans sx21), rx21, (M0 _), hM1⟩ (Nat.lt_succ_self _)))))
   ·replace hM1 := ifN hM1 hc20
    refine And.intro rfl (And.intro (by repeat (first | exact trivial | refine And.intro rfl ?_)) (And.intro (by repeat (first | exact trivial | refine And.intro rfl ?_)) (Exists.intro m9 (And.intro ⟨au6, u6.length, cu6, u6, (IntKind.i64.wrap (u7 + 1)), rfl, rfl, sX5, ru6, (M0 _), hM1⟩ (Nat.lt_succ_self _)))))
 ·replace hM1 := ifN hM1 hc10
  have hE := Option.some.inj hM1; subst hE
  try dsimp only [Y0, Z0] at hM0
  have hE := Option.some.inj hM0; subst hE
  exact ⟨au6, u6.length, cu6, rfl, ru6, sX5⟩
theorem G00 (h : Hp) (csp0 : List Value) (p0 : j0) (rp0 : S0.R h csp0 p0) (p1 : Int) (ip1 : N0 p1) (p2 : Int) (ip2 : N0 p2) (r : Int) (hM0 : W5 p0 p1 p2 = some r) :
  Tr Tryz.prog 159 #[.agg csp0.toArray, .int .i64 p1, .int .i64 p2] h fun v h' => v = .int .i64 r ∧ h' = h := by
 obtain ⟨p0_0, p0_1, ap0_2, np0_2, cp0_2, p0_2, rfl, rfl, ip0_0, ip0_1, rp0_2⟩ := B0 rp0
 obtain ⟨rfl, lp0_2⟩ := Sl.len rp0_2
 unfold W5 at hM0
 dsimp only at hM0
 refine Tr.forget (j3 (args := [.agg #[.int .i64 p0_0, .int .i64 p0_1, .slice ap0_2 p0_2.length cp0_2], .int .i64 p1, .int .i64 p2]) (fn := Tryz.f159) rfl ?_)
 obtain ⟨x1, gx1, hM0⟩ := l0 hM0
 refine Tr.mono (K07 _ [.int .i64 p0_0, .int .i64 p0_1, .slice ap0_2 p0_2.length cp0_2] (p0_0, p0_1, p0_2) (z0 ip0_0 ip0_1 rp0_2) p1 ip1 p2 ip2 _  gx1) ?_
 rintro v3 k2 ⟨ax1, nx1, cx1, rfl, rx1, sx1⟩
 obtain ⟨rfl, lx1⟩ := Sl.len rx1
 refine And.intro (fun hc4 => ?_) (fun hc4 => ?_)
 ·replace hM0 := ifP hM0 hc4
  have hE := Option.some.inj hM0; subst hE
  exact And.intro rfl sx1
 ·replace hM0 := ifN hM0 hc4
  obtain ⟨x5, gx5, hM0⟩ := l0 hM0
  obtain ⟨bx5, csx5, ex5, rx5⟩ := Sl.getI (r := Wp.int.toRp) rx1 gx5 (by decide)
  refine And.intro bx5 ?_
  obtain ⟨rfl, ix5⟩ := rx5
  refine Exists.intro _ (And.intro ex5 ?_)
  have hE := Option.some.inj hM0; subst hE
  exact And.intro rfl sx1
theorem R8 (h : Hp) (csp0 : List Value) (p0 : j0) (rp0 : S0.R h csp0 p0) (r : Bool) (hM0 : D5 p0 = some r) :
  Tr Tryz.prog 245 #[.agg csp0.toArray] h fun v h' => v = .bool r ∧ h' = h := by
 obtain ⟨p0_0, p0_1, ap0_2, np0_2, cp0_2, p0_2, rfl, rfl, ip0_0, ip0_1, rp0_2⟩ := B0 rp0
 obtain ⟨rfl, lp0_2⟩ := Sl.len rp0_2
 unfold D5 at hM0
 dsimp only at hM0
 refine Tr.forget (j3 (args := [.agg #[.int .i64 p0_0, .int .i64 p0_1, .slice ap0_2 p0_2.length cp0_2]]) (fn := Tryz.f245) rfl ?_)
 obtain ⟨X1, hLX1, hM0⟩ := l0 hM0
 refine Exists.intro { vars := [3], boxes := [], owns := [], fuel := true } (Exists.intro (fun vs os h' => ∃ (u2 : Int), vs.tail = [.int .i64 u2] ∧ os = [] ∧ Sub h h' ∧ N0 u2 ∧ f4 p0_2 p0_0 p0_1 (Y1 vs) u2 = some X1) (Exists.intro (fun _ _ => 0) ?_))
 refine And.intro (Exists.intro U0 ⟨0, rfl, rfl, (Sub.refl _), (c64 (by decide) (by decide)), hLX1⟩) ?_
 rintro v_0 m4 k3 ⟨u2, evX1, eoX1, sX1, iu2, hM1⟩
 cases evX1
 cases eoX1
 replace hM1 : f4 p0_2 p0_0 p0_1 m4 u2 = some X1 := hM1
 obtain _ | m4 := m4
 ·cases (show (none : Option _) = some X1 from hM1)
 rw [f4.eq_2] at hM1
 obtain ⟨x5, gx5, hM1⟩ := l0 hM1
 refine Exists.intro (.bool x5) (And.intro (fun q => c7 _ [.int .i64 p0_0, .int .i64 p0_1, .slice ap0_2 p0_2.length cp0_2] (p0_0, p0_1, p0_2) (z0 ip0_0 ip0_1 (J0.mono sX1 rp0_2)) _  (E2 gx5 q)) ?_)
 refine And.intro (fun hc6 => ?_) (fun hc6 => ?_)
 ·replace hM1 := ifP hM1 hc6
  obtain ⟨X7, hLX7, hM1⟩ := l0 hM1
  refine Exists.intro { vars := [4], boxes := [], owns := [], fuel := true } (Exists.intro (fun vs os h' => ∃ (u8 : Int), vs.tail = [.int .i64 u8] ∧ os = [] ∧ Sub k3 h' ∧ N0 u8 ∧ i5 u2 p0_2 (Y1 vs) u8 = some X7) (Exists.intro (fun _ _ => 0) ?_))
  refine And.intro (Exists.intro U0 ⟨0, rfl, rfl, (Sub.refl _), (c64 (by decide) (by decide)), hLX7⟩) ?_
  rintro v_0 m10 k9 ⟨u8, evX7, eoX7, sX7, iu8, hM2⟩
  cases evX7
  cases eoX7
  replace hM2 : i5 u2 p0_2 m10 u8 = some X7 := hM2
  obtain _ | m10 := m10
  ·cases (show (none : Option _) = some X7 from hM2)
  rw [i5.eq_2] at hM2
  refine And.intro (fun hc11 => ?_) (fun hc11 => ?_)
  ·replace hM2 := ifP hM2 hc11
   obtain ⟨x12, gx12, hM2⟩ := l0 hM2
   obtain ⟨bx12, csx12, ex12, rx12⟩ := Sl.getI (r := P0.toRp) (J0.mono (sX1.trans sX7) rp0_2) gx12 (by decide)
   refine And.intro bx12 ?_
   obtain ⟨x12_0, x12_1, x12_2, rfl, rfl, ix12_0, ix12_1, ix12_2⟩ := E1 rx12
   try dsimp only at hM2
   refine Exists.intro _ (And.intro ex12 ?_)
   obtain ⟨x13, gx13, hM2⟩ := l0 hM2
   obtain ⟨bx13, csx13, ex13, rx13⟩ := Sl.getI (r := P0.toRp) (J0.mono (sX1.trans sX7) rp0_2) gx13 (by decide)
   refine And.intro bx13 ?_
   obtain ⟨x13_0, x13_1, x13_2, rfl, rfl, ix13_0, ix13_1, ix13_2⟩ := E1 rx13
   try dsimp only at hM2
   refine Exists.intro _ (And.intro ex13 ?_)
   refine And.intro (fun hc14 => ?_) (fun hc14 => ?_)
   ·replace hM2 := ifP hM2 hc14
    have hE := Option.some.inj hM2; subst hE
    try dsimp only [P6, Q6] at hM1
    have hE := Option.some.inj hM1; subst hE
    try dsimp only [P6, Q6] at hM0
    have hE := Option.some.inj hM0; subst hE
    exact And.intro rfl (sX1.trans sX7)
   ·replace hM2 := ifN hM2 hc14
    refine And.intro rfl (And.intro (by repeat (first | exact trivial | refine And.intro rfl ?_)) (And.intro (by repeat (first | exact trivial | refine And.intro rfl ?_)) (Exists.intro m10 (And.intro ⟨(IntKind.i64.wrap (u8 + 1)), rfl, rfl, sX7, (M0 _), hM2⟩ (Nat.lt_succ_self _)))))
  ·replace hM2 := ifN hM2 hc11
   have hE := Option.some.inj hM2; subst hE
   try dsimp only [Y0, Z0] at hM1
   refine And.intro rfl (And.intro (by repeat (first | exact trivial | refine And.intro rfl ?_)) (And.intro (by repeat (first | exact trivial | refine And.intro rfl ?_)) (Exists.intro m4 (And.intro ⟨(IntKind.i64.wrap (u2 + 1)), rfl, rfl, (sX1.trans sX7), (M0 _), hM1⟩ (Nat.lt_succ_self _)))))
 ·replace hM1 := ifN hM1 hc6
  have hE := Option.some.inj hM1; subst hE
  try dsimp only [Y0, Z0] at hM0
  obtain ⟨x18, gx18, hM0⟩ := l0 hM0
  refine Tr.val (c7 _ [.int .i64 p0_0, .int .i64 p0_1, .slice ap0_2 p0_2.length cp0_2] (p0_0, p0_1, p0_2) (z0 ip0_0 ip0_1 (J0.mono sX1 rp0_2)) _  gx18) ?_
  have hE := Option.some.inj hM0; subst hE
  exact And.intro rfl sX1
theorem L07 (h : Hp) (csp0 : List Value) (p0 : j0) (rp0 : S0.R h csp0 p0) (p1 : Int) (ip1 : N0 p1) (p2 : Int) (ip2 : N0 p2) (r : D0) (hM0 : i8 p0 p1 p2 = some r) :
  Tr Tryz.prog 274 #[.agg csp0.toArray, .int .i64 p1, .int .i64 p2] h fun v h' => ∃ (a0 : Option Addr) (n0 c0 : Nat), v = .slice a0 n0 c0 ∧ New D1 h h' [.slice a0 n0 c0] r := by
 obtain ⟨p0_0, p0_1, ap0_2, np0_2, cp0_2, p0_2, rfl, rfl, ip0_0, ip0_1, rp0_2⟩ := B0 rp0
 obtain ⟨rfl, lp0_2⟩ := Sl.len rp0_2
 unfold i8 at hM0
 dsimp only at hM0
 refine j3 (args := [.agg #[.int .i64 p0_0, .int .i64 p0_1, .slice ap0_2 p0_2.length cp0_2], .int .i64 p1, .int .i64 p2]) (fn := Tryz.f274) rfl ?_
 obtain ⟨X1, hLX1, hM0⟩ := l0 hM0
 refine Exists.intro { vars := [14], boxes := [], owns := [0], fuel := true } (Exists.intro (fun vs os h' => ∃ (u2 : Int) (wu3 : List (List Value)) (u3 : List Int), vs.tail = [.int .i64 u2] ∧ os = [wu3] ∧ Sub h h' ∧ N0 u2 ∧ F2 (Wp.int.R h') wu3 u3 ∧ P3 p0_2 p2 p1 (Y1 vs) u2 u3 = some X1) (Exists.intro (fun _ _ => 0) ?_))
 refine And.intro (Exists.intro U0 ⟨0, [], ([] : D0), rfl, rfl, (Sub.refl _), (c64 (by decide) (by decide)), (show F2 (Wp.int.R h) ([] : List (List Value)) ([] : D0) from trivial), hLX1⟩) ?_
 rintro v_0 wu3 m5 k4 ⟨u2, zzu3, u3, evX1, eoX1, sX1, iu2, fu3, hM1⟩
 cases evX1
 cases eoX1
 replace hM1 : P3 p0_2 p2 p1 m5 u2 u3 = some X1 := hM1
 obtain _ | m5 := m5
 ·cases (show (none : Option _) = some X1 from hM1)
 rw [P3.eq_2] at hM1
 refine And.intro (fun hc6 => ?_) (fun hc6 => ?_)
 ·replace hM1 := ifP hM1 hc6
  obtain ⟨x7, gx7, hM1⟩ := l0 hM1
  obtain ⟨bx7, csx7, ex7, rx7⟩ := Sl.getI (r := P0.toRp) (J0.mono sX1 rp0_2) gx7 (by decide)
  refine And.intro bx7 ?_
  obtain ⟨x7_0, x7_1, x7_2, rfl, rfl, ix7_0, ix7_1, ix7_2⟩ := E1 rx7
  try dsimp only at hM1
  refine Exists.intro _ (And.intro ex7 ?_)
  refine And.intro (fun hc8 => ?_) (fun hc8 => ?_)
  ·replace hM1 := ifP hM1 hc8
   obtain ⟨q9, gq9, hM1⟩ := l0 hM1
   refine And.intro (N1 gq9 (by first | rw [F2.length fu3, F2.length (show F2 (Wp.int.R k4) ([[.int .i64 x7_2]] : List (List Value)) [x7_2] from ⟨⟨rfl, ix7_2⟩, trivial⟩)] | exact congrArg (· + 1) (F2.length fu3))) ?_
   refine And.intro rfl (And.intro (by repeat (first | exact trivial | refine And.intro rfl ?_)) (And.intro (by repeat (first | exact trivial | refine And.intro rfl ?_)) (Exists.intro m5 (And.intro ⟨(IntKind.i64.wrap (u2 + 1)), (wu3 ++ ([[.int .i64 x7_2]] : List (List Value))), (u3 ++ [x7_2]), rfl, rfl, sX1, (M0 _), (F2.append fu3 (show F2 (Wp.int.R k4) ([[.int .i64 x7_2]] : List (List Value)) [x7_2] from ⟨⟨rfl, ix7_2⟩, trivial⟩)), hM1⟩ (Nat.lt_succ_self _)))))
  ·replace hM1 := ifN hM1 hc8
   refine And.intro (fun hc10 => ?_) (fun hc10 => ?_)
   ·replace hM1 := ifP hM1 hc10
    obtain ⟨q11, gq11, hM1⟩ := l0 hM1
    refine And.intro (N1 gq11 (by first | rw [F2.length fu3, F2.length (show F2 (Wp.int.R k4) ([[.int .i64 x7_0]] : List (List Value)) [x7_0] from ⟨⟨rfl, ix7_0⟩, trivial⟩)] | exact congrArg (· + 1) (F2.length fu3))) ?_
    refine And.intro rfl (And.intro (by repeat (first | exact trivial | refine And.intro rfl ?_)) (And.intro (by repeat (first | exact trivial | refine And.intro rfl ?_)) (Exists.intro m5 (And.intro ⟨(IntKind.i64.wrap (u2 + 1)), (wu3 ++ ([[.int .i64 x7_0]] : List (List Value))), (u3 ++ [x7_0]), rfl, rfl, sX1, (M0 _), (F2.append fu3 (show F2 (Wp.int.R k4) ([[.int .i64 x7_0]] : List (List Value)) [x7_0] from ⟨⟨rfl, ix7_0⟩, trivial⟩)), hM1⟩ (Nat.lt_succ_self _)))))
   ·replace hM1 := ifN hM1 hc10
    refine And.intro rfl (And.intro (by repeat (first | exact trivial | refine And.intro rfl ?_)) (And.intro (by repeat (first | exact trivial | refine And.intro rfl ?_)) (Exists.intro m5 (And.intro ⟨(IntKind.i64.wrap (u2 + 1)), wu3, u3, rfl, rfl, sX1, (M0 _), fu3, hM1⟩ (Nat.lt_succ_self _)))))
 ·replace hM1 := ifN hM1 hc6
  have hE := Option.some.inj hM1; subst hE
  try dsimp only [Y0, Z0] at hM0
  refine Or.inl ?_
  intro v12 k13 f14
  obtain ⟨q15, gq15, hM0⟩ := l0 hM0
  refine Tr.mono (M0f _ f14 fu3 (B3 gq15)) ?_
  rintro _ kz16 ⟨rfl, vsz16, fz16, qz16⟩
  obtain ⟨az16, cz16, rfl, rz16, sz16, lz16⟩ := Q0.out (r := Wp.int.toRp) fz16 qz16
  refine Tr.mono (N0f _ fz16 qz16) ?_
  rintro _ kz17 ⟨vsz17, fz17, qz17⟩
  obtain ⟨az17, cz17, rfl, rz17, sz17, lz17⟩ := Q0.out (r := Wp.int.toRp) fz17 qz17
  have hE := Option.some.inj hM0; subst hE
  exact ⟨az17, ((K00 eqI (R02 g7 u3))).length, cz17, rfl, (New.from (Q0.newPlain (r := Wp.int) fz17 qz17 (h08 _)) sX1)⟩
theorem H00 (h : Hp) (csp0 : List Value) (p0 : j0) (rp0 : S0.R h csp0 p0) (p1 : Int) (ip1 : N0 p1) (p2 : Int) (ip2 : N0 p2) (r : Int) (hM0 : Y5 p0 p1 p2 = some r) :
  Tr Tryz.prog 199 #[.agg csp0.toArray, .int .i64 p1, .int .i64 p2] h fun v h' => v = .int .i64 r ∧ h' = h := by
 obtain ⟨p0_0, p0_1, ap0_2, np0_2, cp0_2, p0_2, rfl, rfl, ip0_0, ip0_1, rp0_2⟩ := B0 rp0
 obtain ⟨rfl, lp0_2⟩ := Sl.len rp0_2
 unfold Y5 at hM0
 dsimp only at hM0
 refine Tr.forget (j3 (args := [.agg #[.int .i64 p0_0, .int .i64 p0_1, .slice ap0_2 p0_2.length cp0_2], .int .i64 p1, .int .i64 p2]) (fn := Tryz.f199) rfl ?_)
 obtain ⟨x1, gx1, hM0⟩ := l0 hM0
 refine Tr.mono (L07 _ [.int .i64 p0_0, .int .i64 p0_1, .slice ap0_2 p0_2.length cp0_2] (p0_0, p0_1, p0_2) (z0 ip0_0 ip0_1 rp0_2) p1 ip1 p2 ip2 _  gx1) ?_
 rintro v3 k2 ⟨ax1, nx1, cx1, rfl, wx1⟩
 have sx1 : Sub h k2 := wx1.sub
 have rx1 := wx1.r
 obtain ⟨rfl, lx1⟩ := Sl.len rx1
 refine And.intro (fun hc4 => ?_) (fun hc4 => ?_)
 ·replace hM0 := ifP hM0 hc4
  have hE := Option.some.inj hM0; subst hE
  exact And.intro rfl sx1
 ·replace hM0 := ifN hM0 hc4
  obtain ⟨x5, gx5, hM0⟩ := l0 hM0
  obtain ⟨bx5, csx5, ex5, rx5⟩ := Sl.getI (r := Wp.int.toRp) rx1 gx5 (by decide)
  refine And.intro bx5 ?_
  obtain ⟨rfl, ix5⟩ := rx5
  refine Exists.intro _ (And.intro ex5 ?_)
  have hE := Option.some.inj hM0; subst hE
  exact And.intro rfl sx1
theorem V7 (h : Hp) (csp0 : List Value) (p0 : j0) (rp0 : S0.R h csp0 p0) (r : Bool) (hM0 : S4 p0 = some r) :
  Tr Tryz.prog 166 #[.agg csp0.toArray] h fun v h' => v = .bool r ∧ h' = h := by
 obtain ⟨p0_0, p0_1, ap0_2, np0_2, cp0_2, p0_2, rfl, rfl, ip0_0, ip0_1, rp0_2⟩ := B0 rp0
 obtain ⟨rfl, lp0_2⟩ := Sl.len rp0_2
 unfold S4 at hM0
 dsimp only at hM0
 refine Tr.forget (j3 (args := [.agg #[.int .i64 p0_0, .int .i64 p0_1, .slice ap0_2 p0_2.length cp0_2]]) (fn := Tryz.f166) rfl ?_)
 obtain ⟨x1, gx1, hM0⟩ := l0 hM0
 refine Tr.val (E00 _ [.int .i64 p0_0, .int .i64 p0_1, .slice ap0_2 p0_2.length cp0_2] (p0_0, p0_1, p0_2) (z0 ip0_0 ip0_1 rp0_2) _  gx1) ?_
 refine And.intro (fun hc2 => ?_) (fun hc2 => ?_)
 ·replace hM0 := ifP hM0 hc2
  have hE := Option.some.inj hM0; subst hE
  exact And.intro rfl (Sub.refl _)
 ·replace hM0 := ifN hM0 hc2
  obtain ⟨X3, hLX3, hM0⟩ := l0 hM0
  refine Exists.intro { vars := [13], boxes := [], owns := [], fuel := true } (Exists.intro (fun vs os h' => ∃ (u4 : Int), vs.tail = [.int .i64 u4] ∧ os = [] ∧ Sub h h' ∧ N0 u4 ∧ l5 p0_2 (Y1 vs) u4 = some X3) (Exists.intro (fun _ _ => 0) ?_))
  refine And.intro (Exists.intro U0 ⟨0, rfl, rfl, (Sub.refl _), (c64 (by decide) (by decide)), hLX3⟩) ?_
  rintro v_0 m6 k5 ⟨u4, evX3, eoX3, sX3, iu4, hM1⟩
  cases evX3
  cases eoX3
  replace hM1 : l5 p0_2 m6 u4 = some X3 := hM1
  obtain _ | m6 := m6
  ·cases (show (none : Option _) = some X3 from hM1)
  rw [l5.eq_2] at hM1
  refine And.intro (fun hc7 => ?_) (fun hc7 => ?_)
  ·replace hM1 := ifP hM1 hc7
   obtain ⟨x8, gx8, hM1⟩ := l0 hM1
   obtain ⟨bx8, csx8, ex8, rx8⟩ := Sl.getI (r := P0.toRp) (J0.mono sX3 rp0_2) gx8 (by decide)
   refine And.intro bx8 ?_
   obtain ⟨x8_0, x8_1, x8_2, rfl, rfl, ix8_0, ix8_1, ix8_2⟩ := E1 rx8
   try dsimp only at hM1
   refine Exists.intro _ (And.intro ex8 ?_)
   obtain ⟨x9, gx9, hM1⟩ := l0 hM1
   obtain ⟨qx9, vsx9, ex9, fx9⟩ := Sl.cutI (r := P0.toRp) (J0.mono sX3 rp0_2) gx9
   refine And.intro qx9 (Exists.intro vsx9 (And.intro ex9 ?_))
   intro vx9 hvx9 _
   obtain ⟨ax9, cx9, rfl, rx9⟩ := fx9 vx9 hvx9
   have lx9 := (Sl.len rx9).2
   obtain ⟨X10, hLX10, hM1⟩ := l0 hM1
   refine Exists.intro { vars := [24], boxes := [], owns := [], fuel := true } (Exists.intro (fun vs os h' => ∃ (u11 : Int), vs.tail = [.int .i64 u11] ∧ os = [] ∧ Sub k5 h' ∧ N0 u11 ∧ j5 x9 x8_1 x8_0 x8_2 (Y1 vs) u11 = some X10) (Exists.intro (fun _ _ => 0) ?_))
   refine And.intro (Exists.intro U0 ⟨0, rfl, rfl, (Sub.refl _), (c64 (by decide) (by decide)), hLX10⟩) ?_
   rintro v_0 m13 k12 ⟨u11, evX10, eoX10, sX10, iu11, hM2⟩
   cases evX10
   cases eoX10
   replace hM2 : j5 x9 x8_1 x8_0 x8_2 m13 u11 = some X10 := hM2
   obtain _ | m13 := m13
   ·cases (show (none : Option _) = some X10 from hM2)
   rw [j5.eq_2] at hM2
   refine And.intro (fun hc14 => ?_) (fun hc14 => ?_)
   ·replace hM2 := ifP hM2 hc14
    obtain ⟨x15, gx15, hM2⟩ := l0 hM2
    obtain ⟨bx15, csx15, ex15, rx15⟩ := Sl.getI (r := P0.toRp) (J0.mono sX10 rx9) gx15 (by decide)
    refine And.intro bx15 ?_
    obtain ⟨x15_0, x15_1, x15_2, rfl, rfl, ix15_0, ix15_1, ix15_2⟩ := E1 rx15
    try dsimp only at hM2
    refine Exists.intro _ (And.intro ex15 ?_)
    refine And.intro (fun hc16 => ?_) (fun hc16 => ?_)
    ·replace hM2 := ifP hM2 hc16
     have hE := Option.some.inj hM2; subst hE
     try dsimp only [P6, Q6] at hM1
     have hE := Option.some.inj hM1; subst hE
     try dsimp only [P6, Q6] at hM0
     have hE := Option.some.inj hM0; subst hE
     exact And.intro rfl (sX3.trans sX10)
    ·replace hM2 := ifN hM2 hc16
     refine And.intro rfl (And.intro (by repeat (first | exact trivial | refine And.intro rfl ?_)) (And.intro (by repeat (first | exact trivial | refine And.intro rfl ?_)) (Exists.intro m13 (And.intro ⟨(IntKind.i64.wrap (u11 + 1)), rfl, rfl, sX10, (M0 _), hM2⟩ (Nat.lt_succ_self _)))))
   ·replace hM2 := ifN hM2 hc14
    have hE := Option.some.inj hM2; subst hE
    try dsimp only [Y0, Z0] at hM1
    refine And.intro rfl (And.intro (by repeat (first | exact trivial | refine And.intro rfl ?_)) (And.intro (by repeat (first | exact trivial | refine And.intro rfl ?_)) (Exists.intro m6 (And.intro ⟨(IntKind.i64.wrap (u4 + 1)), rfl, rfl, (sX3.trans sX10), (M0 _), hM1⟩ (Nat.lt_succ_self _)))))
  ·replace hM1 := ifN hM1 hc7
   have hE := Option.some.inj hM1; subst hE
   try dsimp only [Y0, Z0] at hM0
   have hE := Option.some.inj hM0; subst hE
   exact And.intro rfl sX3
end Go.Proofs.YtknoadmdnjaocaaGreat
namespace Go.Proofs.YtknoadmdnjaocaaGreat
open Go.H
set_option linter.unusedVariables false
set_option linter.unusedSimpArgs false
set_option maxRecDepth 10000
theorem B7 (h : Hp) (csp0 : List Value) (p0 : j0) (rp0 : S0.R h csp0 p0) (r : j0) (hM0 : T4 p0 = some r) :
  Tr Tryz.prog 78 #[.agg csp0.toArray] h fun v h' => ∃ (cs0 : List Value), v = .agg cs0.toArray ∧ S0.R h' cs0 r ∧ Sub h h' := by
 obtain ⟨p0_0, p0_1, ap0_2, np0_2, cp0_2, p0_2, rfl, rfl, ip0_0, ip0_1, rp0_2⟩ := B0 rp0
 obtain ⟨rfl, lp0_2⟩ := Sl.len rp0_2
 unfold T4 at hM0
 dsimp only at hM0
 refine j3 (args := [.agg #[.int .i64 p0_0, .int .i64 p0_1, .slice ap0_2 p0_2.length cp0_2]]) (fn := Tryz.f78) rfl ?_
 refine Or.inr (Or.inr (Or.inl (And.intro (And.intro (by kernel_rfl) (by kernel_rfl)) ?_)))
 refine Or.inr ?_
 refine Or.inr ?_
 refine Or.inr ?_
 refine Or.inr ?_
 refine Exists.intro 0 (And.intro (And.intro rfl rfl) ?_)
 refine And.intro trivial (And.intro (by first | exact trivial | exact rfl) ?_)
 obtain ⟨vsy1, ey1, fy1⟩ := Sl.rows (r := P0.toRp) rp0_2
 refine Exists.intro vsy1 (And.intro ey1 ?_)
 obtain ⟨q2, gq2, hM0⟩ := l0 hM0
 refine And.intro (N1 gq2 (by first | rw [F2.length (show F2 (P0.R h) ([] : List (List Value)) ([] : I0) from trivial), F2.length fy1] | exact congrArg (· + 1) (F2.length (show F2 (P0.R h) ([] : List (List Value)) ([] : I0) from trivial)))) ?_
 refine And.intro trivial (And.intro (by first | exact trivial | exact rfl) ?_)
 refine And.intro trivial (And.intro (by first | exact trivial | exact rfl) ?_)
 refine And.intro trivial (And.intro (by first | exact trivial | exact rfl) ?_)
 intro v3 k4 f5
 obtain ⟨az6, cz6, rfl, rz6, sz6, lz6⟩ := Q0.out (r := P0.toRp) f5 (F2.append (show F2 (P0.R h) ([] : List (List Value)) ([] : I0) from trivial) fy1)
 have hE := Option.some.inj hM0; subst hE
 exact ⟨([.int .i64 p0_0, .int .i64 p0_1, .slice az6 ((([] : I0) ++ p0_2)).length cz6]), rfl, (z0 ip0_0 ip0_1 rz6), sz6⟩
theorem P06 (h : Hp) (ap0 : Option Addr) (np0 cp0 : Nat) (p0 : I0) (rp0 : J0.R h [.slice ap0 np0 cp0] p0) (csp1 : List Value) (p1 : C0) (rp1 : P0.R h csp1 p1) (r : I0) (hM0 : P9 p0 p1 = some r) :
  Tr Tryz.prog 172 #[.slice ap0 np0 cp0, .agg csp1.toArray] h fun v h' => ∃ (a0 : Option Addr) (n0 c0 : Nat), v = .slice a0 n0 c0 ∧ J0.R h' [.slice a0 n0 c0] r ∧ Sub h h' := by
 obtain ⟨rfl, lp0⟩ := Sl.len rp0
 obtain ⟨p1_0, p1_1, p1_2, rfl, rfl, ip1_0, ip1_1, ip1_2⟩ := E1 rp1
 unfold P9 at hM0
 dsimp only at hM0
 refine j3 (args := [.slice ap0 p0.length cp0, .agg #[.int .i64 p1_0, .int .i64 p1_1, .int .i64 p1_2]]) (fn := Tryz.f172) rfl ?_
 obtain ⟨X1, hLX1, hM0⟩ := l0 hM0
 refine Exists.intro { vars := [6, 7], boxes := [], owns := [0], fuel := true } (Exists.intro (fun vs os h' => ∃ (u2 : Bool) (u3 : Int) (wu4 : List (List Value)) (u4 : List C0), vs.tail = [.bool u2, .int .i64 u3] ∧ os = [wu4] ∧ Sub h h' ∧ N0 u3 ∧ F2 (P0.R h') wu4 u4 ∧ J3 p0 p1_0 p1_1 p1_2 (Y1 vs) u2 u3 u4 = some X1) (Exists.intro (fun _ _ => 0) ?_))
 refine And.intro (Exists.intro U0 ⟨false, 0, [], ([] : I0), rfl, rfl, (Sub.refl _), (c64 (by decide) (by decide)), (show F2 (P0.R h) ([] : List (List Value)) ([] : I0) from trivial), hLX1⟩) ?_
 rintro v_0 v_1 wu4 m6 k5 ⟨u2, u3, zzu4, u4, evX1, eoX1, sX1, iu3, fu4, hM1⟩
 cases evX1
 cases eoX1
 replace hM1 : J3 p0 p1_0 p1_1 p1_2 m6 u2 u3 u4 = some X1 := hM1
 obtain _ | m6 := m6
 ·cases (show (none : Option _) = some X1 from hM1)
 rw [J3.eq_2] at hM1
 refine And.intro (fun hc7 => ?_) (fun hc7 => ?_)
 ·replace hM1 := ifP hM1 hc7
  refine Or.inl (And.intro (And.intro (by kernel_rfl) (by kernel_rfl)) ?_)
  obtain ⟨x8, gx8, hM1⟩ := l0 hM1
  obtain ⟨bx8, csx8, ex8, rx8⟩ := Sl.getI (r := P0.toRp) (J0.mono sX1 rp0) gx8 (by decide)
  refine And.intro bx8 ?_
  obtain ⟨x8_0, x8_1, x8_2, rfl, rfl, ix8_0, ix8_1, ix8_2⟩ := E1 rx8
  try dsimp only at hM1
  refine Exists.intro _ (And.intro ex8 ?_)
  obtain ⟨x9, gx9, hM1⟩ := l0 hM1
  refine Exists.intro (.int .i64 x9) (And.intro (l01 _ [.int .i64 p1_0, .int .i64 p1_1, .int .i64 p1_2] (p1_0, p1_1, p1_2) (K1 ip1_0 ip1_1 ip1_2) [.int .i64 x8_0, .int .i64 x8_1, .int .i64 x8_2] (x8_0, x8_1, x8_2) (K1 ix8_0 ix8_1 ix8_2) _  gx9) ?_)
  obtain ⟨q10, gq10, hM1⟩ := l0 hM1
  have ix9 : N0 x9 := B3 gq10
  refine And.intro (fun hc11 => ?_) (fun hc11 => ?_)
  ·replace hM1 := ifP hM1 hc11
   refine And.intro (fun hc12 => ?_) (fun hc12 => ?_)
   ·replace hM1 := ifP hM1 hc12
    obtain ⟨q13, gq13, hM1⟩ := l0 hM1
    refine And.intro (N1 gq13 (by first | rw [F2.length fu4, F2.length (show F2 (P0.R k5) ([[.int .i64 p1_0, .int .i64 p1_1, .int .i64 p1_2]] : List (List Value)) [(p1_0, p1_1, p1_2)] from ⟨(K1 ip1_0 ip1_1 ip1_2), trivial⟩)] | exact congrArg (· + 1) (F2.length fu4))) ?_
    obtain ⟨x14, gx14, hM1⟩ := l0 hM1
    obtain ⟨bx14, csx14, ex14, rx14⟩ := Sl.getI (r := P0.toRp) (J0.mono sX1 rp0) gx14 (by decide)
    refine And.intro bx14 ?_
    obtain ⟨x14_0, x14_1, x14_2, rfl, rfl, ix14_0, ix14_1, ix14_2⟩ := E1 rx14
    try dsimp only at hM1
    refine Exists.intro _ (And.intro ex14 ?_)
    obtain ⟨q15, gq15, hM1⟩ := l0 hM1
    refine And.intro (N1 gq15 (by first | rw [F2.length (F2.append fu4 (show F2 (P0.R k5) ([[.int .i64 p1_0, .int .i64 p1_1, .int .i64 p1_2]] : List (List Value)) [(p1_0, p1_1, p1_2)] from ⟨(K1 ip1_0 ip1_1 ip1_2), trivial⟩)), F2.length (show F2 (P0.R k5) ([[.int .i64 x14_0, .int .i64 x14_1, .int .i64 x14_2]] : List (List Value)) [(x14_0, x14_1, x14_2)] from ⟨(K1 ix14_0 ix14_1 ix14_2), trivial⟩)] | exact congrArg (· + 1) (F2.length (F2.append fu4 (show F2 (P0.R k5) ([[.int .i64 p1_0, .int .i64 p1_1, .int .i64 p1_2]] : List (List Value)) [(p1_0, p1_1, p1_2)] from ⟨(K1 ip1_0 ip1_1 ip1_2), trivial⟩))))) ?_
    refine And.intro rfl (And.intro (by repeat (first | exact trivial | refine And.intro rfl ?_)) (And.intro (by repeat (first | exact trivial | refine And.intro rfl ?_)) (Exists.intro m6 (And.intro ⟨true, (IntKind.i64.wrap (u3 + 1)), ((wu4 ++ ([[.int .i64 p1_0, .int .i64 p1_1, .int .i64 p1_2]] : List (List Value))) ++ ([[.int .i64 x14_0, .int .i64 x14_1, .int .i64 x14_2]] : List (List Value))), ((u4 ++ [(p1_0, p1_1, p1_2)]) ++ [(x14_0, x14_1, x14_2)]), rfl, rfl, sX1, (M0 _), (F2.append (F2.append fu4 (show F2 (P0.R k5) ([[.int .i64 p1_0, .int .i64 p1_1, .int .i64 p1_2]] : List (List Value)) [(p1_0, p1_1, p1_2)] from ⟨(K1 ip1_0 ip1_1 ip1_2), trivial⟩)) (show F2 (P0.R k5) ([[.int .i64 x14_0, .int .i64 x14_1, .int .i64 x14_2]] : List (List Value)) [(x14_0, x14_1, x14_2)] from ⟨(K1 ix14_0 ix14_1 ix14_2), trivial⟩)), hM1⟩ (Nat.lt_succ_self _)))))
   ·replace hM1 := ifN hM1 hc12
    obtain ⟨x16, gx16, hM1⟩ := l0 hM1
    obtain ⟨bx16, csx16, ex16, rx16⟩ := Sl.getI (r := P0.toRp) (J0.mono sX1 rp0) gx16 (by decide)
    refine And.intro bx16 ?_
    obtain ⟨x16_0, x16_1, x16_2, rfl, rfl, ix16_0, ix16_1, ix16_2⟩ := E1 rx16
    try dsimp only at hM1
    refine Exists.intro _ (And.intro ex16 ?_)
    obtain ⟨q17, gq17, hM1⟩ := l0 hM1
    refine And.intro (N1 gq17 (by first | rw [F2.length fu4, F2.length (show F2 (P0.R k5) ([[.int .i64 x16_0, .int .i64 x16_1, .int .i64 x16_2]] : List (List Value)) [(x16_0, x16_1, x16_2)] from ⟨(K1 ix16_0 ix16_1 ix16_2), trivial⟩)] | exact congrArg (· + 1) (F2.length fu4))) ?_
    refine And.intro rfl (And.intro (by repeat (first | exact trivial | refine And.intro rfl ?_)) (And.intro (by repeat (first | exact trivial | refine And.intro rfl ?_)) (Exists.intro m6 (And.intro ⟨true, (IntKind.i64.wrap (u3 + 1)), (wu4 ++ ([[.int .i64 x16_0, .int .i64 x16_1, .int .i64 x16_2]] : List (List Value))), (u4 ++ [(x16_0, x16_1, x16_2)]), rfl, rfl, sX1, (M0 _), (F2.append fu4 (show F2 (P0.R k5) ([[.int .i64 x16_0, .int .i64 x16_1, .int .i64 x16_2]] : List (List Value)) [(x16_0, x16_1, x16_2)] from ⟨(K1 ix16_0 ix16_1 ix16_2), trivial⟩)), hM1⟩ (Nat.lt_succ_self _)))))
  ·replace hM1 := ifN hM1 hc11
   refine And.intro (fun hc18 => ?_) (fun hc18 => ?_)
   ·replace hM1 := ifP hM1 hc18
    obtain ⟨q19, gq19, hM1⟩ := l0 hM1
    refine And.intro (N1 gq19 (by first | rw [F2.length fu4, F2.length (show F2 (P0.R k5) ([[.int .i64 p1_0, .int .i64 p1_1, .int .i64 p1_2]] : List (List Value)) [(p1_0, p1_1, p1_2)] from ⟨(K1 ip1_0 ip1_1 ip1_2), trivial⟩)] | exact congrArg (· + 1) (F2.length fu4))) ?_
    obtain ⟨x20, gx20, hM1⟩ := l0 hM1
    obtain ⟨bx20, csx20, ex20, rx20⟩ := Sl.getI (r := P0.toRp) (J0.mono sX1 rp0) gx20 (by decide)
    refine And.intro bx20 ?_
    obtain ⟨x20_0, x20_1, x20_2, rfl, rfl, ix20_0, ix20_1, ix20_2⟩ := E1 rx20
    try dsimp only at hM1
    refine Exists.intro _ (And.intro ex20 ?_)
    obtain ⟨q21, gq21, hM1⟩ := l0 hM1
    refine And.intro (N1 gq21 (by first | rw [F2.length (F2.append fu4 (show F2 (P0.R k5) ([[.int .i64 p1_0, .int .i64 p1_1, .int .i64 p1_2]] : List (List Value)) [(p1_0, p1_1, p1_2)] from ⟨(K1 ip1_0 ip1_1 ip1_2), trivial⟩)), F2.length (show F2 (P0.R k5) ([[.int .i64 x20_0, .int .i64 x20_1, .int .i64 x20_2]] : List (List Value)) [(x20_0, x20_1, x20_2)] from ⟨(K1 ix20_0 ix20_1 ix20_2), trivial⟩)] | exact congrArg (· + 1) (F2.length (F2.append fu4 (show F2 (P0.R k5) ([[.int .i64 p1_0, .int .i64 p1_1, .int .i64 p1_2]] : List (List Value)) [(p1_0, p1_1, p1_2)] from ⟨(K1 ip1_0 ip1_1 ip1_2), trivial⟩))))) ?_
    refine And.intro rfl (And.intro (by repeat (first | exact trivial | refine And.intro rfl ?_)) (And.intro (by repeat (first | exact trivial | refine And.intro rfl ?_)) (Exists.intro m6 (And.intro ⟨true, (IntKind.i64.wrap (u3 + 1)), ((wu4 ++ ([[.int .i64 p1_0, .int .i64 p1_1, .int .i64 p1_2]] : List (List Value))) ++ ([[.int .i64 x20_0, .int .i64 x20_1, .int .i64 x20_2]] : List (List Value))), ((u4 ++ [(p1_0, p1_1, p1_2)]) ++ [(x20_0, x20_1, x20_2)]), rfl, rfl, sX1, (M0 _), (F2.append (F2.append fu4 (show F2 (P0.R k5) ([[.int .i64 p1_0, .int .i64 p1_1, .int .i64 p1_2]] : List (List Value)) [(p1_0, p1_1, p1_2)] from ⟨(K1 ip1_0 ip1_1 ip1_2), trivial⟩)) (show F2 (P0.R k5) ([[.int .i64 x20_0, .int .i64 x20_1, .int .i64 x20_2]] : List (List Value)) [(x20_0, x20_1, x20_2)] from ⟨(K1 ix20_0 ix20_1 ix20_2), trivial⟩)), hM1⟩ (Nat.lt_succ_self _)))))
   ·replace hM1 := ifN hM1 hc18
    obtain ⟨x22, gx22, hM1⟩ := l0 hM1
    obtain ⟨bx22, csx22, ex22, rx22⟩ := Sl.getI (r := P0.toRp) (J0.mono sX1 rp0) gx22 (by decide)
    refine And.intro bx22 ?_
    obtain ⟨x22_0, x22_1, x22_2, rfl, rfl, ix22_0, ix22_1, ix22_2⟩ := E1 rx22
    try dsimp only at hM1
    refine Exists.intro _ (And.intro ex22 ?_)
    obtain ⟨q23, gq23, hM1⟩ := l0 hM1
    refine And.intro (N1 gq23 (by first | rw [F2.length fu4, F2.length (show F2 (P0.R k5) ([[.int .i64 x22_0, .int .i64 x22_1, .int .i64 x22_2]] : List (List Value)) [(x22_0, x22_1, x22_2)] from ⟨(K1 ix22_0 ix22_1 ix22_2), trivial⟩)] | exact congrArg (· + 1) (F2.length fu4))) ?_
    refine And.intro rfl (And.intro (by repeat (first | exact trivial | refine And.intro rfl ?_)) (And.intro (by repeat (first | exact trivial | refine And.intro rfl ?_)) (Exists.intro m6 (And.intro ⟨u2, (IntKind.i64.wrap (u3 + 1)), (wu4 ++ ([[.int .i64 x22_0, .int .i64 x22_1, .int .i64 x22_2]] : List (List Value))), (u4 ++ [(x22_0, x22_1, x22_2)]), rfl, rfl, sX1, (M0 _), (F2.append fu4 (show F2 (P0.R k5) ([[.int .i64 x22_0, .int .i64 x22_1, .int .i64 x22_2]] : List (List Value)) [(x22_0, x22_1, x22_2)] from ⟨(K1 ix22_0 ix22_1 ix22_2), trivial⟩)), hM1⟩ (Nat.lt_succ_self _)))))
 ·replace hM1 := ifN hM1 hc7
  have hE := Option.some.inj hM1; subst hE
  try dsimp only [Y0, Z0] at hM0
  refine And.intro (fun hc24 => ?_) (fun hc24 => ?_)
  ·replace hM0 := ifP hM0 hc24
   obtain ⟨q25, gq25, hM0⟩ := l0 hM0
   refine And.intro (N1 gq25 (by first | rw [F2.length fu4, F2.length (show F2 (P0.R k5) ([[.int .i64 p1_0, .int .i64 p1_1, .int .i64 p1_2]] : List (List Value)) [(p1_0, p1_1, p1_2)] from ⟨(K1 ip1_0 ip1_1 ip1_2), trivial⟩)] | exact congrArg (· + 1) (F2.length fu4))) ?_
   intro v26 k27 f28
   obtain ⟨az29, cz29, rfl, rz29, sz29, lz29⟩ := Q0.out (r := P0.toRp) f28 (F2.append fu4 (show F2 (P0.R k5) ([[.int .i64 p1_0, .int .i64 p1_1, .int .i64 p1_2]] : List (List Value)) [(p1_0, p1_1, p1_2)] from ⟨(K1 ip1_0 ip1_1 ip1_2), trivial⟩))
   have hE := Option.some.inj hM0; subst hE
   exact ⟨az29, ((u4 ++ [(p1_0, p1_1, p1_2)])).length, cz29, rfl, rz29, (sX1.trans sz29)⟩
  ·replace hM0 := ifN hM0 hc24
   intro v30 k31 f32
   obtain ⟨az33, cz33, rfl, rz33, sz33, lz33⟩ := Q0.out (r := P0.toRp) f32 fu4
   have hE := Option.some.inj hM0; subst hE
   exact ⟨az33, u4.length, cz33, rfl, rz33, (sX1.trans sz33)⟩
theorem w08 (h : Hp) (csp0 : List Value) (p0 : j0) (rp0 : S0.R h csp0 p0) (p1 : Int) (ip1 : N0 p1) (r : Int) (hM0 : T7 p0 p1 = some r) :
  Tr Tryz.prog 262 #[.agg csp0.toArray, .int .i64 p1] h fun v h' => v = .int .i64 r ∧ h' = h := by
 obtain ⟨p0_0, p0_1, ap0_2, np0_2, cp0_2, p0_2, rfl, rfl, ip0_0, ip0_1, rp0_2⟩ := B0 rp0
 obtain ⟨rfl, lp0_2⟩ := Sl.len rp0_2
 unfold T7 at hM0
 dsimp only at hM0
 refine Tr.forget (j3 (args := [.agg #[.int .i64 p0_0, .int .i64 p0_1, .slice ap0_2 p0_2.length cp0_2], .int .i64 p1]) (fn := Tryz.f262) rfl ?_)
 obtain ⟨X1, hLX1, hM0⟩ := l0 hM0
 refine Exists.intro { vars := [5, 6], boxes := [], owns := [], fuel := true } (Exists.intro (fun vs os h' => ∃ (u2 : Int) (u3 : Int), vs.tail = [.int .i64 u2, .int .i64 u3] ∧ os = [] ∧ Sub h h' ∧ N0 u2 ∧ N0 u3 ∧ O2 p0_2 p1 (Y1 vs) u2 u3 = some X1) (Exists.intro (fun _ _ => 0) ?_))
 refine And.intro (Exists.intro U0 ⟨0, 0, rfl, rfl, (Sub.refl _), (c64 (by decide) (by decide)), (c64 (by decide) (by decide)), hLX1⟩) ?_
 rintro v_0 v_1 m5 k4 ⟨u2, u3, evX1, eoX1, sX1, iu2, iu3, hM1⟩
 cases evX1
 cases eoX1
 replace hM1 : O2 p0_2 p1 m5 u2 u3 = some X1 := hM1
 obtain _ | m5 := m5
 ·cases (show (none : Option _) = some X1 from hM1)
 rw [O2.eq_2] at hM1
 refine And.intro (fun hc6 => ?_) (fun hc6 => ?_)
 ·replace hM1 := ifP hM1 hc6
  obtain ⟨x7, gx7, hM1⟩ := l0 hM1
  obtain ⟨bx7, csx7, ex7, rx7⟩ := Sl.getI (r := P0.toRp) (J0.mono sX1 rp0_2) gx7 (by decide)
  refine And.intro bx7 ?_
  obtain ⟨x7_0, x7_1, x7_2, rfl, rfl, ix7_0, ix7_1, ix7_2⟩ := E1 rx7
  try dsimp only at hM1
  refine Exists.intro _ (And.intro ex7 ?_)
  refine And.intro (fun hc8 => ?_) (fun hc8 => ?_)
  ·replace hM1 := ifP hM1 hc8
   obtain ⟨x9, gx9, hM1⟩ := l0 hM1
   obtain ⟨bx9, csx9, ex9, rx9⟩ := Sl.getI (r := P0.toRp) (J0.mono sX1 rp0_2) gx9 (by decide)
   refine And.intro bx9 ?_
   obtain ⟨x9_0, x9_1, x9_2, rfl, rfl, ix9_0, ix9_1, ix9_2⟩ := E1 rx9
   try dsimp only at hM1
   refine Exists.intro _ (And.intro ex9 ?_)
   refine And.intro (fun hc10 => ?_) (fun hc10 => ?_)
   ·replace hM1 := ifP hM1 hc10
    refine And.intro rfl (And.intro (by repeat (first | exact trivial | refine And.intro rfl ?_)) (And.intro (by repeat (first | exact trivial | refine And.intro rfl ?_)) (Exists.intro m5 (And.intro ⟨(IntKind.i64.wrap ((IntKind.i64.wrap (u2 + 1)) + 1)), (IntKind.i64.wrap (u3 + 1)), rfl, rfl, sX1, (M0 _), (M0 _), hM1⟩ (Nat.lt_succ_self _)))))
   ·replace hM1 := ifN hM1 hc10
    refine And.intro rfl (And.intro (by repeat (first | exact trivial | refine And.intro rfl ?_)) (And.intro (by repeat (first | exact trivial | refine And.intro rfl ?_)) (Exists.intro m5 (And.intro ⟨(IntKind.i64.wrap (u2 + 1)), (IntKind.i64.wrap (u3 + 1)), rfl, rfl, sX1, (M0 _), (M0 _), hM1⟩ (Nat.lt_succ_self _)))))
  ·replace hM1 := ifN hM1 hc8
   obtain ⟨x11, gx11, hM1⟩ := l0 hM1
   obtain ⟨bx11, csx11, ex11, rx11⟩ := Sl.getI (r := P0.toRp) (J0.mono sX1 rp0_2) gx11 (by decide)
   refine And.intro bx11 ?_
   obtain ⟨x11_0, x11_1, x11_2, rfl, rfl, ix11_0, ix11_1, ix11_2⟩ := E1 rx11
   try dsimp only at hM1
   refine Exists.intro _ (And.intro ex11 ?_)
   refine And.intro (fun hc12 => ?_) (fun hc12 => ?_)
   ·replace hM1 := ifP hM1 hc12
    refine And.intro rfl (And.intro (by repeat (first | exact trivial | refine And.intro rfl ?_)) (And.intro (by repeat (first | exact trivial | refine And.intro rfl ?_)) (Exists.intro m5 (And.intro ⟨(IntKind.i64.wrap (u2 + 1)), (IntKind.i64.wrap (u3 + 1)), rfl, rfl, sX1, (M0 _), (M0 _), hM1⟩ (Nat.lt_succ_self _)))))
   ·replace hM1 := ifN hM1 hc12
    refine And.intro rfl (And.intro (by repeat (first | exact trivial | refine And.intro rfl ?_)) (And.intro (by repeat (first | exact trivial | refine And.intro rfl ?_)) (Exists.intro m5 (And.intro ⟨u2, (IntKind.i64.wrap (u3 + 1)), rfl, rfl, sX1, iu2, (M0 _), hM1⟩ (Nat.lt_succ_self _)))))
 ·replace hM1 := ifN hM1 hc6
  have hE := Option.some.inj hM1; subst hE
  try dsimp only [Y0, Z0] at hM0
  have hE := Option.some.inj hM0; subst hE
  exact And.intro rfl sX1
theorem T01 (h : Hp) (csp0 : List Value) (p0 : j0) (rp0 : S0.R h csp0 p0) (csp1 : List Value) (p1 : j0) (rp1 : S0.R h csp1 p1) (r : Bool) (hM0 : F6 p0 p1 = some r) :
  Tr Tryz.prog 174 #[.agg csp0.toArray, .agg csp1.toArray] h fun v h' => v = .bool r ∧ h' = h := by
 obtain ⟨p0_0, p0_1, ap0_2, np0_2, cp0_2, p0_2, rfl, rfl, ip0_0, ip0_1, rp0_2⟩ := B0 rp0
 obtain ⟨rfl, lp0_2⟩ := Sl.len rp0_2
 obtain ⟨p1_0, p1_1, ap1_2, np1_2, cp1_2, p1_2, rfl, rfl, ip1_0, ip1_1, rp1_2⟩ := B0 rp1
 obtain ⟨rfl, lp1_2⟩ := Sl.len rp1_2
 unfold F6 at hM0
 dsimp only at hM0
 refine Tr.forget (j3 (args := [.agg #[.int .i64 p0_0, .int .i64 p0_1, .slice ap0_2 p0_2.length cp0_2], .agg #[.int .i64 p1_0, .int .i64 p1_1, .slice ap1_2 p1_2.length cp1_2]]) (fn := Tryz.f174) rfl ?_)
 refine And.intro (fun hc1 => ?_) (fun hc1 => ?_)
 ·replace hM0 := ifP hM0 hc1
  have hE := Option.some.inj hM0; subst hE
  exact And.intro rfl (Sub.refl _)
 ·replace hM0 := ifN hM0 hc1
  obtain ⟨X2, hLX2, hM0⟩ := l0 hM0
  refine Exists.intro { vars := [5], boxes := [], owns := [], fuel := true } (Exists.intro (fun vs os h' => ∃ (u3 : Int), vs.tail = [.int .i64 u3] ∧ os = [] ∧ Sub h h' ∧ N0 u3 ∧ M4 p0_2 p1_2 (Y1 vs) u3 = some X2) (Exists.intro (fun _ _ => 0) ?_))
  refine And.intro (Exists.intro U0 ⟨0, rfl, rfl, (Sub.refl _), (c64 (by decide) (by decide)), hLX2⟩) ?_
  rintro v_0 m5 k4 ⟨u3, evX2, eoX2, sX2, iu3, hM1⟩
  cases evX2
  cases eoX2
  replace hM1 : M4 p0_2 p1_2 m5 u3 = some X2 := hM1
  obtain _ | m5 := m5
  ·cases (show (none : Option _) = some X2 from hM1)
  rw [M4.eq_2] at hM1
  refine And.intro (fun hc6 => ?_) (fun hc6 => ?_)
  ·replace hM1 := ifP hM1 hc6
   refine Or.inl (And.intro (And.intro (by kernel_rfl) (by kernel_rfl)) ?_)
   obtain ⟨x7, gx7, hM1⟩ := l0 hM1
   obtain ⟨bx7, csx7, ex7, rx7⟩ := Sl.getI (r := P0.toRp) (J0.mono sX2 rp0_2) gx7 (by decide)
   refine And.intro bx7 ?_
   obtain ⟨x7_0, x7_1, x7_2, rfl, rfl, ix7_0, ix7_1, ix7_2⟩ := E1 rx7
   try dsimp only at hM1
   refine Exists.intro _ (And.intro ex7 ?_)
   obtain ⟨x8, gx8, hM1⟩ := l0 hM1
   obtain ⟨bx8, csx8, ex8, rx8⟩ := Sl.getI (r := P0.toRp) (J0.mono sX2 rp1_2) gx8 (by decide)
   refine And.intro bx8 ?_
   obtain ⟨x8_0, x8_1, x8_2, rfl, rfl, ix8_0, ix8_1, ix8_2⟩ := E1 rx8
   try dsimp only at hM1
   refine Exists.intro _ (And.intro ex8 ?_)
   refine Exists.intro (!eqE (x7_0, x7_1, x7_2) (x8_0, x8_1, x8_2)) (And.intro (S0c _ _ _ rfl _ _ _ _ _ _) ?_)
   refine And.intro (fun hc9 => ?_) (fun hc9 => ?_)
   ·replace hM1 := ifP hM1 hc9
    have hE := Option.some.inj hM1; subst hE
    try dsimp only [P6, Q6] at hM0
    have hE := Option.some.inj hM0; subst hE
    exact And.intro rfl sX2
   ·replace hM1 := ifN hM1 hc9
    refine And.intro rfl (And.intro (by repeat (first | exact trivial | refine And.intro rfl ?_)) (And.intro (by repeat (first | exact trivial | refine And.intro rfl ?_)) (Exists.intro m5 (And.intro ⟨(IntKind.i64.wrap (u3 + 1)), rfl, rfl, sX2, (M0 _), hM1⟩ (Nat.lt_succ_self _)))))
  ·replace hM1 := ifN hM1 hc6
   have hE := Option.some.inj hM1; subst hE
   try dsimp only [Y0, Z0] at hM0
   have hE := Option.some.inj hM0; subst hE
   exact And.intro rfl sX2
theorem N05 (h : Hp) (csp0 : List Value) (p0 : j0) (rp0 : S0.R h csp0 p0) (p1 : Int) (ip1 : N0 p1) (r : D0) (hM0 : L7 p0 p1 = some r) :
  Tr Tryz.prog 299 #[.agg csp0.toArray, .int .i64 p1] h fun v h' => ∃ (a0 : Option Addr) (n0 c0 : Nat), v = .slice a0 n0 c0 ∧ D1.R h' [.slice a0 n0 c0] r ∧ Sub h h' := by
 obtain ⟨p0_0, p0_1, ap0_2, np0_2, cp0_2, p0_2, rfl, rfl, ip0_0, ip0_1, rp0_2⟩ := B0 rp0
 obtain ⟨rfl, lp0_2⟩ := Sl.len rp0_2
 unfold L7 at hM0
 dsimp only at hM0
 refine j3 (args := [.agg #[.int .i64 p0_0, .int .i64 p0_1, .slice ap0_2 p0_2.length cp0_2], .int .i64 p1]) (fn := Tryz.f299) rfl ?_
 obtain ⟨x1, gx1, hM0⟩ := l0 hM0
 refine Tr.val (c7 _ [.int .i64 p0_0, .int .i64 p0_1, .slice ap0_2 p0_2.length cp0_2] (p0_0, p0_1, p0_2) (z0 ip0_0 ip0_1 rp0_2) _  gx1) ?_
 obtain ⟨x2, gx2, hM0⟩ := l0 hM0
 refine Exists.intro (.bool x2) (And.intro (fun q => A7 _ p1 ip1 0 (c64 (by decide) (by decide)) (IntKind.i64.wrap (p0_1 - 1)) (M0 _) _  (E2 gx2 q)) ?_)
 refine And.intro (fun hc3 => ?_) (fun hc3 => ?_)
 ·replace hM0 := ifP hM0 hc3
  intro v4 k5 f6
  obtain ⟨az7, cz7, rfl, rz7, sz7, lz7⟩ := Q0.out (r := Wp.int.toRp) f6 (show F2 (Wp.int.R h) ([] : List (List Value)) ([] : D0) from trivial)
  have hE := Option.some.inj hM0; subst hE
  exact ⟨az7, (([] : D0)).length, cz7, rfl, rz7, sz7⟩
 ·replace hM0 := ifN hM0 hc3
  obtain ⟨X12, hLX12, hM0⟩ := l0 hM0
  refine Exists.intro { vars := [5, 6], boxes := [], owns := [], fuel := true, pubs := [5, 22] } (Exists.intro (fun vs os h' => ∃ (au13 : Option Addr) (nu13 cu13 : Nat) (u13 : D0) (u14 : Int), vs.tail = [.slice au13 nu13 cu13, .int .i64 u14] ∧ os = [] ∧ Sub h h' ∧ D1.R h' [.slice au13 nu13 cu13] u13 ∧ N0 u14 ∧ j4 p0_2 (Y1 vs) u13 u14 = some X12) (Exists.intro (fun _ _ => 0) ?_))
  intro v8 k9 f10
  obtain ⟨az11, cz11, rfl, rz11, sz11, lz11⟩ := Q0.out (r := Wp.int.toRp) f10 (show F2 (Wp.int.R h) ([[.int .i64 p1]] : List (List Value)) [p1] from ⟨⟨rfl, ip1⟩, trivial⟩)
  refine And.intro (Exists.intro U0 ⟨az11, ([p1]).length, cz11, [p1], 0, rfl, rfl, sz11, rz11, (c64 (by decide) (by decide)), hLX12⟩) ?_
  rintro v_0 v_1 m16 k15 ⟨au13, nu13, cu13, u13, u14, evX12, eoX12, sX12, ru13, iu14, hM1⟩
  cases evX12
  cases eoX12
  replace hM1 : j4 p0_2 m16 u13 u14 = some X12 := hM1
  obtain _ | m16 := m16
  ·cases (show (none : Option _) = some X12 from hM1)
  rw [j4.eq_2] at hM1
  obtain ⟨rfl, lu13⟩ := Sl.len ru13
  refine And.intro (fun hc17 => ?_) (fun hc17 => ?_)
  ·replace hM1 := ifP hM1 hc17
   obtain ⟨X18, hLX18, hM1⟩ := l0 hM1
   refine Exists.intro { vars := [5, 7], boxes := [], owns := [], fuel := true } (Exists.intro (fun vs os h' => ∃ (au19 : Option Addr) (nu19 cu19 : Nat) (u19 : D0) (u20 : Int), vs.tail = [.slice au19 nu19 cu19, .int .i64 u20] ∧ os = [] ∧ Sub k15 h' ∧ D1.R h' [.slice au19 nu19 cu19] u19 ∧ N0 u20 ∧ L2 p0_2 (Y1 vs) u19 u20 = some X18) (Exists.intro (fun _ _ => 0) ?_))
   refine And.intro (Exists.intro U0 ⟨au13, u13.length, cu13, u13, 0, rfl, rfl, (Sub.refl _), ru13, (c64 (by decide) (by decide)), hLX18⟩) ?_
   rintro v_0 v_1 m22 k21 ⟨au19, nu19, cu19, u19, u20, evX18, eoX18, sX18, ru19, iu20, hM2⟩
   cases evX18
   cases eoX18
   replace hM2 : L2 p0_2 m22 u19 u20 = some X18 := hM2
   obtain _ | m22 := m22
   ·cases (show (none : Option _) = some X18 from hM2)
   rw [L2.eq_2] at hM2
   obtain ⟨rfl, lu19⟩ := Sl.len ru19
   refine And.intro (fun hc23 => ?_) (fun hc23 => ?_)
   ·replace hM2 := ifP hM2 hc23
    obtain ⟨x24, gx24, hM2⟩ := l0 hM2
    obtain ⟨bx24, csx24, ex24, rx24⟩ := Sl.getI (r := P0.toRp) (J0.mono (sX12.trans sX18) rp0_2) gx24 (by decide)
    refine And.intro bx24 ?_
    obtain ⟨x24_0, x24_1, x24_2, rfl, rfl, ix24_0, ix24_1, ix24_2⟩ := E1 rx24
    try dsimp only at hM2
    refine Exists.intro _ (And.intro ex24 ?_)
    obtain ⟨x25, gx25, hM2⟩ := l0 hM2
    refine Tr.val (F00 _ au19 u19.length cu19 u19 ru19 x24_0 ix24_0 _  gx25) ?_
    refine And.intro (fun hc26 => ?_) (fun hc26 => ?_)
    ·replace hM2 := ifP hM2 hc26
     obtain ⟨x27, gx27, hM2⟩ := l0 hM2
     refine Tr.mono (R9 _ au19 u19.length cu19 u19 ru19 x24_2 ix24_2 _  gx27) ?_
     rintro v29 k28 ⟨ax27, nx27, cx27, rfl, rx27, sx27⟩
     obtain ⟨rfl, lx27⟩ := Sl.len rx27
     obtain ⟨x30, gx30, hM2⟩ := l0 hM2
     refine Tr.val (F00 _ ax27 x27.length cx27 x27 rx27 x24_2 ix24_2 _  gx30) ?_
     refine And.intro (fun hc31 => ?_) (fun hc31 => ?_)
     ·replace hM2 := ifP hM2 hc31
      obtain ⟨x32, gx32, hM2⟩ := l0 hM2
      refine Tr.mono (R9 _ ax27 x27.length cx27 x27 rx27 x24_0 ix24_0 _  gx32) ?_
      rintro v34 k33 ⟨ax32, nx32, cx32, rfl, rx32, sx32⟩
      obtain ⟨rfl, lx32⟩ := Sl.len rx32
      refine And.intro rfl (And.intro (by repeat (first | exact trivial | refine And.intro rfl ?_)) (And.intro (by repeat (first | exact trivial | refine And.intro rfl ?_)) (Exists.intro m22 (And.intro ⟨ax32, x32.length, cx32, x32, (IntKind.i64.wrap (u20 + 1)), rfl, rfl, ((sX18.trans sx27).trans sx32), rx32, (M0 _), hM2⟩ (Nat.lt_succ_self _)))))
     ·replace hM2 := ifN hM2 hc31
      refine And.intro rfl (And.intro (by repeat (first | exact trivial | refine And.intro rfl ?_)) (And.intro (by repeat (first | exact trivial | refine And.intro rfl ?_)) (Exists.intro m22 (And.intro ⟨ax27, x27.length, cx27, x27, (IntKind.i64.wrap (u20 + 1)), rfl, rfl, (sX18.trans sx27), rx27, (M0 _), hM2⟩ (Nat.lt_succ_self _)))))
    ·replace hM2 := ifN hM2 hc26
     obtain ⟨x35, gx35, hM2⟩ := l0 hM2
     refine Tr.val (F00 _ au19 u19.length cu19 u19 ru19 x24_2 ix24_2 _  gx35) ?_
     refine And.intro (fun hc36 => ?_) (fun hc36 => ?_)
     ·replace hM2 := ifP hM2 hc36
      obtain ⟨x37, gx37, hM2⟩ := l0 hM2
      refine Tr.mono (R9 _ au19 u19.length cu19 u19 ru19 x24_0 ix24_0 _  gx37) ?_
      rintro v39 k38 ⟨ax37, nx37, cx37, rfl, rx37, sx37⟩
      obtain ⟨rfl, lx37⟩ := Sl.len rx37
      refine And.intro rfl (And.intro (by repeat (first | exact trivial | refine And.intro rfl ?_)) (And.intro (by repeat (first | exact trivial | refine And.intro rfl ?_)) (Exists.intro m22 (And.intro ⟨ax37, x37.length, cx37, x37, (IntKind.i64.wrap (u20 + 1)), rfl, rfl, (sX18.trans sx37), rx37, (M0 _), hM2⟩ (Nat.lt_succ_self _)))))
     ·replace hM2 := ifN hM2 hc36
      refine And.intro rfl (And.intro (by repeat (first | exact trivial | refine And.intro rfl ?_)) (And.intro (by repeat (first | exact trivial | refine And.intro rfl ?_)) (Exists.intro m22 (And.intro ⟨au19, u19.length, cu19, u19, (IntKind.i64.wrap (u20 + 1)), rfl, rfl, sX18, ru19, (M0 _), hM2⟩ (Nat.lt_succ_self _)))))
   ·replace hM2 := ifN hM2 hc23
    have hE := Option.some.inj hM2; subst hE
    try dsimp only [Y0, Z0] at hM1
    refine And.intro rfl (And.intro (by repeat (first | exact trivial | refine And.intro rfl ?_)) (And.intro (by repeat (first | exact trivial | refine And.intro rfl ?_)) (Exists.intro m16 (And.intro ⟨au19, u19.length, cu19, u19, (IntKind.i64.wrap (u14 + 1)), rfl, rfl, (sX12.trans sX18), ru19, (M0 _), hM1⟩ (Nat.lt_succ_self _)))))
  ·replace hM1 := ifN hM1 hc17
   have hE := Option.some.inj hM1; subst hE
   try dsimp only [Y0, Z0] at hM0
   have hE := Option.some.inj hM0; subst hE
   exact ⟨au13, u13.length, cu13, rfl, ru13, sX12⟩
theorem n05 (h : Hp) (csp0 : List Value) (p0 : j0) (rp0 : S0.R h csp0 p0) (r : Int) (hM0 : U8 p0 = some r) :
  Tr Tryz.prog 246 #[.agg csp0.toArray] h fun v h' => v = .int .i64 r ∧ h' = h := by
 obtain ⟨p0_0, p0_1, ap0_2, np0_2, cp0_2, p0_2, rfl, rfl, ip0_0, ip0_1, rp0_2⟩ := B0 rp0
 obtain ⟨rfl, lp0_2⟩ := Sl.len rp0_2
 unfold U8 at hM0
 dsimp only at hM0
 refine Tr.forget (j3 (args := [.agg #[.int .i64 p0_0, .int .i64 p0_1, .slice ap0_2 p0_2.length cp0_2]]) (fn := Tryz.f246) rfl ?_)
 obtain ⟨x1, gx1, hM0⟩ := l0 hM0
 refine Tr.mono (N05 _ [.int .i64 p0_0, .int .i64 p0_1, .slice ap0_2 p0_2.length cp0_2] (p0_0, p0_1, p0_2) (z0 ip0_0 ip0_1 rp0_2) 0 (c64 (by decide) (by decide)) _  gx1) ?_
 rintro v3 k2 ⟨ax1, nx1, cx1, rfl, rx1, sx1⟩
 obtain ⟨rfl, lx1⟩ := Sl.len rx1
 obtain ⟨X4, hLX4, hM0⟩ := l0 hM0
 refine Exists.intro { vars := [4], boxes := [], owns := [], fuel := true } (Exists.intro (fun vs os h' => ∃ (u5 : Int), vs.tail = [.int .i64 u5] ∧ os = [] ∧ Sub k2 h' ∧ N0 u5 ∧ p6 p0_1 p0_0 p0_2 x1 (Y1 vs) u5 = some X4) (Exists.intro (fun _ _ => 0) ?_))
 refine And.intro (Exists.intro U0 ⟨1, rfl, rfl, (Sub.refl _), (c64 (by decide) (by decide)), hLX4⟩) ?_
 rintro v_0 m7 k6 ⟨u5, evX4, eoX4, sX4, iu5, hM1⟩
 cases evX4
 cases eoX4
 replace hM1 : p6 p0_1 p0_0 p0_2 x1 m7 u5 = some X4 := hM1
 obtain _ | m7 := m7
 ·cases (show (none : Option _) = some X4 from hM1)
 rw [p6.eq_2] at hM1
 refine And.intro (fun hc8 => ?_) (fun hc8 => ?_)
 ·replace hM1 := ifP hM1 hc8
  obtain ⟨x9, gx9, hM1⟩ := l0 hM1
  refine Tr.val (w08 _ [.int .i64 p0_0, .int .i64 p0_1, .slice ap0_2 p0_2.length cp0_2] (p0_0, p0_1, p0_2) (z0 ip0_0 ip0_1 (J0.mono (sx1.trans sX4) rp0_2)) u5 iu5 _  gx9) ?_
  obtain ⟨q10, gq10, hM1⟩ := l0 hM1
  have ix9 : N0 x9 := B3 gq10
  obtain ⟨x11, gx11, hM1⟩ := l0 hM1
  refine Exists.intro (.bool x11) (And.intro (fun q => F00 _ ax1 x1.length cx1 x1 (D1.mono sX4 rx1) u5 iu5 _  (E2 gx11 q)) ?_)
  refine And.intro (fun hc12 => ?_) (fun hc12 => ?_)
  ·replace hM1 := ifP hM1 hc12
   have hE := Option.some.inj hM1; subst hE
   try dsimp only [P6, Q6] at hM0
   have hE := Option.some.inj hM0; subst hE
   exact And.intro rfl (sx1.trans sX4)
  ·replace hM1 := ifN hM1 hc12
   refine And.intro rfl (And.intro (by repeat (first | exact trivial | refine And.intro rfl ?_)) (And.intro (by repeat (first | exact trivial | refine And.intro rfl ?_)) (Exists.intro m7 (And.intro ⟨(IntKind.i64.wrap (u5 + 1)), rfl, rfl, sX4, (M0 _), hM1⟩ (Nat.lt_succ_self _)))))
 ·replace hM1 := ifN hM1 hc8
  have hE := Option.some.inj hM1; subst hE
  try dsimp only [Y0, Z0] at hM0
  have hE := Option.some.inj hM0; subst hE
  exact And.intro rfl (sx1.trans sX4)
theorem H9 (h : Hp) (csp0 : List Value) (p0 : j0) (rp0 : S0.R h csp0 p0) (ap1 : Option Addr) (np1 cp1 : Nat) (p1 : D0) (rp1 : D1.R h [.slice ap1 np1 cp1] p1) (r : j0 × Bool) (hM0 : N4 p0 p1 = some r) :
  Tr Tryz.prog 263 #[.agg csp0.toArray, .slice ap1 np1 cp1] h fun v h' => ∃ (cs0 : List Value), v = .tuple #[.agg cs0.toArray, .bool r.2] ∧ S0.R h' cs0 r.1 ∧ Sub h h' := by
 obtain ⟨p0_0, p0_1, ap0_2, np0_2, cp0_2, p0_2, rfl, rfl, ip0_0, ip0_1, rp0_2⟩ := B0 rp0
 obtain ⟨rfl, lp0_2⟩ := Sl.len rp0_2
 obtain ⟨rfl, lp1⟩ := Sl.len rp1
 unfold N4 at hM0
 dsimp only at hM0
 refine j3 (args := [.agg #[.int .i64 p0_0, .int .i64 p0_1, .slice ap0_2 p0_2.length cp0_2], .slice ap1 p1.length cp1]) (fn := Tryz.f263) rfl ?_
 obtain ⟨x1, gx1, hM0⟩ := l0 hM0
 refine Tr.val (c7 _ [.int .i64 p0_0, .int .i64 p0_1, .slice ap0_2 p0_2.length cp0_2] (p0_0, p0_1, p0_2) (z0 ip0_0 ip0_1 rp0_2) _  gx1) ?_
 refine And.intro (fun hc2 => ?_) (fun hc2 => ?_)
 ·replace hM0 := ifP hM0 hc2
  obtain ⟨x3, gx3, hM0⟩ := l0 hM0
  refine Tr.mono (B7 _ [.int .i64 p0_0, .int .i64 p0_1, .slice ap0_2 p0_2.length cp0_2] (p0_0, p0_1, p0_2) (z0 ip0_0 ip0_1 rp0_2) _  gx3) ?_
  rintro v5 k4 ⟨csx3, rfl, rx3, sx3⟩
  obtain ⟨x3_0, x3_1, ax3_2, nx3_2, cx3_2, x3_2, rfl, rfl, ix3_0, ix3_1, rx3_2⟩ := B0 rx3
  obtain ⟨rfl, lx3_2⟩ := Sl.len rx3_2
  try dsimp only at hM0
  have hE := Option.some.inj hM0; subst hE
  exact ⟨([.int .i64 x3_0, .int .i64 x3_1, .slice ax3_2 x3_2.length cx3_2]), rfl, (z0 ix3_0 ix3_1 rx3_2), sx3⟩
 ·replace hM0 := ifN hM0 hc2
  obtain ⟨q6, gq6, hM0⟩ := l0 hM0
  refine And.intro (B3 gq6) ?_
  obtain ⟨X7, hLX7, hM0⟩ := l0 hM0
  refine Exists.intro { vars := [8], boxes := [], owns := [0], fuel := true, kept := [0] } (Exists.intro (fun vs os h' => ∃ (u8 : Int) (wu9 : List (List Value)) (u9 : List Int), vs.tail = [.int .i64 u8] ∧ os = [wu9] ∧ Sub h h' ∧ N0 u8 ∧ F2 (Wp.int.R h') wu9 u9 ∧ K3 p1 p0_1 p0_0 p0_2 (Y1 vs) u8 u9 = some X7) (Exists.intro (fun _ _ => 0) ?_))
  refine And.intro (Exists.intro U0 ⟨0, (List.replicate p0_1.toNat ([.int .i64 0] : List Value)), (List.replicate p0_1.toNat (0 : Int)), rfl, rfl, (Sub.refl _), (c64 (by decide) (by decide)), (F2.rep (p := Wp.int.R h) (a := [.int .i64 0]) (b := 0) ⟨rfl, (c64 (by decide) (by decide))⟩ (p0_1.toNat)), hLX7⟩) ?_
  rintro v_0 wu9 m11 k10 ⟨u8, zzu9, u9, evX7, eoX7, sX7, iu8, fu9, hM1⟩
  cases evX7
  cases eoX7
  replace hM1 : K3 p1 p0_1 p0_0 p0_2 m11 u8 u9 = some X7 := hM1
  obtain _ | m11 := m11
  ·cases (show (none : Option _) = some X7 from hM1)
  rw [K3.eq_2] at hM1
  refine And.intro (fun hc12 => ?_) (fun hc12 => ?_)
  ·replace hM1 := ifP hM1 hc12
   refine Or.inl (And.intro (And.intro (by kernel_rfl) (by kernel_rfl)) ?_)
   obtain ⟨x13, gx13, hM1⟩ := l0 hM1
   obtain ⟨bx13, csx13, ex13, rx13⟩ := Sl.getI (r := Wp.int.toRp) (D1.mono sX7 rp1) gx13 (by decide)
   refine And.intro bx13 ?_
   obtain ⟨rfl, ix13⟩ := rx13
   refine Exists.intro _ (And.intro ex13 ?_)
   obtain ⟨x14, gx14, hM1⟩ := l0 hM1
   refine Exists.intro (.bool x14) (And.intro (A7 _ x13 ix13 0 (c64 (by decide) (by decide)) (IntKind.i64.wrap (p0_1 - 1)) (M0 _) _  gx14) ?_)
   obtain ⟨x15, gx15, hM1⟩ := l0 hM1
   obtain ⟨csx15, ex15, rx15⟩ := Sl.getG (r := Wp.int.toRp) (D1.mono sX7 rp1) gx15 (by decide) (u0g k10)
   refine And.intro (fun q => (ex15 q).1) ?_
   obtain ⟨rfl, ix15⟩ := rx15
   refine Exists.intro _ (And.intro (fun q => (ex15 q).2) ?_)
   obtain ⟨x16, gx16, hM1⟩ := l0 hM1
   obtain ⟨csx16, ex16, rx16⟩ := Q02 fu9 gx16 (u0g k10)
   refine And.intro (fun q => (ex16 q).1) ?_
   obtain ⟨rfl, ix16⟩ := rx16
   refine Exists.intro _ (And.intro (fun q => (ex16 q).2) ?_)
   refine And.intro (fun hc17 => ?_) (fun hc17 => ?_)
   ·replace hM1 := ifP hM1 hc17
    obtain ⟨x18, gx18, hM1⟩ := l0 hM1
    refine Tr.mono (B7 _ [.int .i64 p0_0, .int .i64 p0_1, .slice ap0_2 p0_2.length cp0_2] (p0_0, p0_1, p0_2) (z0 ip0_0 ip0_1 (J0.mono sX7 rp0_2)) _  gx18) ?_
    rintro v20 k19 ⟨csx18, rfl, rx18, sx18⟩
    obtain ⟨x18_0, x18_1, ax18_2, nx18_2, cx18_2, x18_2, rfl, rfl, ix18_0, ix18_1, rx18_2⟩ := B0 rx18
    obtain ⟨rfl, lx18_2⟩ := Sl.len rx18_2
    try dsimp only at hM1
    have hE := Option.some.inj hM1; subst hE
    try dsimp only [P6, Q6] at hM0
    have hE := Option.some.inj hM0; subst hE
    exact ⟨([.int .i64 x18_0, .int .i64 x18_1, .slice ax18_2 x18_2.length cx18_2]), rfl, (z0 ix18_0 ix18_1 rx18_2), (sX7.trans sx18)⟩
   ·replace hM1 := ifN hM1 hc17
    obtain ⟨x21, gx21, hM1⟩ := l0 hM1
    obtain ⟨bx21, csx21, ex21, rx21⟩ := Sl.getI (r := Wp.int.toRp) (D1.mono sX7 rp1) gx21 (by decide)
    refine And.intro bx21 ?_
    obtain ⟨rfl, ix21⟩ := rx21
    refine Exists.intro _ (And.intro ex21 ?_)
    obtain ⟨x22, gx22, hM1⟩ := l0 hM1
    obtain ⟨bx22, csx22, ex22, rx22⟩ := G3 fu9 gx22
    refine And.intro bx22 ?_
    obtain ⟨rfl, ix22⟩ := rx22
    refine Exists.intro _ (And.intro ex22 ?_)
    refine And.intro rfl (And.intro (by repeat (first | exact trivial | refine And.intro rfl ?_)) (And.intro (by repeat (first | exact trivial | refine And.intro rfl ?_)) (Exists.intro m11 (And.intro ⟨(IntKind.i64.wrap (u8 + 1)), (wu9.set x21.toNat [.int .i64 (IntKind.i64.wrap (u8 + 1))]), (u9.set x21.toNat (IntKind.i64.wrap (u8 + 1))), rfl, rfl, sX7, (M0 _), (F2.set (p := Wp.int.R k10) (a := [.int .i64 (IntKind.i64.wrap (u8 + 1))]) (b := (IntKind.i64.wrap (u8 + 1))) ⟨rfl, (M0 _)⟩ x21.toNat fu9), hM1⟩ (Nat.lt_succ_self _)))))
  ·replace hM1 := ifN hM1 hc12
   have hE := Option.some.inj hM1; subst hE
   try dsimp only [Y0, Z0] at hM0
   obtain ⟨X23, hLX23, hM0⟩ := l0 hM0
   refine Exists.intro { vars := [9], boxes := [2], owns := [], fuel := true } (Exists.intro (fun vs os h' => ∃ (u24 : Int) (u25 : Int) (u26 : Int) (au27 : Option Addr) (nu27 cu27 : Nat) (u27 : I0), vs.tail = [.int .i64 u24, .int .i64 u25, .int .i64 u26, .slice au27 nu27 cu27] ∧ os = [] ∧ Sub k10 h' ∧ N0 u24 ∧ N0 u25 ∧ N0 u26 ∧ J0.R h' [.slice au27 nu27 cu27] u27 ∧ Z2 p0_2 u9 (Y1 vs) u24 u25 u26 u27 = some X23) (Exists.intro (fun _ _ => 0) ?_))
   refine And.intro (Exists.intro U0 ⟨0, p0_0, ((p1.length : Nat) : Int), none, 0, 0, [], rfl, rfl, (Sub.refl _), (c64 (by decide) (by decide)), ip0_0, (r0k lp1), (V0j P0 k10), hLX23⟩) ?_
   rintro v_0 v_1 v_2 v_3 m29 k28 ⟨u24, u25, u26, au27, nu27, cu27, u27, evX23, eoX23, sX23, iu24, iu25, iu26, ru27, hM1⟩
   cases evX23
   cases eoX23
   replace hM1 : Z2 p0_2 u9 m29 u24 u25 u26 u27 = some X23 := hM1
   obtain _ | m29 := m29
   ·cases (show (none : Option _) = some X23 from hM1)
   rw [Z2.eq_2] at hM1
   obtain ⟨rfl, lu27⟩ := Sl.len ru27
   refine And.intro (fun hc30 => ?_) (fun hc30 => ?_)
   ·replace hM1 := ifP hM1 hc30
    obtain ⟨x31, gx31, hM1⟩ := l0 hM1
    obtain ⟨bx31, csx31, ex31, rx31⟩ := Sl.getI (r := P0.toRp) (J0.mono (sX7.trans sX23) rp0_2) gx31 (by decide)
    refine And.intro bx31 ?_
    obtain ⟨x31_0, x31_1, x31_2, rfl, rfl, ix31_0, ix31_1, ix31_2⟩ := E1 rx31
    try dsimp only at hM1
    refine Exists.intro _ (And.intro ex31 ?_)
    obtain ⟨x32, gx32, hM1⟩ := l0 hM1
    obtain ⟨bx32, csx32, ex32, rx32⟩ := G3 (F2.up (r := Wp.int.toRp) sX23 fu9) gx32
    refine And.intro bx32 ?_
    obtain ⟨rfl, ix32⟩ := rx32
    refine Exists.intro _ (And.intro ex32 ?_)
    obtain ⟨x33, gx33, hM1⟩ := l0 hM1
    obtain ⟨csx33, ex33, rx33⟩ := Q02 (F2.up (r := Wp.int.toRp) sX23 fu9) gx33 (u0g k28)
    refine And.intro (fun q => (ex33 q).1) ?_
    obtain ⟨rfl, ix33⟩ := rx33
    refine Exists.intro _ (And.intro (fun q => (ex33 q).2) ?_)
    refine And.intro (fun hc34 => ?_) (fun hc34 => ?_)
    ·replace hM1 := ifP hM1 hc34
     refine Or.inr (Or.inr (Or.inl (And.intro (And.intro (by kernel_rfl) (by kernel_rfl)) ?_)))
     obtain ⟨x35, gx35, hM1⟩ := l0 hM1
     obtain ⟨bx35, csx35, ex35, rx35⟩ := G3 (F2.up (r := Wp.int.toRp) sX23 fu9) gx35
     obtain ⟨rfl, ix35⟩ := rx35
     refine Or.inl ?_
     apply Exists.intro
     refine And.intro ?_ ?_
     ·intro k36 s37
      exact And.intro bx35 (And.intro rfl (And.intro rfl rfl))
     refine Or.inl (Exists.intro (.val (.int .i64 x35)) (And.intro ?_ ?_))
     ·intro k38 s39
      exact Exists.intro _ (And.intro ex35 (And.intro rfl (And.intro rfl rfl)))
     refine Or.inl (Exists.intro (.val (.int .i64 (IntKind.i64.wrap (x35 - 1)))) (And.intro ?_ ?_))
     ·intro k40 s41
      exact And.intro rfl (And.intro rfl rfl)
     obtain ⟨x42, gx42, hM1⟩ := l0 hM1
     obtain ⟨bx42, csx42, ex42, rx42⟩ := G3 (F2.up (r := Wp.int.toRp) sX23 fu9) gx42
     obtain ⟨rfl, ix42⟩ := rx42
     refine Or.inl ?_
     apply Exists.intro
     refine And.intro ?_ ?_
     ·intro k43 s44
      exact And.intro bx42 (And.intro rfl (And.intro rfl rfl))
     refine Or.inl (Exists.intro (.val (.int .i64 x42)) (And.intro ?_ ?_))
     ·intro k45 s46
      exact Exists.intro _ (And.intro ex42 (And.intro rfl (And.intro rfl rfl)))
     refine Or.inl (Exists.intro (.val (.int .i64 (IntKind.i64.wrap (x42 - 1)))) (And.intro ?_ ?_))
     ·intro k47 s48
      exact And.intro rfl (And.intro rfl rfl)
     refine Or.inl (Exists.intro (.agg [.val (.int .i64 (IntKind.i64.wrap (x35 - 1))), .val (.int .i64 x31_1), .val (.int .i64 (IntKind.i64.wrap (x42 - 1)))]) (And.intro ?_ ?_))
     ·intro k49 s50
      exact And.intro rfl (And.intro rfl rfl)
     refine Or.inr ?_
     refine Or.inr ?_
     refine Exists.intro 1 (And.intro (And.intro rfl rfl) ?_)
     obtain ⟨x51, gx51, hM1⟩ := l0 hM1
     refine Tr.mono (P06 _ au27 u27.length cu27 u27 ru27 [.int .i64 (IntKind.i64.wrap (x35 - 1)), .int .i64 x31_1, .int .i64 (IntKind.i64.wrap (x42 - 1))] ((IntKind.i64.wrap (x35 - 1)), x31_1, (IntKind.i64.wrap (x42 - 1))) (K1 (M0 _) ix31_1 (M0 _)) _  gx51) ?_
     rintro v53 k52 ⟨ax51, nx51, cx51, rfl, rx51, sx51⟩
     obtain ⟨rfl, lx51⟩ := Sl.len rx51
     refine And.intro (And.intro rfl sx51) (And.intro (by first | exact trivial | exact rfl) ?_)
     refine And.intro trivial (And.intro (by first | exact trivial | exact rfl) ?_)
     refine And.intro rfl (And.intro (by repeat (first | exact trivial | refine And.intro rfl ?_)) (And.intro (by repeat (first | exact trivial | refine And.intro rfl ?_)) (Exists.intro m29 (And.intro ⟨(IntKind.i64.wrap (u24 + 1)), u25, u26, ax51, x51.length, cx51, x51, rfl, rfl, (sX23.trans sx51), (M0 _), iu25, iu26, rx51, hM1⟩ (Nat.lt_succ_self _)))))
    ·replace hM1 := ifN hM1 hc34
     refine And.intro rfl (And.intro (by repeat (first | exact trivial | refine And.intro rfl ?_)) (And.intro (by repeat (first | exact trivial | refine And.intro rfl ?_)) (Exists.intro m29 (And.intro ⟨(IntKind.i64.wrap (u24 + 1)), u25, u26, au27, u27.length, cu27, u27, rfl, rfl, sX23, (M0 _), iu25, iu26, ru27, hM1⟩ (Nat.lt_succ_self _)))))
   ·replace hM1 := ifN hM1 hc30
    have hE := Option.some.inj hM1; subst hE
    try dsimp only [Y0, Z0] at hM0
    have hE := Option.some.inj hM0; subst hE
    exact ⟨([.int .i64 u25, .int .i64 u26, .slice au27 u27.length cu27]), rfl, (z0 iu25 iu26 ru27), (sX7.trans sX23)⟩
theorem S00 (h : Hp) (p0 : Int) (ip0 : N0 p0) (r : D0) (hM0 : J5 p0 = some r) :
  Tr Tryz.prog 158 #[.int .i64 p0] h fun v h' => ∃ (a0 : Option Addr) (n0 c0 : Nat), v = .slice a0 n0 c0 ∧ D1.R h' [.slice a0 n0 c0] r ∧ Sub h h' := by
 unfold J5 at hM0
 refine j3 (args := [.int .i64 p0]) (fn := Tryz.f158) rfl ?_
 obtain ⟨X1, hLX1, hM0⟩ := l0 hM0
 refine Exists.intro { vars := [4], boxes := [], owns := [0], fuel := true } (Exists.intro (fun vs os h' => ∃ (u2 : Int) (wu3 : List (List Value)) (u3 : List Int), vs.tail = [.int .i64 u2] ∧ os = [wu3] ∧ Sub h h' ∧ N0 u2 ∧ F2 (Wp.int.R h') wu3 u3 ∧ O4 p0 (Y1 vs) u2 u3 = some X1) (Exists.intro (fun _ _ => 0) ?_))
 refine And.intro (Exists.intro U0 ⟨1, [], ([] : D0), rfl, rfl, (Sub.refl _), (c64 (by decide) (by decide)), (show F2 (Wp.int.R h) ([] : List (List Value)) ([] : D0) from trivial), hLX1⟩) ?_
 rintro v_0 wu3 m5 k4 ⟨u2, zzu3, u3, evX1, eoX1, sX1, iu2, fu3, hM1⟩
 cases evX1
 cases eoX1
 replace hM1 : O4 p0 m5 u2 u3 = some X1 := hM1
 obtain _ | m5 := m5
 ·cases (show (none : Option _) = some X1 from hM1)
 rw [O4.eq_2] at hM1
 refine And.intro (fun hc6 => ?_) (fun hc6 => ?_)
 ·replace hM1 := ifP hM1 hc6
  obtain ⟨q7, gq7, hM1⟩ := l0 hM1
  refine And.intro (N1 gq7 (by first | rw [F2.length fu3, F2.length (show F2 (Wp.int.R k4) ([[.int .i64 u2]] : List (List Value)) [u2] from ⟨⟨rfl, iu2⟩, trivial⟩)] | exact congrArg (· + 1) (F2.length fu3))) ?_
  obtain ⟨q8, gq8, hM1⟩ := l0 hM1
  refine And.intro (N1 gq8 (by first | rw [F2.length (F2.append fu3 (show F2 (Wp.int.R k4) ([[.int .i64 u2]] : List (List Value)) [u2] from ⟨⟨rfl, iu2⟩, trivial⟩)), F2.length (show F2 (Wp.int.R k4) ([[.int .i64 (IntKind.i64.wrap (0 - u2))]] : List (List Value)) [(IntKind.i64.wrap (0 - u2))] from ⟨⟨rfl, (M0 _)⟩, trivial⟩)] | exact congrArg (· + 1) (F2.length (F2.append fu3 (show F2 (Wp.int.R k4) ([[.int .i64 u2]] : List (List Value)) [u2] from ⟨⟨rfl, iu2⟩, trivial⟩))))) ?_
  refine And.intro rfl (And.intro (by repeat (first | exact trivial | refine And.intro rfl ?_)) (And.intro (by repeat (first | exact trivial | refine And.intro rfl ?_)) (Exists.intro m5 (And.intro ⟨(IntKind.i64.wrap (u2 + 1)), ((wu3 ++ ([[.int .i64 u2]] : List (List Value))) ++ ([[.int .i64 (IntKind.i64.wrap (0 - u2))]] : List (List Value))), ((u3 ++ [u2]) ++ [(IntKind.i64.wrap (0 - u2))]), rfl, rfl, sX1, (M0 _), (F2.append (F2.append fu3 (show F2 (Wp.int.R k4) ([[.int .i64 u2]] : List (List Value)) [u2] from ⟨⟨rfl, iu2⟩, trivial⟩)) (show F2 (Wp.int.R k4) ([[.int .i64 (IntKind.i64.wrap (0 - u2))]] : List (List Value)) [(IntKind.i64.wrap (0 - u2))] from ⟨⟨rfl, (M0 _)⟩, trivial⟩)), hM1⟩ (Nat.lt_succ_self _)))))
 ·replace hM1 := ifN hM1 hc6
  have hE := Option.some.inj hM1; subst hE
  try dsimp only [Y0, Z0] at hM0
  intro v9 k10 f11
  obtain ⟨az12, cz12, rfl, rz12, sz12, lz12⟩ := Q0.out (r := Wp.int.toRp) f11 fu3
  have hE := Option.some.inj hM0; subst hE
  exact ⟨az12, u3.length, cz12, rfl, rz12, (sX1.trans sz12)⟩
theorem I03 (h : Hp) (csp0 : List Value) (p0 : j0) (rp0 : S0.R h csp0 p0) (r : D0) (hM0 : C6 p0 = some r) :
  Tr Tryz.prog 300 #[.agg csp0.toArray] h fun v h' => ∃ (a0 : Option Addr) (n0 c0 : Nat), v = .slice a0 n0 c0 ∧ D1.R h' [.slice a0 n0 c0] r ∧ Sub h h' := by
 obtain ⟨p0_0, p0_1, ap0_2, np0_2, cp0_2, p0_2, rfl, rfl, ip0_0, ip0_1, rp0_2⟩ := B0 rp0
 obtain ⟨rfl, lp0_2⟩ := Sl.len rp0_2
 unfold C6 at hM0
 dsimp only at hM0
 refine j3 (args := [.agg #[.int .i64 p0_0, .int .i64 p0_1, .slice ap0_2 p0_2.length cp0_2]]) (fn := Tryz.f300) rfl ?_
 obtain ⟨x1, gx1, hM0⟩ := l0 hM0
 refine Tr.val (R8 _ [.int .i64 p0_0, .int .i64 p0_1, .slice ap0_2 p0_2.length cp0_2] (p0_0, p0_1, p0_2) (z0 ip0_0 ip0_1 rp0_2) _  gx1) ?_
 refine And.intro (fun hc2 => ?_) (fun hc2 => ?_)
 ·replace hM0 := ifP hM0 hc2
  intro v3 k4 f5
  obtain ⟨az6, cz6, rfl, rz6, sz6, lz6⟩ := Q0.out (r := Wp.int.toRp) f5 (show F2 (Wp.int.R h) ([] : List (List Value)) ([] : D0) from trivial)
  have hE := Option.some.inj hM0; subst hE
  exact ⟨az6, (([] : D0)).length, cz6, rfl, rz6, sz6⟩
 ·replace hM0 := ifN hM0 hc2
  obtain ⟨x7, gx7, hM0⟩ := l0 hM0
  refine Tr.mono (S00 _ p0_0 ip0_0 _  gx7) ?_
  rintro v9 k8 ⟨ax7, nx7, cx7, rfl, rx7, sx7⟩
  obtain ⟨rfl, lx7⟩ := Sl.len rx7
  obtain ⟨X10, hLX10, hM0⟩ := l0 hM0
  refine Exists.intro { vars := [5], boxes := [], owns := [0], fuel := true } (Exists.intro (fun vs os h' => ∃ (u11 : Int) (wu12 : List (List Value)) (u12 : List Int), vs.tail = [.int .i64 u11] ∧ os = [wu12] ∧ Sub k8 h' ∧ N0 u11 ∧ F2 (Wp.int.R h') wu12 u12 ∧ c4 x7 p0_0 p0_1 p0_2 (Y1 vs) u11 u12 = some X10) (Exists.intro (fun _ _ => 0) ?_))
  refine And.intro (Exists.intro U0 ⟨0, ([[.int .i64 0]] : List (List Value)), [0], rfl, rfl, (Sub.refl _), (c64 (by decide) (by decide)), (F2.up (r := Wp.int.toRp) sx7 (show F2 (Wp.int.R h) ([[.int .i64 0]] : List (List Value)) [0] from ⟨⟨rfl, (c64 (by decide) (by decide))⟩, trivial⟩)), hLX10⟩) ?_
  rintro v_0 wu12 m14 k13 ⟨u11, zzu12, u12, evX10, eoX10, sX10, iu11, fu12, hM1⟩
  cases evX10
  cases eoX10
  replace hM1 : c4 x7 p0_0 p0_1 p0_2 m14 u11 u12 = some X10 := hM1
  obtain _ | m14 := m14
  ·cases (show (none : Option _) = some X10 from hM1)
  rw [c4.eq_2] at hM1
  obtain ⟨m15, gm15, hM1⟩ := l0 hM1
  obtain rfl : wu12.length = m15 := (F2.length fu12).trans (Option.some.inj gm15)
  obtain ⟨q16, gq16, hM1⟩ := l0 hM1
  refine And.intro (fun hc17 => ?_) (fun hc17 => ?_)
  ·replace hM1 := ifP hM1 hc17
   obtain ⟨X18, hLX18, hM1⟩ := l0 hM1
   refine Exists.intro { vars := [6], boxes := [], owns := [0], fuel := true } (Exists.intro (fun vs os h' => ∃ (u19 : Int) (wu20 : List (List Value)) (u20 : List Int), vs.tail = [.int .i64 u19] ∧ os = [wu20] ∧ Sub k13 h' ∧ N0 u19 ∧ F2 (Wp.int.R h') wu20 u20 ∧ P2 x7 u11 p0_0 p0_1 p0_2 (Y1 vs) u19 u20 = some X18) (Exists.intro (fun _ _ => 0) ?_))
   refine And.intro (Exists.intro U0 ⟨0, wu12, u12, rfl, rfl, (Sub.refl _), (c64 (by decide) (by decide)), fu12, hLX18⟩) ?_
   rintro v_0 wu20 m22 k21 ⟨u19, zzu20, u20, evX18, eoX18, sX18, iu19, fu20, hM2⟩
   cases evX18
   cases eoX18
   replace hM2 : P2 x7 u11 p0_0 p0_1 p0_2 m22 u19 u20 = some X18 := hM2
   obtain _ | m22 := m22
   ·cases (show (none : Option _) = some X18 from hM2)
   rw [P2.eq_2] at hM2
   refine And.intro (fun hc23 => ?_) (fun hc23 => ?_)
   ·replace hM2 := ifP hM2 hc23
    refine Or.inl (And.intro (And.intro (by kernel_rfl) (by kernel_rfl)) ?_)
    obtain ⟨x24, gx24, hM2⟩ := l0 hM2
    obtain ⟨bx24, csx24, ex24, rx24⟩ := G3 fu20 gx24
    refine And.intro bx24 ?_
    obtain ⟨rfl, ix24⟩ := rx24
    refine Exists.intro _ (And.intro ex24 ?_)
    obtain ⟨x25, gx25, hM2⟩ := l0 hM2
    obtain ⟨bx25, csx25, ex25, rx25⟩ := Sl.getI (r := Wp.int.toRp) (D1.mono (sX10.trans sX18) rx7) gx25 (by decide)
    refine And.intro bx25 ?_
    obtain ⟨rfl, ix25⟩ := rx25
    refine Exists.intro _ (And.intro ex25 ?_)
    obtain ⟨x26, gx26, hM2⟩ := l0 hM2
    refine Exists.intro (.int .i64 x26) (And.intro (G00 _ [.int .i64 p0_0, .int .i64 p0_1, .slice ap0_2 p0_2.length cp0_2] (p0_0, p0_1, p0_2) (z0 ip0_0 ip0_1 (J0.mono ((sx7.trans sX10).trans sX18) rp0_2)) x24 ix24 x25 ix25 _  gx26) ?_)
    obtain ⟨q27, gq27, hM2⟩ := l0 hM2
    have ix26 : N0 x26 := B3 gq27
    obtain ⟨x28, gx28, hM2⟩ := l0 hM2
    refine Exists.intro (.bool x28) (And.intro ?_ ?_)
    ·intro hq
     intro v29 k30 f31
     obtain ⟨az32, cz32, rfl, rz32, sz32, lz32⟩ := Q0.out (r := Wp.int.toRp) f31 fu20
     exact F00 _ az32 u20.length cz32 u20 rz32 x26 ix26 _ (E2 gx28 hq)
    refine And.intro (fun hc33 => ?_) (fun hc33 => ?_)
    ·replace hM2 := ifP hM2 hc33
     obtain ⟨q34, gq34, hM2⟩ := l0 hM2
     refine And.intro (N1 gq34 (by first | rw [F2.length fu20, F2.length (show F2 (Wp.int.R k21) ([[.int .i64 x26]] : List (List Value)) [x26] from ⟨⟨rfl, ix26⟩, trivial⟩)] | exact congrArg (· + 1) (F2.length fu20))) ?_
     refine And.intro rfl (And.intro (by repeat (first | exact trivial | refine And.intro rfl ?_)) (And.intro (by repeat (first | exact trivial | refine And.intro rfl ?_)) (Exists.intro m22 (And.intro ⟨(IntKind.i64.wrap (u19 + 1)), (wu20 ++ ([[.int .i64 x26]] : List (List Value))), (u20 ++ [x26]), rfl, rfl, sX18, (M0 _), (F2.append fu20 (show F2 (Wp.int.R k21) ([[.int .i64 x26]] : List (List Value)) [x26] from ⟨⟨rfl, ix26⟩, trivial⟩)), hM2⟩ (Nat.lt_succ_self _)))))
    ·replace hM2 := ifN hM2 hc33
     refine And.intro rfl (And.intro (by repeat (first | exact trivial | refine And.intro rfl ?_)) (And.intro (by repeat (first | exact trivial | refine And.intro rfl ?_)) (Exists.intro m22 (And.intro ⟨(IntKind.i64.wrap (u19 + 1)), wu20, u20, rfl, rfl, sX18, (M0 _), fu20, hM2⟩ (Nat.lt_succ_self _)))))
   ·replace hM2 := ifN hM2 hc23
    have hE := Option.some.inj hM2; subst hE
    try dsimp only [Y0, Z0] at hM1
    refine And.intro rfl (And.intro (by repeat (first | exact trivial | refine And.intro rfl ?_)) (And.intro (by repeat (first | exact trivial | refine And.intro rfl ?_)) (Exists.intro m14 (And.intro ⟨(IntKind.i64.wrap (u11 + 1)), wu20, u20, rfl, rfl, (sX10.trans sX18), (M0 _), fu20, hM1⟩ (Nat.lt_succ_self _)))))
  ·replace hM1 := ifN hM1 hc17
   have hE := Option.some.inj hM1; subst hE
   try dsimp only [Y0, Z0] at hM0
   intro v39 k40 f41
   obtain ⟨az42, cz42, rfl, rz42, sz42, lz42⟩ := Q0.out (r := Wp.int.toRp) f41 fu12
   have hE := Option.some.inj hM0; subst hE
   exact ⟨az42, u12.length, cz42, rfl, rz42, ((sx7.trans sX10).trans sz42)⟩
theorem L00 (h : Hp) (csp0 : List Value) (p0 : j0) (rp0 : S0.R h csp0 p0) (r : j0) (hM0 : s5 p0 = some r) :
  Tr Tryz.prog 247 #[.agg csp0.toArray] h fun v h' => ∃ (cs0 : List Value), v = .agg cs0.toArray ∧ S0.R h' cs0 r ∧ Sub h h' := by
 obtain ⟨p0_0, p0_1, ap0_2, np0_2, cp0_2, p0_2, rfl, rfl, ip0_0, ip0_1, rp0_2⟩ := B0 rp0
 obtain ⟨rfl, lp0_2⟩ := Sl.len rp0_2
 unfold s5 at hM0
 dsimp only at hM0
 refine j3 (args := [.agg #[.int .i64 p0_0, .int .i64 p0_1, .slice ap0_2 p0_2.length cp0_2]]) (fn := Tryz.f247) rfl ?_
 obtain ⟨x1, gx1, hM0⟩ := l0 hM0
 refine Tr.mono (I03 _ [.int .i64 p0_0, .int .i64 p0_1, .slice ap0_2 p0_2.length cp0_2] (p0_0, p0_1, p0_2) (z0 ip0_0 ip0_1 rp0_2) _  gx1) ?_
 rintro v3 k2 ⟨ax1, nx1, cx1, rfl, rx1, sx1⟩
 obtain ⟨rfl, lx1⟩ := Sl.len rx1
 refine And.intro (fun hc4 => ?_) (fun hc4 => ?_)
 ·replace hM0 := ifP hM0 hc4
  obtain ⟨x5, gx5, hM0⟩ := l0 hM0
  refine Tr.mono (B7 _ [.int .i64 p0_0, .int .i64 p0_1, .slice ap0_2 p0_2.length cp0_2] (p0_0, p0_1, p0_2) (z0 ip0_0 ip0_1 (J0.mono sx1 rp0_2)) _  gx5) ?_
  rintro v7 k6 ⟨csx5, rfl, rx5, sx5⟩
  obtain ⟨x5_0, x5_1, ax5_2, nx5_2, cx5_2, x5_2, rfl, rfl, ix5_0, ix5_1, rx5_2⟩ := B0 rx5
  obtain ⟨rfl, lx5_2⟩ := Sl.len rx5_2
  try dsimp only at hM0
  have hE := Option.some.inj hM0; subst hE
  exact ⟨([.int .i64 x5_0, .int .i64 x5_1, .slice ax5_2 x5_2.length cx5_2]), rfl, (z0 ix5_0 ix5_1 rx5_2), (sx1.trans sx5)⟩
 ·replace hM0 := ifN hM0 hc4
  obtain ⟨x8, gx8, hM0⟩ := l0 hM0
  refine Tr.mono (H9 _ [.int .i64 p0_0, .int .i64 p0_1, .slice ap0_2 p0_2.length cp0_2] (p0_0, p0_1, p0_2) (z0 ip0_0 ip0_1 (J0.mono sx1 rp0_2)) ax1 x1.length cx1 x1 rx1 _  gx8) ?_
  rintro v10 k9 ⟨csx8_0, rfl, rx8_0, sx8⟩
  obtain ⟨x8_0, x8_1⟩ := x8
  dsimp only at hM0 rx8_0
  obtain ⟨x8_0_0, x8_0_1, ax8_0_2, nx8_0_2, cx8_0_2, x8_0_2, rfl, rfl, ix8_0_0, ix8_0_1, rx8_0_2⟩ := B0 rx8_0
  obtain ⟨rfl, lx8_0_2⟩ := Sl.len rx8_0_2
  try dsimp only at hM0
  have hE := Option.some.inj hM0; subst hE
  exact ⟨([.int .i64 x8_0_0, .int .i64 x8_0_1, .slice ax8_0_2 x8_0_2.length cx8_0_2]), rfl, (z0 ix8_0_0 ix8_0_1 rx8_0_2), (sx1.trans sx8)⟩
theorem N0a (h : Hp) (csp0 : List Value) (p0 : j0) (rp0 : S0.R h csp0 p0) (r : Bool) (hM0 : V8 p0 = some r) :
  Tr Tryz.prog 164 #[.agg csp0.toArray] h fun v h' => v = .bool r ∧ h' = h := by
 obtain ⟨p0_0, p0_1, ap0_2, np0_2, cp0_2, p0_2, rfl, rfl, ip0_0, ip0_1, rp0_2⟩ := B0 rp0
 obtain ⟨rfl, lp0_2⟩ := Sl.len rp0_2
 unfold V8 at hM0
 dsimp only at hM0
 refine Tr.forget (j3 (args := [.agg #[.int .i64 p0_0, .int .i64 p0_1, .slice ap0_2 p0_2.length cp0_2]]) (fn := Tryz.f164) rfl ?_)
 refine Or.inr (Or.inr (Or.inr (Or.inl (And.intro (And.intro (by kernel_rfl) (by kernel_rfl)) ?_))))
 obtain ⟨x1, gx1, hM0⟩ := l0 hM0
 refine Or.inl (Exists.intro (.val (.bool x1)) (And.intro ?_ ?_))
 ·intro k2 s3
  exact Tr.val (R8 _ [.int .i64 p0_0, .int .i64 p0_1, .slice ap0_2 p0_2.length cp0_2] (p0_0, p0_1, p0_2) (z0 ip0_0 ip0_1 (J0.mono s3 rp0_2)) _ gx1) (And.intro rfl (And.intro rfl rfl))
 obtain ⟨x4, gx4, hM0⟩ := l0 hM0
 obtain ⟨q5, gq5, hM0⟩ := l0 hM0
 have ix4 : N0 x4 := B3 gq5
 refine Or.inl (Exists.intro (.val (.int .i64 x4)) (And.intro ?_ ?_))
 ·intro k6 s7 hq
  exact Tr.val (n05 _ [.int .i64 p0_0, .int .i64 p0_1, .slice ap0_2 p0_2.length cp0_2] (p0_0, p0_1, p0_2) (z0 ip0_0 ip0_1 (J0.mono s7 rp0_2)) _ (E2 gx4 hq)) (And.intro rfl (And.intro rfl rfl))
 refine Or.inl (Exists.intro (.val (.bool (decide (x4 < 0)))) (And.intro ?_ ?_))
 ·intro k8 s9 hq
  exact And.intro rfl (And.intro rfl rfl)
 obtain ⟨x10, gx10, hM0⟩ := l0 hM0
 obtain ⟨x10_0, x10_1, x10_2⟩ := x10
 try dsimp only at hM0
 refine Or.inr (Exists.intro (fun v hh => ∃ (ax10_2 : Option Addr) (cx10_2 : Nat), v = .agg #[.int .i64 x10_0, .int .i64 x10_1, .slice ax10_2 x10_2.length cx10_2] ∧ N0 x10_0 ∧ N0 x10_1 ∧ J0.R hh [.slice ax10_2 x10_2.length cx10_2] x10_2 ∧ x10_2.length ≤ 9223372036854775807) (And.intro (fun v h1 h2 sb q => by obtain ⟨ax10_2, cx10_2, e, f0, f1, f2, f3⟩ := q; exact ⟨ax10_2, cx10_2, e, f0, f1, J0.mono sb f2, f3⟩) (And.intro ?_ ?_)))
 ·intro k11 s12 hq
  refine Tr.mono (L00 _ [.int .i64 p0_0, .int .i64 p0_1, .slice ap0_2 p0_2.length cp0_2] (p0_0, p0_1, p0_2) (z0 ip0_0 ip0_1 (J0.mono s12 rp0_2)) _ (E2 gx10 hq)) ?_
  rintro _ kk ⟨csx10, rfl, rx10, sb⟩
  obtain ⟨yx10_0, yx10_1, ayx10_2, nyx10_2, cyx10_2, yx10_2, rfl, ey, iyx10_0, iyx10_1, ryx10_2⟩ := B0 rx10
  cases ey
  obtain ⟨rfl, lyx10_2⟩ := Sl.len ryx10_2
  exact And.intro v06 (And.intro sb ⟨ayx10_2, cyx10_2, rfl, iyx10_0, iyx10_1, ryx10_2, lyx10_2⟩)
 obtain ⟨x13, gx13, hM0⟩ := l0 hM0
 refine Or.inl (Exists.intro (.val (.bool x13)) (And.intro ?_ ?_))
 ·intro k14 s15 hq
  rintro _ ⟨az162, cz162, rfl, iz160, iz161, rz162, lz162⟩
  exact Tr.val (T01 _ [.int .i64 x10_0, .int .i64 x10_1, .slice az162 x10_2.length cz162] (x10_0, x10_1, x10_2) (z0 iz160 iz161 rz162) [.int .i64 p0_0, .int .i64 p0_1, .slice ap0_2 p0_2.length cp0_2] (p0_0, p0_1, p0_2) (z0 ip0_0 ip0_1 (J0.mono s15 rp0_2)) _ (E2 gx13 hq)) (And.intro rfl (And.intro rfl rfl))
 intro k17 s18
 have hE := Option.some.inj hM0; subst hE
 exact And.intro rfl s18
theorem o02 (h : Hp) (csp0 : List Value) (p0 : j0) (rp0 : S0.R h csp0 p0) (r : Bool) (hM0 : i7 p0 = some r) :
  Tr Tryz.prog 76 #[.agg csp0.toArray] h fun v h' => v = .bool r ∧ h' = h := by
 obtain ⟨p0_0, p0_1, ap0_2, np0_2, cp0_2, p0_2, rfl, rfl, ip0_0, ip0_1, rp0_2⟩ := B0 rp0
 obtain ⟨rfl, lp0_2⟩ := Sl.len rp0_2
 unfold i7 at hM0
 dsimp only at hM0
 refine Tr.forget (j3 (args := [.agg #[.int .i64 p0_0, .int .i64 p0_1, .slice ap0_2 p0_2.length cp0_2]]) (fn := Tryz.f76) rfl ?_)
 obtain ⟨x1, gx1, hM0⟩ := l0 hM0
 refine Tr.val (N0a _ [.int .i64 p0_0, .int .i64 p0_1, .slice ap0_2 p0_2.length cp0_2] (p0_0, p0_1, p0_2) (z0 ip0_0 ip0_1 rp0_2) _  gx1) ?_
 have hE := Option.some.inj hM0; subst hE
 exact And.intro rfl (Sub.refl _)
end Go.Proofs.YtknoadmdnjaocaaGreat
namespace Go.Proofs.YtknoadmdnjaocaaGreat
open Go.H
set_option linter.unusedVariables false
set_option linter.unusedSimpArgs false
set_option maxRecDepth 10000
theorem y0a (h : Hp) (csp0 : List Value) (p0 : j0) (rp0 : S0.R h csp0 p0) (r : R6) (hM0 : C9 p0 = some r) :
  Tr Tryz.prog 344 #[.agg csp0.toArray] h fun v h' => ∃ (a0 : Option Addr) (n0 c0 : Nat), v = .slice a0 n0 c0 ∧ w0c.R h' [.slice a0 n0 c0] r ∧ Sub h h' := by
 obtain ⟨p0_0, p0_1, ap0_2, np0_2, cp0_2, p0_2, rfl, rfl, ip0_0, ip0_1, rp0_2⟩ := B0 rp0
 obtain ⟨rfl, lp0_2⟩ := Sl.len rp0_2
 unfold C9 at hM0
 dsimp only at hM0
 refine j3 (args := [.agg #[.int .i64 p0_0, .int .i64 p0_1, .slice ap0_2 p0_2.length cp0_2]]) (fn := Tryz.f344) rfl ?_
 obtain ⟨X1, hLX1, hM0⟩ := l0 hM0
 refine Exists.intro { vars := [4], boxes := [], owns := [0], fuel := true } (Exists.intro (fun vs os h' => ∃ (u2 : Int) (wu3 : List (List Value)) (u3 : List R3), vs.tail = [.int .i64 u2] ∧ os = [wu3] ∧ Sub h h' ∧ N0 u2 ∧ F2 (Q3.R h') wu3 u3 ∧ M5 p0_2 (Y1 vs) u2 u3 = some X1) (Exists.intro (fun _ _ => 0) ?_))
 refine And.intro (Exists.intro U0 ⟨0, [], ([] : R6), rfl, rfl, (Sub.refl _), (c64 (by decide) (by decide)), (show F2 (Q3.R h) ([] : List (List Value)) ([] : R6) from trivial), hLX1⟩) ?_
 rintro v_0 wu3 m5 k4 ⟨u2, zzu3, u3, evX1, eoX1, sX1, iu2, fu3, hM1⟩
 cases evX1
 cases eoX1
 replace hM1 : M5 p0_2 m5 u2 u3 = some X1 := hM1
 obtain _ | m5 := m5
 ·cases (show (none : Option _) = some X1 from hM1)
 rw [M5.eq_2] at hM1
 refine And.intro (fun hc6 => ?_) (fun hc6 => ?_)
 ·replace hM1 := ifP hM1 hc6
  obtain ⟨X7, hLX7, hM1⟩ := l0 hM1
  refine Exists.intro { vars := [5], boxes := [], owns := [0], fuel := true } (Exists.intro (fun vs os h' => ∃ (u8 : Int) (wu9 : List (List Value)) (u9 : List R3), vs.tail = [.int .i64 u8] ∧ os = [wu9] ∧ Sub k4 h' ∧ N0 u8 ∧ F2 (Q3.R h') wu9 u9 ∧ E3 p0_2 u2 (Y1 vs) u8 u9 = some X7) (Exists.intro (fun _ _ => 0) ?_))
  refine And.intro (Exists.intro U0 ⟨(IntKind.i64.wrap (u2 + 1)), wu3, u3, rfl, rfl, (Sub.refl _), (M0 _), fu3, hLX7⟩) ?_
  rintro v_0 wu9 m11 k10 ⟨u8, zzu9, u9, evX7, eoX7, sX7, iu8, fu9, hM2⟩
  cases evX7
  cases eoX7
  replace hM2 : E3 p0_2 u2 m11 u8 u9 = some X7 := hM2
  obtain _ | m11 := m11
  ·cases (show (none : Option _) = some X7 from hM2)
  rw [E3.eq_2] at hM2
  refine And.intro (fun hc12 => ?_) (fun hc12 => ?_)
  ·replace hM2 := ifP hM2 hc12
   obtain ⟨x13, gx13, hM2⟩ := l0 hM2
   obtain ⟨bx13, csx13, ex13, rx13⟩ := Sl.getI (r := P0.toRp) (J0.mono (sX1.trans sX7) rp0_2) gx13 (by decide)
   refine And.intro bx13 ?_
   obtain ⟨x13_0, x13_1, x13_2, rfl, rfl, ix13_0, ix13_1, ix13_2⟩ := E1 rx13
   try dsimp only at hM2
   refine Exists.intro _ (And.intro ex13 ?_)
   obtain ⟨x14, gx14, hM2⟩ := l0 hM2
   obtain ⟨bx14, csx14, ex14, rx14⟩ := Sl.getI (r := P0.toRp) (J0.mono (sX1.trans sX7) rp0_2) gx14 (by decide)
   refine And.intro bx14 ?_
   obtain ⟨x14_0, x14_1, x14_2, rfl, rfl, ix14_0, ix14_1, ix14_2⟩ := E1 rx14
   try dsimp only at hM2
   refine Exists.intro _ (And.intro ex14 ?_)
   refine And.intro (fun hc15 => ?_) (fun hc15 => ?_)
   ·replace hM2 := ifP hM2 hc15
    obtain ⟨q16, gq16, hM2⟩ := l0 hM2
    refine And.intro (N1 gq16 (by first | rw [F2.length fu9, F2.length (show F2 (Q3.R k10) ([[.int .i64 (if x14_2 < x13_2 then x14_2 else x13_2), .int .i64 (if x14_2 > x13_2 then x14_2 else x13_2)]] : List (List Value)) [((if x14_2 < x13_2 then x14_2 else x13_2), (if x14_2 > x13_2 then x14_2 else x13_2))] from ⟨(O1 (H6 ix14_2 ix13_2) (H6 ix14_2 ix13_2)), trivial⟩)] | exact congrArg (· + 1) (F2.length fu9))) ?_
    refine And.intro (fun hc17 => ?_) (fun hc17 => ?_)
    ·replace hM2 := ifP hM2 hc17
     obtain ⟨q18, gq18, hM2⟩ := l0 hM2
     refine And.intro (N1 gq18 (by first | rw [F2.length (F2.append fu9 (show F2 (Q3.R k10) ([[.int .i64 (if x14_2 < x13_2 then x14_2 else x13_2), .int .i64 (if x14_2 > x13_2 then x14_2 else x13_2)]] : List (List Value)) [((if x14_2 < x13_2 then x14_2 else x13_2), (if x14_2 > x13_2 then x14_2 else x13_2))] from ⟨(O1 (H6 ix14_2 ix13_2) (H6 ix14_2 ix13_2)), trivial⟩)), F2.length (show F2 (Q3.R k10) ([[.int .i64 (if x14_0 < x13_0 then x14_0 else x13_0), .int .i64 (if x14_0 > x13_0 then x14_0 else x13_0)]] : List (List Value)) [((if x14_0 < x13_0 then x14_0 else x13_0), (if x14_0 > x13_0 then x14_0 else x13_0))] from ⟨(O1 (H6 ix14_0 ix13_0) (H6 ix14_0 ix13_0)), trivial⟩)] | exact congrArg (· + 1) (F2.length (F2.append fu9 (show F2 (Q3.R k10) ([[.int .i64 (if x14_2 < x13_2 then x14_2 else x13_2), .int .i64 (if x14_2 > x13_2 then x14_2 else x13_2)]] : List (List Value)) [((if x14_2 < x13_2 then x14_2 else x13_2), (if x14_2 > x13_2 then x14_2 else x13_2))] from ⟨(O1 (H6 ix14_2 ix13_2) (H6 ix14_2 ix13_2)), trivial⟩))))) ?_
     refine And.intro rfl (And.intro (by repeat (first | exact trivial | refine And.intro rfl ?_)) (And.intro (by repeat (first | exact trivial | refine And.intro rfl ?_)) (Exists.intro m11 (And.intro ⟨(IntKind.i64.wrap (u8 + 1)), ((wu9 ++ ([[.int .i64 (if x14_2 < x13_2 then x14_2 else x13_2), .int .i64 (if x14_2 > x13_2 then x14_2 else x13_2)]] : List (List Value))) ++ ([[.int .i64 (if x14_0 < x13_0 then x14_0 else x13_0), .int .i64 (if x14_0 > x13_0 then x14_0 else x13_0)]] : List (List Value))), ((u9 ++ [((if x14_2 < x13_2 then x14_2 else x13_2), (if x14_2 > x13_2 then x14_2 else x13_2))]) ++ [((if x14_0 < x13_0 then x14_0 else x13_0), (if x14_0 > x13_0 then x14_0 else x13_0))]), rfl, rfl, sX7, (M0 _), (F2.append (F2.append fu9 (show F2 (Q3.R k10) ([[.int .i64 (if x14_2 < x13_2 then x14_2 else x13_2), .int .i64 (if x14_2 > x13_2 then x14_2 else x13_2)]] : List (List Value)) [((if x14_2 < x13_2 then x14_2 else x13_2), (if x14_2 > x13_2 then x14_2 else x13_2))] from ⟨(O1 (H6 ix14_2 ix13_2) (H6 ix14_2 ix13_2)), trivial⟩)) (show F2 (Q3.R k10) ([[.int .i64 (if x14_0 < x13_0 then x14_0 else x13_0), .int .i64 (if x14_0 > x13_0 then x14_0 else x13_0)]] : List (List Value)) [((if x14_0 < x13_0 then x14_0 else x13_0), (if x14_0 > x13_0 then x14_0 else x13_0))] from ⟨(O1 (H6 ix14_0 ix13_0) (H6 ix14_0 ix13_0)), trivial⟩)), hM2⟩ (Nat.lt_succ_self _)))))
    ·replace hM2 := ifN hM2 hc17
     refine And.intro rfl (And.intro (by repeat (first | exact trivial | refine And.intro rfl ?_)) (And.intro (by repeat (first | exact trivial | refine And.intro rfl ?_)) (Exists.intro m11 (And.intro ⟨(IntKind.i64.wrap (u8 + 1)), (wu9 ++ ([[.int .i64 (if x14_2 < x13_2 then x14_2 else x13_2), .int .i64 (if x14_2 > x13_2 then x14_2 else x13_2)]] : List (List Value))), (u9 ++ [((if x14_2 < x13_2 then x14_2 else x13_2), (if x14_2 > x13_2 then x14_2 else x13_2))]), rfl, rfl, sX7, (M0 _), (F2.append fu9 (show F2 (Q3.R k10) ([[.int .i64 (if x14_2 < x13_2 then x14_2 else x13_2), .int .i64 (if x14_2 > x13_2 then x14_2 else x13_2)]] : List (List Value)) [((if x14_2 < x13_2 then x14_2 else x13_2), (if x14_2 > x13_2 then x14_2 else x13_2))] from ⟨(O1 (H6 ix14_2 ix13_2) (H6 ix14_2 ix13_2)), trivial⟩)), hM2⟩ (Nat.lt_succ_self _)))))
   ·replace hM2 := ifN hM2 hc15
    refine And.intro (fun hc19 => ?_) (fun hc19 => ?_)
    ·replace hM2 := ifP hM2 hc19
     obtain ⟨q20, gq20, hM2⟩ := l0 hM2
     refine And.intro (N1 gq20 (by first | rw [F2.length fu9, F2.length (show F2 (Q3.R k10) ([[.int .i64 (if x14_0 < x13_0 then x14_0 else x13_0), .int .i64 (if x14_0 > x13_0 then x14_0 else x13_0)]] : List (List Value)) [((if x14_0 < x13_0 then x14_0 else x13_0), (if x14_0 > x13_0 then x14_0 else x13_0))] from ⟨(O1 (H6 ix14_0 ix13_0) (H6 ix14_0 ix13_0)), trivial⟩)] | exact congrArg (· + 1) (F2.length fu9))) ?_
     refine And.intro rfl (And.intro (by repeat (first | exact trivial | refine And.intro rfl ?_)) (And.intro (by repeat (first | exact trivial | refine And.intro rfl ?_)) (Exists.intro m11 (And.intro ⟨(IntKind.i64.wrap (u8 + 1)), (wu9 ++ ([[.int .i64 (if x14_0 < x13_0 then x14_0 else x13_0), .int .i64 (if x14_0 > x13_0 then x14_0 else x13_0)]] : List (List Value))), (u9 ++ [((if x14_0 < x13_0 then x14_0 else x13_0), (if x14_0 > x13_0 then x14_0 else x13_0))]), rfl, rfl, sX7, (M0 _), (F2.append fu9 (show F2 (Q3.R k10) ([[.int .i64 (if x14_0 < x13_0 then x14_0 else x13_0), .int .i64 (if x14_0 > x13_0 then x14_0 else x13_0)]] : List (List Value)) [((if x14_0 < x13_0 then x14_0 else x13_0), (if x14_0 > x13_0 then x14_0 else x13_0))] from ⟨(O1 (H6 ix14_0 ix13_0) (H6 ix14_0 ix13_0)), trivial⟩)), hM2⟩ (Nat.lt_succ_self _)))))
    ·replace hM2 := ifN hM2 hc19
     refine And.intro rfl (And.intro (by repeat (first | exact trivial | refine And.intro rfl ?_)) (And.intro (by repeat (first | exact trivial | refine And.intro rfl ?_)) (Exists.intro m11 (And.intro ⟨(IntKind.i64.wrap (u8 + 1)), wu9, u9, rfl, rfl, sX7, (M0 _), fu9, hM2⟩ (Nat.lt_succ_self _)))))
  ·replace hM2 := ifN hM2 hc12
   have hE := Option.some.inj hM2; subst hE
   try dsimp only [Y0, Z0] at hM1
   refine And.intro rfl (And.intro (by repeat (first | exact trivial | refine And.intro rfl ?_)) (And.intro (by repeat (first | exact trivial | refine And.intro rfl ?_)) (Exists.intro m5 (And.intro ⟨(IntKind.i64.wrap (u2 + 1)), wu9, u9, rfl, rfl, (sX1.trans sX7), (M0 _), fu9, hM1⟩ (Nat.lt_succ_self _)))))
 ·replace hM1 := ifN hM1 hc6
  have hE := Option.some.inj hM1; subst hE
  try dsimp only [Y0, Z0] at hM0
  intro v25 k26 f27
  obtain ⟨az28, cz28, rfl, rz28, sz28, lz28⟩ := Q0.out (r := Q3.toRp) f27 fu3
  have hE := Option.some.inj hM0; subst hE
  exact ⟨az28, u3.length, cz28, rfl, rz28, (sX1.trans sz28)⟩
theorem M07 (h : Hp) (csp0 : List Value) (p0 : j0) (rp0 : S0.R h csp0 p0) (r : R3 × Bool) (hM0 : D7 p0 = some r) :
  Tr Tryz.prog 324 #[.agg csp0.toArray] h fun v h' => ∃ (cs0 : List Value), v = .tuple #[.agg cs0.toArray, .bool r.2] ∧ Q3.R h' cs0 r.1 ∧ Sub h h' := by
 obtain ⟨p0_0, p0_1, ap0_2, np0_2, cp0_2, p0_2, rfl, rfl, ip0_0, ip0_1, rp0_2⟩ := B0 rp0
 obtain ⟨rfl, lp0_2⟩ := Sl.len rp0_2
 unfold D7 at hM0
 dsimp only at hM0
 refine j3 (args := [.agg #[.int .i64 p0_0, .int .i64 p0_1, .slice ap0_2 p0_2.length cp0_2]]) (fn := Tryz.f324) rfl ?_
 obtain ⟨x1, gx1, hM0⟩ := l0 hM0
 refine Tr.val (c7 _ [.int .i64 p0_0, .int .i64 p0_1, .slice ap0_2 p0_2.length cp0_2] (p0_0, p0_1, p0_2) (z0 ip0_0 ip0_1 rp0_2) _  gx1) ?_
 refine And.intro (fun hc2 => ?_) (fun hc2 => ?_)
 ·replace hM0 := ifP hM0 hc2
  have hE := Option.some.inj hM0; subst hE
  exact ⟨([.int .i64 0, .int .i64 0]), rfl, (O1 (c64 (by decide) (by decide)) (c64 (by decide) (by decide))), (Sub.refl _)⟩
 ·replace hM0 := ifN hM0 hc2
  obtain ⟨x3, gx3, hM0⟩ := l0 hM0
  refine Tr.mono (y0a _ [.int .i64 p0_0, .int .i64 p0_1, .slice ap0_2 p0_2.length cp0_2] (p0_0, p0_1, p0_2) (z0 ip0_0 ip0_1 rp0_2) _  gx3) ?_
  rintro v5 k4 ⟨ax3, nx3, cx3, rfl, rx3, sx3⟩
  obtain ⟨rfl, lx3⟩ := Sl.len rx3
  refine And.intro (fun hc6 => ?_) (fun hc6 => ?_)
  ·replace hM0 := ifP hM0 hc6
   have hE := Option.some.inj hM0; subst hE
   exact ⟨([.int .i64 0, .int .i64 0]), rfl, (O1 (c64 (by decide) (by decide)) (c64 (by decide) (by decide))), sx3⟩
  ·replace hM0 := ifN hM0 hc6
   obtain ⟨x7, gx7, hM0⟩ := l0 hM0
   obtain ⟨bx7, csx7, ex7, rx7⟩ := Sl.getI (r := Q3.toRp) rx3 gx7 (by decide)
   refine And.intro bx7 ?_
   obtain ⟨x7_0, x7_1, rfl, rfl, ix7_0, ix7_1⟩ := A00 rx7
   try dsimp only at hM0
   refine Exists.intro _ (And.intro ex7 ?_)
   have hE := Option.some.inj hM0; subst hE
   exact ⟨([.int .i64 x7_0, .int .i64 x7_1]), rfl, (O1 ix7_0 ix7_1), sx3⟩
theorem Q06 (h : Hp) (p0 : Int) (ip0 : N0 p0) (csp1 : List Value) (p1 : R3) (rp1 : Q3.R h csp1 p1) (r : Int) (hM0 : Q9 p0 p1 = some r) :
  Tr Tryz.prog 345 #[.int .i64 p0, .agg csp1.toArray] h fun v h' => v = .int .i64 r ∧ h' = h := by
 obtain ⟨p1_0, p1_1, rfl, rfl, ip1_0, ip1_1⟩ := A00 rp1
 unfold Q9 at hM0
 dsimp only at hM0
 refine Tr.forget (j3 (args := [.int .i64 p0, .agg #[.int .i64 p1_0, .int .i64 p1_1]]) (fn := Tryz.f345) rfl ?_)
 refine And.intro (fun hc1 => ?_) (fun hc1 => ?_)
 ·replace hM0 := ifP hM0 hc1
  refine And.intro (fun hc2 => ?_) (fun hc2 => ?_)
  ·replace hM0 := ifP hM0 hc2
   have hE := Option.some.inj hM0; subst hE
   exact And.intro rfl (Sub.refl _)
  ·replace hM0 := ifN hM0 hc2
   have hE := Option.some.inj hM0; subst hE
   exact And.intro rfl (Sub.refl _)
 ·replace hM0 := ifN hM0 hc1
  refine And.intro (fun hc3 => ?_) (fun hc3 => ?_)
  ·replace hM0 := ifP hM0 hc3
   have hE := Option.some.inj hM0; subst hE
   exact And.intro rfl (Sub.refl _)
  ·replace hM0 := ifN hM0 hc3
   have hE := Option.some.inj hM0; subst hE
   exact And.intro rfl (Sub.refl _)
theorem z04 (h : Hp) (csp0 : List Value) (p0 : j0) (rp0 : S0.R h csp0 p0) (csp1 : List Value) (p1 : R3) (rp1 : Q3.R h csp1 p1) (r : j0 × Bool) (hM0 : N5 p0 p1 = some r) :
  Tr Tryz.prog 325 #[.agg csp0.toArray, .agg csp1.toArray] h fun v h' => ∃ (cs0 : List Value), v = .tuple #[.agg cs0.toArray, .bool r.2] ∧ S0.R h' cs0 r.1 ∧ Sub h h' := by
 obtain ⟨p0_0, p0_1, ap0_2, np0_2, cp0_2, p0_2, rfl, rfl, ip0_0, ip0_1, rp0_2⟩ := B0 rp0
 obtain ⟨rfl, lp0_2⟩ := Sl.len rp0_2
 obtain ⟨p1_0, p1_1, rfl, rfl, ip1_0, ip1_1⟩ := A00 rp1
 unfold N5 at hM0
 dsimp only at hM0
 refine j3 (args := [.agg #[.int .i64 p0_0, .int .i64 p0_1, .slice ap0_2 p0_2.length cp0_2], .agg #[.int .i64 p1_0, .int .i64 p1_1]]) (fn := Tryz.f325) rfl ?_
 obtain ⟨x1, gx1, hM0⟩ := l0 hM0
 refine Tr.val (c7 _ [.int .i64 p0_0, .int .i64 p0_1, .slice ap0_2 p0_2.length cp0_2] (p0_0, p0_1, p0_2) (z0 ip0_0 ip0_1 rp0_2) _  gx1) ?_
 refine And.intro (fun hc2 => ?_) (fun hc2 => ?_)
 ·replace hM0 := ifP hM0 hc2
  obtain ⟨x3, gx3, hM0⟩ := l0 hM0
  refine Tr.mono (B7 _ [.int .i64 p0_0, .int .i64 p0_1, .slice ap0_2 p0_2.length cp0_2] (p0_0, p0_1, p0_2) (z0 ip0_0 ip0_1 rp0_2) _  gx3) ?_
  rintro v5 k4 ⟨csx3, rfl, rx3, sx3⟩
  obtain ⟨x3_0, x3_1, ax3_2, nx3_2, cx3_2, x3_2, rfl, rfl, ix3_0, ix3_1, rx3_2⟩ := B0 rx3
  obtain ⟨rfl, lx3_2⟩ := Sl.len rx3_2
  try dsimp only at hM0
  have hE := Option.some.inj hM0; subst hE
  exact ⟨([.int .i64 x3_0, .int .i64 x3_1, .slice ax3_2 x3_2.length cx3_2]), rfl, (z0 ix3_0 ix3_1 rx3_2), sx3⟩
 ·replace hM0 := ifN hM0 hc2
  obtain ⟨X6, hLX6, hM0⟩ := l0 hM0
  refine Exists.intro { vars := [7], boxes := [3], owns := [], fuel := true } (Exists.intro (fun vs os h' => ∃ (u7 : Int) (u8 : Int) (u9 : Int) (au10 : Option Addr) (nu10 cu10 : Nat) (u10 : I0), vs.tail = [.int .i64 u7, .int .i64 u8, .int .i64 u9, .slice au10 nu10 cu10] ∧ os = [] ∧ Sub h h' ∧ N0 u7 ∧ N0 u8 ∧ N0 u9 ∧ J0.R h' [.slice au10 nu10 cu10] u10 ∧ L3 p0_2 p1_0 p1_1 (Y1 vs) u7 u8 u9 u10 = some X6) (Exists.intro (fun _ _ => 0) ?_))
  refine And.intro (Exists.intro U0 ⟨0, p0_0, (IntKind.i64.wrap (p0_1 - 1)), none, 0, 0, [], rfl, rfl, (Sub.refl _), (c64 (by decide) (by decide)), ip0_0, (M0 _), (V0j P0 h), hLX6⟩) ?_
  rintro v_0 v_1 v_2 v_3 m12 k11 ⟨u7, u8, u9, au10, nu10, cu10, u10, evX6, eoX6, sX6, iu7, iu8, iu9, ru10, hM1⟩
  cases evX6
  cases eoX6
  replace hM1 : L3 p0_2 p1_0 p1_1 m12 u7 u8 u9 u10 = some X6 := hM1
  obtain _ | m12 := m12
  ·cases (show (none : Option _) = some X6 from hM1)
  rw [L3.eq_2] at hM1
  obtain ⟨rfl, lu10⟩ := Sl.len ru10
  refine And.intro (fun hc13 => ?_) (fun hc13 => ?_)
  ·replace hM1 := ifP hM1 hc13
   obtain ⟨x14, gx14, hM1⟩ := l0 hM1
   obtain ⟨bx14, csx14, ex14, rx14⟩ := Sl.getI (r := P0.toRp) (J0.mono sX6 rp0_2) gx14 (by decide)
   refine And.intro bx14 ?_
   obtain ⟨x14_0, x14_1, x14_2, rfl, rfl, ix14_0, ix14_1, ix14_2⟩ := E1 rx14
   try dsimp only at hM1
   refine Exists.intro _ (And.intro ex14 ?_)
   refine Or.inr (Or.inr (Or.inl (And.intro (And.intro (by kernel_rfl) (by kernel_rfl)) ?_)))
   obtain ⟨x15, gx15, hM1⟩ := l0 hM1
   obtain ⟨q16, gq16, hM1⟩ := l0 hM1
   have ix15 : N0 x15 := B3 gq16
   refine Or.inl (Exists.intro (.val (.int .i64 x15)) (And.intro ?_ ?_))
   ·intro k17 s18
    exact Tr.val (Q06 _ x14_0 ix14_0 [.int .i64 p1_0, .int .i64 p1_1] (p1_0, p1_1) (O1 ip1_0 ip1_1) _ gx15) (And.intro rfl (And.intro rfl rfl))
   obtain ⟨x19, gx19, hM1⟩ := l0 hM1
   obtain ⟨q20, gq20, hM1⟩ := l0 hM1
   have ix19 : N0 x19 := B3 gq20
   refine Or.inl (Exists.intro (.val (.int .i64 x19)) (And.intro ?_ ?_))
   ·intro k21 s22
    exact Tr.val (Q06 _ x14_2 ix14_2 [.int .i64 p1_0, .int .i64 p1_1] (p1_0, p1_1) (O1 ip1_0 ip1_1) _ gx19) (And.intro rfl (And.intro rfl rfl))
   refine Or.inl (Exists.intro (.agg [.val (.int .i64 x15), .val (.int .i64 x14_1), .val (.int .i64 x19)]) (And.intro ?_ ?_))
   ·intro k23 s24
    exact And.intro rfl (And.intro rfl rfl)
   refine Or.inr ?_
   refine Or.inr ?_
   refine Exists.intro 1 (And.intro (And.intro rfl rfl) ?_)
   obtain ⟨x25, gx25, hM1⟩ := l0 hM1
   refine Tr.mono (P06 _ au10 u10.length cu10 u10 ru10 [.int .i64 x15, .int .i64 x14_1, .int .i64 x19] (x15, x14_1, x19) (K1 ix15 ix14_1 ix19) _  gx25) ?_
   rintro v27 k26 ⟨ax25, nx25, cx25, rfl, rx25, sx25⟩
   obtain ⟨rfl, lx25⟩ := Sl.len rx25
   refine And.intro (And.intro rfl sx25) (And.intro (by first | exact trivial | exact rfl) ?_)
   refine And.intro trivial (And.intro (by first | exact trivial | exact rfl) ?_)
   refine And.intro rfl (And.intro (by repeat (first | exact trivial | refine And.intro rfl ?_)) (And.intro (by repeat (first | exact trivial | refine And.intro rfl ?_)) (Exists.intro m12 (And.intro ⟨(IntKind.i64.wrap (u7 + 1)), u8, u9, ax25, x25.length, cx25, x25, rfl, rfl, (sX6.trans sx25), (M0 _), iu8, iu9, rx25, hM1⟩ (Nat.lt_succ_self _)))))
  ·replace hM1 := ifN hM1 hc13
   have hE := Option.some.inj hM1; subst hE
   try dsimp only [Y0, Z0] at hM0
   have hE := Option.some.inj hM0; subst hE
   exact ⟨([.int .i64 u8, .int .i64 u9, .slice au10 u10.length cu10]), rfl, (z0 iu8 iu9 ru10), sX6⟩
theorem x08 (h : Hp) (csp0 : List Value) (p0 : j0) (rp0 : S0.R h csp0 p0) (r : j0 × R3 × Bool) (hM0 : I8 p0 = some r) :
  Tr Tryz.prog 302 #[.agg csp0.toArray] h fun v h' => ∃ (cs0 : List Value) (cs1 : List Value), v = .tuple #[.agg cs0.toArray, .agg cs1.toArray, .bool r.2.2] ∧ S0.R h' cs0 r.1 ∧ Q3.R h' cs1 r.2.1 ∧ Sub h h' := by
 obtain ⟨p0_0, p0_1, ap0_2, np0_2, cp0_2, p0_2, rfl, rfl, ip0_0, ip0_1, rp0_2⟩ := B0 rp0
 obtain ⟨rfl, lp0_2⟩ := Sl.len rp0_2
 unfold I8 at hM0
 dsimp only at hM0
 refine j3 (args := [.agg #[.int .i64 p0_0, .int .i64 p0_1, .slice ap0_2 p0_2.length cp0_2]]) (fn := Tryz.f302) rfl ?_
 obtain ⟨x1, gx1, hM0⟩ := l0 hM0
 refine Tr.mono (M07 _ [.int .i64 p0_0, .int .i64 p0_1, .slice ap0_2 p0_2.length cp0_2] (p0_0, p0_1, p0_2) (z0 ip0_0 ip0_1 rp0_2) _  gx1) ?_
 rintro v3 k2 ⟨csx1_0, rfl, rx1_0, sx1⟩
 obtain ⟨x1_0, x1_1⟩ := x1
 dsimp only at hM0 rx1_0
 obtain ⟨x1_0_0, x1_0_1, rfl, rfl, ix1_0_0, ix1_0_1⟩ := A00 rx1_0
 try dsimp only at hM0
 refine And.intro (fun hc4 => ?_) (fun hc4 => ?_)
 ·replace hM0 := ifP hM0 hc4
  obtain ⟨x5, gx5, hM0⟩ := l0 hM0
  refine Tr.mono (B7 _ [.int .i64 p0_0, .int .i64 p0_1, .slice ap0_2 p0_2.length cp0_2] (p0_0, p0_1, p0_2) (z0 ip0_0 ip0_1 (J0.mono sx1 rp0_2)) _  gx5) ?_
  rintro v7 k6 ⟨csx5, rfl, rx5, sx5⟩
  obtain ⟨x5_0, x5_1, ax5_2, nx5_2, cx5_2, x5_2, rfl, rfl, ix5_0, ix5_1, rx5_2⟩ := B0 rx5
  obtain ⟨rfl, lx5_2⟩ := Sl.len rx5_2
  try dsimp only at hM0
  have hE := Option.some.inj hM0; subst hE
  exact ⟨([.int .i64 x5_0, .int .i64 x5_1, .slice ax5_2 x5_2.length cx5_2]), ([.int .i64 0, .int .i64 0]), rfl, (z0 ix5_0 ix5_1 rx5_2), (O1 (c64 (by decide) (by decide)) (c64 (by decide) (by decide))), (sx1.trans sx5)⟩
 ·replace hM0 := ifN hM0 hc4
  obtain ⟨x8, gx8, hM0⟩ := l0 hM0
  refine Tr.mono (z04 _ [.int .i64 p0_0, .int .i64 p0_1, .slice ap0_2 p0_2.length cp0_2] (p0_0, p0_1, p0_2) (z0 ip0_0 ip0_1 (J0.mono sx1 rp0_2)) [.int .i64 x1_0_0, .int .i64 x1_0_1] (x1_0_0, x1_0_1) (O1 ix1_0_0 ix1_0_1) _  gx8) ?_
  rintro v10 k9 ⟨csx8_0, rfl, rx8_0, sx8⟩
  obtain ⟨x8_0, x8_1⟩ := x8
  dsimp only at hM0 rx8_0
  obtain ⟨x8_0_0, x8_0_1, ax8_0_2, nx8_0_2, cx8_0_2, x8_0_2, rfl, rfl, ix8_0_0, ix8_0_1, rx8_0_2⟩ := B0 rx8_0
  obtain ⟨rfl, lx8_0_2⟩ := Sl.len rx8_0_2
  try dsimp only at hM0
  refine Or.inr (Or.inr (Or.inl (And.intro (And.intro (by kernel_rfl) (by kernel_rfl)) ?_)))
  refine Or.inr ?_
  refine Or.inr ?_
  refine Exists.intro 0 (And.intro (And.intro rfl rfl) ?_)
  refine And.intro trivial (And.intro (by first | exact trivial | exact rfl) ?_)
  refine And.intro trivial (And.intro (by first | exact trivial | exact rfl) ?_)
  have hE := Option.some.inj hM0; subst hE
  exact ⟨([.int .i64 x8_0_0, .int .i64 x8_0_1, .slice ax8_0_2 x8_0_2.length cx8_0_2]), ([.int .i64 x1_0_0, .int .i64 x1_0_1]), rfl, (z0 ix8_0_0 ix8_0_1 rx8_0_2), (O1 ix1_0_0 ix1_0_1), (sx1.trans sx8)⟩
theorem z0a (h : Hp) (csp0 : List Value) (p0 : j0) (rp0 : S0.R h csp0 p0) (r : j0 × R6) (hM0 : D9 p0 = some r) :
  Tr Tryz.prog 255 #[.agg csp0.toArray] h fun v h' => ∃ (cs0 : List Value) (a1 : Option Addr) (n1 c1 : Nat), v = .tuple #[.agg cs0.toArray, .slice a1 n1 c1] ∧ S0.R h' cs0 r.1 ∧ w0c.R h' [.slice a1 n1 c1] r.2 ∧ Sub h h' := by
 obtain ⟨p0_0, p0_1, ap0_2, np0_2, cp0_2, p0_2, rfl, rfl, ip0_0, ip0_1, rp0_2⟩ := B0 rp0
 obtain ⟨rfl, lp0_2⟩ := Sl.len rp0_2
 unfold D9 at hM0
 dsimp only at hM0
 refine j3 (args := [.agg #[.int .i64 p0_0, .int .i64 p0_1, .slice ap0_2 p0_2.length cp0_2]]) (fn := Tryz.f255) rfl ?_
 obtain ⟨x1, gx1, hM0⟩ := l0 hM0
 refine Tr.mono (B7 _ [.int .i64 p0_0, .int .i64 p0_1, .slice ap0_2 p0_2.length cp0_2] (p0_0, p0_1, p0_2) (z0 ip0_0 ip0_1 rp0_2) _  gx1) ?_
 rintro v3 k2 ⟨csx1, rfl, rx1, sx1⟩
 obtain ⟨x1_0, x1_1, ax1_2, nx1_2, cx1_2, x1_2, rfl, rfl, ix1_0, ix1_1, rx1_2⟩ := B0 rx1
 obtain ⟨rfl, lx1_2⟩ := Sl.len rx1_2
 try dsimp only at hM0
 obtain ⟨X4, hLX4, hM0⟩ := l0 hM0
 refine Exists.intro { vars := [6], boxes := [2], owns := [0], fuel := true } (Exists.intro (fun vs os h' => ∃ (u5 : Int) (u6 : Int) (u7 : Int) (au8 : Option Addr) (nu8 cu8 : Nat) (u8 : I0) (wu9 : List (List Value)) (u9 : List R3), vs.tail = [.int .i64 u5, .int .i64 u6, .int .i64 u7, .slice au8 nu8 cu8] ∧ os = [wu9] ∧ Sub k2 h' ∧ N0 u5 ∧ N0 u6 ∧ N0 u7 ∧ J0.R h' [.slice au8 nu8 cu8] u8 ∧ F2 (Q3.R h') wu9 u9 ∧ U4 (Y1 vs) u5 u6 u7 u8 u9 = some X4) (Exists.intro (fun _ _ => 0) ?_))
 refine And.intro (Exists.intro U0 ⟨0, x1_0, x1_1, ax1_2, x1_2.length, cx1_2, x1_2, [], ([] : R6), rfl, rfl, (Sub.refl _), (c64 (by decide) (by decide)), ix1_0, ix1_1, rx1_2, (show F2 (Q3.R k2) ([] : List (List Value)) ([] : R6) from trivial), hLX4⟩) ?_
 rintro v_0 v_1 v_2 v_3 wu9 m11 k10 ⟨u5, u6, u7, au8, nu8, cu8, u8, zzu9, u9, evX4, eoX4, sX4, iu5, iu6, iu7, ru8, fu9, hM1⟩
 cases evX4
 cases eoX4
 replace hM1 : U4 m11 u5 u6 u7 u8 u9 = some X4 := hM1
 obtain _ | m11 := m11
 ·cases (show (none : Option _) = some X4 from hM1)
 rw [U4.eq_2] at hM1
 obtain ⟨rfl, lu8⟩ := Sl.len ru8
 refine And.intro (fun hc12 => ?_) (fun hc12 => ?_)
 ·replace hM1 := ifP hM1 hc12
  obtain ⟨x13, gx13, hM1⟩ := l0 hM1
  refine Tr.mono (x08 _ [.int .i64 u6, .int .i64 u7, .slice au8 u8.length cu8] (u6, u7, u8) (z0 iu6 iu7 ru8) _  gx13) ?_
  rintro v15 k14 ⟨csx13_0, csx13_1, rfl, rx13_0, rx13_1, sx13⟩
  obtain ⟨x13_0, x13_1, x13_2⟩ := x13
  dsimp only at hM1 rx13_0 rx13_1
  obtain ⟨x13_0_0, x13_0_1, ax13_0_2, nx13_0_2, cx13_0_2, x13_0_2, rfl, rfl, ix13_0_0, ix13_0_1, rx13_0_2⟩ := B0 rx13_0
  obtain ⟨rfl, lx13_0_2⟩ := Sl.len rx13_0_2
  try dsimp only at hM1
  obtain ⟨x13_1_0, x13_1_1, rfl, rfl, ix13_1_0, ix13_1_1⟩ := A00 rx13_1
  try dsimp only at hM1
  refine And.intro (fun hc16 => ?_) (fun hc16 => ?_)
  ·replace hM1 := ifP hM1 hc16
   intro v17 k18 f19
   obtain ⟨az20, cz20, rfl, rz20, sz20, lz20⟩ := Q0.out (r := Q3.toRp) f19 (F2.up (r := Q3.toRp) sx13 fu9)
   have hE := Option.some.inj hM1; subst hE
   try dsimp only [P6, Q6] at hM0
   have hE := Option.some.inj hM0; subst hE
   exact ⟨([.int .i64 u6, .int .i64 u7, .slice au8 u8.length cu8]), az20, u9.length, cz20, rfl, (z0 iu6 iu7 (J0.mono (sx13.trans sz20) ru8)), rz20, (((sx1.trans sX4).trans sx13).trans sz20)⟩
  ·replace hM1 := ifN hM1 hc16
   obtain ⟨q21, gq21, hM1⟩ := l0 hM1
   refine And.intro (N1 gq21 (by first | rw [F2.length (F2.up (r := Q3.toRp) sx13 fu9), F2.length (show F2 (Q3.R k14) ([[.int .i64 x13_1_0, .int .i64 x13_1_1]] : List (List Value)) [(x13_1_0, x13_1_1)] from ⟨(O1 ix13_1_0 ix13_1_1), trivial⟩)] | exact congrArg (· + 1) (F2.length (F2.up (r := Q3.toRp) sx13 fu9)))) ?_
   refine And.intro rfl (And.intro (by repeat (first | exact trivial | refine And.intro rfl ?_)) (And.intro (by repeat (first | exact trivial | refine And.intro rfl ?_)) (Exists.intro m11 (And.intro ⟨(IntKind.i64.wrap (u5 + 1)), x13_0_0, x13_0_1, ax13_0_2, x13_0_2.length, cx13_0_2, x13_0_2, (wu9 ++ ([[.int .i64 x13_1_0, .int .i64 x13_1_1]] : List (List Value))), (u9 ++ [(x13_1_0, x13_1_1)]), rfl, rfl, (sX4.trans sx13), (M0 _), ix13_0_0, ix13_0_1, rx13_0_2, (F2.append (F2.up (r := Q3.toRp) sx13 fu9) (show F2 (Q3.R k14) ([[.int .i64 x13_1_0, .int .i64 x13_1_1]] : List (List Value)) [(x13_1_0, x13_1_1)] from ⟨(O1 ix13_1_0 ix13_1_1), trivial⟩)), hM1⟩ (Nat.lt_succ_self _)))))
 ·replace hM1 := ifN hM1 hc12
  have hE := Option.some.inj hM1; subst hE
  try dsimp only [Y0, Z0] at hM0
  intro v22 k23 f24
  obtain ⟨az25, cz25, rfl, rz25, sz25, lz25⟩ := Q0.out (r := Q3.toRp) f24 fu9
  have hE := Option.some.inj hM0; subst hE
  exact ⟨([.int .i64 u6, .int .i64 u7, .slice au8 u8.length cu8]), az25, u9.length, cz25, rfl, (z0 iu6 iu7 (J0.mono sz25 ru8)), rz25, ((sx1.trans sX4).trans sz25)⟩
theorem V04 (h : Hp) (csp0 : List Value) (p0 : j0) (rp0 : S0.R h csp0 p0) (r : I0) (hM0 : l6 p0 = some r) :
  Tr Tryz.prog 261 #[.agg csp0.toArray] h fun v h' => ∃ (a0 : Option Addr) (n0 c0 : Nat), v = .slice a0 n0 c0 ∧ J0.R h' [.slice a0 n0 c0] r ∧ Sub h h' := by
 obtain ⟨p0_0, p0_1, ap0_2, np0_2, cp0_2, p0_2, rfl, rfl, ip0_0, ip0_1, rp0_2⟩ := B0 rp0
 obtain ⟨rfl, lp0_2⟩ := Sl.len rp0_2
 unfold l6 at hM0
 dsimp only at hM0
 refine j3 (args := [.agg #[.int .i64 p0_0, .int .i64 p0_1, .slice ap0_2 p0_2.length cp0_2]]) (fn := Tryz.f261) rfl ?_
 obtain ⟨X1, hLX1, hM0⟩ := l0 hM0
 refine Exists.intro { vars := [4], boxes := [], owns := [0], fuel := true } (Exists.intro (fun vs os h' => ∃ (u2 : Int) (wu3 : List (List Value)) (u3 : List C0), vs.tail = [.int .i64 u2] ∧ os = [wu3] ∧ Sub h h' ∧ N0 u2 ∧ F2 (P0.R h') wu3 u3 ∧ T3 p0_1 p0_0 p0_2 (Y1 vs) u2 u3 = some X1) (Exists.intro (fun _ _ => 0) ?_))
 refine And.intro (Exists.intro U0 ⟨0, [], ([] : I0), rfl, rfl, (Sub.refl _), (c64 (by decide) (by decide)), (show F2 (P0.R h) ([] : List (List Value)) ([] : I0) from trivial), hLX1⟩) ?_
 rintro v_0 wu3 m5 k4 ⟨u2, zzu3, u3, evX1, eoX1, sX1, iu2, fu3, hM1⟩
 cases evX1
 cases eoX1
 replace hM1 : T3 p0_1 p0_0 p0_2 m5 u2 u3 = some X1 := hM1
 obtain _ | m5 := m5
 ·cases (show (none : Option _) = some X1 from hM1)
 rw [T3.eq_2] at hM1
 obtain ⟨x6, gx6, hM1⟩ := l0 hM1
 refine Exists.intro (.bool x6) (And.intro (fun q => R8 _ [.int .i64 p0_0, .int .i64 p0_1, .slice ap0_2 p0_2.length cp0_2] (p0_0, p0_1, p0_2) (z0 ip0_0 ip0_1 (J0.mono sX1 rp0_2)) _  (E2 gx6 q)) ?_)
 refine And.intro (fun hc7 => ?_) (fun hc7 => ?_)
 ·replace hM1 := ifP hM1 hc7
  obtain ⟨x8, gx8, hM1⟩ := l0 hM1
  refine Tr.mono (S00 _ p0_0 ip0_0 _  gx8) ?_
  rintro v10 k9 ⟨ax8, nx8, cx8, rfl, rx8, sx8⟩
  obtain ⟨rfl, lx8⟩ := Sl.len rx8
  obtain ⟨X11, hLX11, hM1⟩ := l0 hM1
  refine Exists.intro { vars := [6], boxes := [], owns := [0], fuel := true } (Exists.intro (fun vs os h' => ∃ (u12 : Int) (wu13 : List (List Value)) (u13 : List C0), vs.tail = [.int .i64 u12] ∧ os = [wu13] ∧ Sub k9 h' ∧ N0 u12 ∧ F2 (P0.R h') wu13 u13 ∧ Q2 x8 p0_0 p0_1 p0_2 u2 (Y1 vs) u12 u13 = some X11) (Exists.intro (fun _ _ => 0) ?_))
  refine And.intro (Exists.intro U0 ⟨0, wu3, u3, rfl, rfl, (Sub.refl _), (c64 (by decide) (by decide)), (F2.up (r := P0.toRp) sx8 fu3), hLX11⟩) ?_
  rintro v_0 wu13 m15 k14 ⟨u12, zzu13, u13, evX11, eoX11, sX11, iu12, fu13, hM2⟩
  cases evX11
  cases eoX11
  replace hM2 : Q2 x8 p0_0 p0_1 p0_2 u2 m15 u12 u13 = some X11 := hM2
  obtain _ | m15 := m15
  ·cases (show (none : Option _) = some X11 from hM2)
  rw [Q2.eq_2] at hM2
  refine And.intro (fun hc16 => ?_) (fun hc16 => ?_)
  ·replace hM2 := ifP hM2 hc16
   refine Or.inl (And.intro (And.intro (by kernel_rfl) (by kernel_rfl)) ?_)
   obtain ⟨x17, gx17, hM2⟩ := l0 hM2
   obtain ⟨bx17, csx17, ex17, rx17⟩ := Sl.getI (r := Wp.int.toRp) (D1.mono sX11 rx8) gx17 (by decide)
   refine And.intro bx17 ?_
   obtain ⟨rfl, ix17⟩ := rx17
   refine Exists.intro _ (And.intro ex17 ?_)
   obtain ⟨x18, gx18, hM2⟩ := l0 hM2
   refine Exists.intro (.int .i64 x18) (And.intro (G00 _ [.int .i64 p0_0, .int .i64 p0_1, .slice ap0_2 p0_2.length cp0_2] (p0_0, p0_1, p0_2) (z0 ip0_0 ip0_1 (J0.mono ((sX1.trans sx8).trans sX11) rp0_2)) u2 iu2 x17 ix17 _  gx18) ?_)
   obtain ⟨q19, gq19, hM2⟩ := l0 hM2
   have ix18 : N0 x18 := B3 gq19
   refine And.intro (fun hc20 => ?_) (fun hc20 => ?_)
   ·replace hM2 := ifP hM2 hc20
    obtain ⟨x21, gx21, hM2⟩ := l0 hM2
    obtain ⟨bx21, csx21, ex21, rx21⟩ := Sl.getI (r := Wp.int.toRp) (D1.mono sX11 rx8) gx21 (by decide)
    refine And.intro bx21 ?_
    obtain ⟨rfl, ix21⟩ := rx21
    refine Exists.intro _ (And.intro ex21 ?_)
    obtain ⟨q22, gq22, hM2⟩ := l0 hM2
    refine And.intro (N1 gq22 (by first | rw [F2.length fu13, F2.length (show F2 (P0.R k14) ([[.int .i64 u2, .int .i64 x21, .int .i64 (-1)]] : List (List Value)) [(u2, x21, (-1))] from ⟨(K1 iu2 ix21 (c64 (by decide) (by decide))), trivial⟩)] | exact congrArg (· + 1) (F2.length fu13))) ?_
    refine And.intro rfl (And.intro (by repeat (first | exact trivial | refine And.intro rfl ?_)) (And.intro (by repeat (first | exact trivial | refine And.intro rfl ?_)) (Exists.intro m15 (And.intro ⟨(IntKind.i64.wrap (u12 + 1)), (wu13 ++ ([[.int .i64 u2, .int .i64 x21, .int .i64 (-1)]] : List (List Value))), (u13 ++ [(u2, x21, (-1))]), rfl, rfl, sX11, (M0 _), (F2.append fu13 (show F2 (P0.R k14) ([[.int .i64 u2, .int .i64 x21, .int .i64 (-1)]] : List (List Value)) [(u2, x21, (-1))] from ⟨(K1 iu2 ix21 (c64 (by decide) (by decide))), trivial⟩)), hM2⟩ (Nat.lt_succ_self _)))))
   ·replace hM2 := ifN hM2 hc20
    refine And.intro rfl (And.intro (by repeat (first | exact trivial | refine And.intro rfl ?_)) (And.intro (by repeat (first | exact trivial | refine And.intro rfl ?_)) (Exists.intro m15 (And.intro ⟨(IntKind.i64.wrap (u12 + 1)), wu13, u13, rfl, rfl, sX11, (M0 _), fu13, hM2⟩ (Nat.lt_succ_self _)))))
  ·replace hM2 := ifN hM2 hc16
   have hE := Option.some.inj hM2; subst hE
   try dsimp only [Y0, Z0] at hM1
   refine And.intro rfl (And.intro (by repeat (first | exact trivial | refine And.intro rfl ?_)) (And.intro (by repeat (first | exact trivial | refine And.intro rfl ?_)) (Exists.intro m5 (And.intro ⟨(IntKind.i64.wrap (u2 + 1)), wu13, u13, rfl, rfl, ((sX1.trans sx8).trans sX11), (M0 _), fu13, hM1⟩ (Nat.lt_succ_self _)))))
 ·replace hM1 := ifN hM1 hc7
  have hE := Option.some.inj hM1; subst hE
  try dsimp only [Y0, Z0] at hM0
  intro v27 k28 f29
  obtain ⟨az30, cz30, rfl, rz30, sz30, lz30⟩ := Q0.out (r := P0.toRp) f29 fu3
  have hE := Option.some.inj hM0; subst hE
  exact ⟨az30, u3.length, cz30, rfl, rz30, (sX1.trans sz30)⟩
end Go.Proofs.YtknoadmdnjaocaaGreat
