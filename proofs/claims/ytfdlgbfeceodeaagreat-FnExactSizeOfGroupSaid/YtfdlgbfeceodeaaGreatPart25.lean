/- Texts of the claim, joined: The walks of batch 1; The walks of batch 4g; The walks of batch 9; The walks of batch 9f; The walks of batch g1. -/
import Derived.Test.YtfdlgbfeceodeaaGreatPart18
import Derived.Test.YtfdlgbfeceodeaaGreatChecked
import Derived.Test.YtfdlgbfeceodeaaGreatH35
import Derived.Test.YtfdlgbfeceodeaaGreatSI
import Derived.Test.YtfdlgbfeceodeaaGreatPart21
namespace Go.Proofs.YtfdlgbfeceodeaaGreat
open Go.H
set_option linter.unusedVariables false
set_option linter.unusedSimpArgs false
set_option maxRecDepth 10000
theorem K5 (h : Hp) (p0 : Int) (ip0 : F0 p0) (p1 : Int) (ip1 : F0 p1) (p2 : Int) (ip2 : F0 p2) (r : Bool) (hM0 : i4 p0 p1 p2 = some r) :
  Tr Tryz.prog 105 #[.int .i64 p0, .int .i64 p1, .int .i64 p2] h fun v h' => v = .bool r ∧ h' = h := by
 unfold i4 at hM0
 refine Tr.forget (U2 (args := [.int .i64 p0, .int .i64 p1, .int .i64 p2]) (fn := Tryz.f105) rfl ?_)
 have hE := Option.some.inj hM0; subst hE
 exact And.intro rfl (Sub.refl _)
theorem X05 (h : Hp) (p0 : Int) (ip0 : F0 p0) (ap1 : Option Addr) (np1 cp1 : Nat) (p1 : O0) (rp1 : I1.R h [.slice ap1 np1 cp1] p1) (r : Bool) (hM0 : B9 p0 p1 = some r) :
  Tr Tryz.prog 124 #[.int .i64 p0, .slice ap1 np1 cp1] h fun v h' => v = .bool r ∧ h' = h := by
 obtain ⟨rfl, lp1⟩ := Sl.len rp1
 unfold B9 at hM0
 refine Tr.forget (U2 (args := [.int .i64 p0, .slice ap1 p1.length cp1]) (fn := Tryz.f124) rfl ?_)
 obtain ⟨X1, hLX1, hM0⟩ := j0 hM0
 refine Exists.intro { vars := [5], boxes := [], owns := [], fuel := true } (Exists.intro (fun vs os h' => ∃ (u2 : Int), vs.tail = [.int .i64 u2] ∧ os = [] ∧ Sub h h' ∧ F0 u2 ∧ N6 p1 p0 (M1 vs) u2 = some X1) (Exists.intro (fun _ _ => 0) ?_))
 refine And.intro (Exists.intro S0 ⟨0, rfl, rfl, (Sub.refl _), (c64 (by decide) (by decide)), hLX1⟩) ?_
 rintro v_0 m4 k3 ⟨u2, evX1, eoX1, sX1, iu2, hM1⟩
 cases evX1
 cases eoX1
 replace hM1 : N6 p1 p0 m4 u2 = some X1 := hM1
 obtain _ | m4 := m4
 ·cases (show (none : Option _) = some X1 from hM1)
 rw [N6.eq_2] at hM1
 refine And.intro (fun hc5 => ?_) (fun hc5 => ?_)
 ·replace hM1 := ifP hM1 hc5
  refine Or.inl (And.intro (And.intro (by kernel_rfl) (by kernel_rfl)) ?_)
  obtain ⟨x6, gx6, hM1⟩ := j0 hM1
  obtain ⟨bx6, csx6, ex6, rx6⟩ := Sl.getI (r := Wp.int.toRp) (I1.mono sX1 rp1) gx6 (by decide)
  refine And.intro bx6 ?_
  obtain ⟨rfl, ix6⟩ := rx6
  refine Exists.intro _ (And.intro ex6 ?_)
  obtain ⟨x7, gx7, hM1⟩ := j0 hM1
  obtain ⟨csx7, ex7, rx7⟩ := Sl.getG (r := Wp.int.toRp) (I1.mono sX1 rp1) gx7 (by decide) (h04 k3)
  refine And.intro (fun q => (ex7 q).1) ?_
  obtain ⟨rfl, ix7⟩ := rx7
  refine Exists.intro _ (And.intro (fun q => (ex7 q).2) ?_)
  obtain ⟨x8, gx8, hM1⟩ := j0 hM1
  refine Exists.intro (.bool x8) (And.intro (fun q => K5 _ x7 ix7 (IntKind.i64.wrap (0 - p0)) (H0 _) p0 ip0 _  (I2 gx8 q)) ?_)
  obtain ⟨x9, gx9, hM1⟩ := j0 hM1
  obtain ⟨csx9, ex9, rx9⟩ := Sl.getG (r := Wp.int.toRp) (I1.mono sX1 rp1) gx9 (by decide) (h04 k3)
  refine And.intro (fun q => (ex9 q).1) ?_
  obtain ⟨rfl, ix9⟩ := rx9
  refine Exists.intro _ (And.intro (fun q => (ex9 q).2) ?_)
  obtain ⟨x10, gx10, hM1⟩ := j0 hM1
  obtain ⟨csx10, ex10, rx10⟩ := Sl.getG (r := Wp.int.toRp) (I1.mono sX1 rp1) gx10 (by decide) (h04 k3)
  refine And.intro (fun q => (ex10 q).1) ?_
  obtain ⟨rfl, ix10⟩ := rx10
  refine Exists.intro _ (And.intro (fun q => (ex10 q).2) ?_)
  refine And.intro (fun hc11 => ?_) (fun hc11 => ?_)
  ·replace hM1 := ifP hM1 hc11
   have hE := Option.some.inj hM1; subst hE
   try dsimp only [n3, B3] at hM0
   have hE := Option.some.inj hM0; subst hE
   exact And.intro rfl sX1
  ·replace hM1 := ifN hM1 hc11
   refine And.intro rfl (And.intro (by repeat (first | exact trivial | refine And.intro rfl ?_)) (And.intro (by repeat (first | exact trivial | refine And.intro rfl ?_)) (Exists.intro m4 (And.intro ⟨(IntKind.i64.wrap (u2 + 1)), rfl, rfl, sX1, (H0 _), hM1⟩ (Nat.lt_succ_self _)))))
 ·replace hM1 := ifN hM1 hc5
  have hE := Option.some.inj hM1; subst hE
  try dsimp only [T0, U0] at hM0
  obtain ⟨x12, gx12, hM0⟩ := j0 hM0
  refine Tr.val (K5 _ p0 ip0 1 (c64 (by decide) (by decide)) 3 (c64 (by decide) (by decide)) _  gx12) ?_
  have hE := Option.some.inj hM0; subst hE
  exact And.intro rfl sX1
theorem v06 (h : Hp) (ap0 : Option Addr) (np0 cp0 : Nat) (p0 : j3) (rp0 : P4.R h [.slice ap0 np0 cp0] p0) (r : Int) (hM0 : Y6 p0 = some r) :
  Tr Tryz.prog 198 #[.slice ap0 np0 cp0] h fun v h' => v = .int .i64 r ∧ h' = h := by
 obtain ⟨rfl, lp0⟩ := Sl.len rp0
 unfold Y6 at hM0
 refine Tr.forget (U2 (args := [.slice ap0 p0.length cp0]) (fn := Tryz.f198) rfl ?_)
 obtain ⟨X1, hLX1, hM0⟩ := j0 hM0
 refine Exists.intro { vars := [3, 4], boxes := [], owns := [], fuel := true } (Exists.intro (fun vs os h' => ∃ (u2 : Int) (u3 : Int), vs.tail = [.int .i64 u2, .int .i64 u3] ∧ os = [] ∧ Sub h h' ∧ F0 u2 ∧ F0 u3 ∧ C3 p0 (M1 vs) u2 u3 = some X1) (Exists.intro (fun _ _ => 0) ?_))
 refine And.intro (Exists.intro S0 ⟨0, 0, rfl, rfl, (Sub.refl _), (c64 (by decide) (by decide)), (c64 (by decide) (by decide)), hLX1⟩) ?_
 rintro v_0 v_1 m5 k4 ⟨u2, u3, evX1, eoX1, sX1, iu2, iu3, hM1⟩
 cases evX1
 cases eoX1
 replace hM1 : C3 p0 m5 u2 u3 = some X1 := hM1
 obtain _ | m5 := m5
 ·cases (show (none : Option _) = some X1 from hM1)
 rw [C3.eq_2] at hM1
 refine And.intro (fun hc6 => ?_) (fun hc6 => ?_)
 ·replace hM1 := ifP hM1 hc6
  obtain ⟨x7, gx7, hM1⟩ := j0 hM1
  obtain ⟨bx7, csx7, ex7, rx7⟩ := Sl.getI (r := I1.toRp) (P4.mono sX1 rp0) gx7 (by decide)
  refine And.intro bx7 ?_
  obtain ⟨ax7, nx7, cx7, rfl⟩ := Wp.slice_cell rx7
  obtain ⟨rfl, lx7⟩ := Sl.len rx7
  refine Exists.intro _ (And.intro ex7 ?_)
  refine And.intro rfl (And.intro (by repeat (first | exact trivial | refine And.intro rfl ?_)) (And.intro (by repeat (first | exact trivial | refine And.intro rfl ?_)) (Exists.intro m5 (And.intro ⟨(IntKind.i64.wrap (u2 + ((x7.length : Nat) : Int))), (IntKind.i64.wrap (u3 + 1)), rfl, rfl, sX1, (H0 _), (H0 _), hM1⟩ (Nat.lt_succ_self _)))))
 ·replace hM1 := ifN hM1 hc6
  have hE := Option.some.inj hM1; subst hE
  try dsimp only [T0, U0] at hM0
  have hE := Option.some.inj hM0; subst hE
  exact And.intro rfl sX1
theorem l04 (h : Hp) (p0 : Int) (ip0 : F0 p0) (ap1 : Option Addr) (np1 cp1 : Nat) (p1 : j3) (rp1 : P4.R h [.slice ap1 np1 cp1] p1) (r : Bool) (hM0 : t8 p0 p1 = some r) :
  Tr Tryz.prog 141 #[.int .i64 p0, .slice ap1 np1 cp1] h fun v h' => v = .bool r ∧ h' = h := by
 obtain ⟨rfl, lp1⟩ := Sl.len rp1
 unfold t8 at hM0
 refine Tr.forget (U2 (args := [.int .i64 p0, .slice ap1 p1.length cp1]) (fn := Tryz.f141) rfl ?_)
 obtain ⟨X1, hLX1, hM0⟩ := j0 hM0
 refine Exists.intro { vars := [5], boxes := [], owns := [], fuel := true } (Exists.intro (fun vs os h' => ∃ (u2 : Int), vs.tail = [.int .i64 u2] ∧ os = [] ∧ Sub h h' ∧ F0 u2 ∧ D5 p1 p0 (M1 vs) u2 = some X1) (Exists.intro (fun _ _ => 0) ?_))
 refine And.intro (Exists.intro S0 ⟨0, rfl, rfl, (Sub.refl _), (c64 (by decide) (by decide)), hLX1⟩) ?_
 rintro v_0 m4 k3 ⟨u2, evX1, eoX1, sX1, iu2, hM1⟩
 cases evX1
 cases eoX1
 replace hM1 : D5 p1 p0 m4 u2 = some X1 := hM1
 obtain _ | m4 := m4
 ·cases (show (none : Option _) = some X1 from hM1)
 rw [D5.eq_2] at hM1
 refine And.intro (fun hc5 => ?_) (fun hc5 => ?_)
 ·replace hM1 := ifP hM1 hc5
  obtain ⟨x6, gx6, hM1⟩ := j0 hM1
  obtain ⟨bx6, csx6, ex6, rx6⟩ := Sl.getI (r := I1.toRp) (P4.mono sX1 rp1) gx6 (by decide)
  refine And.intro bx6 ?_
  obtain ⟨ax6, nx6, cx6, rfl⟩ := Wp.slice_cell rx6
  obtain ⟨rfl, lx6⟩ := Sl.len rx6
  refine Exists.intro _ (And.intro ex6 ?_)
  obtain ⟨x7, gx7, hM1⟩ := j0 hM1
  refine Tr.val (X05 _ p0 ip0 ax6 x6.length cx6 x6 rx6 _  gx7) ?_
  refine And.intro (fun hc8 => ?_) (fun hc8 => ?_)
  ·replace hM1 := ifP hM1 hc8
   have hE := Option.some.inj hM1; subst hE
   try dsimp only [n3, B3] at hM0
   have hE := Option.some.inj hM0; subst hE
   exact And.intro rfl sX1
  ·replace hM1 := ifN hM1 hc8
   refine And.intro rfl (And.intro (by repeat (first | exact trivial | refine And.intro rfl ?_)) (And.intro (by repeat (first | exact trivial | refine And.intro rfl ?_)) (Exists.intro m4 (And.intro ⟨(IntKind.i64.wrap (u2 + 1)), rfl, rfl, sX1, (H0 _), hM1⟩ (Nat.lt_succ_self _)))))
 ·replace hM1 := ifN hM1 hc5
  have hE := Option.some.inj hM1; subst hE
  try dsimp only [T0, U0] at hM0
  obtain ⟨x9, gx9, hM0⟩ := j0 hM0
  refine Tr.val (K5 _ p0 ip0 1 (c64 (by decide) (by decide)) 3 (c64 (by decide) (by decide)) _  gx9) ?_
  obtain ⟨x10, gx10, hM0⟩ := j0 hM0
  refine Exists.intro (.int .i64 x10) (And.intro (fun q => v06 _ ap1 p1.length cp1 p1 (P4.mono sX1 rp1) _  (I2 gx10 q)) ?_)
  obtain ⟨q11, gq11, hM0⟩ := j0 hM0
  have ix10 : F0 x10 := G2 gq11
  have hE := Option.some.inj hM0; subst hE
  exact And.intro rfl sX1
theorem J9 (h : Hp) (csp0 : List Value) (p0 : C0) (rp0 : D1.R h csp0 p0) (r : Bool) (hM0 : T4 p0 = some r) :
  Tr Tryz.prog 87 #[.agg csp0.toArray] h fun v h' => v = .bool r ∧ h' = h := by
 obtain ⟨p0_0, ap0_1, np0_1, cp0_1, p0_1, rfl, rfl, ip0_0, rp0_1⟩ := J1 rp0
 obtain ⟨rfl, lp0_1⟩ := Sl.len rp0_1
 unfold T4 at hM0
 dsimp only at hM0
 refine Tr.forget (U2 (args := [.agg #[.int .i64 p0_0, .slice ap0_1 p0_1.length cp0_1]]) (fn := Tryz.f87) rfl ?_)
 obtain ⟨X1, hLX1, hM0⟩ := j0 hM0
 refine Exists.intro { vars := [3], boxes := [], owns := [], fuel := true } (Exists.intro (fun vs os h' => ∃ (u2 : Int), vs.tail = [.int .i64 u2] ∧ os = [] ∧ Sub h h' ∧ F0 u2 ∧ M3 p0_1 (M1 vs) u2 = some X1) (Exists.intro (fun _ _ => 0) ?_))
 refine And.intro (Exists.intro S0 ⟨0, rfl, rfl, (Sub.refl _), (c64 (by decide) (by decide)), hLX1⟩) ?_
 rintro v_0 m4 k3 ⟨u2, evX1, eoX1, sX1, iu2, hM1⟩
 cases evX1
 cases eoX1
 replace hM1 : M3 p0_1 m4 u2 = some X1 := hM1
 obtain _ | m4 := m4
 ·cases (show (none : Option _) = some X1 from hM1)
 rw [M3.eq_2] at hM1
 refine And.intro (fun hc5 => ?_) (fun hc5 => ?_)
 ·replace hM1 := ifP hM1 hc5
  obtain ⟨x6, gx6, hM1⟩ := j0 hM1
  obtain ⟨bx6, csx6, ex6, rx6⟩ := Sl.getI (r := I1.toRp) (P4.mono sX1 rp0_1) gx6 (by decide)
  refine And.intro bx6 ?_
  obtain ⟨ax6, nx6, cx6, rfl⟩ := Wp.slice_cell rx6
  obtain ⟨rfl, lx6⟩ := Sl.len rx6
  refine Exists.intro _ (And.intro ex6 ?_)
  refine Or.inl (And.intro (And.intro (by kernel_rfl) (by kernel_rfl)) ?_)
  obtain ⟨x7, gx7, hM1⟩ := j0 hM1
  obtain ⟨csx7, ex7, rx7⟩ := Sl.getG (r := Wp.int.toRp) rx6 gx7 (by decide) (h04 k3)
  refine And.intro (fun q => (ex7 q).1) ?_
  obtain ⟨rfl, ix7⟩ := rx7
  refine Exists.intro _ (And.intro (fun q => (ex7 q).2) ?_)
  obtain ⟨x8, gx8, hM1⟩ := j0 hM1
  obtain ⟨csx8, ex8, rx8⟩ := Sl.getG (r := Wp.int.toRp) rx6 gx8 (by decide) (h04 k3)
  refine And.intro (fun q => (ex8 q).1) ?_
  obtain ⟨rfl, ix8⟩ := rx8
  refine Exists.intro _ (And.intro (fun q => (ex8 q).2) ?_)
  refine And.intro (fun hc9 => ?_) (fun hc9 => ?_)
  ·replace hM1 := ifP hM1 hc9
   have hE := Option.some.inj hM1; subst hE
   try dsimp only [n3, B3] at hM0
   have hE := Option.some.inj hM0; subst hE
   exact And.intro rfl sX1
  ·replace hM1 := ifN hM1 hc9
   refine And.intro rfl (And.intro (by repeat (first | exact trivial | refine And.intro rfl ?_)) (And.intro (by repeat (first | exact trivial | refine And.intro rfl ?_)) (Exists.intro m4 (And.intro ⟨(IntKind.i64.wrap (u2 + 1)), rfl, rfl, sX1, (H0 _), hM1⟩ (Nat.lt_succ_self _)))))
 ·replace hM1 := ifN hM1 hc5
  have hE := Option.some.inj hM1; subst hE
  try dsimp only [T0, U0] at hM0
  obtain ⟨x10, gx10, hM0⟩ := j0 hM0
  refine Tr.val (l04 _ p0_0 ip0_0 ap0_1 p0_1.length cp0_1 p0_1 (P4.mono sX1 rp0_1) _  gx10) ?_
  have hE := Option.some.inj hM0; subst hE
  exact And.intro rfl sX1
theorem O7 (h : Hp) (p0 : Int) (ip0 : F0 p0) (p1 : Int) (ip1 : F0 p1) (p2 : Int) (ip2 : F0 p2) (r : Bool) (hM0 : P5 p0 p1 p2 = some r) :
  Tr Tryz.prog 110 #[.int .i64 p0, .int .i64 p1, .int .i64 p2] h fun v h' => v = .bool r ∧ h' = h := by
 unfold P5 at hM0
 refine Tr.forget (U2 (args := [.int .i64 p0, .int .i64 p1, .int .i64 p2]) (fn := Tryz.f110) rfl ?_)
 have hE := Option.some.inj hM0; subst hE
 exact And.intro rfl (Sub.refl _)
theorem q09 (h : Hp) (p0 : Int) (ip0 : F0 p0) (p1 : Int) (ip1 : F0 p1) (r : Bool) (hM0 : c9 p0 p1 = some r) :
  Tr Tryz.prog 185 #[.int .i64 p0, .int .i64 p1] h fun v h' => v = .bool r ∧ h' = h := by
 unfold c9 at hM0
 refine Tr.forget (U2 (args := [.int .i64 p0, .int .i64 p1]) (fn := Tryz.f185) rfl ?_)
 obtain ⟨x1, gx1, hM0⟩ := j0 hM0
 refine Exists.intro (.bool x1) (And.intro (fun q => O7 _ p1 ip1 (IntKind.i64.wrap (0 - p0)) (H0 _) p0 ip0 _  (I2 gx1 q)) ?_)
 have hE := Option.some.inj hM0; subst hE
 exact And.intro rfl (Sub.refl _)
theorem M02 (h : Hp) (p0 : Int) (ip0 : F0 p0) (p1 : Int) (ip1 : F0 p1) (r : Bool) (hM0 : E7 p0 p1 = some r) :
  Tr Tryz.prog 150 #[.int .i64 p0, .int .i64 p1] h fun v h' => v = .bool r ∧ h' = h := by
 unfold E7 at hM0
 refine Tr.forget (U2 (args := [.int .i64 p0, .int .i64 p1]) (fn := Tryz.f150) rfl ?_)
 have hE := Option.some.inj hM0; subst hE
 exact And.intro rfl (Sub.refl _)
theorem Y05 (h : Hp) (p0 : Int) (ip0 : F0 p0) (ap1 : Option Addr) (np1 cp1 : Nat) (p1 : O0) (rp1 : I1.R h [.slice ap1 np1 cp1] p1) (r : Bool) (hM0 : C9 p0 p1 = some r) :
  Tr Tryz.prog 126 #[.int .i64 p0, .slice ap1 np1 cp1] h fun v h' => v = .bool r ∧ h' = h := by
 obtain ⟨rfl, lp1⟩ := Sl.len rp1
 unfold C9 at hM0
 refine Tr.forget (U2 (args := [.int .i64 p0, .slice ap1 p1.length cp1]) (fn := Tryz.f126) rfl ?_)
 obtain ⟨x1, gx1, hM0⟩ := j0 hM0
 refine Tr.val (O7 _ p0 ip0 1 (c64 (by decide) (by decide)) 3 (c64 (by decide) (by decide)) _  gx1) ?_
 refine And.intro (fun hc2 => ?_) (fun hc2 => ?_)
 ·replace hM0 := ifP hM0 hc2
  have hE := Option.some.inj hM0; subst hE
  exact And.intro rfl (Sub.refl _)
 ·replace hM0 := ifN hM0 hc2
  obtain ⟨X3, hLX3, hM0⟩ := j0 hM0
  refine Exists.intro { vars := [17], boxes := [], owns := [], fuel := true } (Exists.intro (fun vs os h' => ∃ (u4 : Int), vs.tail = [.int .i64 u4] ∧ os = [] ∧ Sub h h' ∧ F0 u4 ∧ O6 p1 p0 (M1 vs) u4 = some X3) (Exists.intro (fun _ _ => 0) ?_))
  refine And.intro (Exists.intro S0 ⟨0, rfl, rfl, (Sub.refl _), (c64 (by decide) (by decide)), hLX3⟩) ?_
  rintro v_0 m6 k5 ⟨u4, evX3, eoX3, sX3, iu4, hM1⟩
  cases evX3
  cases eoX3
  replace hM1 : O6 p1 p0 m6 u4 = some X3 := hM1
  obtain _ | m6 := m6
  ·cases (show (none : Option _) = some X3 from hM1)
  rw [O6.eq_2] at hM1
  refine And.intro (fun hc7 => ?_) (fun hc7 => ?_)
  ·replace hM1 := ifP hM1 hc7
   obtain ⟨x8, gx8, hM1⟩ := j0 hM1
   obtain ⟨bx8, csx8, ex8, rx8⟩ := Sl.getI (r := Wp.int.toRp) (I1.mono sX3 rp1) gx8 (by decide)
   refine And.intro bx8 ?_
   obtain ⟨rfl, ix8⟩ := rx8
   refine Exists.intro _ (And.intro ex8 ?_)
   obtain ⟨x9, gx9, hM1⟩ := j0 hM1
   refine Tr.val (q09 _ p0 ip0 x8 ix8 _  gx9) ?_
   obtain ⟨x10, gx10, hM1⟩ := j0 hM1
   obtain ⟨csx10, ex10, rx10⟩ := Sl.getG (r := Wp.int.toRp) (I1.mono sX3 rp1) gx10 (by decide) (h04 k5)
   refine And.intro (fun q => (ex10 q).1) ?_
   obtain ⟨rfl, ix10⟩ := rx10
   refine Exists.intro _ (And.intro (fun q => (ex10 q).2) ?_)
   obtain ⟨x11, gx11, hM1⟩ := j0 hM1
   refine Exists.intro (.bool x11) (And.intro (fun q => M02 _ x10 ix10 x8 ix8 _  (I2 gx11 q)) ?_)
   refine And.intro (fun hc12 => ?_) (fun hc12 => ?_)
   ·replace hM1 := ifP hM1 hc12
    have hE := Option.some.inj hM1; subst hE
    try dsimp only [n3, B3] at hM0
    have hE := Option.some.inj hM0; subst hE
    exact And.intro rfl sX3
   ·replace hM1 := ifN hM1 hc12
    refine And.intro rfl (And.intro (by repeat (first | exact trivial | refine And.intro rfl ?_)) (And.intro (by repeat (first | exact trivial | refine And.intro rfl ?_)) (Exists.intro m6 (And.intro ⟨(IntKind.i64.wrap (u4 + 1)), rfl, rfl, sX3, (H0 _), hM1⟩ (Nat.lt_succ_self _)))))
  ·replace hM1 := ifN hM1 hc7
   have hE := Option.some.inj hM1; subst hE
   try dsimp only [T0, U0] at hM0
   have hE := Option.some.inj hM0; subst hE
   exact And.intro rfl sX3
theorem w06 (h : Hp) (ap0 : Option Addr) (np0 cp0 : Nat) (p0 : j3) (rp0 : P4.R h [.slice ap0 np0 cp0] p0) (r : Int) (hM0 : Z7 p0 = some r) :
  Tr Tryz.prog 203 #[.slice ap0 np0 cp0] h fun v h' => v = .int .i64 r ∧ h' = h := by
 obtain ⟨rfl, lp0⟩ := Sl.len rp0
 unfold Z7 at hM0
 refine Tr.forget (U2 (args := [.slice ap0 p0.length cp0]) (fn := Tryz.f203) rfl ?_)
 obtain ⟨X1, hLX1, hM0⟩ := j0 hM0
 refine Exists.intro { vars := [3, 8], boxes := [], owns := [], fuel := true } (Exists.intro (fun vs os h' => ∃ (u2 : Int) (u3 : Int), vs.tail = [.int .i64 u2, .int .i64 u3] ∧ os = [] ∧ Sub h h' ∧ F0 u2 ∧ F0 u3 ∧ Y4 p0 (M1 vs) u2 u3 = some X1) (Exists.intro (fun _ _ => 0) ?_))
 refine And.intro (Exists.intro S0 ⟨0, 0, rfl, rfl, (Sub.refl _), (c64 (by decide) (by decide)), (c64 (by decide) (by decide)), hLX1⟩) ?_
 rintro v_0 v_1 m5 k4 ⟨u2, u3, evX1, eoX1, sX1, iu2, iu3, hM1⟩
 cases evX1
 cases eoX1
 replace hM1 : Y4 p0 m5 u2 u3 = some X1 := hM1
 obtain _ | m5 := m5
 ·cases (show (none : Option _) = some X1 from hM1)
 rw [Y4.eq_2] at hM1
 refine And.intro (fun hc6 => ?_) (fun hc6 => ?_)
 ·replace hM1 := ifP hM1 hc6
  obtain ⟨x7, gx7, hM1⟩ := j0 hM1
  obtain ⟨bx7, csx7, ex7, rx7⟩ := Sl.getI (r := I1.toRp) (P4.mono sX1 rp0) gx7 (by decide)
  refine And.intro bx7 ?_
  obtain ⟨ax7, nx7, cx7, rfl⟩ := Wp.slice_cell rx7
  obtain ⟨rfl, lx7⟩ := Sl.len rx7
  refine Exists.intro _ (And.intro ex7 ?_)
  refine And.intro rfl (And.intro (by repeat (first | exact trivial | refine And.intro rfl ?_)) (And.intro (by repeat (first | exact trivial | refine And.intro rfl ?_)) (Exists.intro m5 (And.intro ⟨(IntKind.i64.wrap (u2 + ((x7.length : Nat) : Int))), (IntKind.i64.wrap (u3 + 1)), rfl, rfl, sX1, (H0 _), (H0 _), hM1⟩ (Nat.lt_succ_self _)))))
 ·replace hM1 := ifN hM1 hc6
  have hE := Option.some.inj hM1; subst hE
  try dsimp only [T0, U0] at hM0
  have hE := Option.some.inj hM0; subst hE
  exact And.intro rfl sX1
theorem m04 (h : Hp) (p0 : Int) (ip0 : F0 p0) (ap1 : Option Addr) (np1 cp1 : Nat) (p1 : j3) (rp1 : P4.R h [.slice ap1 np1 cp1] p1) (r : Bool) (hM0 : w8 p0 p1 = some r) :
  Tr Tryz.prog 149 #[.int .i64 p0, .slice ap1 np1 cp1] h fun v h' => v = .bool r ∧ h' = h := by
 obtain ⟨rfl, lp1⟩ := Sl.len rp1
 unfold w8 at hM0
 refine Tr.forget (U2 (args := [.int .i64 p0, .slice ap1 p1.length cp1]) (fn := Tryz.f149) rfl ?_)
 obtain ⟨x1, gx1, hM0⟩ := j0 hM0
 refine Tr.val (O7 _ p0 ip0 1 (c64 (by decide) (by decide)) 3 (c64 (by decide) (by decide)) _  gx1) ?_
 refine And.intro (fun hc2 => ?_) (fun hc2 => ?_)
 ·replace hM0 := ifP hM0 hc2
  have hE := Option.some.inj hM0; subst hE
  exact And.intro rfl (Sub.refl _)
 ·replace hM0 := ifN hM0 hc2
  obtain ⟨X3, hLX3, hM0⟩ := j0 hM0
  refine Exists.intro { vars := [17], boxes := [], owns := [], fuel := true } (Exists.intro (fun vs os h' => ∃ (u4 : Int), vs.tail = [.int .i64 u4] ∧ os = [] ∧ Sub h h' ∧ F0 u4 ∧ E5 p1 p0 (M1 vs) u4 = some X3) (Exists.intro (fun _ _ => 0) ?_))
  refine And.intro (Exists.intro S0 ⟨0, rfl, rfl, (Sub.refl _), (c64 (by decide) (by decide)), hLX3⟩) ?_
  rintro v_0 m6 k5 ⟨u4, evX3, eoX3, sX3, iu4, hM1⟩
  cases evX3
  cases eoX3
  replace hM1 : E5 p1 p0 m6 u4 = some X3 := hM1
  obtain _ | m6 := m6
  ·cases (show (none : Option _) = some X3 from hM1)
  rw [E5.eq_2] at hM1
  refine And.intro (fun hc7 => ?_) (fun hc7 => ?_)
  ·replace hM1 := ifP hM1 hc7
   obtain ⟨x8, gx8, hM1⟩ := j0 hM1
   obtain ⟨bx8, csx8, ex8, rx8⟩ := Sl.getI (r := I1.toRp) (P4.mono sX3 rp1) gx8 (by decide)
   refine And.intro bx8 ?_
   obtain ⟨ax8, nx8, cx8, rfl⟩ := Wp.slice_cell rx8
   obtain ⟨rfl, lx8⟩ := Sl.len rx8
   refine Exists.intro _ (And.intro ex8 ?_)
   obtain ⟨x9, gx9, hM1⟩ := j0 hM1
   refine Tr.val (Y05 _ p0 ip0 ax8 x8.length cx8 x8 rx8 _  gx9) ?_
   refine And.intro (fun hc10 => ?_) (fun hc10 => ?_)
   ·replace hM1 := ifP hM1 hc10
    have hE := Option.some.inj hM1; subst hE
    try dsimp only [n3, B3] at hM0
    have hE := Option.some.inj hM0; subst hE
    exact And.intro rfl sX3
   ·replace hM1 := ifN hM1 hc10
    refine And.intro rfl (And.intro (by repeat (first | exact trivial | refine And.intro rfl ?_)) (And.intro (by repeat (first | exact trivial | refine And.intro rfl ?_)) (Exists.intro m6 (And.intro ⟨(IntKind.i64.wrap (u4 + 1)), rfl, rfl, sX3, (H0 _), hM1⟩ (Nat.lt_succ_self _)))))
  ·replace hM1 := ifN hM1 hc7
   have hE := Option.some.inj hM1; subst hE
   try dsimp only [T0, U0] at hM0
   obtain ⟨x11, gx11, hM0⟩ := j0 hM0
   refine Tr.val (w06 _ ap1 p1.length cp1 p1 (P4.mono sX3 rp1) _  gx11) ?_
   obtain ⟨q12, gq12, hM0⟩ := j0 hM0
   have ix11 : F0 x11 := G2 gq12
   have hE := Option.some.inj hM0; subst hE
   exact And.intro rfl sX3
theorem K9 (h : Hp) (csp0 : List Value) (p0 : C0) (rp0 : D1.R h csp0 p0) (r : Bool) (hM0 : U4 p0 = some r) :
  Tr Tryz.prog 95 #[.agg csp0.toArray] h fun v h' => v = .bool r ∧ h' = h := by
 obtain ⟨p0_0, ap0_1, np0_1, cp0_1, p0_1, rfl, rfl, ip0_0, rp0_1⟩ := J1 rp0
 obtain ⟨rfl, lp0_1⟩ := Sl.len rp0_1
 unfold U4 at hM0
 dsimp only at hM0
 refine Tr.forget (U2 (args := [.agg #[.int .i64 p0_0, .slice ap0_1 p0_1.length cp0_1]]) (fn := Tryz.f95) rfl ?_)
 obtain ⟨x1, gx1, hM0⟩ := j0 hM0
 refine Tr.val (m04 _ p0_0 ip0_0 ap0_1 p0_1.length cp0_1 p0_1 rp0_1 _  gx1) ?_
 refine And.intro (fun hc2 => ?_) (fun hc2 => ?_)
 ·replace hM0 := ifP hM0 hc2
  have hE := Option.some.inj hM0; subst hE
  exact And.intro rfl (Sub.refl _)
 ·replace hM0 := ifN hM0 hc2
  obtain ⟨X3, hLX3, hM0⟩ := j0 hM0
  refine Exists.intro { vars := [14], boxes := [], owns := [], fuel := true } (Exists.intro (fun vs os h' => ∃ (u4 : Int), vs.tail = [.int .i64 u4] ∧ os = [] ∧ Sub h h' ∧ F0 u4 ∧ N3 p0_1 (M1 vs) u4 = some X3) (Exists.intro (fun _ _ => 0) ?_))
  refine And.intro (Exists.intro S0 ⟨0, rfl, rfl, (Sub.refl _), (c64 (by decide) (by decide)), hLX3⟩) ?_
  rintro v_0 m6 k5 ⟨u4, evX3, eoX3, sX3, iu4, hM1⟩
  cases evX3
  cases eoX3
  replace hM1 : N3 p0_1 m6 u4 = some X3 := hM1
  obtain _ | m6 := m6
  ·cases (show (none : Option _) = some X3 from hM1)
  rw [N3.eq_2] at hM1
  refine And.intro (fun hc7 => ?_) (fun hc7 => ?_)
  ·replace hM1 := ifP hM1 hc7
   obtain ⟨x8, gx8, hM1⟩ := j0 hM1
   obtain ⟨bx8, csx8, ex8, rx8⟩ := Sl.getI (r := I1.toRp) (P4.mono sX3 rp0_1) gx8 (by decide)
   refine And.intro bx8 ?_
   obtain ⟨ax8, nx8, cx8, rfl⟩ := Wp.slice_cell rx8
   obtain ⟨rfl, lx8⟩ := Sl.len rx8
   refine Exists.intro _ (And.intro ex8 ?_)
   refine Or.inl (And.intro (And.intro (by kernel_rfl) (by kernel_rfl)) ?_)
   obtain ⟨x9, gx9, hM1⟩ := j0 hM1
   obtain ⟨csx9, ex9, rx9⟩ := Sl.getG (r := Wp.int.toRp) rx8 gx9 (by decide) (h04 k5)
   refine And.intro (fun q => (ex9 q).1) ?_
   obtain ⟨rfl, ix9⟩ := rx9
   refine Exists.intro _ (And.intro (fun q => (ex9 q).2) ?_)
   obtain ⟨x10, gx10, hM1⟩ := j0 hM1
   obtain ⟨csx10, ex10, rx10⟩ := Sl.getG (r := Wp.int.toRp) rx8 gx10 (by decide) (h04 k5)
   refine And.intro (fun q => (ex10 q).1) ?_
   obtain ⟨rfl, ix10⟩ := rx10
   refine Exists.intro _ (And.intro (fun q => (ex10 q).2) ?_)
   obtain ⟨x11, gx11, hM1⟩ := j0 hM1
   refine Exists.intro (.bool x11) (And.intro (fun q => M02 _ x9 ix9 x10 ix10 _  (I2 gx11 q)) ?_)
   refine And.intro (fun hc12 => ?_) (fun hc12 => ?_)
   ·replace hM1 := ifP hM1 hc12
    have hE := Option.some.inj hM1; subst hE
    try dsimp only [n3, B3] at hM0
    have hE := Option.some.inj hM0; subst hE
    exact And.intro rfl sX3
   ·replace hM1 := ifN hM1 hc12
    refine And.intro rfl (And.intro (by repeat (first | exact trivial | refine And.intro rfl ?_)) (And.intro (by repeat (first | exact trivial | refine And.intro rfl ?_)) (Exists.intro m6 (And.intro ⟨(IntKind.i64.wrap (u4 + 1)), rfl, rfl, sX3, (H0 _), hM1⟩ (Nat.lt_succ_self _)))))
  ·replace hM1 := ifN hM1 hc7
   have hE := Option.some.inj hM1; subst hE
   try dsimp only [T0, U0] at hM0
   have hE := Option.some.inj hM0; subst hE
   exact And.intro rfl sX3
theorem D00 (h : Hp) (p0 : Int) (ip0 : F0 p0) (p1 : Int) (ip1 : F0 p1) (r : Int) (hM0 : U5 p0 p1 = some r) :
  Tr Tryz.prog 223 #[.int .i64 p0, .int .i64 p1] h fun v h' => v = .int .i64 r ∧ h' = h := by
 unfold U5 at hM0
 refine Tr.forget (U2 (args := [.int .i64 p0, .int .i64 p1]) (fn := Tryz.f223) rfl ?_)
 refine And.intro (fun hc1 => ?_) (fun hc1 => ?_)
 ·replace hM0 := ifP hM0 hc1
  have hE := Option.some.inj hM0; subst hE
  exact And.intro rfl (Sub.refl _)
 ·replace hM0 := ifN hM0 hc1
  refine And.intro (fun hc2 => ?_) (fun hc2 => ?_)
  ·replace hM0 := ifP hM0 hc2
   have hE := Option.some.inj hM0; subst hE
   exact And.intro rfl (Sub.refl _)
  ·replace hM0 := ifN hM0 hc2
   have hE := Option.some.inj hM0; subst hE
   exact And.intro rfl (Sub.refl _)
end Go.Proofs.YtfdlgbfeceodeaaGreat
namespace Go.Proofs.YtfdlgbfeceodeaaGreat
open Go.H
set_option linter.unusedVariables false
set_option linter.unusedSimpArgs false
set_option maxRecDepth 10000
theorem Z05 (h : Hp) (csp0 : List Value) (p0 : l0) (rp0 : Y0.R h csp0 p0) (csp1 : List Value) (p1 : D0) (rp1 : Q0.R h csp1 p1) (r : Bool) (hM0 : D9 p0 p1 = some r) :
  Tr Tryz.prog 148 #[.agg csp0.toArray, .agg csp1.toArray] h fun v h' => v = .bool r ∧ h' = h := by
 obtain ⟨p0_0, p0_1, ap0_2, np0_2, cp0_2, p0_2, rfl, rfl, ip0_0, ip0_1, rp0_2⟩ := B0 rp0
 obtain ⟨rfl, lp0_2⟩ := Sl.len rp0_2
 obtain ⟨p1_0, p1_1, p1_2, rfl, rfl, ip1_0, ip1_1, ip1_2⟩ := j1 rp1
 unfold D9 at hM0
 dsimp only at hM0
 refine Tr.forget (U2 (args := [.agg #[.int .i64 p0_0, .int .i64 p0_1, .slice ap0_2 p0_2.length cp0_2], .agg #[.int .i64 p1_0, .int .i64 p1_1, .int .i64 p1_2]]) (fn := Tryz.f148) rfl ?_)
 obtain ⟨x1, gx1, hM0⟩ := j0 hM0
 refine Tr.val (K5 _ p1_0 ip1_0 0 (c64 (by decide) (by decide)) (IntKind.i64.wrap (p0_1 - 1)) (H0 _) _  gx1) ?_
 obtain ⟨x2, gx2, hM0⟩ := j0 hM0
 refine Exists.intro (.bool x2) (And.intro (fun q => K5 _ p1_2 ip1_2 0 (c64 (by decide) (by decide)) (IntKind.i64.wrap (p0_1 - 1)) (H0 _) _  (I2 gx2 q)) ?_)
 obtain ⟨x3, gx3, hM0⟩ := j0 hM0
 refine Exists.intro (.bool x3) (And.intro (fun q => K5 _ p1_1 ip1_1 1 (c64 (by decide) (by decide)) p0_0 ip0_0 _  (I2 gx3 q)) ?_)
 have hE := Option.some.inj hM0; subst hE
 exact And.intro rfl (Sub.refl _)
theorem J01 (h : Hp) (csp0 : List Value) (p0 : D0) (rp0 : Q0.R h csp0 p0) (csp1 : List Value) (p1 : D0) (rp1 : Q0.R h csp1 p1) (r : Int) (hM0 : K6 p0 p1 = some r) :
  Tr Tryz.prog 199 #[.agg csp0.toArray, .agg csp1.toArray] h fun v h' => v = .int .i64 r ∧ h' = h := by
 obtain ⟨p0_0, p0_1, p0_2, rfl, rfl, ip0_0, ip0_1, ip0_2⟩ := j1 rp0
 obtain ⟨p1_0, p1_1, p1_2, rfl, rfl, ip1_0, ip1_1, ip1_2⟩ := j1 rp1
 unfold K6 at hM0
 dsimp only at hM0
 refine Tr.forget (U2 (args := [.agg #[.int .i64 p0_0, .int .i64 p0_1, .int .i64 p0_2], .agg #[.int .i64 p1_0, .int .i64 p1_1, .int .i64 p1_2]]) (fn := Tryz.f199) rfl ?_)
 obtain ⟨X1, hLX1, hM0⟩ := j0 hM0
 refine Exists.intro { vars := [7], boxes := [], owns := [], fuel := true } (Exists.intro (fun vs os h' => ∃ (u2 : Int), vs.tail = [.int .i64 u2] ∧ os = [] ∧ Sub h h' ∧ F0 u2 ∧ L5 p0_0 p0_1 p0_2 p1_0 p1_1 p1_2 (M1 vs) u2 = some X1) (Exists.intro (fun _ _ => 0) ?_))
 refine And.intro (Exists.intro S0 ⟨0, rfl, rfl, (Sub.refl _), (c64 (by decide) (by decide)), hLX1⟩) ?_
 rintro v_0 m4 k3 ⟨u2, evX1, eoX1, sX1, iu2, hM1⟩
 cases evX1
 cases eoX1
 replace hM1 : L5 p0_0 p0_1 p0_2 p1_0 p1_1 p1_2 m4 u2 = some X1 := hM1
 obtain _ | m4 := m4
 ·cases (show (none : Option _) = some X1 from hM1)
 rw [L5.eq_2] at hM1
 refine And.intro (fun hc5 => ?_) (fun hc5 => ?_)
 ·replace hM1 := ifP hM1 hc5
  refine Or.inl (And.intro (And.intro (by kernel_rfl) (by kernel_rfl)) ?_)
  obtain ⟨x6, gx6, hM1⟩ := j0 hM1
  obtain ⟨bx6, csx6, ex6, rx6⟩ := s6 (F2.up (r := Wp.int.toRp) sX1 (show F2 (Wp.int.R h) ([[.int .i64 p0_0], [.int .i64 p0_1], [.int .i64 p0_2]] : List (List Value)) [p0_0, p0_1, p0_2] from ⟨⟨rfl, ip0_0⟩, ⟨⟨rfl, ip0_1⟩, ⟨⟨rfl, ip0_2⟩, trivial⟩⟩⟩)) gx6
  refine And.intro bx6 ?_
  obtain ⟨rfl, ix6⟩ := rx6
  refine Exists.intro _ (And.intro ex6 ?_)
  obtain ⟨x7, gx7, hM1⟩ := j0 hM1
  obtain ⟨bx7, csx7, ex7, rx7⟩ := s6 (F2.up (r := Wp.int.toRp) sX1 (show F2 (Wp.int.R h) ([[.int .i64 p1_0], [.int .i64 p1_1], [.int .i64 p1_2]] : List (List Value)) [p1_0, p1_1, p1_2] from ⟨⟨rfl, ip1_0⟩, ⟨⟨rfl, ip1_1⟩, ⟨⟨rfl, ip1_2⟩, trivial⟩⟩⟩)) gx7
  refine And.intro bx7 ?_
  obtain ⟨rfl, ix7⟩ := rx7
  refine Exists.intro _ (And.intro ex7 ?_)
  refine And.intro (fun hc8 => ?_) (fun hc8 => ?_)
  ·replace hM1 := ifP hM1 hc8
   have hE := Option.some.inj hM1; subst hE
   try dsimp only [n3, B3] at hM0
   have hE := Option.some.inj hM0; subst hE
   exact And.intro rfl sX1
  ·replace hM1 := ifN hM1 hc8
   refine Or.inl (And.intro (And.intro (by kernel_rfl) (by kernel_rfl)) ?_)
   obtain ⟨x9, gx9, hM1⟩ := j0 hM1
   obtain ⟨bx9, csx9, ex9, rx9⟩ := s6 (F2.up (r := Wp.int.toRp) sX1 (show F2 (Wp.int.R h) ([[.int .i64 p0_0], [.int .i64 p0_1], [.int .i64 p0_2]] : List (List Value)) [p0_0, p0_1, p0_2] from ⟨⟨rfl, ip0_0⟩, ⟨⟨rfl, ip0_1⟩, ⟨⟨rfl, ip0_2⟩, trivial⟩⟩⟩)) gx9
   refine And.intro bx9 ?_
   obtain ⟨rfl, ix9⟩ := rx9
   refine Exists.intro _ (And.intro ex9 ?_)
   obtain ⟨x10, gx10, hM1⟩ := j0 hM1
   obtain ⟨bx10, csx10, ex10, rx10⟩ := s6 (F2.up (r := Wp.int.toRp) sX1 (show F2 (Wp.int.R h) ([[.int .i64 p1_0], [.int .i64 p1_1], [.int .i64 p1_2]] : List (List Value)) [p1_0, p1_1, p1_2] from ⟨⟨rfl, ip1_0⟩, ⟨⟨rfl, ip1_1⟩, ⟨⟨rfl, ip1_2⟩, trivial⟩⟩⟩)) gx10
   refine And.intro bx10 ?_
   obtain ⟨rfl, ix10⟩ := rx10
   refine Exists.intro _ (And.intro ex10 ?_)
   refine And.intro (fun hc11 => ?_) (fun hc11 => ?_)
   ·replace hM1 := ifP hM1 hc11
    have hE := Option.some.inj hM1; subst hE
    try dsimp only [n3, B3] at hM0
    have hE := Option.some.inj hM0; subst hE
    exact And.intro rfl sX1
   ·replace hM1 := ifN hM1 hc11
    refine And.intro rfl (And.intro (by repeat (first | exact trivial | refine And.intro rfl ?_)) (And.intro (by repeat (first | exact trivial | refine And.intro rfl ?_)) (Exists.intro m4 (And.intro ⟨(IntKind.i64.wrap (u2 + 1)), rfl, rfl, sX1, (H0 _), hM1⟩ (Nat.lt_succ_self _)))))
 ·replace hM1 := ifN hM1 hc5
  have hE := Option.some.inj hM1; subst hE
  try dsimp only [T0, U0] at hM0
  have hE := Option.some.inj hM0; subst hE
  exact And.intro rfl sX1
theorem l5 (h : Hp) (csp0 : List Value) (p0 : l0) (rp0 : Y0.R h csp0 p0) (r : Bool) (hM0 : G3 p0 = some r) :
  Tr Tryz.prog 142 #[.agg csp0.toArray] h fun v h' => v = .bool r ∧ h' = h := by
 obtain ⟨p0_0, p0_1, ap0_2, np0_2, cp0_2, p0_2, rfl, rfl, ip0_0, ip0_1, rp0_2⟩ := B0 rp0
 obtain ⟨rfl, lp0_2⟩ := Sl.len rp0_2
 unfold G3 at hM0
 dsimp only at hM0
 refine Tr.forget (U2 (args := [.agg #[.int .i64 p0_0, .int .i64 p0_1, .slice ap0_2 p0_2.length cp0_2]]) (fn := Tryz.f142) rfl ?_)
 obtain ⟨X1, hLX1, hM0⟩ := j0 hM0
 refine Exists.intro { vars := [3], boxes := [], owns := [], fuel := true } (Exists.intro (fun vs os h' => ∃ (u2 : Int), vs.tail = [.int .i64 u2] ∧ os = [] ∧ Sub h h' ∧ F0 u2 ∧ Z5 p0_2 p0_0 p0_1 (M1 vs) u2 = some X1) (Exists.intro (fun _ _ => 0) ?_))
 refine And.intro (Exists.intro S0 ⟨0, rfl, rfl, (Sub.refl _), (c64 (by decide) (by decide)), hLX1⟩) ?_
 rintro v_0 m4 k3 ⟨u2, evX1, eoX1, sX1, iu2, hM1⟩
 cases evX1
 cases eoX1
 replace hM1 : Z5 p0_2 p0_0 p0_1 m4 u2 = some X1 := hM1
 obtain _ | m4 := m4
 ·cases (show (none : Option _) = some X1 from hM1)
 rw [Z5.eq_2] at hM1
 refine And.intro (fun hc5 => ?_) (fun hc5 => ?_)
 ·replace hM1 := ifP hM1 hc5
  refine Or.inl (And.intro (And.intro (by kernel_rfl) (by kernel_rfl)) ?_)
  obtain ⟨x6, gx6, hM1⟩ := j0 hM1
  obtain ⟨bx6, csx6, ex6, rx6⟩ := Sl.getI (r := Q0.toRp) (I0.mono sX1 rp0_2) gx6 (by decide)
  refine And.intro bx6 ?_
  obtain ⟨x6_0, x6_1, x6_2, rfl, rfl, ix6_0, ix6_1, ix6_2⟩ := j1 rx6
  try dsimp only at hM1
  refine Exists.intro _ (And.intro ex6 ?_)
  obtain ⟨x7, gx7, hM1⟩ := j0 hM1
  refine Exists.intro (.bool x7) (And.intro (Z05 _ [.int .i64 p0_0, .int .i64 p0_1, .slice ap0_2 p0_2.length cp0_2] (p0_0, p0_1, p0_2) (z0 ip0_0 ip0_1 (I0.mono sX1 rp0_2)) [.int .i64 x6_0, .int .i64 x6_1, .int .i64 x6_2] (x6_0, x6_1, x6_2) (V0 ix6_0 ix6_1 ix6_2) _  gx7) ?_)
  obtain ⟨x8, gx8, hM1⟩ := j0 hM1
  obtain ⟨csx8, ex8, rx8⟩ := Sl.getG (r := Q0.toRp) (I0.mono sX1 rp0_2) gx8 (by decide) (I0f k3)
  refine And.intro (fun q => (ex8 q).1) ?_
  obtain ⟨x8_0, x8_1, x8_2, rfl, rfl, ix8_0, ix8_1, ix8_2⟩ := j1 rx8
  try dsimp only at hM1
  refine Exists.intro _ (And.intro (fun q => (ex8 q).2) ?_)
  obtain ⟨x9, gx9, hM1⟩ := j0 hM1
  obtain ⟨csx9, ex9, rx9⟩ := Sl.getG (r := Q0.toRp) (I0.mono sX1 rp0_2) gx9 (by decide) (I0f k3)
  refine And.intro (fun q => (ex9 q).1) ?_
  obtain ⟨x9_0, x9_1, x9_2, rfl, rfl, ix9_0, ix9_1, ix9_2⟩ := j1 rx9
  try dsimp only at hM1
  refine Exists.intro _ (And.intro (fun q => (ex9 q).2) ?_)
  obtain ⟨x10, gx10, hM1⟩ := j0 hM1
  refine Exists.intro (.int .i64 x10) (And.intro (fun q => J01 _ [.int .i64 x8_0, .int .i64 x8_1, .int .i64 x8_2] (x8_0, x8_1, x8_2) (V0 ix8_0 ix8_1 ix8_2) [.int .i64 x9_0, .int .i64 x9_1, .int .i64 x9_2] (x9_0, x9_1, x9_2) (V0 ix9_0 ix9_1 ix9_2) _  (I2 gx10 q)) ?_)
  obtain ⟨q11, gq11, hM1⟩ := j0 hM1
  have ix10 : F0 x10 := G2 gq11
  refine And.intro (fun hc12 => ?_) (fun hc12 => ?_)
  ·replace hM1 := ifP hM1 hc12
   have hE := Option.some.inj hM1; subst hE
   try dsimp only [n3, B3] at hM0
   have hE := Option.some.inj hM0; subst hE
   exact And.intro rfl sX1
  ·replace hM1 := ifN hM1 hc12
   refine And.intro rfl (And.intro (by repeat (first | exact trivial | refine And.intro rfl ?_)) (And.intro (by repeat (first | exact trivial | refine And.intro rfl ?_)) (Exists.intro m4 (And.intro ⟨(IntKind.i64.wrap (u2 + 1)), rfl, rfl, sX1, (H0 _), hM1⟩ (Nat.lt_succ_self _)))))
 ·replace hM1 := ifN hM1 hc5
  have hE := Option.some.inj hM1; subst hE
  try dsimp only [T0, U0] at hM0
  obtain ⟨x13, gx13, hM0⟩ := j0 hM0
  refine Tr.val (K5 _ p0_0 ip0_0 1 (c64 (by decide) (by decide)) 3 (c64 (by decide) (by decide)) _  gx13) ?_
  obtain ⟨x14, gx14, hM0⟩ := j0 hM0
  refine Exists.intro (.bool x14) (And.intro (fun q => K5 _ p0_1 ip0_1 1 (c64 (by decide) (by decide)) 40 (c64 (by decide) (by decide)) _  (I2 gx14 q)) ?_)
  have hE := Option.some.inj hM0; subst hE
  exact And.intro rfl sX1
theorem n00 (h : Hp) (csp0 : List Value) (p0 : l0) (rp0 : Y0.R h csp0 p0) (p1 : Int) (ip1 : F0 p1) (r : Bool) (hM0 : n5 p0 p1 = some r) :
  Tr Tryz.prog 153 #[.agg csp0.toArray, .int .i64 p1] h fun v h' => v = .bool r ∧ h' = h := by
 obtain ⟨p0_0, p0_1, ap0_2, np0_2, cp0_2, p0_2, rfl, rfl, ip0_0, ip0_1, rp0_2⟩ := B0 rp0
 obtain ⟨rfl, lp0_2⟩ := Sl.len rp0_2
 unfold n5 at hM0
 dsimp only at hM0
 refine Tr.forget (U2 (args := [.agg #[.int .i64 p0_0, .int .i64 p0_1, .slice ap0_2 p0_2.length cp0_2], .int .i64 p1]) (fn := Tryz.f153) rfl ?_)
 obtain ⟨x1, gx1, hM0⟩ := j0 hM0
 refine Tr.val (O7 _ p1 ip1 0 (c64 (by decide) (by decide)) (IntKind.i64.wrap (p0_1 - 1)) (H0 _) _  gx1) ?_
 have hE := Option.some.inj hM0; subst hE
 exact And.intro rfl (Sub.refl _)
theorem D01 (h : Hp) (csp0 : List Value) (p0 : l0) (rp0 : Y0.R h csp0 p0) (csp1 : List Value) (p1 : D0) (rp1 : Q0.R h csp1 p1) (r : Bool) (hM0 : c6 p0 p1 = some r) :
  Tr Tryz.prog 158 #[.agg csp0.toArray, .agg csp1.toArray] h fun v h' => v = .bool r ∧ h' = h := by
 obtain ⟨p0_0, p0_1, ap0_2, np0_2, cp0_2, p0_2, rfl, rfl, ip0_0, ip0_1, rp0_2⟩ := B0 rp0
 obtain ⟨rfl, lp0_2⟩ := Sl.len rp0_2
 obtain ⟨p1_0, p1_1, p1_2, rfl, rfl, ip1_0, ip1_1, ip1_2⟩ := j1 rp1
 unfold c6 at hM0
 dsimp only at hM0
 refine Tr.forget (U2 (args := [.agg #[.int .i64 p0_0, .int .i64 p0_1, .slice ap0_2 p0_2.length cp0_2], .agg #[.int .i64 p1_0, .int .i64 p1_1, .int .i64 p1_2]]) (fn := Tryz.f158) rfl ?_)
 obtain ⟨x1, gx1, hM0⟩ := j0 hM0
 refine Tr.val (n00 _ [.int .i64 p0_0, .int .i64 p0_1, .slice ap0_2 p0_2.length cp0_2] (p0_0, p0_1, p0_2) (z0 ip0_0 ip0_1 rp0_2) p1_0 ip1_0 _  gx1) ?_
 obtain ⟨x2, gx2, hM0⟩ := j0 hM0
 refine Exists.intro (.bool x2) (And.intro (fun q => n00 _ [.int .i64 p0_0, .int .i64 p0_1, .slice ap0_2 p0_2.length cp0_2] (p0_0, p0_1, p0_2) (z0 ip0_0 ip0_1 rp0_2) p1_2 ip1_2 _  (I2 gx2 q)) ?_)
 obtain ⟨x3, gx3, hM0⟩ := j0 hM0
 refine Exists.intro (.bool x3) (And.intro (fun q => O7 _ p1_1 ip1_1 1 (c64 (by decide) (by decide)) p0_0 ip0_0 _  (I2 gx3 q)) ?_)
 have hE := Option.some.inj hM0; subst hE
 exact And.intro rfl (Sub.refl _)
theorem K01 (h : Hp) (csp0 : List Value) (p0 : D0) (rp0 : Q0.R h csp0 p0) (csp1 : List Value) (p1 : D0) (rp1 : Q0.R h csp1 p1) (r : Int) (hM0 : I7 p0 p1 = some r) :
  Tr Tryz.prog 204 #[.agg csp0.toArray, .agg csp1.toArray] h fun v h' => v = .int .i64 r ∧ h' = h := by
 obtain ⟨p0_0, p0_1, p0_2, rfl, rfl, ip0_0, ip0_1, ip0_2⟩ := j1 rp0
 obtain ⟨p1_0, p1_1, p1_2, rfl, rfl, ip1_0, ip1_1, ip1_2⟩ := j1 rp1
 unfold I7 at hM0
 dsimp only at hM0
 refine Tr.forget (U2 (args := [.agg #[.int .i64 p0_0, .int .i64 p0_1, .int .i64 p0_2], .agg #[.int .i64 p1_0, .int .i64 p1_1, .int .i64 p1_2]]) (fn := Tryz.f204) rfl ?_)
 obtain ⟨x1, gx1, hM0⟩ := j0 hM0
 refine Tr.val (D00 _ p0_0 ip0_0 p1_0 ip1_0 _  gx1) ?_
 obtain ⟨q2, gq2, hM0⟩ := j0 hM0
 have ix1 : F0 x1 := G2 gq2
 refine And.intro (fun hc3 => ?_) (fun hc3 => ?_)
 ·replace hM0 := ifP hM0 hc3
  have hE := Option.some.inj hM0; subst hE
  exact And.intro rfl (Sub.refl _)
 ·replace hM0 := ifN hM0 hc3
  obtain ⟨x4, gx4, hM0⟩ := j0 hM0
  refine Tr.val (D00 _ p0_1 ip0_1 p1_1 ip1_1 _  gx4) ?_
  obtain ⟨q5, gq5, hM0⟩ := j0 hM0
  have ix4 : F0 x4 := G2 gq5
  refine And.intro (fun hc6 => ?_) (fun hc6 => ?_)
  ·replace hM0 := ifP hM0 hc6
   have hE := Option.some.inj hM0; subst hE
   exact And.intro rfl (Sub.refl _)
  ·replace hM0 := ifN hM0 hc6
   obtain ⟨x7, gx7, hM0⟩ := j0 hM0
   refine Tr.val (D00 _ p0_2 ip0_2 p1_2 ip1_2 _  gx7) ?_
   obtain ⟨q8, gq8, hM0⟩ := j0 hM0
   have ix7 : F0 x7 := G2 gq8
   have hE := Option.some.inj hM0; subst hE
   exact And.intro rfl (Sub.refl _)
theorem o8 (h : Hp) (csp0 : List Value) (p0 : l0) (rp0 : Y0.R h csp0 p0) (r : Bool) (hM0 : Z4 p0 = some r) :
  Tr Tryz.prog 151 #[.agg csp0.toArray] h fun v h' => v = .bool r ∧ h' = h := by
 obtain ⟨p0_0, p0_1, ap0_2, np0_2, cp0_2, p0_2, rfl, rfl, ip0_0, ip0_1, rp0_2⟩ := B0 rp0
 obtain ⟨rfl, lp0_2⟩ := Sl.len rp0_2
 unfold Z4 at hM0
 dsimp only at hM0
 refine Tr.forget (U2 (args := [.agg #[.int .i64 p0_0, .int .i64 p0_1, .slice ap0_2 p0_2.length cp0_2]]) (fn := Tryz.f151) rfl ?_)
 obtain ⟨x1, gx1, hM0⟩ := j0 hM0
 refine Tr.val (O7 _ p0_0 ip0_0 1 (c64 (by decide) (by decide)) 3 (c64 (by decide) (by decide)) _  gx1) ?_
 obtain ⟨x2, gx2, hM0⟩ := j0 hM0
 refine Exists.intro (.bool x2) (And.intro (fun q => O7 _ p0_1 ip0_1 1 (c64 (by decide) (by decide)) 40 (c64 (by decide) (by decide)) _  (I2 gx2 q)) ?_)
 refine And.intro (fun hc3 => ?_) (fun hc3 => ?_)
 ·replace hM0 := ifP hM0 hc3
  have hE := Option.some.inj hM0; subst hE
  exact And.intro rfl (Sub.refl _)
 ·replace hM0 := ifN hM0 hc3
  obtain ⟨X4, hLX4, hM0⟩ := j0 hM0
  refine Exists.intro { vars := [24], boxes := [], owns := [], fuel := true } (Exists.intro (fun vs os h' => ∃ (u5 : Int), vs.tail = [.int .i64 u5] ∧ os = [] ∧ Sub h h' ∧ F0 u5 ∧ d6 p0_2 p0_0 p0_1 (M1 vs) u5 = some X4) (Exists.intro (fun _ _ => 0) ?_))
  refine And.intro (Exists.intro S0 ⟨0, rfl, rfl, (Sub.refl _), (c64 (by decide) (by decide)), hLX4⟩) ?_
  rintro v_0 m7 k6 ⟨u5, evX4, eoX4, sX4, iu5, hM1⟩
  cases evX4
  cases eoX4
  replace hM1 : d6 p0_2 p0_0 p0_1 m7 u5 = some X4 := hM1
  obtain _ | m7 := m7
  ·cases (show (none : Option _) = some X4 from hM1)
  rw [d6.eq_2] at hM1
  refine And.intro (fun hc8 => ?_) (fun hc8 => ?_)
  ·replace hM1 := ifP hM1 hc8
   obtain ⟨x9, gx9, hM1⟩ := j0 hM1
   obtain ⟨bx9, csx9, ex9, rx9⟩ := Sl.getI (r := Q0.toRp) (I0.mono sX4 rp0_2) gx9 (by decide)
   refine And.intro bx9 ?_
   obtain ⟨x9_0, x9_1, x9_2, rfl, rfl, ix9_0, ix9_1, ix9_2⟩ := j1 rx9
   try dsimp only at hM1
   refine Exists.intro _ (And.intro ex9 ?_)
   refine Or.inl (And.intro (And.intro (by kernel_rfl) (by kernel_rfl)) ?_)
   obtain ⟨x10, gx10, hM1⟩ := j0 hM1
   refine Exists.intro (.bool x10) (And.intro (D01 _ [.int .i64 p0_0, .int .i64 p0_1, .slice ap0_2 p0_2.length cp0_2] (p0_0, p0_1, p0_2) (z0 ip0_0 ip0_1 (I0.mono sX4 rp0_2)) [.int .i64 x9_0, .int .i64 x9_1, .int .i64 x9_2] (x9_0, x9_1, x9_2) (V0 ix9_0 ix9_1 ix9_2) _  gx10) ?_)
   obtain ⟨x11, gx11, hM1⟩ := j0 hM1
   obtain ⟨csx11, ex11, rx11⟩ := Sl.getG (r := Q0.toRp) (I0.mono sX4 rp0_2) gx11 (by decide) (I0f k6)
   refine And.intro (fun q => (ex11 q).1) ?_
   obtain ⟨x11_0, x11_1, x11_2, rfl, rfl, ix11_0, ix11_1, ix11_2⟩ := j1 rx11
   try dsimp only at hM1
   refine Exists.intro _ (And.intro (fun q => (ex11 q).2) ?_)
   obtain ⟨x12, gx12, hM1⟩ := j0 hM1
   refine Exists.intro (.int .i64 x12) (And.intro (fun q => K01 _ [.int .i64 x11_0, .int .i64 x11_1, .int .i64 x11_2] (x11_0, x11_1, x11_2) (V0 ix11_0 ix11_1 ix11_2) [.int .i64 x9_0, .int .i64 x9_1, .int .i64 x9_2] (x9_0, x9_1, x9_2) (V0 ix9_0 ix9_1 ix9_2) _  (I2 gx12 q)) ?_)
   obtain ⟨q13, gq13, hM1⟩ := j0 hM1
   have ix12 : F0 x12 := G2 gq13
   refine And.intro (fun hc14 => ?_) (fun hc14 => ?_)
   ·replace hM1 := ifP hM1 hc14
    have hE := Option.some.inj hM1; subst hE
    try dsimp only [n3, B3] at hM0
    have hE := Option.some.inj hM0; subst hE
    exact And.intro rfl sX4
   ·replace hM1 := ifN hM1 hc14
    refine And.intro rfl (And.intro (by repeat (first | exact trivial | refine And.intro rfl ?_)) (And.intro (by repeat (first | exact trivial | refine And.intro rfl ?_)) (Exists.intro m7 (And.intro ⟨(IntKind.i64.wrap (u5 + 1)), rfl, rfl, sX4, (H0 _), hM1⟩ (Nat.lt_succ_self _)))))
  ·replace hM1 := ifN hM1 hc8
   have hE := Option.some.inj hM1; subst hE
   try dsimp only [T0, U0] at hM0
   have hE := Option.some.inj hM0; subst hE
   exact And.intro rfl sX4
end Go.Proofs.YtfdlgbfeceodeaaGreat
namespace Go.Proofs.YtfdlgbfeceodeaaGreat
open Go.H
set_option linter.unusedVariables false
set_option linter.unusedSimpArgs false
set_option maxRecDepth 10000
theorem o00 (h : Hp) (ap0 : Option Addr) (np0 cp0 : Nat) (p0 : O0) (rp0 : I1.R h [.slice ap0 np0 cp0] p0) (p1 : Int) (ip1 : F0 p1) (r : O0) (hM0 : n7 p0 p1 = some r) :
  Tr Tryz.prog 222 #[.slice ap0 np0 cp0, .int .i64 p1] h fun v h' => ∃ (a0 : Option Addr) (n0 c0 : Nat), v = .slice a0 n0 c0 ∧ I1.R h' [.slice a0 n0 c0] r ∧ Sub h h' := by
 obtain ⟨rfl, lp0⟩ := Sl.len rp0
 unfold n7 at hM0
 refine U2 (args := [.slice ap0 p0.length cp0, .int .i64 p1]) (fn := Tryz.f222) rfl ?_
 obtain ⟨X1, hLX1, hM0⟩ := j0 hM0
 refine Exists.intro { vars := [6, 7], boxes := [], owns := [0], fuel := true } (Exists.intro (fun vs os h' => ∃ (u2 : Bool) (u3 : Int) (wu4 : List (List Value)) (u4 : List Int), vs.tail = [.bool u2, .int .i64 u3] ∧ os = [wu4] ∧ Sub h h' ∧ F0 u3 ∧ F2 (Wp.int.R h') wu4 u4 ∧ R3 p0 p1 (M1 vs) u2 u3 u4 = some X1) (Exists.intro (fun _ _ => 0) ?_))
 refine And.intro (Exists.intro S0 ⟨false, 0, [], ([] : O0), rfl, rfl, (Sub.refl _), (c64 (by decide) (by decide)), (show F2 (Wp.int.R h) ([] : List (List Value)) ([] : O0) from trivial), hLX1⟩) ?_
 rintro v_0 v_1 wu4 m6 k5 ⟨u2, u3, zzu4, u4, evX1, eoX1, sX1, iu3, fu4, hM1⟩
 cases evX1
 cases eoX1
 replace hM1 : R3 p0 p1 m6 u2 u3 u4 = some X1 := hM1
 obtain _ | m6 := m6
 ·cases (show (none : Option _) = some X1 from hM1)
 rw [R3.eq_2] at hM1
 refine And.intro (fun hc7 => ?_) (fun hc7 => ?_)
 ·replace hM1 := ifP hM1 hc7
  obtain ⟨x8, gx8, hM1⟩ := j0 hM1
  obtain ⟨bx8, csx8, ex8, rx8⟩ := Sl.getI (r := Wp.int.toRp) (I1.mono sX1 rp0) gx8 (by decide)
  refine And.intro bx8 ?_
  obtain ⟨rfl, ix8⟩ := rx8
  refine Exists.intro _ (And.intro ex8 ?_)
  refine And.intro (fun hc9 => ?_) (fun hc9 => ?_)
  ·replace hM1 := ifP hM1 hc9
   obtain ⟨x10, gx10, hM1⟩ := j0 hM1
   obtain ⟨bx10, csx10, ex10, rx10⟩ := Sl.getI (r := Wp.int.toRp) (I1.mono sX1 rp0) gx10 (by decide)
   refine And.intro bx10 ?_
   obtain ⟨rfl, ix10⟩ := rx10
   refine Exists.intro _ (And.intro ex10 ?_)
   refine And.intro (fun hc11 => ?_) (fun hc11 => ?_)
   ·replace hM1 := ifP hM1 hc11
    obtain ⟨q12, gq12, hM1⟩ := j0 hM1
    refine And.intro (E2 gq12 (by first | rw [F2.length fu4, F2.length (show F2 (Wp.int.R k5) ([[.int .i64 p1]] : List (List Value)) [p1] from ⟨⟨rfl, ip1⟩, trivial⟩)] | exact congrArg (· + 1) (F2.length fu4))) ?_
    obtain ⟨x13, gx13, hM1⟩ := j0 hM1
    obtain ⟨bx13, csx13, ex13, rx13⟩ := Sl.getI (r := Wp.int.toRp) (I1.mono sX1 rp0) gx13 (by decide)
    refine And.intro bx13 ?_
    obtain ⟨rfl, ix13⟩ := rx13
    refine Exists.intro _ (And.intro ex13 ?_)
    obtain ⟨q14, gq14, hM1⟩ := j0 hM1
    refine And.intro (E2 gq14 (by first | rw [F2.length (F2.append fu4 (show F2 (Wp.int.R k5) ([[.int .i64 p1]] : List (List Value)) [p1] from ⟨⟨rfl, ip1⟩, trivial⟩)), F2.length (show F2 (Wp.int.R k5) ([[.int .i64 x13]] : List (List Value)) [x13] from ⟨⟨rfl, ix13⟩, trivial⟩)] | exact congrArg (· + 1) (F2.length (F2.append fu4 (show F2 (Wp.int.R k5) ([[.int .i64 p1]] : List (List Value)) [p1] from ⟨⟨rfl, ip1⟩, trivial⟩))))) ?_
    refine And.intro rfl (And.intro (by repeat (first | exact trivial | refine And.intro rfl ?_)) (And.intro (by repeat (first | exact trivial | refine And.intro rfl ?_)) (Exists.intro m6 (And.intro ⟨true, (IntKind.i64.wrap (u3 + 1)), ((wu4 ++ ([[.int .i64 p1]] : List (List Value))) ++ ([[.int .i64 x13]] : List (List Value))), ((u4 ++ [p1]) ++ [x13]), rfl, rfl, sX1, (H0 _), (F2.append (F2.append fu4 (show F2 (Wp.int.R k5) ([[.int .i64 p1]] : List (List Value)) [p1] from ⟨⟨rfl, ip1⟩, trivial⟩)) (show F2 (Wp.int.R k5) ([[.int .i64 x13]] : List (List Value)) [x13] from ⟨⟨rfl, ix13⟩, trivial⟩)), hM1⟩ (Nat.lt_succ_self _)))))
   ·replace hM1 := ifN hM1 hc11
    obtain ⟨x15, gx15, hM1⟩ := j0 hM1
    obtain ⟨bx15, csx15, ex15, rx15⟩ := Sl.getI (r := Wp.int.toRp) (I1.mono sX1 rp0) gx15 (by decide)
    refine And.intro bx15 ?_
    obtain ⟨rfl, ix15⟩ := rx15
    refine Exists.intro _ (And.intro ex15 ?_)
    obtain ⟨q16, gq16, hM1⟩ := j0 hM1
    refine And.intro (E2 gq16 (by first | rw [F2.length fu4, F2.length (show F2 (Wp.int.R k5) ([[.int .i64 x15]] : List (List Value)) [x15] from ⟨⟨rfl, ix15⟩, trivial⟩)] | exact congrArg (· + 1) (F2.length fu4))) ?_
    refine And.intro rfl (And.intro (by repeat (first | exact trivial | refine And.intro rfl ?_)) (And.intro (by repeat (first | exact trivial | refine And.intro rfl ?_)) (Exists.intro m6 (And.intro ⟨true, (IntKind.i64.wrap (u3 + 1)), (wu4 ++ ([[.int .i64 x15]] : List (List Value))), (u4 ++ [x15]), rfl, rfl, sX1, (H0 _), (F2.append fu4 (show F2 (Wp.int.R k5) ([[.int .i64 x15]] : List (List Value)) [x15] from ⟨⟨rfl, ix15⟩, trivial⟩)), hM1⟩ (Nat.lt_succ_self _)))))
  ·replace hM1 := ifN hM1 hc9
   obtain ⟨x17, gx17, hM1⟩ := j0 hM1
   obtain ⟨bx17, csx17, ex17, rx17⟩ := Sl.getI (r := Wp.int.toRp) (I1.mono sX1 rp0) gx17 (by decide)
   refine And.intro bx17 ?_
   obtain ⟨rfl, ix17⟩ := rx17
   refine Exists.intro _ (And.intro ex17 ?_)
   refine And.intro (fun hc18 => ?_) (fun hc18 => ?_)
   ·replace hM1 := ifP hM1 hc18
    obtain ⟨q19, gq19, hM1⟩ := j0 hM1
    refine And.intro (E2 gq19 (by first | rw [F2.length fu4, F2.length (show F2 (Wp.int.R k5) ([[.int .i64 p1]] : List (List Value)) [p1] from ⟨⟨rfl, ip1⟩, trivial⟩)] | exact congrArg (· + 1) (F2.length fu4))) ?_
    obtain ⟨x20, gx20, hM1⟩ := j0 hM1
    obtain ⟨bx20, csx20, ex20, rx20⟩ := Sl.getI (r := Wp.int.toRp) (I1.mono sX1 rp0) gx20 (by decide)
    refine And.intro bx20 ?_
    obtain ⟨rfl, ix20⟩ := rx20
    refine Exists.intro _ (And.intro ex20 ?_)
    obtain ⟨q21, gq21, hM1⟩ := j0 hM1
    refine And.intro (E2 gq21 (by first | rw [F2.length (F2.append fu4 (show F2 (Wp.int.R k5) ([[.int .i64 p1]] : List (List Value)) [p1] from ⟨⟨rfl, ip1⟩, trivial⟩)), F2.length (show F2 (Wp.int.R k5) ([[.int .i64 x20]] : List (List Value)) [x20] from ⟨⟨rfl, ix20⟩, trivial⟩)] | exact congrArg (· + 1) (F2.length (F2.append fu4 (show F2 (Wp.int.R k5) ([[.int .i64 p1]] : List (List Value)) [p1] from ⟨⟨rfl, ip1⟩, trivial⟩))))) ?_
    refine And.intro rfl (And.intro (by repeat (first | exact trivial | refine And.intro rfl ?_)) (And.intro (by repeat (first | exact trivial | refine And.intro rfl ?_)) (Exists.intro m6 (And.intro ⟨true, (IntKind.i64.wrap (u3 + 1)), ((wu4 ++ ([[.int .i64 p1]] : List (List Value))) ++ ([[.int .i64 x20]] : List (List Value))), ((u4 ++ [p1]) ++ [x20]), rfl, rfl, sX1, (H0 _), (F2.append (F2.append fu4 (show F2 (Wp.int.R k5) ([[.int .i64 p1]] : List (List Value)) [p1] from ⟨⟨rfl, ip1⟩, trivial⟩)) (show F2 (Wp.int.R k5) ([[.int .i64 x20]] : List (List Value)) [x20] from ⟨⟨rfl, ix20⟩, trivial⟩)), hM1⟩ (Nat.lt_succ_self _)))))
   ·replace hM1 := ifN hM1 hc18
    obtain ⟨x22, gx22, hM1⟩ := j0 hM1
    obtain ⟨bx22, csx22, ex22, rx22⟩ := Sl.getI (r := Wp.int.toRp) (I1.mono sX1 rp0) gx22 (by decide)
    refine And.intro bx22 ?_
    obtain ⟨rfl, ix22⟩ := rx22
    refine Exists.intro _ (And.intro ex22 ?_)
    obtain ⟨q23, gq23, hM1⟩ := j0 hM1
    refine And.intro (E2 gq23 (by first | rw [F2.length fu4, F2.length (show F2 (Wp.int.R k5) ([[.int .i64 x22]] : List (List Value)) [x22] from ⟨⟨rfl, ix22⟩, trivial⟩)] | exact congrArg (· + 1) (F2.length fu4))) ?_
    refine And.intro rfl (And.intro (by repeat (first | exact trivial | refine And.intro rfl ?_)) (And.intro (by repeat (first | exact trivial | refine And.intro rfl ?_)) (Exists.intro m6 (And.intro ⟨u2, (IntKind.i64.wrap (u3 + 1)), (wu4 ++ ([[.int .i64 x22]] : List (List Value))), (u4 ++ [x22]), rfl, rfl, sX1, (H0 _), (F2.append fu4 (show F2 (Wp.int.R k5) ([[.int .i64 x22]] : List (List Value)) [x22] from ⟨⟨rfl, ix22⟩, trivial⟩)), hM1⟩ (Nat.lt_succ_self _)))))
 ·replace hM1 := ifN hM1 hc7
  have hE := Option.some.inj hM1; subst hE
  try dsimp only [T0, U0] at hM0
  refine And.intro (fun hc24 => ?_) (fun hc24 => ?_)
  ·replace hM0 := ifP hM0 hc24
   obtain ⟨q25, gq25, hM0⟩ := j0 hM0
   refine And.intro (E2 gq25 (by first | rw [F2.length fu4, F2.length (show F2 (Wp.int.R k5) ([[.int .i64 p1]] : List (List Value)) [p1] from ⟨⟨rfl, ip1⟩, trivial⟩)] | exact congrArg (· + 1) (F2.length fu4))) ?_
   intro v26 k27 f28
   obtain ⟨az29, cz29, rfl, rz29, sz29, lz29⟩ := Z0.out (r := Wp.int.toRp) f28 (F2.append fu4 (show F2 (Wp.int.R k5) ([[.int .i64 p1]] : List (List Value)) [p1] from ⟨⟨rfl, ip1⟩, trivial⟩))
   have hE := Option.some.inj hM0; subst hE
   exact ⟨az29, ((u4 ++ [p1])).length, cz29, rfl, rz29, (sX1.trans sz29)⟩
  ·replace hM0 := ifN hM0 hc24
   intro v30 k31 f32
   obtain ⟨az33, cz33, rfl, rz33, sz33, lz33⟩ := Z0.out (r := Wp.int.toRp) f32 fu4
   have hE := Option.some.inj hM0; subst hE
   exact ⟨az33, u4.length, cz33, rfl, rz33, (sX1.trans sz33)⟩
theorem T00 (h : Hp) (ap0 : Option Addr) (np0 cp0 : Nat) (p0 : O0) (rp0 : I1.R h [.slice ap0 np0 cp0] p0) (p1 : Int) (ip1 : F0 p1) (r : Bool) (hM0 : K7 p0 p1 = some r) :
  Tr Tryz.prog 160 #[.slice ap0 np0 cp0, .int .i64 p1] h fun v h' => v = .bool r ∧ h' = h := by
 obtain ⟨rfl, lp0⟩ := Sl.len rp0
 unfold K7 at hM0
 refine Tr.forget (U2 (args := [.slice ap0 p0.length cp0, .int .i64 p1]) (fn := Tryz.f160) rfl ?_)
 obtain ⟨X1, hLX1, hM0⟩ := j0 hM0
 refine Exists.intro { vars := [5], boxes := [], owns := [], fuel := true } (Exists.intro (fun vs os h' => ∃ (u2 : Int), vs.tail = [.int .i64 u2] ∧ os = [] ∧ Sub h h' ∧ F0 u2 ∧ A7 p0 p1 (M1 vs) u2 = some X1) (Exists.intro (fun _ _ => 0) ?_))
 refine And.intro (Exists.intro S0 ⟨0, rfl, rfl, (Sub.refl _), (c64 (by decide) (by decide)), hLX1⟩) ?_
 rintro v_0 m4 k3 ⟨u2, evX1, eoX1, sX1, iu2, hM1⟩
 cases evX1
 cases eoX1
 replace hM1 : A7 p0 p1 m4 u2 = some X1 := hM1
 obtain _ | m4 := m4
 ·cases (show (none : Option _) = some X1 from hM1)
 rw [A7.eq_2] at hM1
 refine And.intro (fun hc5 => ?_) (fun hc5 => ?_)
 ·replace hM1 := ifP hM1 hc5
  obtain ⟨x6, gx6, hM1⟩ := j0 hM1
  obtain ⟨bx6, csx6, ex6, rx6⟩ := Sl.getI (r := Wp.int.toRp) (I1.mono sX1 rp0) gx6 (by decide)
  refine And.intro bx6 ?_
  obtain ⟨rfl, ix6⟩ := rx6
  refine Exists.intro _ (And.intro ex6 ?_)
  refine And.intro (fun hc7 => ?_) (fun hc7 => ?_)
  ·replace hM1 := ifP hM1 hc7
   have hE := Option.some.inj hM1; subst hE
   try dsimp only [n3, B3] at hM0
   have hE := Option.some.inj hM0; subst hE
   exact And.intro rfl sX1
  ·replace hM1 := ifN hM1 hc7
   refine And.intro rfl (And.intro (by repeat (first | exact trivial | refine And.intro rfl ?_)) (And.intro (by repeat (first | exact trivial | refine And.intro rfl ?_)) (Exists.intro m4 (And.intro ⟨(IntKind.i64.wrap (u2 + 1)), rfl, rfl, sX1, (H0 _), hM1⟩ (Nat.lt_succ_self _)))))
 ·replace hM1 := ifN hM1 hc5
  have hE := Option.some.inj hM1; subst hE
  try dsimp only [T0, U0] at hM0
  have hE := Option.some.inj hM0; subst hE
  exact And.intro rfl sX1
theorem D08 (h : Hp) (csp0 : List Value) (p0 : l0) (rp0 : Y0.R h csp0 p0) (p1 : Int) (ip1 : F0 p1) (p2 : Int) (ip2 : F0 p2) (r : O0) (hM0 : L8 p0 p1 p2 = some r) :
  Tr Tryz.prog 202 #[.agg csp0.toArray, .int .i64 p1, .int .i64 p2] h fun v h' => ∃ (a0 : Option Addr) (n0 c0 : Nat), v = .slice a0 n0 c0 ∧ I1.R h' [.slice a0 n0 c0] r ∧ Sub h h' := by
 obtain ⟨p0_0, p0_1, ap0_2, np0_2, cp0_2, p0_2, rfl, rfl, ip0_0, ip0_1, rp0_2⟩ := B0 rp0
 obtain ⟨rfl, lp0_2⟩ := Sl.len rp0_2
 unfold L8 at hM0
 dsimp only at hM0
 refine U2 (args := [.agg #[.int .i64 p0_0, .int .i64 p0_1, .slice ap0_2 p0_2.length cp0_2], .int .i64 p1, .int .i64 p2]) (fn := Tryz.f202) rfl ?_
 obtain ⟨X5, hLX5, hM0⟩ := j0 hM0
 refine Exists.intro { vars := [7, 8], boxes := [], owns := [], fuel := true, pubs := [7, 10] } (Exists.intro (fun vs os h' => ∃ (au6 : Option Addr) (nu6 cu6 : Nat) (u6 : O0) (u7 : Int), vs.tail = [.slice au6 nu6 cu6, .int .i64 u7] ∧ os = [] ∧ Sub h h' ∧ I1.R h' [.slice au6 nu6 cu6] u6 ∧ F0 u7 ∧ I3 p0_2 p2 p1 (M1 vs) u6 u7 = some X5) (Exists.intro (fun _ _ => 0) ?_))
 intro v1 k2 f3
 obtain ⟨az4, cz4, rfl, rz4, sz4, lz4⟩ := Z0.out (r := Wp.int.toRp) f3 (show F2 (Wp.int.R h) ([] : List (List Value)) ([] : O0) from trivial)
 refine And.intro (Exists.intro S0 ⟨az4, (([] : O0)).length, cz4, ([] : O0), 0, rfl, rfl, sz4, rz4, (c64 (by decide) (by decide)), hLX5⟩) ?_
 rintro v_0 v_1 m9 k8 ⟨au6, nu6, cu6, u6, u7, evX5, eoX5, sX5, ru6, iu7, hM1⟩
 cases evX5
 cases eoX5
 replace hM1 : I3 p0_2 p2 p1 m9 u6 u7 = some X5 := hM1
 obtain _ | m9 := m9
 ·cases (show (none : Option _) = some X5 from hM1)
 rw [I3.eq_2] at hM1
 obtain ⟨rfl, lu6⟩ := Sl.len ru6
 refine And.intro (fun hc10 => ?_) (fun hc10 => ?_)
 ·replace hM1 := ifP hM1 hc10
  obtain ⟨x11, gx11, hM1⟩ := j0 hM1
  obtain ⟨bx11, csx11, ex11, rx11⟩ := Sl.getI (r := Q0.toRp) (I0.mono sX5 rp0_2) gx11 (by decide)
  refine And.intro bx11 ?_
  obtain ⟨x11_0, x11_1, x11_2, rfl, rfl, ix11_0, ix11_1, ix11_2⟩ := j1 rx11
  try dsimp only at hM1
  refine Exists.intro _ (And.intro ex11 ?_)
  refine And.intro (fun hc12 => ?_) (fun hc12 => ?_)
  ·replace hM1 := ifP hM1 hc12
   obtain ⟨x13, gx13, hM1⟩ := j0 hM1
   refine Tr.mono (o00 _ au6 u6.length cu6 u6 ru6 x11_2 ix11_2 _  gx13) ?_
   rintro v15 k14 ⟨ax13, nx13, cx13, rfl, rx13, sx13⟩
   obtain ⟨rfl, lx13⟩ := Sl.len rx13
   refine And.intro (fun hc16 => ?_) (fun hc16 => ?_)
   ·replace hM1 := ifP hM1 hc16
    obtain ⟨x17, gx17, hM1⟩ := j0 hM1
    refine Tr.mono (o00 _ ax13 x13.length cx13 x13 rx13 x11_0 ix11_0 _  gx17) ?_
    rintro v19 k18 ⟨ax17, nx17, cx17, rfl, rx17, sx17⟩
    obtain ⟨rfl, lx17⟩ := Sl.len rx17
    refine And.intro rfl (And.intro (by repeat (first | exact trivial | refine And.intro rfl ?_)) (And.intro (by repeat (first | exact trivial | refine And.intro rfl ?_)) (Exists.intro m9 (And.intro ⟨ax17, x17.length, cx17, x17, (IntKind.i64.wrap (u7 + 1)), rfl, rfl, ((sX5.trans sx13).trans sx17), rx17, (H0 _), hM1⟩ (Nat.lt_succ_self _)))))
   ·replace hM1 := ifN hM1 hc16
    refine And.intro rfl (And.intro (by repeat (first | exact trivial | refine And.intro rfl ?_)) (And.intro (by repeat (first | exact trivial | refine And.intro rfl ?_)) (Exists.intro m9 (And.intro ⟨ax13, x13.length, cx13, x13, (IntKind.i64.wrap (u7 + 1)), rfl, rfl, (sX5.trans sx13), rx13, (H0 _), hM1⟩ (Nat.lt_succ_self _)))))
  ·replace hM1 := ifN hM1 hc12
   refine And.intro (fun hc20 => ?_) (fun hc20 => ?_)
   ·replace hM1 := ifP hM1 hc20
    obtain ⟨x21, gx21, hM1⟩ := j0 hM1
    refine Tr.mono (o00 _ au6 u6.length cu6 u6 ru6 x11_0 ix11_0 _  gx21) ?_
    rintro v23 k22 ⟨ax21, nx21, cx21, rfl, rx21, sx21⟩
    obtain ⟨rfl, lx21⟩ := Sl.len rx21
    refine And.intro rfl (And.intro (by repeat (first | exact trivial | refine And.intro rfl ?_)) (And.intro (by repeat (first | exact trivial | refine And.intro rfl ?_)) (Exists.intro m9 (And.intro ⟨ax21, x21.length, cx21, x21, (IntKind.i64.wrap (u7 + 1)), rfl, rfl, (sX5.trans sx21), rx21, (H0 _), hM1⟩ (Nat.lt_succ_self _)))))
   ·replace hM1 := ifN hM1 hc20
    refine And.intro rfl (And.intro (by repeat (first | exact trivial | refine And.intro rfl ?_)) (And.intro (by repeat (first | exact trivial | refine And.intro rfl ?_)) (Exists.intro m9 (And.intro ⟨au6, u6.length, cu6, u6, (IntKind.i64.wrap (u7 + 1)), rfl, rfl, sX5, ru6, (H0 _), hM1⟩ (Nat.lt_succ_self _)))))
 ·replace hM1 := ifN hM1 hc10
  have hE := Option.some.inj hM1; subst hE
  try dsimp only [T0, U0] at hM0
  have hE := Option.some.inj hM0; subst hE
  exact ⟨au6, u6.length, cu6, rfl, ru6, sX5⟩
theorem U00 (h : Hp) (csp0 : List Value) (p0 : l0) (rp0 : Y0.R h csp0 p0) (p1 : Int) (ip1 : F0 p1) (p2 : Int) (ip2 : F0 p2) (r : Int) (hM0 : B6 p0 p1 p2 = some r) :
  Tr Tryz.prog 147 #[.agg csp0.toArray, .int .i64 p1, .int .i64 p2] h fun v h' => v = .int .i64 r ∧ h' = h := by
 obtain ⟨p0_0, p0_1, ap0_2, np0_2, cp0_2, p0_2, rfl, rfl, ip0_0, ip0_1, rp0_2⟩ := B0 rp0
 obtain ⟨rfl, lp0_2⟩ := Sl.len rp0_2
 unfold B6 at hM0
 dsimp only at hM0
 refine Tr.forget (U2 (args := [.agg #[.int .i64 p0_0, .int .i64 p0_1, .slice ap0_2 p0_2.length cp0_2], .int .i64 p1, .int .i64 p2]) (fn := Tryz.f147) rfl ?_)
 obtain ⟨x1, gx1, hM0⟩ := j0 hM0
 refine Tr.mono (D08 _ [.int .i64 p0_0, .int .i64 p0_1, .slice ap0_2 p0_2.length cp0_2] (p0_0, p0_1, p0_2) (z0 ip0_0 ip0_1 rp0_2) p1 ip1 p2 ip2 _  gx1) ?_
 rintro v3 k2 ⟨ax1, nx1, cx1, rfl, rx1, sx1⟩
 obtain ⟨rfl, lx1⟩ := Sl.len rx1
 refine And.intro (fun hc4 => ?_) (fun hc4 => ?_)
 ·replace hM0 := ifP hM0 hc4
  have hE := Option.some.inj hM0; subst hE
  exact And.intro rfl sx1
 ·replace hM0 := ifN hM0 hc4
  obtain ⟨x5, gx5, hM0⟩ := j0 hM0
  obtain ⟨bx5, csx5, ex5, rx5⟩ := Sl.getI (r := Wp.int.toRp) rx1 gx5 (by decide)
  refine And.intro bx5 ?_
  obtain ⟨rfl, ix5⟩ := rx5
  refine Exists.intro _ (And.intro ex5 ?_)
  have hE := Option.some.inj hM0; subst hE
  exact And.intro rfl sx1
theorem w9 (h : Hp) (csp0 : List Value) (p0 : l0) (rp0 : Y0.R h csp0 p0) (r : Bool) (hM0 : R5 p0 = some r) :
  Tr Tryz.prog 88 #[.agg csp0.toArray] h fun v h' => v = .bool r ∧ h' = h := by
 obtain ⟨p0_0, p0_1, ap0_2, np0_2, cp0_2, p0_2, rfl, rfl, ip0_0, ip0_1, rp0_2⟩ := B0 rp0
 obtain ⟨rfl, lp0_2⟩ := Sl.len rp0_2
 unfold R5 at hM0
 dsimp only at hM0
 refine Tr.forget (U2 (args := [.agg #[.int .i64 p0_0, .int .i64 p0_1, .slice ap0_2 p0_2.length cp0_2]]) (fn := Tryz.f88) rfl ?_)
 obtain ⟨X1, hLX1, hM0⟩ := j0 hM0
 refine Exists.intro { vars := [3], boxes := [], owns := [], fuel := true } (Exists.intro (fun vs os h' => ∃ (u2 : Int), vs.tail = [.int .i64 u2] ∧ os = [] ∧ Sub h h' ∧ F0 u2 ∧ F4 p0_2 p0_0 p0_1 (M1 vs) u2 = some X1) (Exists.intro (fun _ _ => 0) ?_))
 refine And.intro (Exists.intro S0 ⟨0, rfl, rfl, (Sub.refl _), (c64 (by decide) (by decide)), hLX1⟩) ?_
 rintro v_0 m4 k3 ⟨u2, evX1, eoX1, sX1, iu2, hM1⟩
 cases evX1
 cases eoX1
 replace hM1 : F4 p0_2 p0_0 p0_1 m4 u2 = some X1 := hM1
 obtain _ | m4 := m4
 ·cases (show (none : Option _) = some X1 from hM1)
 rw [F4.eq_2] at hM1
 obtain ⟨x5, gx5, hM1⟩ := j0 hM1
 refine Exists.intro (.bool x5) (And.intro (fun q => l5 _ [.int .i64 p0_0, .int .i64 p0_1, .slice ap0_2 p0_2.length cp0_2] (p0_0, p0_1, p0_2) (z0 ip0_0 ip0_1 (I0.mono sX1 rp0_2)) _  (I2 gx5 q)) ?_)
 refine And.intro (fun hc6 => ?_) (fun hc6 => ?_)
 ·replace hM1 := ifP hM1 hc6
  obtain ⟨X7, hLX7, hM1⟩ := j0 hM1
  refine Exists.intro { vars := [4], boxes := [], owns := [], fuel := true } (Exists.intro (fun vs os h' => ∃ (u8 : Int), vs.tail = [.int .i64 u8] ∧ os = [] ∧ Sub k3 h' ∧ F0 u8 ∧ F5 u2 p0_2 (M1 vs) u8 = some X7) (Exists.intro (fun _ _ => 0) ?_))
  refine And.intro (Exists.intro S0 ⟨0, rfl, rfl, (Sub.refl _), (c64 (by decide) (by decide)), hLX7⟩) ?_
  rintro v_0 m10 k9 ⟨u8, evX7, eoX7, sX7, iu8, hM2⟩
  cases evX7
  cases eoX7
  replace hM2 : F5 u2 p0_2 m10 u8 = some X7 := hM2
  obtain _ | m10 := m10
  ·cases (show (none : Option _) = some X7 from hM2)
  rw [F5.eq_2] at hM2
  refine And.intro (fun hc11 => ?_) (fun hc11 => ?_)
  ·replace hM2 := ifP hM2 hc11
   obtain ⟨x12, gx12, hM2⟩ := j0 hM2
   obtain ⟨bx12, csx12, ex12, rx12⟩ := Sl.getI (r := Q0.toRp) (I0.mono (sX1.trans sX7) rp0_2) gx12 (by decide)
   refine And.intro bx12 ?_
   obtain ⟨x12_0, x12_1, x12_2, rfl, rfl, ix12_0, ix12_1, ix12_2⟩ := j1 rx12
   try dsimp only at hM2
   refine Exists.intro _ (And.intro ex12 ?_)
   obtain ⟨x13, gx13, hM2⟩ := j0 hM2
   obtain ⟨bx13, csx13, ex13, rx13⟩ := Sl.getI (r := Q0.toRp) (I0.mono (sX1.trans sX7) rp0_2) gx13 (by decide)
   refine And.intro bx13 ?_
   obtain ⟨x13_0, x13_1, x13_2, rfl, rfl, ix13_0, ix13_1, ix13_2⟩ := j1 rx13
   try dsimp only at hM2
   refine Exists.intro _ (And.intro ex13 ?_)
   refine And.intro (fun hc14 => ?_) (fun hc14 => ?_)
   ·replace hM2 := ifP hM2 hc14
    have hE := Option.some.inj hM2; subst hE
    try dsimp only [n3, B3] at hM1
    have hE := Option.some.inj hM1; subst hE
    try dsimp only [n3, B3] at hM0
    have hE := Option.some.inj hM0; subst hE
    exact And.intro rfl (sX1.trans sX7)
   ·replace hM2 := ifN hM2 hc14
    refine And.intro rfl (And.intro (by repeat (first | exact trivial | refine And.intro rfl ?_)) (And.intro (by repeat (first | exact trivial | refine And.intro rfl ?_)) (Exists.intro m10 (And.intro ⟨(IntKind.i64.wrap (u8 + 1)), rfl, rfl, sX7, (H0 _), hM2⟩ (Nat.lt_succ_self _)))))
  ·replace hM2 := ifN hM2 hc11
   have hE := Option.some.inj hM2; subst hE
   try dsimp only [T0, U0] at hM1
   refine And.intro rfl (And.intro (by repeat (first | exact trivial | refine And.intro rfl ?_)) (And.intro (by repeat (first | exact trivial | refine And.intro rfl ?_)) (Exists.intro m4 (And.intro ⟨(IntKind.i64.wrap (u2 + 1)), rfl, rfl, (sX1.trans sX7), (H0 _), hM1⟩ (Nat.lt_succ_self _)))))
 ·replace hM1 := ifN hM1 hc6
  have hE := Option.some.inj hM1; subst hE
  try dsimp only [T0, U0] at hM0
  obtain ⟨x18, gx18, hM0⟩ := j0 hM0
  refine Tr.val (l5 _ [.int .i64 p0_0, .int .i64 p0_1, .slice ap0_2 p0_2.length cp0_2] (p0_0, p0_1, p0_2) (z0 ip0_0 ip0_1 (I0.mono sX1 rp0_2)) _  gx18) ?_
  have hE := Option.some.inj hM0; subst hE
  exact And.intro rfl sX1
theorem r09 (h : Hp) (csp0 : List Value) (p0 : l0) (rp0 : Y0.R h csp0 p0) (p1 : Int) (ip1 : F0 p1) (ap2 : Option Addr) (np2 cp2 : Nat) (p2 : O0) (rp2 : I1.R h [.slice ap2 np2 cp2] p2) (r : Int × Bool) (hM0 : d9 p0 p1 p2 = some r) :
  Tr Tryz.prog 143 #[.agg csp0.toArray, .int .i64 p1, .slice ap2 np2 cp2] h fun v h' => v = .tuple #[.int .i64 r.1, .bool r.2] ∧ h' = h := by
 obtain ⟨p0_0, p0_1, ap0_2, np0_2, cp0_2, p0_2, rfl, rfl, ip0_0, ip0_1, rp0_2⟩ := B0 rp0
 obtain ⟨rfl, lp0_2⟩ := Sl.len rp0_2
 obtain ⟨rfl, lp2⟩ := Sl.len rp2
 unfold d9 at hM0
 dsimp only at hM0
 refine Tr.forget (U2 (args := [.agg #[.int .i64 p0_0, .int .i64 p0_1, .slice ap0_2 p0_2.length cp0_2], .int .i64 p1, .slice ap2 p2.length cp2]) (fn := Tryz.f143) rfl ?_)
 obtain ⟨x1, gx1, hM0⟩ := j0 hM0
 refine Tr.val (w9 _ [.int .i64 p0_0, .int .i64 p0_1, .slice ap0_2 p0_2.length cp0_2] (p0_0, p0_1, p0_2) (z0 ip0_0 ip0_1 rp0_2) _  gx1) ?_
 obtain ⟨x2, gx2, hM0⟩ := j0 hM0
 refine Exists.intro (.bool x2) (And.intro (fun q => K5 _ p1 ip1 0 (c64 (by decide) (by decide)) (IntKind.i64.wrap (p0_1 - 1)) (H0 _) _  (I2 gx2 q)) ?_)
 refine And.intro (fun hc3 => ?_) (fun hc3 => ?_)
 ·replace hM0 := ifP hM0 hc3
  have hE := Option.some.inj hM0; subst hE
  exact And.intro rfl (Sub.refl _)
 ·replace hM0 := ifN hM0 hc3
  obtain ⟨X4, hLX4, hM0⟩ := j0 hM0
  refine Exists.intro { vars := [1, 8], boxes := [], owns := [], fuel := true } (Exists.intro (fun vs os h' => ∃ (u5 : Int) (u6 : Int), vs.tail = [.int .i64 u5, .int .i64 u6] ∧ os = [] ∧ Sub h h' ∧ F0 u5 ∧ F0 u6 ∧ G5 p2 p0_0 p0_1 p0_2 (M1 vs) u5 u6 = some X4) (Exists.intro (fun _ _ => 0) ?_))
  refine And.intro (Exists.intro S0 ⟨p1, 0, rfl, rfl, (Sub.refl _), ip1, (c64 (by decide) (by decide)), hLX4⟩) ?_
  rintro v_0 v_1 m8 k7 ⟨u5, u6, evX4, eoX4, sX4, iu5, iu6, hM1⟩
  cases evX4
  cases eoX4
  replace hM1 : G5 p2 p0_0 p0_1 p0_2 m8 u5 u6 = some X4 := hM1
  obtain _ | m8 := m8
  ·cases (show (none : Option _) = some X4 from hM1)
  rw [G5.eq_2] at hM1
  refine And.intro (fun hc9 => ?_) (fun hc9 => ?_)
  ·replace hM1 := ifP hM1 hc9
   refine Or.inl (And.intro (And.intro (by kernel_rfl) (by kernel_rfl)) ?_)
   obtain ⟨x10, gx10, hM1⟩ := j0 hM1
   obtain ⟨bx10, csx10, ex10, rx10⟩ := Sl.getI (r := Wp.int.toRp) (I1.mono sX4 rp2) gx10 (by decide)
   refine And.intro bx10 ?_
   obtain ⟨rfl, ix10⟩ := rx10
   refine Exists.intro _ (And.intro ex10 ?_)
   obtain ⟨x11, gx11, hM1⟩ := j0 hM1
   refine Exists.intro (.int .i64 x11) (And.intro (U00 _ [.int .i64 p0_0, .int .i64 p0_1, .slice ap0_2 p0_2.length cp0_2] (p0_0, p0_1, p0_2) (z0 ip0_0 ip0_1 (I0.mono sX4 rp0_2)) u5 iu5 x10 ix10 _  gx11) ?_)
   obtain ⟨q12, gq12, hM1⟩ := j0 hM1
   have ix11 : F0 x11 := G2 gq12
   refine And.intro (fun hc13 => ?_) (fun hc13 => ?_)
   ·replace hM1 := ifP hM1 hc13
    have hE := Option.some.inj hM1; subst hE
    try dsimp only [n3, B3] at hM0
    have hE := Option.some.inj hM0; subst hE
    exact And.intro rfl sX4
   ·replace hM1 := ifN hM1 hc13
    refine And.intro rfl (And.intro (by repeat (first | exact trivial | refine And.intro rfl ?_)) (And.intro (by repeat (first | exact trivial | refine And.intro rfl ?_)) (Exists.intro m8 (And.intro ⟨x11, (IntKind.i64.wrap (u6 + 1)), rfl, rfl, sX4, ix11, (H0 _), hM1⟩ (Nat.lt_succ_self _)))))
  ·replace hM1 := ifN hM1 hc9
   have hE := Option.some.inj hM1; subst hE
   try dsimp only [T0, U0] at hM0
   have hE := Option.some.inj hM0; subst hE
   exact And.intro rfl sX4
theorem E08 (h : Hp) (csp0 : List Value) (p0 : l0) (rp0 : Y0.R h csp0 p0) (p1 : Int) (ip1 : F0 p1) (p2 : Int) (ip2 : F0 p2) (r : O0) (hM0 : M8 p0 p1 p2 = some r) :
  Tr Tryz.prog 209 #[.agg csp0.toArray, .int .i64 p1, .int .i64 p2] h fun v h' => ∃ (a0 : Option Addr) (n0 c0 : Nat), v = .slice a0 n0 c0 ∧ New I1 h h' [.slice a0 n0 c0] r := by
 obtain ⟨p0_0, p0_1, ap0_2, np0_2, cp0_2, p0_2, rfl, rfl, ip0_0, ip0_1, rp0_2⟩ := B0 rp0
 obtain ⟨rfl, lp0_2⟩ := Sl.len rp0_2
 unfold M8 at hM0
 dsimp only at hM0
 refine U2 (args := [.agg #[.int .i64 p0_0, .int .i64 p0_1, .slice ap0_2 p0_2.length cp0_2], .int .i64 p1, .int .i64 p2]) (fn := Tryz.f209) rfl ?_
 obtain ⟨X1, hLX1, hM0⟩ := j0 hM0
 refine Exists.intro { vars := [14], boxes := [], owns := [0], fuel := true } (Exists.intro (fun vs os h' => ∃ (u2 : Int) (wu3 : List (List Value)) (u3 : List Int), vs.tail = [.int .i64 u2] ∧ os = [wu3] ∧ Sub h h' ∧ F0 u2 ∧ F2 (Wp.int.R h') wu3 u3 ∧ W3 p0_2 p2 p1 (M1 vs) u2 u3 = some X1) (Exists.intro (fun _ _ => 0) ?_))
 refine And.intro (Exists.intro S0 ⟨0, [], ([] : O0), rfl, rfl, (Sub.refl _), (c64 (by decide) (by decide)), (show F2 (Wp.int.R h) ([] : List (List Value)) ([] : O0) from trivial), hLX1⟩) ?_
 rintro v_0 wu3 m5 k4 ⟨u2, zzu3, u3, evX1, eoX1, sX1, iu2, fu3, hM1⟩
 cases evX1
 cases eoX1
 replace hM1 : W3 p0_2 p2 p1 m5 u2 u3 = some X1 := hM1
 obtain _ | m5 := m5
 ·cases (show (none : Option _) = some X1 from hM1)
 rw [W3.eq_2] at hM1
 refine And.intro (fun hc6 => ?_) (fun hc6 => ?_)
 ·replace hM1 := ifP hM1 hc6
  obtain ⟨x7, gx7, hM1⟩ := j0 hM1
  obtain ⟨bx7, csx7, ex7, rx7⟩ := Sl.getI (r := Q0.toRp) (I0.mono sX1 rp0_2) gx7 (by decide)
  refine And.intro bx7 ?_
  obtain ⟨x7_0, x7_1, x7_2, rfl, rfl, ix7_0, ix7_1, ix7_2⟩ := j1 rx7
  try dsimp only at hM1
  refine Exists.intro _ (And.intro ex7 ?_)
  refine And.intro (fun hc8 => ?_) (fun hc8 => ?_)
  ·replace hM1 := ifP hM1 hc8
   obtain ⟨q9, gq9, hM1⟩ := j0 hM1
   refine And.intro (E2 gq9 (by first | rw [F2.length fu3, F2.length (show F2 (Wp.int.R k4) ([[.int .i64 x7_2]] : List (List Value)) [x7_2] from ⟨⟨rfl, ix7_2⟩, trivial⟩)] | exact congrArg (· + 1) (F2.length fu3))) ?_
   refine And.intro rfl (And.intro (by repeat (first | exact trivial | refine And.intro rfl ?_)) (And.intro (by repeat (first | exact trivial | refine And.intro rfl ?_)) (Exists.intro m5 (And.intro ⟨(IntKind.i64.wrap (u2 + 1)), (wu3 ++ ([[.int .i64 x7_2]] : List (List Value))), (u3 ++ [x7_2]), rfl, rfl, sX1, (H0 _), (F2.append fu3 (show F2 (Wp.int.R k4) ([[.int .i64 x7_2]] : List (List Value)) [x7_2] from ⟨⟨rfl, ix7_2⟩, trivial⟩)), hM1⟩ (Nat.lt_succ_self _)))))
  ·replace hM1 := ifN hM1 hc8
   refine And.intro (fun hc10 => ?_) (fun hc10 => ?_)
   ·replace hM1 := ifP hM1 hc10
    obtain ⟨q11, gq11, hM1⟩ := j0 hM1
    refine And.intro (E2 gq11 (by first | rw [F2.length fu3, F2.length (show F2 (Wp.int.R k4) ([[.int .i64 x7_0]] : List (List Value)) [x7_0] from ⟨⟨rfl, ix7_0⟩, trivial⟩)] | exact congrArg (· + 1) (F2.length fu3))) ?_
    refine And.intro rfl (And.intro (by repeat (first | exact trivial | refine And.intro rfl ?_)) (And.intro (by repeat (first | exact trivial | refine And.intro rfl ?_)) (Exists.intro m5 (And.intro ⟨(IntKind.i64.wrap (u2 + 1)), (wu3 ++ ([[.int .i64 x7_0]] : List (List Value))), (u3 ++ [x7_0]), rfl, rfl, sX1, (H0 _), (F2.append fu3 (show F2 (Wp.int.R k4) ([[.int .i64 x7_0]] : List (List Value)) [x7_0] from ⟨⟨rfl, ix7_0⟩, trivial⟩)), hM1⟩ (Nat.lt_succ_self _)))))
   ·replace hM1 := ifN hM1 hc10
    refine And.intro rfl (And.intro (by repeat (first | exact trivial | refine And.intro rfl ?_)) (And.intro (by repeat (first | exact trivial | refine And.intro rfl ?_)) (Exists.intro m5 (And.intro ⟨(IntKind.i64.wrap (u2 + 1)), wu3, u3, rfl, rfl, sX1, (H0 _), fu3, hM1⟩ (Nat.lt_succ_self _)))))
 ·replace hM1 := ifN hM1 hc6
  have hE := Option.some.inj hM1; subst hE
  try dsimp only [T0, U0] at hM0
  refine Or.inl ?_
  intro v12 k13 f14
  obtain ⟨q15, gq15, hM0⟩ := j0 hM0
  refine Tr.mono (g0g _ f14 fu3 (G2 gq15)) ?_
  rintro _ kz16 ⟨rfl, vsz16, fz16, qz16⟩
  obtain ⟨az16, cz16, rfl, rz16, sz16, lz16⟩ := Z0.out (r := Wp.int.toRp) fz16 qz16
  refine Tr.mono (i0g _ fz16 qz16) ?_
  rintro _ kz17 ⟨vsz17, fz17, qz17⟩
  obtain ⟨az17, cz17, rfl, rz17, sz17, lz17⟩ := Z0.out (r := Wp.int.toRp) fz17 qz17
  have hE := Option.some.inj hM0; subst hE
  exact ⟨az17, ((Z00 eqI (q03 D7 u3))).length, cz17, rfl, (New.from (Z0.newPlain (r := Wp.int) fz17 qz17 (J0g _)) sX1)⟩
theorem V00 (h : Hp) (csp0 : List Value) (p0 : l0) (rp0 : Y0.R h csp0 p0) (p1 : Int) (ip1 : F0 p1) (p2 : Int) (ip2 : F0 p2) (r : Int) (hM0 : C6 p0 p1 p2 = some r) :
  Tr Tryz.prog 157 #[.agg csp0.toArray, .int .i64 p1, .int .i64 p2] h fun v h' => v = .int .i64 r ∧ h' = h := by
 obtain ⟨p0_0, p0_1, ap0_2, np0_2, cp0_2, p0_2, rfl, rfl, ip0_0, ip0_1, rp0_2⟩ := B0 rp0
 obtain ⟨rfl, lp0_2⟩ := Sl.len rp0_2
 unfold C6 at hM0
 dsimp only at hM0
 refine Tr.forget (U2 (args := [.agg #[.int .i64 p0_0, .int .i64 p0_1, .slice ap0_2 p0_2.length cp0_2], .int .i64 p1, .int .i64 p2]) (fn := Tryz.f157) rfl ?_)
 obtain ⟨x1, gx1, hM0⟩ := j0 hM0
 refine Tr.mono (E08 _ [.int .i64 p0_0, .int .i64 p0_1, .slice ap0_2 p0_2.length cp0_2] (p0_0, p0_1, p0_2) (z0 ip0_0 ip0_1 rp0_2) p1 ip1 p2 ip2 _  gx1) ?_
 rintro v3 k2 ⟨ax1, nx1, cx1, rfl, wx1⟩
 have sx1 : Sub h k2 := wx1.sub
 have rx1 := wx1.r
 obtain ⟨rfl, lx1⟩ := Sl.len rx1
 refine And.intro (fun hc4 => ?_) (fun hc4 => ?_)
 ·replace hM0 := ifP hM0 hc4
  have hE := Option.some.inj hM0; subst hE
  exact And.intro rfl sx1
 ·replace hM0 := ifN hM0 hc4
  obtain ⟨x5, gx5, hM0⟩ := j0 hM0
  obtain ⟨bx5, csx5, ex5, rx5⟩ := Sl.getI (r := Wp.int.toRp) rx1 gx5 (by decide)
  refine And.intro bx5 ?_
  obtain ⟨rfl, ix5⟩ := rx5
  refine Exists.intro _ (And.intro ex5 ?_)
  have hE := Option.some.inj hM0; subst hE
  exact And.intro rfl sx1
theorem z9 (h : Hp) (csp0 : List Value) (p0 : l0) (rp0 : Y0.R h csp0 p0) (r : Bool) (hM0 : S5 p0 = some r) :
  Tr Tryz.prog 96 #[.agg csp0.toArray] h fun v h' => v = .bool r ∧ h' = h := by
 obtain ⟨p0_0, p0_1, ap0_2, np0_2, cp0_2, p0_2, rfl, rfl, ip0_0, ip0_1, rp0_2⟩ := B0 rp0
 obtain ⟨rfl, lp0_2⟩ := Sl.len rp0_2
 unfold S5 at hM0
 dsimp only at hM0
 refine Tr.forget (U2 (args := [.agg #[.int .i64 p0_0, .int .i64 p0_1, .slice ap0_2 p0_2.length cp0_2]]) (fn := Tryz.f96) rfl ?_)
 obtain ⟨x1, gx1, hM0⟩ := j0 hM0
 refine Tr.val (o8 _ [.int .i64 p0_0, .int .i64 p0_1, .slice ap0_2 p0_2.length cp0_2] (p0_0, p0_1, p0_2) (z0 ip0_0 ip0_1 rp0_2) _  gx1) ?_
 refine And.intro (fun hc2 => ?_) (fun hc2 => ?_)
 ·replace hM0 := ifP hM0 hc2
  have hE := Option.some.inj hM0; subst hE
  exact And.intro rfl (Sub.refl _)
 ·replace hM0 := ifN hM0 hc2
  obtain ⟨X3, hLX3, hM0⟩ := j0 hM0
  refine Exists.intro { vars := [13], boxes := [], owns := [], fuel := true } (Exists.intro (fun vs os h' => ∃ (u4 : Int), vs.tail = [.int .i64 u4] ∧ os = [] ∧ Sub h h' ∧ F0 u4 ∧ I5 p0_2 (M1 vs) u4 = some X3) (Exists.intro (fun _ _ => 0) ?_))
  refine And.intro (Exists.intro S0 ⟨0, rfl, rfl, (Sub.refl _), (c64 (by decide) (by decide)), hLX3⟩) ?_
  rintro v_0 m6 k5 ⟨u4, evX3, eoX3, sX3, iu4, hM1⟩
  cases evX3
  cases eoX3
  replace hM1 : I5 p0_2 m6 u4 = some X3 := hM1
  obtain _ | m6 := m6
  ·cases (show (none : Option _) = some X3 from hM1)
  rw [I5.eq_2] at hM1
  refine And.intro (fun hc7 => ?_) (fun hc7 => ?_)
  ·replace hM1 := ifP hM1 hc7
   obtain ⟨x8, gx8, hM1⟩ := j0 hM1
   obtain ⟨bx8, csx8, ex8, rx8⟩ := Sl.getI (r := Q0.toRp) (I0.mono sX3 rp0_2) gx8 (by decide)
   refine And.intro bx8 ?_
   obtain ⟨x8_0, x8_1, x8_2, rfl, rfl, ix8_0, ix8_1, ix8_2⟩ := j1 rx8
   try dsimp only at hM1
   refine Exists.intro _ (And.intro ex8 ?_)
   obtain ⟨x9, gx9, hM1⟩ := j0 hM1
   obtain ⟨qx9, vsx9, ex9, fx9⟩ := Sl.cutI (r := Q0.toRp) (I0.mono sX3 rp0_2) gx9
   refine And.intro qx9 (Exists.intro vsx9 (And.intro ex9 ?_))
   intro vx9 hvx9 _
   obtain ⟨ax9, cx9, rfl, rx9⟩ := fx9 vx9 hvx9
   have lx9 := (Sl.len rx9).2
   obtain ⟨X10, hLX10, hM1⟩ := j0 hM1
   refine Exists.intro { vars := [24], boxes := [], owns := [], fuel := true } (Exists.intro (fun vs os h' => ∃ (u11 : Int), vs.tail = [.int .i64 u11] ∧ os = [] ∧ Sub k5 h' ∧ F0 u11 ∧ H5 x9 x8_1 x8_0 x8_2 (M1 vs) u11 = some X10) (Exists.intro (fun _ _ => 0) ?_))
   refine And.intro (Exists.intro S0 ⟨0, rfl, rfl, (Sub.refl _), (c64 (by decide) (by decide)), hLX10⟩) ?_
   rintro v_0 m13 k12 ⟨u11, evX10, eoX10, sX10, iu11, hM2⟩
   cases evX10
   cases eoX10
   replace hM2 : H5 x9 x8_1 x8_0 x8_2 m13 u11 = some X10 := hM2
   obtain _ | m13 := m13
   ·cases (show (none : Option _) = some X10 from hM2)
   rw [H5.eq_2] at hM2
   refine And.intro (fun hc14 => ?_) (fun hc14 => ?_)
   ·replace hM2 := ifP hM2 hc14
    obtain ⟨x15, gx15, hM2⟩ := j0 hM2
    obtain ⟨bx15, csx15, ex15, rx15⟩ := Sl.getI (r := Q0.toRp) (I0.mono sX10 rx9) gx15 (by decide)
    refine And.intro bx15 ?_
    obtain ⟨x15_0, x15_1, x15_2, rfl, rfl, ix15_0, ix15_1, ix15_2⟩ := j1 rx15
    try dsimp only at hM2
    refine Exists.intro _ (And.intro ex15 ?_)
    refine And.intro (fun hc16 => ?_) (fun hc16 => ?_)
    ·replace hM2 := ifP hM2 hc16
     have hE := Option.some.inj hM2; subst hE
     try dsimp only [n3, B3] at hM1
     have hE := Option.some.inj hM1; subst hE
     try dsimp only [n3, B3] at hM0
     have hE := Option.some.inj hM0; subst hE
     exact And.intro rfl (sX3.trans sX10)
    ·replace hM2 := ifN hM2 hc16
     refine And.intro rfl (And.intro (by repeat (first | exact trivial | refine And.intro rfl ?_)) (And.intro (by repeat (first | exact trivial | refine And.intro rfl ?_)) (Exists.intro m13 (And.intro ⟨(IntKind.i64.wrap (u11 + 1)), rfl, rfl, sX10, (H0 _), hM2⟩ (Nat.lt_succ_self _)))))
   ·replace hM2 := ifN hM2 hc14
    have hE := Option.some.inj hM2; subst hE
    try dsimp only [T0, U0] at hM1
    refine And.intro rfl (And.intro (by repeat (first | exact trivial | refine And.intro rfl ?_)) (And.intro (by repeat (first | exact trivial | refine And.intro rfl ?_)) (Exists.intro m6 (And.intro ⟨(IntKind.i64.wrap (u4 + 1)), rfl, rfl, (sX3.trans sX10), (H0 _), hM1⟩ (Nat.lt_succ_self _)))))
  ·replace hM1 := ifN hM1 hc7
   have hE := Option.some.inj hM1; subst hE
   try dsimp only [T0, U0] at hM0
   have hE := Option.some.inj hM0; subst hE
   exact And.intro rfl sX3
theorem L07 (h : Hp) (csp0 : List Value) (p0 : l0) (rp0 : Y0.R h csp0 p0) (p1 : Int) (ip1 : F0 p1) (ap2 : Option Addr) (np2 cp2 : Nat) (p2 : O0) (rp2 : I1.R h [.slice ap2 np2 cp2] p2) (r : Int × Int) (hM0 : B8 p0 p1 p2 = some r) :
  Tr Tryz.prog 152 #[.agg csp0.toArray, .int .i64 p1, .slice ap2 np2 cp2] h fun v h' => v = .tuple #[.int .i64 r.1, .int .i64 r.2] ∧ h' = h := by
 obtain ⟨p0_0, p0_1, ap0_2, np0_2, cp0_2, p0_2, rfl, rfl, ip0_0, ip0_1, rp0_2⟩ := B0 rp0
 obtain ⟨rfl, lp0_2⟩ := Sl.len rp0_2
 obtain ⟨rfl, lp2⟩ := Sl.len rp2
 unfold B8 at hM0
 dsimp only at hM0
 refine Tr.forget (U2 (args := [.agg #[.int .i64 p0_0, .int .i64 p0_1, .slice ap0_2 p0_2.length cp0_2], .int .i64 p1, .slice ap2 p2.length cp2]) (fn := Tryz.f152) rfl ?_)
 obtain ⟨X1, hLX1, hM0⟩ := j0 hM0
 refine Exists.intro { vars := [1, 13], boxes := [], owns := [], fuel := true } (Exists.intro (fun vs os h' => ∃ (u2 : Int) (u3 : Int), vs.tail = [.int .i64 u2, .int .i64 u3] ∧ os = [] ∧ Sub h h' ∧ F0 u2 ∧ F0 u3 ∧ S4 p2 p0_0 p0_1 p0_2 (M1 vs) u2 u3 = some X1) (Exists.intro (fun _ _ => 0) ?_))
 refine And.intro (Exists.intro S0 ⟨p1, 0, rfl, rfl, (Sub.refl _), ip1, (c64 (by decide) (by decide)), hLX1⟩) ?_
 rintro v_0 v_1 m5 k4 ⟨u2, u3, evX1, eoX1, sX1, iu2, iu3, hM1⟩
 cases evX1
 cases eoX1
 replace hM1 : S4 p2 p0_0 p0_1 p0_2 m5 u2 u3 = some X1 := hM1
 obtain _ | m5 := m5
 ·cases (show (none : Option _) = some X1 from hM1)
 rw [S4.eq_2] at hM1
 refine And.intro (fun hc6 => ?_) (fun hc6 => ?_)
 ·replace hM1 := ifP hM1 hc6
  obtain ⟨x7, gx7, hM1⟩ := j0 hM1
  obtain ⟨bx7, csx7, ex7, rx7⟩ := Sl.getI (r := Wp.int.toRp) (I1.mono sX1 rp2) gx7 (by decide)
  refine And.intro bx7 ?_
  obtain ⟨rfl, ix7⟩ := rx7
  refine Exists.intro _ (And.intro ex7 ?_)
  obtain ⟨x8, gx8, hM1⟩ := j0 hM1
  refine Tr.val (V00 _ [.int .i64 p0_0, .int .i64 p0_1, .slice ap0_2 p0_2.length cp0_2] (p0_0, p0_1, p0_2) (z0 ip0_0 ip0_1 (I0.mono sX1 rp0_2)) u2 iu2 x7 ix7 _  gx8) ?_
  obtain ⟨q9, gq9, hM1⟩ := j0 hM1
  have ix8 : F0 x8 := G2 gq9
  refine And.intro (fun hc10 => ?_) (fun hc10 => ?_)
  ·replace hM1 := ifP hM1 hc10
   have hE := Option.some.inj hM1; subst hE
   try dsimp only [n3, B3] at hM0
   have hE := Option.some.inj hM0; subst hE
   exact And.intro rfl sX1
  ·replace hM1 := ifN hM1 hc10
   refine And.intro rfl (And.intro (by repeat (first | exact trivial | refine And.intro rfl ?_)) (And.intro (by repeat (first | exact trivial | refine And.intro rfl ?_)) (Exists.intro m5 (And.intro ⟨x8, (IntKind.i64.wrap (u3 + 1)), rfl, rfl, sX1, ix8, (H0 _), hM1⟩ (Nat.lt_succ_self _)))))
 ·replace hM1 := ifN hM1 hc6
  have hE := Option.some.inj hM1; subst hE
  try dsimp only [T0, U0] at hM0
  have hE := Option.some.inj hM0; subst hE
  exact And.intro rfl sX1
end Go.Proofs.YtfdlgbfeceodeaaGreat
namespace Go.Proofs.YtfdlgbfeceodeaaGreat
open Go.H
set_option linter.unusedVariables false
set_option linter.unusedSimpArgs false
set_option maxRecDepth 10000
theorem x06 (h : Hp) (csp0 : List Value) (p0 : C0) (rp0 : D1.R h csp0 p0) (csp1 : List Value) (p1 : l0) (rp1 : Y0.R h csp1 p1) (r : Int × Int) (hM0 : c7 p0 p1 = some r) :
  Tr Tryz.prog 89 #[.agg csp0.toArray, .agg csp1.toArray] h fun v h' => v = .tuple #[.int .i64 r.1, .int .i64 r.2] ∧ h' = h := by
 obtain ⟨p0_0, ap0_1, np0_1, cp0_1, p0_1, rfl, rfl, ip0_0, rp0_1⟩ := J1 rp0
 obtain ⟨rfl, lp0_1⟩ := Sl.len rp0_1
 obtain ⟨p1_0, p1_1, ap1_2, np1_2, cp1_2, p1_2, rfl, rfl, ip1_0, ip1_1, rp1_2⟩ := B0 rp1
 obtain ⟨rfl, lp1_2⟩ := Sl.len rp1_2
 unfold c7 at hM0
 dsimp only at hM0
 refine Tr.forget (U2 (args := [.agg #[.int .i64 p0_0, .slice ap0_1 p0_1.length cp0_1], .agg #[.int .i64 p1_0, .int .i64 p1_1, .slice ap1_2 p1_2.length cp1_2]]) (fn := Tryz.f89) rfl ?_)
 obtain ⟨X1, hLX1, hM0⟩ := j0 hM0
 refine Exists.intro { vars := [6], boxes := [], owns := [], fuel := true } (Exists.intro (fun vs os h' => ∃ (u2 : Int), vs.tail = [.int .i64 u2] ∧ os = [] ∧ Sub h h' ∧ F0 u2 ∧ D3 p1_1 p0_0 p0_1 p1_0 p1_2 (M1 vs) u2 = some X1) (Exists.intro (fun _ _ => 0) ?_))
 refine And.intro (Exists.intro S0 ⟨0, rfl, rfl, (Sub.refl _), (c64 (by decide) (by decide)), hLX1⟩) ?_
 rintro v_0 m4 k3 ⟨u2, evX1, eoX1, sX1, iu2, hM1⟩
 cases evX1
 cases eoX1
 replace hM1 : D3 p1_1 p0_0 p0_1 p1_0 p1_2 m4 u2 = some X1 := hM1
 obtain _ | m4 := m4
 ·cases (show (none : Option _) = some X1 from hM1)
 rw [D3.eq_2] at hM1
 obtain ⟨x5, gx5, hM1⟩ := j0 hM1
 refine Exists.intro (.bool x5) (And.intro (fun q => J9 _ [.int .i64 p0_0, .slice ap0_1 p0_1.length cp0_1] (p0_0, p0_1) (L1 ip0_0 (P4.mono sX1 rp0_1)) _  (I2 gx5 q)) ?_)
 obtain ⟨x6, gx6, hM1⟩ := j0 hM1
 refine Exists.intro (.bool x6) (And.intro (fun q => w9 _ [.int .i64 p1_0, .int .i64 p1_1, .slice ap1_2 p1_2.length cp1_2] (p1_0, p1_1, p1_2) (z0 ip1_0 ip1_1 (I0.mono sX1 rp1_2)) _  (I2 gx6 q)) ?_)
 refine And.intro (fun hc7 => ?_) (fun hc7 => ?_)
 ·replace hM1 := ifP hM1 hc7
  obtain ⟨X8, hLX8, hM1⟩ := j0 hM1
  refine Exists.intro { vars := [7], boxes := [], owns := [], fuel := true } (Exists.intro (fun vs os h' => ∃ (u9 : Int), vs.tail = [.int .i64 u9] ∧ os = [] ∧ Sub k3 h' ∧ F0 u9 ∧ I4 p0_1 p1_0 p1_1 p1_2 u2 (M1 vs) u9 = some X8) (Exists.intro (fun _ _ => 0) ?_))
  refine And.intro (Exists.intro S0 ⟨0, rfl, rfl, (Sub.refl _), (c64 (by decide) (by decide)), hLX8⟩) ?_
  rintro v_0 m11 k10 ⟨u9, evX8, eoX8, sX8, iu9, hM2⟩
  cases evX8
  cases eoX8
  replace hM2 : I4 p0_1 p1_0 p1_1 p1_2 u2 m11 u9 = some X8 := hM2
  obtain _ | m11 := m11
  ·cases (show (none : Option _) = some X8 from hM2)
  rw [I4.eq_2] at hM2
  refine And.intro (fun hc12 => ?_) (fun hc12 => ?_)
  ·replace hM2 := ifP hM2 hc12
   refine Or.inr (Or.inr (Or.inr (Or.inl (And.intro (And.intro (by kernel_rfl) (by kernel_rfl)) ?_))))
   obtain ⟨x13, gx13, hM2⟩ := j0 hM2
   obtain ⟨bx13, csx13, ex13, rx13⟩ := Sl.getI (r := I1.toRp) (P4.mono (sX1.trans sX8) rp0_1) gx13 (by decide)
   obtain ⟨ax13, nx13, cx13, rfl⟩ := Wp.slice_cell rx13
   obtain ⟨rfl, lx13⟩ := Sl.len rx13
   refine Or.inl (Exists.intro (.hel (.slice ap0_1 p0_1.length cp0_1) u9 1 0) (And.intro ?_ ?_))
   ·intro k14 s15
    exact And.intro bx13 (And.intro rfl (And.intro rfl rfl))
   refine Or.inl (Exists.intro (.val (.slice ax13 x13.length cx13)) (And.intro ?_ ?_))
   ·intro k16 s17
    exact Exists.intro _ (And.intro (V6.up s17 ex13) (And.intro rfl (And.intro rfl rfl)))
   obtain ⟨x18, gx18, hM2⟩ := j0 hM2
   obtain ⟨x18_0, x18_1⟩ := x18
   try dsimp only at hM2
   obtain ⟨q19, gq19, hM2⟩ := j0 hM2
   have ix18_0 : F0 x18_0 := G2 gq19
   refine Or.inl (Exists.intro (.val (.tuple #[.int .i64 x18_0, .bool x18_1])) (And.intro ?_ ?_))
   ·intro k20 s21
    exact Tr.val (r09 _ [.int .i64 p1_0, .int .i64 p1_1, .slice ap1_2 p1_2.length cp1_2] (p1_0, p1_1, p1_2) (z0 ip1_0 ip1_1 (I0.mono ((sX1.trans sX8).trans s21) rp1_2)) u2 iu2 ax13 x13.length cx13 x13 (I1.mono s21 rx13) _ gx18) (And.intro rfl (And.intro rfl rfl))
   refine Or.inl (Exists.intro (.val (.int .i64 x18_0)) (And.intro ?_ ?_))
   ·intro k22 s23
    exact And.intro rfl (And.intro rfl rfl)
   refine Or.inl (Exists.intro (.val (.bool x18_1)) (And.intro ?_ ?_))
   ·intro k24 s25
    exact And.intro rfl (And.intro rfl rfl)
   intro k26 s27
   refine And.intro (fun hc28 => ?_) (fun hc28 => ?_)
   ·replace hM2 := ifP hM2 hc28
    have hE := Option.some.inj hM2; subst hE
    try dsimp only [n3, B3] at hM1
    have hE := Option.some.inj hM1; subst hE
    try dsimp only [n3, B3] at hM0
    have hE := Option.some.inj hM0; subst hE
    exact And.intro rfl ((sX1.trans sX8).trans s27)
   ·replace hM2 := ifN hM2 hc28
    refine And.intro rfl (And.intro (by repeat (first | exact trivial | refine And.intro rfl ?_)) (And.intro (by repeat (first | exact trivial | refine And.intro rfl ?_)) (Exists.intro m11 (And.intro ⟨(IntKind.i64.wrap (u9 + 1)), rfl, rfl, (sX8.trans s27), (H0 _), hM2⟩ (Nat.lt_succ_self _)))))
  ·replace hM2 := ifN hM2 hc12
   have hE := Option.some.inj hM2; subst hE
   try dsimp only [T0, U0] at hM1
   refine And.intro rfl (And.intro (by repeat (first | exact trivial | refine And.intro rfl ?_)) (And.intro (by repeat (first | exact trivial | refine And.intro rfl ?_)) (Exists.intro m4 (And.intro ⟨(IntKind.i64.wrap (u2 + 1)), rfl, rfl, (sX1.trans sX8), (H0 _), hM1⟩ (Nat.lt_succ_self _)))))
 ·replace hM1 := ifN hM1 hc7
  have hE := Option.some.inj hM1; subst hE
  try dsimp only [T0, U0] at hM0
  have hE := Option.some.inj hM0; subst hE
  exact And.intro rfl sX1
theorem y06 (h : Hp) (csp0 : List Value) (p0 : C0) (rp0 : D1.R h csp0 p0) (csp1 : List Value) (p1 : l0) (rp1 : Y0.R h csp1 p1) (r : Int × Int) (hM0 : d7 p0 p1 = some r) :
  Tr Tryz.prog 97 #[.agg csp0.toArray, .agg csp1.toArray] h fun v h' => v = .tuple #[.int .i64 r.1, .int .i64 r.2] ∧ h' = h := by
 obtain ⟨p0_0, ap0_1, np0_1, cp0_1, p0_1, rfl, rfl, ip0_0, rp0_1⟩ := J1 rp0
 obtain ⟨rfl, lp0_1⟩ := Sl.len rp0_1
 obtain ⟨p1_0, p1_1, ap1_2, np1_2, cp1_2, p1_2, rfl, rfl, ip1_0, ip1_1, rp1_2⟩ := B0 rp1
 obtain ⟨rfl, lp1_2⟩ := Sl.len rp1_2
 unfold d7 at hM0
 dsimp only at hM0
 refine Tr.forget (U2 (args := [.agg #[.int .i64 p0_0, .slice ap0_1 p0_1.length cp0_1], .agg #[.int .i64 p1_0, .int .i64 p1_1, .slice ap1_2 p1_2.length cp1_2]]) (fn := Tryz.f97) rfl ?_)
 obtain ⟨x1, gx1, hM0⟩ := j0 hM0
 refine Tr.val (K9 _ [.int .i64 p0_0, .slice ap0_1 p0_1.length cp0_1] (p0_0, p0_1) (L1 ip0_0 rp0_1) _  gx1) ?_
 obtain ⟨x2, gx2, hM0⟩ := j0 hM0
 refine Exists.intro (.bool x2) (And.intro (fun q => z9 _ [.int .i64 p1_0, .int .i64 p1_1, .slice ap1_2 p1_2.length cp1_2] (p1_0, p1_1, p1_2) (z0 ip1_0 ip1_1 rp1_2) _  (I2 gx2 q)) ?_)
 refine And.intro (fun hc3 => ?_) (fun hc3 => ?_)
 ·replace hM0 := ifP hM0 hc3
  have hE := Option.some.inj hM0; subst hE
  exact And.intro rfl (Sub.refl _)
 ·replace hM0 := ifN hM0 hc3
  obtain ⟨X4, hLX4, hM0⟩ := j0 hM0
  refine Exists.intro { vars := [6], boxes := [], owns := [], fuel := true } (Exists.intro (fun vs os h' => ∃ (u5 : Int), vs.tail = [.int .i64 u5] ∧ os = [] ∧ Sub h h' ∧ F0 u5 ∧ K4 p1_1 p0_1 p1_0 p1_2 (M1 vs) u5 = some X4) (Exists.intro (fun _ _ => 0) ?_))
  refine And.intro (Exists.intro S0 ⟨0, rfl, rfl, (Sub.refl _), (c64 (by decide) (by decide)), hLX4⟩) ?_
  rintro v_0 m7 k6 ⟨u5, evX4, eoX4, sX4, iu5, hM1⟩
  cases evX4
  cases eoX4
  replace hM1 : K4 p1_1 p0_1 p1_0 p1_2 m7 u5 = some X4 := hM1
  obtain _ | m7 := m7
  ·cases (show (none : Option _) = some X4 from hM1)
  rw [K4.eq_2] at hM1
  refine And.intro (fun hc8 => ?_) (fun hc8 => ?_)
  ·replace hM1 := ifP hM1 hc8
   obtain ⟨X9, hLX9, hM1⟩ := j0 hM1
   refine Exists.intro { vars := [35], boxes := [], owns := [], fuel := true } (Exists.intro (fun vs os h' => ∃ (u10 : Int), vs.tail = [.int .i64 u10] ∧ os = [] ∧ Sub k6 h' ∧ F0 u10 ∧ J4 p0_1 p1_0 p1_1 p1_2 u5 (M1 vs) u10 = some X9) (Exists.intro (fun _ _ => 0) ?_))
   refine And.intro (Exists.intro S0 ⟨0, rfl, rfl, (Sub.refl _), (c64 (by decide) (by decide)), hLX9⟩) ?_
   rintro v_0 m12 k11 ⟨u10, evX9, eoX9, sX9, iu10, hM2⟩
   cases evX9
   cases eoX9
   replace hM2 : J4 p0_1 p1_0 p1_1 p1_2 u5 m12 u10 = some X9 := hM2
   obtain _ | m12 := m12
   ·cases (show (none : Option _) = some X9 from hM2)
   rw [J4.eq_2] at hM2
   refine And.intro (fun hc13 => ?_) (fun hc13 => ?_)
   ·replace hM2 := ifP hM2 hc13
    obtain ⟨x14, gx14, hM2⟩ := j0 hM2
    obtain ⟨bx14, csx14, ex14, rx14⟩ := Sl.getI (r := I1.toRp) (P4.mono (sX4.trans sX9) rp0_1) gx14 (by decide)
    refine And.intro bx14 ?_
    obtain ⟨ax14, nx14, cx14, rfl⟩ := Wp.slice_cell rx14
    obtain ⟨rfl, lx14⟩ := Sl.len rx14
    refine Exists.intro _ (And.intro ex14 ?_)
    obtain ⟨x15, gx15, hM2⟩ := j0 hM2
    obtain ⟨x15_0, x15_1⟩ := x15
    try dsimp only at hM2
    refine Tr.val (L07 _ [.int .i64 p1_0, .int .i64 p1_1, .slice ap1_2 p1_2.length cp1_2] (p1_0, p1_1, p1_2) (z0 ip1_0 ip1_1 (I0.mono (sX4.trans sX9) rp1_2)) u5 iu5 ax14 x14.length cx14 x14 rx14 _  gx15) ?_
    obtain ⟨q16, gq16, hM2⟩ := j0 hM2
    have ix15_0 : F0 x15_0 := G2 gq16
    obtain ⟨q17, gq17, hM2⟩ := j0 hM2
    have ix15_1 : F0 x15_1 := G2 gq17
    refine And.intro (fun hc18 => ?_) (fun hc18 => ?_)
    ·replace hM2 := ifP hM2 hc18
     have hE := Option.some.inj hM2; subst hE
     try dsimp only [n3, B3] at hM1
     have hE := Option.some.inj hM1; subst hE
     try dsimp only [n3, B3] at hM0
     have hE := Option.some.inj hM0; subst hE
     exact And.intro rfl (sX4.trans sX9)
    ·replace hM2 := ifN hM2 hc18
     refine And.intro rfl (And.intro (by repeat (first | exact trivial | refine And.intro rfl ?_)) (And.intro (by repeat (first | exact trivial | refine And.intro rfl ?_)) (Exists.intro m12 (And.intro ⟨(IntKind.i64.wrap (u10 + 1)), rfl, rfl, sX9, (H0 _), hM2⟩ (Nat.lt_succ_self _)))))
   ·replace hM2 := ifN hM2 hc13
    have hE := Option.some.inj hM2; subst hE
    try dsimp only [T0, U0] at hM1
    refine And.intro rfl (And.intro (by repeat (first | exact trivial | refine And.intro rfl ?_)) (And.intro (by repeat (first | exact trivial | refine And.intro rfl ?_)) (Exists.intro m7 (And.intro ⟨(IntKind.i64.wrap (u5 + 1)), rfl, rfl, (sX4.trans sX9), (H0 _), hM1⟩ (Nat.lt_succ_self _)))))
  ·replace hM1 := ifN hM1 hc8
   have hE := Option.some.inj hM1; subst hE
   try dsimp only [T0, U0] at hM0
   have hE := Option.some.inj hM0; subst hE
   exact And.intro rfl sX4
end Go.Proofs.YtfdlgbfeceodeaaGreat
namespace Go.Proofs.YtfdlgbfeceodeaaGreat
open Go.H
set_option linter.unusedVariables false
set_option linter.unusedSimpArgs false
set_option maxRecDepth 10000
theorem P3 (h : Hp) (csp0 : List Value) (p0 : l0) (rp0 : Y0.R h csp0 p0) (r : l0) (hM0 : L2 p0 = some r) :
  Tr Tryz.prog 68 #[.agg csp0.toArray] h fun v h' => ∃ (cs0 : List Value), v = .agg cs0.toArray ∧ Y0.R h' cs0 r ∧ Sub h h' := by
 obtain ⟨p0_0, p0_1, ap0_2, np0_2, cp0_2, p0_2, rfl, rfl, ip0_0, ip0_1, rp0_2⟩ := B0 rp0
 obtain ⟨rfl, lp0_2⟩ := Sl.len rp0_2
 unfold L2 at hM0
 dsimp only at hM0
 refine U2 (args := [.agg #[.int .i64 p0_0, .int .i64 p0_1, .slice ap0_2 p0_2.length cp0_2]]) (fn := Tryz.f68) rfl ?_
 refine Or.inr (Or.inr (Or.inl (And.intro (And.intro (by kernel_rfl) (by kernel_rfl)) ?_)))
 refine Or.inr ?_
 refine Or.inr ?_
 refine Or.inr ?_
 refine Or.inr ?_
 refine Exists.intro 0 (And.intro (And.intro rfl rfl) ?_)
 refine And.intro trivial (And.intro (by first | exact trivial | exact rfl) ?_)
 obtain ⟨vsy1, ey1, fy1⟩ := Sl.rows (r := Q0.toRp) rp0_2
 refine Exists.intro vsy1 (And.intro ey1 ?_)
 obtain ⟨q2, gq2, hM0⟩ := j0 hM0
 refine And.intro (E2 gq2 (by first | rw [F2.length (show F2 (Q0.R h) ([] : List (List Value)) ([] : J0) from trivial), F2.length fy1] | exact congrArg (· + 1) (F2.length (show F2 (Q0.R h) ([] : List (List Value)) ([] : J0) from trivial)))) ?_
 refine And.intro trivial (And.intro (by first | exact trivial | exact rfl) ?_)
 refine And.intro trivial (And.intro (by first | exact trivial | exact rfl) ?_)
 refine And.intro trivial (And.intro (by first | exact trivial | exact rfl) ?_)
 intro v3 k4 f5
 obtain ⟨az6, cz6, rfl, rz6, sz6, lz6⟩ := Z0.out (r := Q0.toRp) f5 (F2.append (show F2 (Q0.R h) ([] : List (List Value)) ([] : J0) from trivial) fy1)
 have hE := Option.some.inj hM0; subst hE
 exact ⟨([.int .i64 p0_0, .int .i64 p0_1, .slice az6 ((([] : J0) ++ p0_2)).length cz6]), rfl, (z0 ip0_0 ip0_1 rz6), sz6⟩
theorem a9 (h : Hp) (ap0 : Option Addr) (np0 cp0 : Nat) (p0 : J0) (rp0 : I0.R h [.slice ap0 np0 cp0] p0) (csp1 : List Value) (p1 : D0) (rp1 : Q0.R h csp1 p1) (r : J0) (hM0 : D6 p0 p1 = some r) :
  Tr Tryz.prog 144 #[.slice ap0 np0 cp0, .agg csp1.toArray] h fun v h' => ∃ (a0 : Option Addr) (n0 c0 : Nat), v = .slice a0 n0 c0 ∧ I0.R h' [.slice a0 n0 c0] r ∧ Sub h h' := by
 obtain ⟨rfl, lp0⟩ := Sl.len rp0
 obtain ⟨p1_0, p1_1, p1_2, rfl, rfl, ip1_0, ip1_1, ip1_2⟩ := j1 rp1
 unfold D6 at hM0
 dsimp only at hM0
 refine U2 (args := [.slice ap0 p0.length cp0, .agg #[.int .i64 p1_0, .int .i64 p1_1, .int .i64 p1_2]]) (fn := Tryz.f144) rfl ?_
 obtain ⟨X1, hLX1, hM0⟩ := j0 hM0
 refine Exists.intro { vars := [6, 7], boxes := [], owns := [0], fuel := true } (Exists.intro (fun vs os h' => ∃ (u2 : Bool) (u3 : Int) (wu4 : List (List Value)) (u4 : List D0), vs.tail = [.bool u2, .int .i64 u3] ∧ os = [wu4] ∧ Sub h h' ∧ F0 u3 ∧ F2 (Q0.R h') wu4 u4 ∧ S3 p0 p1_0 p1_1 p1_2 (M1 vs) u2 u3 u4 = some X1) (Exists.intro (fun _ _ => 0) ?_))
 refine And.intro (Exists.intro S0 ⟨false, 0, [], ([] : J0), rfl, rfl, (Sub.refl _), (c64 (by decide) (by decide)), (show F2 (Q0.R h) ([] : List (List Value)) ([] : J0) from trivial), hLX1⟩) ?_
 rintro v_0 v_1 wu4 m6 k5 ⟨u2, u3, zzu4, u4, evX1, eoX1, sX1, iu3, fu4, hM1⟩
 cases evX1
 cases eoX1
 replace hM1 : S3 p0 p1_0 p1_1 p1_2 m6 u2 u3 u4 = some X1 := hM1
 obtain _ | m6 := m6
 ·cases (show (none : Option _) = some X1 from hM1)
 rw [S3.eq_2] at hM1
 refine And.intro (fun hc7 => ?_) (fun hc7 => ?_)
 ·replace hM1 := ifP hM1 hc7
  refine Or.inl (And.intro (And.intro (by kernel_rfl) (by kernel_rfl)) ?_)
  obtain ⟨x8, gx8, hM1⟩ := j0 hM1
  obtain ⟨bx8, csx8, ex8, rx8⟩ := Sl.getI (r := Q0.toRp) (I0.mono sX1 rp0) gx8 (by decide)
  refine And.intro bx8 ?_
  obtain ⟨x8_0, x8_1, x8_2, rfl, rfl, ix8_0, ix8_1, ix8_2⟩ := j1 rx8
  try dsimp only at hM1
  refine Exists.intro _ (And.intro ex8 ?_)
  obtain ⟨x9, gx9, hM1⟩ := j0 hM1
  refine Exists.intro (.int .i64 x9) (And.intro (J01 _ [.int .i64 p1_0, .int .i64 p1_1, .int .i64 p1_2] (p1_0, p1_1, p1_2) (V0 ip1_0 ip1_1 ip1_2) [.int .i64 x8_0, .int .i64 x8_1, .int .i64 x8_2] (x8_0, x8_1, x8_2) (V0 ix8_0 ix8_1 ix8_2) _  gx9) ?_)
  obtain ⟨q10, gq10, hM1⟩ := j0 hM1
  have ix9 : F0 x9 := G2 gq10
  refine And.intro (fun hc11 => ?_) (fun hc11 => ?_)
  ·replace hM1 := ifP hM1 hc11
   refine And.intro (fun hc12 => ?_) (fun hc12 => ?_)
   ·replace hM1 := ifP hM1 hc12
    obtain ⟨q13, gq13, hM1⟩ := j0 hM1
    refine And.intro (E2 gq13 (by first | rw [F2.length fu4, F2.length (show F2 (Q0.R k5) ([[.int .i64 p1_0, .int .i64 p1_1, .int .i64 p1_2]] : List (List Value)) [(p1_0, p1_1, p1_2)] from ⟨(V0 ip1_0 ip1_1 ip1_2), trivial⟩)] | exact congrArg (· + 1) (F2.length fu4))) ?_
    obtain ⟨x14, gx14, hM1⟩ := j0 hM1
    obtain ⟨bx14, csx14, ex14, rx14⟩ := Sl.getI (r := Q0.toRp) (I0.mono sX1 rp0) gx14 (by decide)
    refine And.intro bx14 ?_
    obtain ⟨x14_0, x14_1, x14_2, rfl, rfl, ix14_0, ix14_1, ix14_2⟩ := j1 rx14
    try dsimp only at hM1
    refine Exists.intro _ (And.intro ex14 ?_)
    obtain ⟨q15, gq15, hM1⟩ := j0 hM1
    refine And.intro (E2 gq15 (by first | rw [F2.length (F2.append fu4 (show F2 (Q0.R k5) ([[.int .i64 p1_0, .int .i64 p1_1, .int .i64 p1_2]] : List (List Value)) [(p1_0, p1_1, p1_2)] from ⟨(V0 ip1_0 ip1_1 ip1_2), trivial⟩)), F2.length (show F2 (Q0.R k5) ([[.int .i64 x14_0, .int .i64 x14_1, .int .i64 x14_2]] : List (List Value)) [(x14_0, x14_1, x14_2)] from ⟨(V0 ix14_0 ix14_1 ix14_2), trivial⟩)] | exact congrArg (· + 1) (F2.length (F2.append fu4 (show F2 (Q0.R k5) ([[.int .i64 p1_0, .int .i64 p1_1, .int .i64 p1_2]] : List (List Value)) [(p1_0, p1_1, p1_2)] from ⟨(V0 ip1_0 ip1_1 ip1_2), trivial⟩))))) ?_
    refine And.intro rfl (And.intro (by repeat (first | exact trivial | refine And.intro rfl ?_)) (And.intro (by repeat (first | exact trivial | refine And.intro rfl ?_)) (Exists.intro m6 (And.intro ⟨true, (IntKind.i64.wrap (u3 + 1)), ((wu4 ++ ([[.int .i64 p1_0, .int .i64 p1_1, .int .i64 p1_2]] : List (List Value))) ++ ([[.int .i64 x14_0, .int .i64 x14_1, .int .i64 x14_2]] : List (List Value))), ((u4 ++ [(p1_0, p1_1, p1_2)]) ++ [(x14_0, x14_1, x14_2)]), rfl, rfl, sX1, (H0 _), (F2.append (F2.append fu4 (show F2 (Q0.R k5) ([[.int .i64 p1_0, .int .i64 p1_1, .int .i64 p1_2]] : List (List Value)) [(p1_0, p1_1, p1_2)] from ⟨(V0 ip1_0 ip1_1 ip1_2), trivial⟩)) (show F2 (Q0.R k5) ([[.int .i64 x14_0, .int .i64 x14_1, .int .i64 x14_2]] : List (List Value)) [(x14_0, x14_1, x14_2)] from ⟨(V0 ix14_0 ix14_1 ix14_2), trivial⟩)), hM1⟩ (Nat.lt_succ_self _)))))
   ·replace hM1 := ifN hM1 hc12
    obtain ⟨x16, gx16, hM1⟩ := j0 hM1
    obtain ⟨bx16, csx16, ex16, rx16⟩ := Sl.getI (r := Q0.toRp) (I0.mono sX1 rp0) gx16 (by decide)
    refine And.intro bx16 ?_
    obtain ⟨x16_0, x16_1, x16_2, rfl, rfl, ix16_0, ix16_1, ix16_2⟩ := j1 rx16
    try dsimp only at hM1
    refine Exists.intro _ (And.intro ex16 ?_)
    obtain ⟨q17, gq17, hM1⟩ := j0 hM1
    refine And.intro (E2 gq17 (by first | rw [F2.length fu4, F2.length (show F2 (Q0.R k5) ([[.int .i64 x16_0, .int .i64 x16_1, .int .i64 x16_2]] : List (List Value)) [(x16_0, x16_1, x16_2)] from ⟨(V0 ix16_0 ix16_1 ix16_2), trivial⟩)] | exact congrArg (· + 1) (F2.length fu4))) ?_
    refine And.intro rfl (And.intro (by repeat (first | exact trivial | refine And.intro rfl ?_)) (And.intro (by repeat (first | exact trivial | refine And.intro rfl ?_)) (Exists.intro m6 (And.intro ⟨true, (IntKind.i64.wrap (u3 + 1)), (wu4 ++ ([[.int .i64 x16_0, .int .i64 x16_1, .int .i64 x16_2]] : List (List Value))), (u4 ++ [(x16_0, x16_1, x16_2)]), rfl, rfl, sX1, (H0 _), (F2.append fu4 (show F2 (Q0.R k5) ([[.int .i64 x16_0, .int .i64 x16_1, .int .i64 x16_2]] : List (List Value)) [(x16_0, x16_1, x16_2)] from ⟨(V0 ix16_0 ix16_1 ix16_2), trivial⟩)), hM1⟩ (Nat.lt_succ_self _)))))
  ·replace hM1 := ifN hM1 hc11
   refine And.intro (fun hc18 => ?_) (fun hc18 => ?_)
   ·replace hM1 := ifP hM1 hc18
    obtain ⟨q19, gq19, hM1⟩ := j0 hM1
    refine And.intro (E2 gq19 (by first | rw [F2.length fu4, F2.length (show F2 (Q0.R k5) ([[.int .i64 p1_0, .int .i64 p1_1, .int .i64 p1_2]] : List (List Value)) [(p1_0, p1_1, p1_2)] from ⟨(V0 ip1_0 ip1_1 ip1_2), trivial⟩)] | exact congrArg (· + 1) (F2.length fu4))) ?_
    obtain ⟨x20, gx20, hM1⟩ := j0 hM1
    obtain ⟨bx20, csx20, ex20, rx20⟩ := Sl.getI (r := Q0.toRp) (I0.mono sX1 rp0) gx20 (by decide)
    refine And.intro bx20 ?_
    obtain ⟨x20_0, x20_1, x20_2, rfl, rfl, ix20_0, ix20_1, ix20_2⟩ := j1 rx20
    try dsimp only at hM1
    refine Exists.intro _ (And.intro ex20 ?_)
    obtain ⟨q21, gq21, hM1⟩ := j0 hM1
    refine And.intro (E2 gq21 (by first | rw [F2.length (F2.append fu4 (show F2 (Q0.R k5) ([[.int .i64 p1_0, .int .i64 p1_1, .int .i64 p1_2]] : List (List Value)) [(p1_0, p1_1, p1_2)] from ⟨(V0 ip1_0 ip1_1 ip1_2), trivial⟩)), F2.length (show F2 (Q0.R k5) ([[.int .i64 x20_0, .int .i64 x20_1, .int .i64 x20_2]] : List (List Value)) [(x20_0, x20_1, x20_2)] from ⟨(V0 ix20_0 ix20_1 ix20_2), trivial⟩)] | exact congrArg (· + 1) (F2.length (F2.append fu4 (show F2 (Q0.R k5) ([[.int .i64 p1_0, .int .i64 p1_1, .int .i64 p1_2]] : List (List Value)) [(p1_0, p1_1, p1_2)] from ⟨(V0 ip1_0 ip1_1 ip1_2), trivial⟩))))) ?_
    refine And.intro rfl (And.intro (by repeat (first | exact trivial | refine And.intro rfl ?_)) (And.intro (by repeat (first | exact trivial | refine And.intro rfl ?_)) (Exists.intro m6 (And.intro ⟨true, (IntKind.i64.wrap (u3 + 1)), ((wu4 ++ ([[.int .i64 p1_0, .int .i64 p1_1, .int .i64 p1_2]] : List (List Value))) ++ ([[.int .i64 x20_0, .int .i64 x20_1, .int .i64 x20_2]] : List (List Value))), ((u4 ++ [(p1_0, p1_1, p1_2)]) ++ [(x20_0, x20_1, x20_2)]), rfl, rfl, sX1, (H0 _), (F2.append (F2.append fu4 (show F2 (Q0.R k5) ([[.int .i64 p1_0, .int .i64 p1_1, .int .i64 p1_2]] : List (List Value)) [(p1_0, p1_1, p1_2)] from ⟨(V0 ip1_0 ip1_1 ip1_2), trivial⟩)) (show F2 (Q0.R k5) ([[.int .i64 x20_0, .int .i64 x20_1, .int .i64 x20_2]] : List (List Value)) [(x20_0, x20_1, x20_2)] from ⟨(V0 ix20_0 ix20_1 ix20_2), trivial⟩)), hM1⟩ (Nat.lt_succ_self _)))))
   ·replace hM1 := ifN hM1 hc18
    obtain ⟨x22, gx22, hM1⟩ := j0 hM1
    obtain ⟨bx22, csx22, ex22, rx22⟩ := Sl.getI (r := Q0.toRp) (I0.mono sX1 rp0) gx22 (by decide)
    refine And.intro bx22 ?_
    obtain ⟨x22_0, x22_1, x22_2, rfl, rfl, ix22_0, ix22_1, ix22_2⟩ := j1 rx22
    try dsimp only at hM1
    refine Exists.intro _ (And.intro ex22 ?_)
    obtain ⟨q23, gq23, hM1⟩ := j0 hM1
    refine And.intro (E2 gq23 (by first | rw [F2.length fu4, F2.length (show F2 (Q0.R k5) ([[.int .i64 x22_0, .int .i64 x22_1, .int .i64 x22_2]] : List (List Value)) [(x22_0, x22_1, x22_2)] from ⟨(V0 ix22_0 ix22_1 ix22_2), trivial⟩)] | exact congrArg (· + 1) (F2.length fu4))) ?_
    refine And.intro rfl (And.intro (by repeat (first | exact trivial | refine And.intro rfl ?_)) (And.intro (by repeat (first | exact trivial | refine And.intro rfl ?_)) (Exists.intro m6 (And.intro ⟨u2, (IntKind.i64.wrap (u3 + 1)), (wu4 ++ ([[.int .i64 x22_0, .int .i64 x22_1, .int .i64 x22_2]] : List (List Value))), (u4 ++ [(x22_0, x22_1, x22_2)]), rfl, rfl, sX1, (H0 _), (F2.append fu4 (show F2 (Q0.R k5) ([[.int .i64 x22_0, .int .i64 x22_1, .int .i64 x22_2]] : List (List Value)) [(x22_0, x22_1, x22_2)] from ⟨(V0 ix22_0 ix22_1 ix22_2), trivial⟩)), hM1⟩ (Nat.lt_succ_self _)))))
 ·replace hM1 := ifN hM1 hc7
  have hE := Option.some.inj hM1; subst hE
  try dsimp only [T0, U0] at hM0
  refine And.intro (fun hc24 => ?_) (fun hc24 => ?_)
  ·replace hM0 := ifP hM0 hc24
   obtain ⟨q25, gq25, hM0⟩ := j0 hM0
   refine And.intro (E2 gq25 (by first | rw [F2.length fu4, F2.length (show F2 (Q0.R k5) ([[.int .i64 p1_0, .int .i64 p1_1, .int .i64 p1_2]] : List (List Value)) [(p1_0, p1_1, p1_2)] from ⟨(V0 ip1_0 ip1_1 ip1_2), trivial⟩)] | exact congrArg (· + 1) (F2.length fu4))) ?_
   intro v26 k27 f28
   obtain ⟨az29, cz29, rfl, rz29, sz29, lz29⟩ := Z0.out (r := Q0.toRp) f28 (F2.append fu4 (show F2 (Q0.R k5) ([[.int .i64 p1_0, .int .i64 p1_1, .int .i64 p1_2]] : List (List Value)) [(p1_0, p1_1, p1_2)] from ⟨(V0 ip1_0 ip1_1 ip1_2), trivial⟩))
   have hE := Option.some.inj hM0; subst hE
   exact ⟨az29, ((u4 ++ [(p1_0, p1_1, p1_2)])).length, cz29, rfl, rz29, (sX1.trans sz29)⟩
  ·replace hM0 := ifN hM0 hc24
   intro v30 k31 f32
   obtain ⟨az33, cz33, rfl, rz33, sz33, lz33⟩ := Z0.out (r := Q0.toRp) f32 fu4
   have hE := Option.some.inj hM0; subst hE
   exact ⟨az33, u4.length, cz33, rfl, rz33, (sX1.trans sz33)⟩
theorem s09 (h : Hp) (csp0 : List Value) (p0 : l0) (rp0 : Y0.R h csp0 p0) (p1 : Int) (ip1 : F0 p1) (r : Int) (hM0 : y8 p0 p1 = some r) :
  Tr Tryz.prog 214 #[.agg csp0.toArray, .int .i64 p1] h fun v h' => v = .int .i64 r ∧ h' = h := by
 obtain ⟨p0_0, p0_1, ap0_2, np0_2, cp0_2, p0_2, rfl, rfl, ip0_0, ip0_1, rp0_2⟩ := B0 rp0
 obtain ⟨rfl, lp0_2⟩ := Sl.len rp0_2
 unfold y8 at hM0
 dsimp only at hM0
 refine Tr.forget (U2 (args := [.agg #[.int .i64 p0_0, .int .i64 p0_1, .slice ap0_2 p0_2.length cp0_2], .int .i64 p1]) (fn := Tryz.f214) rfl ?_)
 obtain ⟨X1, hLX1, hM0⟩ := j0 hM0
 refine Exists.intro { vars := [5, 6], boxes := [], owns := [], fuel := true } (Exists.intro (fun vs os h' => ∃ (u2 : Int) (u3 : Int), vs.tail = [.int .i64 u2, .int .i64 u3] ∧ os = [] ∧ Sub h h' ∧ F0 u2 ∧ F0 u3 ∧ V2 p0_2 p1 (M1 vs) u2 u3 = some X1) (Exists.intro (fun _ _ => 0) ?_))
 refine And.intro (Exists.intro S0 ⟨0, 0, rfl, rfl, (Sub.refl _), (c64 (by decide) (by decide)), (c64 (by decide) (by decide)), hLX1⟩) ?_
 rintro v_0 v_1 m5 k4 ⟨u2, u3, evX1, eoX1, sX1, iu2, iu3, hM1⟩
 cases evX1
 cases eoX1
 replace hM1 : V2 p0_2 p1 m5 u2 u3 = some X1 := hM1
 obtain _ | m5 := m5
 ·cases (show (none : Option _) = some X1 from hM1)
 rw [V2.eq_2] at hM1
 refine And.intro (fun hc6 => ?_) (fun hc6 => ?_)
 ·replace hM1 := ifP hM1 hc6
  obtain ⟨x7, gx7, hM1⟩ := j0 hM1
  obtain ⟨bx7, csx7, ex7, rx7⟩ := Sl.getI (r := Q0.toRp) (I0.mono sX1 rp0_2) gx7 (by decide)
  refine And.intro bx7 ?_
  obtain ⟨x7_0, x7_1, x7_2, rfl, rfl, ix7_0, ix7_1, ix7_2⟩ := j1 rx7
  try dsimp only at hM1
  refine Exists.intro _ (And.intro ex7 ?_)
  refine And.intro (fun hc8 => ?_) (fun hc8 => ?_)
  ·replace hM1 := ifP hM1 hc8
   obtain ⟨x9, gx9, hM1⟩ := j0 hM1
   obtain ⟨bx9, csx9, ex9, rx9⟩ := Sl.getI (r := Q0.toRp) (I0.mono sX1 rp0_2) gx9 (by decide)
   refine And.intro bx9 ?_
   obtain ⟨x9_0, x9_1, x9_2, rfl, rfl, ix9_0, ix9_1, ix9_2⟩ := j1 rx9
   try dsimp only at hM1
   refine Exists.intro _ (And.intro ex9 ?_)
   refine And.intro (fun hc10 => ?_) (fun hc10 => ?_)
   ·replace hM1 := ifP hM1 hc10
    refine And.intro rfl (And.intro (by repeat (first | exact trivial | refine And.intro rfl ?_)) (And.intro (by repeat (first | exact trivial | refine And.intro rfl ?_)) (Exists.intro m5 (And.intro ⟨(IntKind.i64.wrap ((IntKind.i64.wrap (u2 + 1)) + 1)), (IntKind.i64.wrap (u3 + 1)), rfl, rfl, sX1, (H0 _), (H0 _), hM1⟩ (Nat.lt_succ_self _)))))
   ·replace hM1 := ifN hM1 hc10
    refine And.intro rfl (And.intro (by repeat (first | exact trivial | refine And.intro rfl ?_)) (And.intro (by repeat (first | exact trivial | refine And.intro rfl ?_)) (Exists.intro m5 (And.intro ⟨(IntKind.i64.wrap (u2 + 1)), (IntKind.i64.wrap (u3 + 1)), rfl, rfl, sX1, (H0 _), (H0 _), hM1⟩ (Nat.lt_succ_self _)))))
  ·replace hM1 := ifN hM1 hc8
   obtain ⟨x11, gx11, hM1⟩ := j0 hM1
   obtain ⟨bx11, csx11, ex11, rx11⟩ := Sl.getI (r := Q0.toRp) (I0.mono sX1 rp0_2) gx11 (by decide)
   refine And.intro bx11 ?_
   obtain ⟨x11_0, x11_1, x11_2, rfl, rfl, ix11_0, ix11_1, ix11_2⟩ := j1 rx11
   try dsimp only at hM1
   refine Exists.intro _ (And.intro ex11 ?_)
   refine And.intro (fun hc12 => ?_) (fun hc12 => ?_)
   ·replace hM1 := ifP hM1 hc12
    refine And.intro rfl (And.intro (by repeat (first | exact trivial | refine And.intro rfl ?_)) (And.intro (by repeat (first | exact trivial | refine And.intro rfl ?_)) (Exists.intro m5 (And.intro ⟨(IntKind.i64.wrap (u2 + 1)), (IntKind.i64.wrap (u3 + 1)), rfl, rfl, sX1, (H0 _), (H0 _), hM1⟩ (Nat.lt_succ_self _)))))
   ·replace hM1 := ifN hM1 hc12
    refine And.intro rfl (And.intro (by repeat (first | exact trivial | refine And.intro rfl ?_)) (And.intro (by repeat (first | exact trivial | refine And.intro rfl ?_)) (Exists.intro m5 (And.intro ⟨u2, (IntKind.i64.wrap (u3 + 1)), rfl, rfl, sX1, iu2, (H0 _), hM1⟩ (Nat.lt_succ_self _)))))
 ·replace hM1 := ifN hM1 hc6
  have hE := Option.some.inj hM1; subst hE
  try dsimp only [T0, U0] at hM0
  have hE := Option.some.inj hM0; subst hE
  exact And.intro rfl sX1
theorem z06 (h : Hp) (csp0 : List Value) (p0 : l0) (rp0 : Y0.R h csp0 p0) (p1 : Int) (ip1 : F0 p1) (r : O0) (hM0 : a8 p0 p1 = some r) :
  Tr Tryz.prog 219 #[.agg csp0.toArray, .int .i64 p1] h fun v h' => ∃ (a0 : Option Addr) (n0 c0 : Nat), v = .slice a0 n0 c0 ∧ I1.R h' [.slice a0 n0 c0] r ∧ Sub h h' := by
 obtain ⟨p0_0, p0_1, ap0_2, np0_2, cp0_2, p0_2, rfl, rfl, ip0_0, ip0_1, rp0_2⟩ := B0 rp0
 obtain ⟨rfl, lp0_2⟩ := Sl.len rp0_2
 unfold a8 at hM0
 dsimp only at hM0
 refine U2 (args := [.agg #[.int .i64 p0_0, .int .i64 p0_1, .slice ap0_2 p0_2.length cp0_2], .int .i64 p1]) (fn := Tryz.f219) rfl ?_
 obtain ⟨x1, gx1, hM0⟩ := j0 hM0
 refine Tr.val (l5 _ [.int .i64 p0_0, .int .i64 p0_1, .slice ap0_2 p0_2.length cp0_2] (p0_0, p0_1, p0_2) (z0 ip0_0 ip0_1 rp0_2) _  gx1) ?_
 obtain ⟨x2, gx2, hM0⟩ := j0 hM0
 refine Exists.intro (.bool x2) (And.intro (fun q => K5 _ p1 ip1 0 (c64 (by decide) (by decide)) (IntKind.i64.wrap (p0_1 - 1)) (H0 _) _  (I2 gx2 q)) ?_)
 refine And.intro (fun hc3 => ?_) (fun hc3 => ?_)
 ·replace hM0 := ifP hM0 hc3
  intro v4 k5 f6
  obtain ⟨az7, cz7, rfl, rz7, sz7, lz7⟩ := Z0.out (r := Wp.int.toRp) f6 (show F2 (Wp.int.R h) ([] : List (List Value)) ([] : O0) from trivial)
  have hE := Option.some.inj hM0; subst hE
  exact ⟨az7, (([] : O0)).length, cz7, rfl, rz7, sz7⟩
 ·replace hM0 := ifN hM0 hc3
  obtain ⟨X12, hLX12, hM0⟩ := j0 hM0
  refine Exists.intro { vars := [5, 6], boxes := [], owns := [], fuel := true, pubs := [5, 22] } (Exists.intro (fun vs os h' => ∃ (au13 : Option Addr) (nu13 cu13 : Nat) (u13 : O0) (u14 : Int), vs.tail = [.slice au13 nu13 cu13, .int .i64 u14] ∧ os = [] ∧ Sub h h' ∧ I1.R h' [.slice au13 nu13 cu13] u13 ∧ F0 u14 ∧ H4 p0_2 (M1 vs) u13 u14 = some X12) (Exists.intro (fun _ _ => 0) ?_))
  intro v8 k9 f10
  obtain ⟨az11, cz11, rfl, rz11, sz11, lz11⟩ := Z0.out (r := Wp.int.toRp) f10 (show F2 (Wp.int.R h) ([[.int .i64 p1]] : List (List Value)) [p1] from ⟨⟨rfl, ip1⟩, trivial⟩)
  refine And.intro (Exists.intro S0 ⟨az11, ([p1]).length, cz11, [p1], 0, rfl, rfl, sz11, rz11, (c64 (by decide) (by decide)), hLX12⟩) ?_
  rintro v_0 v_1 m16 k15 ⟨au13, nu13, cu13, u13, u14, evX12, eoX12, sX12, ru13, iu14, hM1⟩
  cases evX12
  cases eoX12
  replace hM1 : H4 p0_2 m16 u13 u14 = some X12 := hM1
  obtain _ | m16 := m16
  ·cases (show (none : Option _) = some X12 from hM1)
  rw [H4.eq_2] at hM1
  obtain ⟨rfl, lu13⟩ := Sl.len ru13
  refine And.intro (fun hc17 => ?_) (fun hc17 => ?_)
  ·replace hM1 := ifP hM1 hc17
   obtain ⟨X18, hLX18, hM1⟩ := j0 hM1
   refine Exists.intro { vars := [5, 7], boxes := [], owns := [], fuel := true } (Exists.intro (fun vs os h' => ∃ (au19 : Option Addr) (nu19 cu19 : Nat) (u19 : O0) (u20 : Int), vs.tail = [.slice au19 nu19 cu19, .int .i64 u20] ∧ os = [] ∧ Sub k15 h' ∧ I1.R h' [.slice au19 nu19 cu19] u19 ∧ F0 u20 ∧ T2 p0_2 (M1 vs) u19 u20 = some X18) (Exists.intro (fun _ _ => 0) ?_))
   refine And.intro (Exists.intro S0 ⟨au13, u13.length, cu13, u13, 0, rfl, rfl, (Sub.refl _), ru13, (c64 (by decide) (by decide)), hLX18⟩) ?_
   rintro v_0 v_1 m22 k21 ⟨au19, nu19, cu19, u19, u20, evX18, eoX18, sX18, ru19, iu20, hM2⟩
   cases evX18
   cases eoX18
   replace hM2 : T2 p0_2 m22 u19 u20 = some X18 := hM2
   obtain _ | m22 := m22
   ·cases (show (none : Option _) = some X18 from hM2)
   rw [T2.eq_2] at hM2
   obtain ⟨rfl, lu19⟩ := Sl.len ru19
   refine And.intro (fun hc23 => ?_) (fun hc23 => ?_)
   ·replace hM2 := ifP hM2 hc23
    obtain ⟨x24, gx24, hM2⟩ := j0 hM2
    obtain ⟨bx24, csx24, ex24, rx24⟩ := Sl.getI (r := Q0.toRp) (I0.mono (sX12.trans sX18) rp0_2) gx24 (by decide)
    refine And.intro bx24 ?_
    obtain ⟨x24_0, x24_1, x24_2, rfl, rfl, ix24_0, ix24_1, ix24_2⟩ := j1 rx24
    try dsimp only at hM2
    refine Exists.intro _ (And.intro ex24 ?_)
    obtain ⟨x25, gx25, hM2⟩ := j0 hM2
    refine Tr.val (T00 _ au19 u19.length cu19 u19 ru19 x24_0 ix24_0 _  gx25) ?_
    refine And.intro (fun hc26 => ?_) (fun hc26 => ?_)
    ·replace hM2 := ifP hM2 hc26
     obtain ⟨x27, gx27, hM2⟩ := j0 hM2
     refine Tr.mono (o00 _ au19 u19.length cu19 u19 ru19 x24_2 ix24_2 _  gx27) ?_
     rintro v29 k28 ⟨ax27, nx27, cx27, rfl, rx27, sx27⟩
     obtain ⟨rfl, lx27⟩ := Sl.len rx27
     obtain ⟨x30, gx30, hM2⟩ := j0 hM2
     refine Tr.val (T00 _ ax27 x27.length cx27 x27 rx27 x24_2 ix24_2 _  gx30) ?_
     refine And.intro (fun hc31 => ?_) (fun hc31 => ?_)
     ·replace hM2 := ifP hM2 hc31
      obtain ⟨x32, gx32, hM2⟩ := j0 hM2
      refine Tr.mono (o00 _ ax27 x27.length cx27 x27 rx27 x24_0 ix24_0 _  gx32) ?_
      rintro v34 k33 ⟨ax32, nx32, cx32, rfl, rx32, sx32⟩
      obtain ⟨rfl, lx32⟩ := Sl.len rx32
      refine And.intro rfl (And.intro (by repeat (first | exact trivial | refine And.intro rfl ?_)) (And.intro (by repeat (first | exact trivial | refine And.intro rfl ?_)) (Exists.intro m22 (And.intro ⟨ax32, x32.length, cx32, x32, (IntKind.i64.wrap (u20 + 1)), rfl, rfl, ((sX18.trans sx27).trans sx32), rx32, (H0 _), hM2⟩ (Nat.lt_succ_self _)))))
     ·replace hM2 := ifN hM2 hc31
      refine And.intro rfl (And.intro (by repeat (first | exact trivial | refine And.intro rfl ?_)) (And.intro (by repeat (first | exact trivial | refine And.intro rfl ?_)) (Exists.intro m22 (And.intro ⟨ax27, x27.length, cx27, x27, (IntKind.i64.wrap (u20 + 1)), rfl, rfl, (sX18.trans sx27), rx27, (H0 _), hM2⟩ (Nat.lt_succ_self _)))))
    ·replace hM2 := ifN hM2 hc26
     obtain ⟨x35, gx35, hM2⟩ := j0 hM2
     refine Tr.val (T00 _ au19 u19.length cu19 u19 ru19 x24_2 ix24_2 _  gx35) ?_
     refine And.intro (fun hc36 => ?_) (fun hc36 => ?_)
     ·replace hM2 := ifP hM2 hc36
      obtain ⟨x37, gx37, hM2⟩ := j0 hM2
      refine Tr.mono (o00 _ au19 u19.length cu19 u19 ru19 x24_0 ix24_0 _  gx37) ?_
      rintro v39 k38 ⟨ax37, nx37, cx37, rfl, rx37, sx37⟩
      obtain ⟨rfl, lx37⟩ := Sl.len rx37
      refine And.intro rfl (And.intro (by repeat (first | exact trivial | refine And.intro rfl ?_)) (And.intro (by repeat (first | exact trivial | refine And.intro rfl ?_)) (Exists.intro m22 (And.intro ⟨ax37, x37.length, cx37, x37, (IntKind.i64.wrap (u20 + 1)), rfl, rfl, (sX18.trans sx37), rx37, (H0 _), hM2⟩ (Nat.lt_succ_self _)))))
     ·replace hM2 := ifN hM2 hc36
      refine And.intro rfl (And.intro (by repeat (first | exact trivial | refine And.intro rfl ?_)) (And.intro (by repeat (first | exact trivial | refine And.intro rfl ?_)) (Exists.intro m22 (And.intro ⟨au19, u19.length, cu19, u19, (IntKind.i64.wrap (u20 + 1)), rfl, rfl, sX18, ru19, (H0 _), hM2⟩ (Nat.lt_succ_self _)))))
   ·replace hM2 := ifN hM2 hc23
    have hE := Option.some.inj hM2; subst hE
    try dsimp only [T0, U0] at hM1
    refine And.intro rfl (And.intro (by repeat (first | exact trivial | refine And.intro rfl ?_)) (And.intro (by repeat (first | exact trivial | refine And.intro rfl ?_)) (Exists.intro m16 (And.intro ⟨au19, u19.length, cu19, u19, (IntKind.i64.wrap (u14 + 1)), rfl, rfl, (sX12.trans sX18), ru19, (H0 _), hM1⟩ (Nat.lt_succ_self _)))))
  ·replace hM1 := ifN hM1 hc17
   have hE := Option.some.inj hM1; subst hE
   try dsimp only [T0, U0] at hM0
   have hE := Option.some.inj hM0; subst hE
   exact ⟨au13, u13.length, cu13, rfl, ru13, sX12⟩
theorem y0b (h : Hp) (csp0 : List Value) (p0 : l0) (rp0 : Y0.R h csp0 p0) (r : Int) (hM0 : t00 p0 = some r) :
  Tr Tryz.prog 192 #[.agg csp0.toArray] h fun v h' => v = .int .i64 r ∧ h' = h := by
 obtain ⟨p0_0, p0_1, ap0_2, np0_2, cp0_2, p0_2, rfl, rfl, ip0_0, ip0_1, rp0_2⟩ := B0 rp0
 obtain ⟨rfl, lp0_2⟩ := Sl.len rp0_2
 unfold t00 at hM0
 dsimp only at hM0
 refine Tr.forget (U2 (args := [.agg #[.int .i64 p0_0, .int .i64 p0_1, .slice ap0_2 p0_2.length cp0_2]]) (fn := Tryz.f192) rfl ?_)
 obtain ⟨x1, gx1, hM0⟩ := j0 hM0
 refine Tr.mono (z06 _ [.int .i64 p0_0, .int .i64 p0_1, .slice ap0_2 p0_2.length cp0_2] (p0_0, p0_1, p0_2) (z0 ip0_0 ip0_1 rp0_2) 0 (c64 (by decide) (by decide)) _  gx1) ?_
 rintro v3 k2 ⟨ax1, nx1, cx1, rfl, rx1, sx1⟩
 obtain ⟨rfl, lx1⟩ := Sl.len rx1
 obtain ⟨X4, hLX4, hM0⟩ := j0 hM0
 refine Exists.intro { vars := [4], boxes := [], owns := [], fuel := true } (Exists.intro (fun vs os h' => ∃ (u5 : Int), vs.tail = [.int .i64 u5] ∧ os = [] ∧ Sub k2 h' ∧ F0 u5 ∧ P6 p0_1 p0_0 p0_2 x1 (M1 vs) u5 = some X4) (Exists.intro (fun _ _ => 0) ?_))
 refine And.intro (Exists.intro S0 ⟨1, rfl, rfl, (Sub.refl _), (c64 (by decide) (by decide)), hLX4⟩) ?_
 rintro v_0 m7 k6 ⟨u5, evX4, eoX4, sX4, iu5, hM1⟩
 cases evX4
 cases eoX4
 replace hM1 : P6 p0_1 p0_0 p0_2 x1 m7 u5 = some X4 := hM1
 obtain _ | m7 := m7
 ·cases (show (none : Option _) = some X4 from hM1)
 rw [P6.eq_2] at hM1
 refine And.intro (fun hc8 => ?_) (fun hc8 => ?_)
 ·replace hM1 := ifP hM1 hc8
  obtain ⟨x9, gx9, hM1⟩ := j0 hM1
  refine Tr.val (s09 _ [.int .i64 p0_0, .int .i64 p0_1, .slice ap0_2 p0_2.length cp0_2] (p0_0, p0_1, p0_2) (z0 ip0_0 ip0_1 (I0.mono (sx1.trans sX4) rp0_2)) u5 iu5 _  gx9) ?_
  obtain ⟨q10, gq10, hM1⟩ := j0 hM1
  have ix9 : F0 x9 := G2 gq10
  obtain ⟨x11, gx11, hM1⟩ := j0 hM1
  refine Exists.intro (.bool x11) (And.intro (fun q => T00 _ ax1 x1.length cx1 x1 (I1.mono sX4 rx1) u5 iu5 _  (I2 gx11 q)) ?_)
  refine And.intro (fun hc12 => ?_) (fun hc12 => ?_)
  ·replace hM1 := ifP hM1 hc12
   have hE := Option.some.inj hM1; subst hE
   try dsimp only [n3, B3] at hM0
   have hE := Option.some.inj hM0; subst hE
   exact And.intro rfl (sx1.trans sX4)
  ·replace hM1 := ifN hM1 hc12
   refine And.intro rfl (And.intro (by repeat (first | exact trivial | refine And.intro rfl ?_)) (And.intro (by repeat (first | exact trivial | refine And.intro rfl ?_)) (Exists.intro m7 (And.intro ⟨(IntKind.i64.wrap (u5 + 1)), rfl, rfl, sX4, (H0 _), hM1⟩ (Nat.lt_succ_self _)))))
 ·replace hM1 := ifN hM1 hc8
  have hE := Option.some.inj hM1; subst hE
  try dsimp only [T0, U0] at hM0
  have hE := Option.some.inj hM0; subst hE
  exact And.intro rfl (sx1.trans sX4)
theorem E01 (h : Hp) (csp0 : List Value) (p0 : l0) (rp0 : Y0.R h csp0 p0) (ap1 : Option Addr) (np1 cp1 : Nat) (p1 : O0) (rp1 : I1.R h [.slice ap1 np1 cp1] p1) (r : l0 × Bool) (hM0 : g6 p0 p1 = some r) :
  Tr Tryz.prog 215 #[.agg csp0.toArray, .slice ap1 np1 cp1] h fun v h' => ∃ (cs0 : List Value), v = .tuple #[.agg cs0.toArray, .bool r.2] ∧ Y0.R h' cs0 r.1 ∧ Sub h h' := by
 obtain ⟨p0_0, p0_1, ap0_2, np0_2, cp0_2, p0_2, rfl, rfl, ip0_0, ip0_1, rp0_2⟩ := B0 rp0
 obtain ⟨rfl, lp0_2⟩ := Sl.len rp0_2
 obtain ⟨rfl, lp1⟩ := Sl.len rp1
 unfold g6 at hM0
 dsimp only at hM0
 refine U2 (args := [.agg #[.int .i64 p0_0, .int .i64 p0_1, .slice ap0_2 p0_2.length cp0_2], .slice ap1 p1.length cp1]) (fn := Tryz.f215) rfl ?_
 obtain ⟨x1, gx1, hM0⟩ := j0 hM0
 refine Tr.val (l5 _ [.int .i64 p0_0, .int .i64 p0_1, .slice ap0_2 p0_2.length cp0_2] (p0_0, p0_1, p0_2) (z0 ip0_0 ip0_1 rp0_2) _  gx1) ?_
 refine And.intro (fun hc2 => ?_) (fun hc2 => ?_)
 ·replace hM0 := ifP hM0 hc2
  obtain ⟨x3, gx3, hM0⟩ := j0 hM0
  refine Tr.mono (P3 _ [.int .i64 p0_0, .int .i64 p0_1, .slice ap0_2 p0_2.length cp0_2] (p0_0, p0_1, p0_2) (z0 ip0_0 ip0_1 rp0_2) _  gx3) ?_
  rintro v5 k4 ⟨csx3, rfl, rx3, sx3⟩
  obtain ⟨x3_0, x3_1, ax3_2, nx3_2, cx3_2, x3_2, rfl, rfl, ix3_0, ix3_1, rx3_2⟩ := B0 rx3
  obtain ⟨rfl, lx3_2⟩ := Sl.len rx3_2
  try dsimp only at hM0
  have hE := Option.some.inj hM0; subst hE
  exact ⟨([.int .i64 x3_0, .int .i64 x3_1, .slice ax3_2 x3_2.length cx3_2]), rfl, (z0 ix3_0 ix3_1 rx3_2), sx3⟩
 ·replace hM0 := ifN hM0 hc2
  obtain ⟨q6, gq6, hM0⟩ := j0 hM0
  refine And.intro (G2 gq6) ?_
  obtain ⟨X7, hLX7, hM0⟩ := j0 hM0
  refine Exists.intro { vars := [8], boxes := [], owns := [0], fuel := true, kept := [0] } (Exists.intro (fun vs os h' => ∃ (u8 : Int) (wu9 : List (List Value)) (u9 : List Int), vs.tail = [.int .i64 u8] ∧ os = [wu9] ∧ Sub h h' ∧ F0 u8 ∧ F2 (Wp.int.R h') wu9 u9 ∧ T3 p1 p0_1 p0_0 p0_2 (M1 vs) u8 u9 = some X7) (Exists.intro (fun _ _ => 0) ?_))
  refine And.intro (Exists.intro S0 ⟨0, (List.replicate p0_1.toNat ([.int .i64 0] : List Value)), (List.replicate p0_1.toNat (0 : Int)), rfl, rfl, (Sub.refl _), (c64 (by decide) (by decide)), (F2.rep (p := Wp.int.R h) (a := [.int .i64 0]) (b := 0) ⟨rfl, (c64 (by decide) (by decide))⟩ (p0_1.toNat)), hLX7⟩) ?_
  rintro v_0 wu9 m11 k10 ⟨u8, zzu9, u9, evX7, eoX7, sX7, iu8, fu9, hM1⟩
  cases evX7
  cases eoX7
  replace hM1 : T3 p1 p0_1 p0_0 p0_2 m11 u8 u9 = some X7 := hM1
  obtain _ | m11 := m11
  ·cases (show (none : Option _) = some X7 from hM1)
  rw [T3.eq_2] at hM1
  refine And.intro (fun hc12 => ?_) (fun hc12 => ?_)
  ·replace hM1 := ifP hM1 hc12
   refine Or.inl (And.intro (And.intro (by kernel_rfl) (by kernel_rfl)) ?_)
   obtain ⟨x13, gx13, hM1⟩ := j0 hM1
   obtain ⟨bx13, csx13, ex13, rx13⟩ := Sl.getI (r := Wp.int.toRp) (I1.mono sX7 rp1) gx13 (by decide)
   refine And.intro bx13 ?_
   obtain ⟨rfl, ix13⟩ := rx13
   refine Exists.intro _ (And.intro ex13 ?_)
   obtain ⟨x14, gx14, hM1⟩ := j0 hM1
   refine Exists.intro (.bool x14) (And.intro (K5 _ x13 ix13 0 (c64 (by decide) (by decide)) (IntKind.i64.wrap (p0_1 - 1)) (H0 _) _  gx14) ?_)
   obtain ⟨x15, gx15, hM1⟩ := j0 hM1
   obtain ⟨csx15, ex15, rx15⟩ := Sl.getG (r := Wp.int.toRp) (I1.mono sX7 rp1) gx15 (by decide) (h04 k10)
   refine And.intro (fun q => (ex15 q).1) ?_
   obtain ⟨rfl, ix15⟩ := rx15
   refine Exists.intro _ (And.intro (fun q => (ex15 q).2) ?_)
   obtain ⟨x16, gx16, hM1⟩ := j0 hM1
   obtain ⟨csx16, ex16, rx16⟩ := k07 fu9 gx16 (h04 k10)
   refine And.intro (fun q => (ex16 q).1) ?_
   obtain ⟨rfl, ix16⟩ := rx16
   refine Exists.intro _ (And.intro (fun q => (ex16 q).2) ?_)
   refine And.intro (fun hc17 => ?_) (fun hc17 => ?_)
   ·replace hM1 := ifP hM1 hc17
    obtain ⟨x18, gx18, hM1⟩ := j0 hM1
    refine Tr.mono (P3 _ [.int .i64 p0_0, .int .i64 p0_1, .slice ap0_2 p0_2.length cp0_2] (p0_0, p0_1, p0_2) (z0 ip0_0 ip0_1 (I0.mono sX7 rp0_2)) _  gx18) ?_
    rintro v20 k19 ⟨csx18, rfl, rx18, sx18⟩
    obtain ⟨x18_0, x18_1, ax18_2, nx18_2, cx18_2, x18_2, rfl, rfl, ix18_0, ix18_1, rx18_2⟩ := B0 rx18
    obtain ⟨rfl, lx18_2⟩ := Sl.len rx18_2
    try dsimp only at hM1
    have hE := Option.some.inj hM1; subst hE
    try dsimp only [n3, B3] at hM0
    have hE := Option.some.inj hM0; subst hE
    exact ⟨([.int .i64 x18_0, .int .i64 x18_1, .slice ax18_2 x18_2.length cx18_2]), rfl, (z0 ix18_0 ix18_1 rx18_2), (sX7.trans sx18)⟩
   ·replace hM1 := ifN hM1 hc17
    obtain ⟨x21, gx21, hM1⟩ := j0 hM1
    obtain ⟨bx21, csx21, ex21, rx21⟩ := Sl.getI (r := Wp.int.toRp) (I1.mono sX7 rp1) gx21 (by decide)
    refine And.intro bx21 ?_
    obtain ⟨rfl, ix21⟩ := rx21
    refine Exists.intro _ (And.intro ex21 ?_)
    obtain ⟨x22, gx22, hM1⟩ := j0 hM1
    obtain ⟨bx22, csx22, ex22, rx22⟩ := s6 fu9 gx22
    refine And.intro bx22 ?_
    obtain ⟨rfl, ix22⟩ := rx22
    refine Exists.intro _ (And.intro ex22 ?_)
    refine And.intro rfl (And.intro (by repeat (first | exact trivial | refine And.intro rfl ?_)) (And.intro (by repeat (first | exact trivial | refine And.intro rfl ?_)) (Exists.intro m11 (And.intro ⟨(IntKind.i64.wrap (u8 + 1)), (wu9.set x21.toNat [.int .i64 (IntKind.i64.wrap (u8 + 1))]), (u9.set x21.toNat (IntKind.i64.wrap (u8 + 1))), rfl, rfl, sX7, (H0 _), (F2.set (p := Wp.int.R k10) (a := [.int .i64 (IntKind.i64.wrap (u8 + 1))]) (b := (IntKind.i64.wrap (u8 + 1))) ⟨rfl, (H0 _)⟩ x21.toNat fu9), hM1⟩ (Nat.lt_succ_self _)))))
  ·replace hM1 := ifN hM1 hc12
   have hE := Option.some.inj hM1; subst hE
   try dsimp only [T0, U0] at hM0
   obtain ⟨X23, hLX23, hM0⟩ := j0 hM0
   refine Exists.intro { vars := [9], boxes := [2], owns := [], fuel := true } (Exists.intro (fun vs os h' => ∃ (u24 : Int) (u25 : Int) (u26 : Int) (au27 : Option Addr) (nu27 cu27 : Nat) (u27 : J0), vs.tail = [.int .i64 u24, .int .i64 u25, .int .i64 u26, .slice au27 nu27 cu27] ∧ os = [] ∧ Sub k10 h' ∧ F0 u24 ∧ F0 u25 ∧ F0 u26 ∧ I0.R h' [.slice au27 nu27 cu27] u27 ∧ A3 p0_2 u9 (M1 vs) u24 u25 u26 u27 = some X23) (Exists.intro (fun _ _ => 0) ?_))
   refine And.intro (Exists.intro S0 ⟨0, p0_0, ((p1.length : Nat) : Int), none, 0, 0, [], rfl, rfl, (Sub.refl _), (c64 (by decide) (by decide)), ip0_0, (j0k lp1), (X0c Q0 k10), hLX23⟩) ?_
   rintro v_0 v_1 v_2 v_3 m29 k28 ⟨u24, u25, u26, au27, nu27, cu27, u27, evX23, eoX23, sX23, iu24, iu25, iu26, ru27, hM1⟩
   cases evX23
   cases eoX23
   replace hM1 : A3 p0_2 u9 m29 u24 u25 u26 u27 = some X23 := hM1
   obtain _ | m29 := m29
   ·cases (show (none : Option _) = some X23 from hM1)
   rw [A3.eq_2] at hM1
   obtain ⟨rfl, lu27⟩ := Sl.len ru27
   refine And.intro (fun hc30 => ?_) (fun hc30 => ?_)
   ·replace hM1 := ifP hM1 hc30
    obtain ⟨x31, gx31, hM1⟩ := j0 hM1
    obtain ⟨bx31, csx31, ex31, rx31⟩ := Sl.getI (r := Q0.toRp) (I0.mono (sX7.trans sX23) rp0_2) gx31 (by decide)
    refine And.intro bx31 ?_
    obtain ⟨x31_0, x31_1, x31_2, rfl, rfl, ix31_0, ix31_1, ix31_2⟩ := j1 rx31
    try dsimp only at hM1
    refine Exists.intro _ (And.intro ex31 ?_)
    obtain ⟨x32, gx32, hM1⟩ := j0 hM1
    obtain ⟨bx32, csx32, ex32, rx32⟩ := s6 (F2.up (r := Wp.int.toRp) sX23 fu9) gx32
    refine And.intro bx32 ?_
    obtain ⟨rfl, ix32⟩ := rx32
    refine Exists.intro _ (And.intro ex32 ?_)
    obtain ⟨x33, gx33, hM1⟩ := j0 hM1
    obtain ⟨csx33, ex33, rx33⟩ := k07 (F2.up (r := Wp.int.toRp) sX23 fu9) gx33 (h04 k28)
    refine And.intro (fun q => (ex33 q).1) ?_
    obtain ⟨rfl, ix33⟩ := rx33
    refine Exists.intro _ (And.intro (fun q => (ex33 q).2) ?_)
    refine And.intro (fun hc34 => ?_) (fun hc34 => ?_)
    ·replace hM1 := ifP hM1 hc34
     refine Or.inr (Or.inr (Or.inl (And.intro (And.intro (by kernel_rfl) (by kernel_rfl)) ?_)))
     obtain ⟨x35, gx35, hM1⟩ := j0 hM1
     obtain ⟨bx35, csx35, ex35, rx35⟩ := s6 (F2.up (r := Wp.int.toRp) sX23 fu9) gx35
     obtain ⟨rfl, ix35⟩ := rx35
     refine Or.inl ?_
     apply Exists.intro
     refine And.intro ?_ ?_
     ·intro k36 s37
      exact And.intro bx35 (And.intro rfl (And.intro rfl rfl))
     refine Or.inl (Exists.intro (.val (.int .i64 x35)) (And.intro ?_ ?_))
     ·intro k38 s39
      exact Exists.intro _ (And.intro ex35 (And.intro rfl (And.intro rfl rfl)))
     refine Or.inl (Exists.intro (.val (.int .i64 (IntKind.i64.wrap (x35 - 1)))) (And.intro ?_ ?_))
     ·intro k40 s41
      exact And.intro rfl (And.intro rfl rfl)
     obtain ⟨x42, gx42, hM1⟩ := j0 hM1
     obtain ⟨bx42, csx42, ex42, rx42⟩ := s6 (F2.up (r := Wp.int.toRp) sX23 fu9) gx42
     obtain ⟨rfl, ix42⟩ := rx42
     refine Or.inl ?_
     apply Exists.intro
     refine And.intro ?_ ?_
     ·intro k43 s44
      exact And.intro bx42 (And.intro rfl (And.intro rfl rfl))
     refine Or.inl (Exists.intro (.val (.int .i64 x42)) (And.intro ?_ ?_))
     ·intro k45 s46
      exact Exists.intro _ (And.intro ex42 (And.intro rfl (And.intro rfl rfl)))
     refine Or.inl (Exists.intro (.val (.int .i64 (IntKind.i64.wrap (x42 - 1)))) (And.intro ?_ ?_))
     ·intro k47 s48
      exact And.intro rfl (And.intro rfl rfl)
     refine Or.inl (Exists.intro (.agg [.val (.int .i64 (IntKind.i64.wrap (x35 - 1))), .val (.int .i64 x31_1), .val (.int .i64 (IntKind.i64.wrap (x42 - 1)))]) (And.intro ?_ ?_))
     ·intro k49 s50
      exact And.intro rfl (And.intro rfl rfl)
     refine Or.inr ?_
     refine Or.inr ?_
     refine Exists.intro 1 (And.intro (And.intro rfl rfl) ?_)
     obtain ⟨x51, gx51, hM1⟩ := j0 hM1
     refine Tr.mono (a9 _ au27 u27.length cu27 u27 ru27 [.int .i64 (IntKind.i64.wrap (x35 - 1)), .int .i64 x31_1, .int .i64 (IntKind.i64.wrap (x42 - 1))] ((IntKind.i64.wrap (x35 - 1)), x31_1, (IntKind.i64.wrap (x42 - 1))) (V0 (H0 _) ix31_1 (H0 _)) _  gx51) ?_
     rintro v53 k52 ⟨ax51, nx51, cx51, rfl, rx51, sx51⟩
     obtain ⟨rfl, lx51⟩ := Sl.len rx51
     refine And.intro (And.intro rfl sx51) (And.intro (by first | exact trivial | exact rfl) ?_)
     refine And.intro trivial (And.intro (by first | exact trivial | exact rfl) ?_)
     refine And.intro rfl (And.intro (by repeat (first | exact trivial | refine And.intro rfl ?_)) (And.intro (by repeat (first | exact trivial | refine And.intro rfl ?_)) (Exists.intro m29 (And.intro ⟨(IntKind.i64.wrap (u24 + 1)), u25, u26, ax51, x51.length, cx51, x51, rfl, rfl, (sX23.trans sx51), (H0 _), iu25, iu26, rx51, hM1⟩ (Nat.lt_succ_self _)))))
    ·replace hM1 := ifN hM1 hc34
     refine And.intro rfl (And.intro (by repeat (first | exact trivial | refine And.intro rfl ?_)) (And.intro (by repeat (first | exact trivial | refine And.intro rfl ?_)) (Exists.intro m29 (And.intro ⟨(IntKind.i64.wrap (u24 + 1)), u25, u26, au27, u27.length, cu27, u27, rfl, rfl, sX23, (H0 _), iu25, iu26, ru27, hM1⟩ (Nat.lt_succ_self _)))))
   ·replace hM1 := ifN hM1 hc30
    have hE := Option.some.inj hM1; subst hE
    try dsimp only [T0, U0] at hM0
    have hE := Option.some.inj hM0; subst hE
    exact ⟨([.int .i64 u25, .int .i64 u26, .slice au27 u27.length cu27]), rfl, (z0 iu25 iu26 ru27), (sX7.trans sX23)⟩
theorem C03 (h : Hp) (p0 : Int) (ip0 : F0 p0) (r : O0) (hM0 : Z6 p0 = some r) :
  Tr Tryz.prog 146 #[.int .i64 p0] h fun v h' => ∃ (a0 : Option Addr) (n0 c0 : Nat), v = .slice a0 n0 c0 ∧ I1.R h' [.slice a0 n0 c0] r ∧ Sub h h' := by
 unfold Z6 at hM0
 refine U2 (args := [.int .i64 p0]) (fn := Tryz.f146) rfl ?_
 obtain ⟨X1, hLX1, hM0⟩ := j0 hM0
 refine Exists.intro { vars := [4], boxes := [], owns := [0], fuel := true } (Exists.intro (fun vs os h' => ∃ (u2 : Int) (wu3 : List (List Value)) (u3 : List Int), vs.tail = [.int .i64 u2] ∧ os = [wu3] ∧ Sub h h' ∧ F0 u2 ∧ F2 (Wp.int.R h') wu3 u3 ∧ c5 p0 (M1 vs) u2 u3 = some X1) (Exists.intro (fun _ _ => 0) ?_))
 refine And.intro (Exists.intro S0 ⟨1, [], ([] : O0), rfl, rfl, (Sub.refl _), (c64 (by decide) (by decide)), (show F2 (Wp.int.R h) ([] : List (List Value)) ([] : O0) from trivial), hLX1⟩) ?_
 rintro v_0 wu3 m5 k4 ⟨u2, zzu3, u3, evX1, eoX1, sX1, iu2, fu3, hM1⟩
 cases evX1
 cases eoX1
 replace hM1 : c5 p0 m5 u2 u3 = some X1 := hM1
 obtain _ | m5 := m5
 ·cases (show (none : Option _) = some X1 from hM1)
 rw [c5.eq_2] at hM1
 refine And.intro (fun hc6 => ?_) (fun hc6 => ?_)
 ·replace hM1 := ifP hM1 hc6
  obtain ⟨q7, gq7, hM1⟩ := j0 hM1
  refine And.intro (E2 gq7 (by first | rw [F2.length fu3, F2.length (show F2 (Wp.int.R k4) ([[.int .i64 u2]] : List (List Value)) [u2] from ⟨⟨rfl, iu2⟩, trivial⟩)] | exact congrArg (· + 1) (F2.length fu3))) ?_
  obtain ⟨q8, gq8, hM1⟩ := j0 hM1
  refine And.intro (E2 gq8 (by first | rw [F2.length (F2.append fu3 (show F2 (Wp.int.R k4) ([[.int .i64 u2]] : List (List Value)) [u2] from ⟨⟨rfl, iu2⟩, trivial⟩)), F2.length (show F2 (Wp.int.R k4) ([[.int .i64 (IntKind.i64.wrap (0 - u2))]] : List (List Value)) [(IntKind.i64.wrap (0 - u2))] from ⟨⟨rfl, (H0 _)⟩, trivial⟩)] | exact congrArg (· + 1) (F2.length (F2.append fu3 (show F2 (Wp.int.R k4) ([[.int .i64 u2]] : List (List Value)) [u2] from ⟨⟨rfl, iu2⟩, trivial⟩))))) ?_
  refine And.intro rfl (And.intro (by repeat (first | exact trivial | refine And.intro rfl ?_)) (And.intro (by repeat (first | exact trivial | refine And.intro rfl ?_)) (Exists.intro m5 (And.intro ⟨(IntKind.i64.wrap (u2 + 1)), ((wu3 ++ ([[.int .i64 u2]] : List (List Value))) ++ ([[.int .i64 (IntKind.i64.wrap (0 - u2))]] : List (List Value))), ((u3 ++ [u2]) ++ [(IntKind.i64.wrap (0 - u2))]), rfl, rfl, sX1, (H0 _), (F2.append (F2.append fu3 (show F2 (Wp.int.R k4) ([[.int .i64 u2]] : List (List Value)) [u2] from ⟨⟨rfl, iu2⟩, trivial⟩)) (show F2 (Wp.int.R k4) ([[.int .i64 (IntKind.i64.wrap (0 - u2))]] : List (List Value)) [(IntKind.i64.wrap (0 - u2))] from ⟨⟨rfl, (H0 _)⟩, trivial⟩)), hM1⟩ (Nat.lt_succ_self _)))))
 ·replace hM1 := ifN hM1 hc6
  have hE := Option.some.inj hM1; subst hE
  try dsimp only [T0, U0] at hM0
  intro v9 k10 f11
  obtain ⟨az12, cz12, rfl, rz12, sz12, lz12⟩ := Z0.out (r := Wp.int.toRp) f11 fu3
  have hE := Option.some.inj hM0; subst hE
  exact ⟨az12, u3.length, cz12, rfl, rz12, (sX1.trans sz12)⟩
theorem n04 (h : Hp) (csp0 : List Value) (p0 : l0) (rp0 : Y0.R h csp0 p0) (r : O0) (hM0 : R6 p0 = some r) :
  Tr Tryz.prog 218 #[.agg csp0.toArray] h fun v h' => ∃ (a0 : Option Addr) (n0 c0 : Nat), v = .slice a0 n0 c0 ∧ I1.R h' [.slice a0 n0 c0] r ∧ Sub h h' := by
 obtain ⟨p0_0, p0_1, ap0_2, np0_2, cp0_2, p0_2, rfl, rfl, ip0_0, ip0_1, rp0_2⟩ := B0 rp0
 obtain ⟨rfl, lp0_2⟩ := Sl.len rp0_2
 unfold R6 at hM0
 dsimp only at hM0
 refine U2 (args := [.agg #[.int .i64 p0_0, .int .i64 p0_1, .slice ap0_2 p0_2.length cp0_2]]) (fn := Tryz.f218) rfl ?_
 obtain ⟨x1, gx1, hM0⟩ := j0 hM0
 refine Tr.val (w9 _ [.int .i64 p0_0, .int .i64 p0_1, .slice ap0_2 p0_2.length cp0_2] (p0_0, p0_1, p0_2) (z0 ip0_0 ip0_1 rp0_2) _  gx1) ?_
 refine And.intro (fun hc2 => ?_) (fun hc2 => ?_)
 ·replace hM0 := ifP hM0 hc2
  intro v3 k4 f5
  obtain ⟨az6, cz6, rfl, rz6, sz6, lz6⟩ := Z0.out (r := Wp.int.toRp) f5 (show F2 (Wp.int.R h) ([] : List (List Value)) ([] : O0) from trivial)
  have hE := Option.some.inj hM0; subst hE
  exact ⟨az6, (([] : O0)).length, cz6, rfl, rz6, sz6⟩
 ·replace hM0 := ifN hM0 hc2
  obtain ⟨x7, gx7, hM0⟩ := j0 hM0
  refine Tr.mono (C03 _ p0_0 ip0_0 _  gx7) ?_
  rintro v9 k8 ⟨ax7, nx7, cx7, rfl, rx7, sx7⟩
  obtain ⟨rfl, lx7⟩ := Sl.len rx7
  obtain ⟨X10, hLX10, hM0⟩ := j0 hM0
  refine Exists.intro { vars := [5], boxes := [], owns := [0], fuel := true } (Exists.intro (fun vs os h' => ∃ (u11 : Int) (wu12 : List (List Value)) (u12 : List Int), vs.tail = [.int .i64 u11] ∧ os = [wu12] ∧ Sub k8 h' ∧ F0 u11 ∧ F2 (Wp.int.R h') wu12 u12 ∧ B4 x7 p0_0 p0_1 p0_2 (M1 vs) u11 u12 = some X10) (Exists.intro (fun _ _ => 0) ?_))
  refine And.intro (Exists.intro S0 ⟨0, ([[.int .i64 0]] : List (List Value)), [0], rfl, rfl, (Sub.refl _), (c64 (by decide) (by decide)), (F2.up (r := Wp.int.toRp) sx7 (show F2 (Wp.int.R h) ([[.int .i64 0]] : List (List Value)) [0] from ⟨⟨rfl, (c64 (by decide) (by decide))⟩, trivial⟩)), hLX10⟩) ?_
  rintro v_0 wu12 m14 k13 ⟨u11, zzu12, u12, evX10, eoX10, sX10, iu11, fu12, hM1⟩
  cases evX10
  cases eoX10
  replace hM1 : B4 x7 p0_0 p0_1 p0_2 m14 u11 u12 = some X10 := hM1
  obtain _ | m14 := m14
  ·cases (show (none : Option _) = some X10 from hM1)
  rw [B4.eq_2] at hM1
  obtain ⟨m15, gm15, hM1⟩ := j0 hM1
  obtain rfl : wu12.length = m15 := (F2.length fu12).trans (Option.some.inj gm15)
  obtain ⟨q16, gq16, hM1⟩ := j0 hM1
  refine And.intro (fun hc17 => ?_) (fun hc17 => ?_)
  ·replace hM1 := ifP hM1 hc17
   obtain ⟨X18, hLX18, hM1⟩ := j0 hM1
   refine Exists.intro { vars := [6], boxes := [], owns := [0], fuel := true } (Exists.intro (fun vs os h' => ∃ (u19 : Int) (wu20 : List (List Value)) (u20 : List Int), vs.tail = [.int .i64 u19] ∧ os = [wu20] ∧ Sub k13 h' ∧ F0 u19 ∧ F2 (Wp.int.R h') wu20 u20 ∧ X2 x7 u11 p0_0 p0_1 p0_2 (M1 vs) u19 u20 = some X18) (Exists.intro (fun _ _ => 0) ?_))
   refine And.intro (Exists.intro S0 ⟨0, wu12, u12, rfl, rfl, (Sub.refl _), (c64 (by decide) (by decide)), fu12, hLX18⟩) ?_
   rintro v_0 wu20 m22 k21 ⟨u19, zzu20, u20, evX18, eoX18, sX18, iu19, fu20, hM2⟩
   cases evX18
   cases eoX18
   replace hM2 : X2 x7 u11 p0_0 p0_1 p0_2 m22 u19 u20 = some X18 := hM2
   obtain _ | m22 := m22
   ·cases (show (none : Option _) = some X18 from hM2)
   rw [X2.eq_2] at hM2
   refine And.intro (fun hc23 => ?_) (fun hc23 => ?_)
   ·replace hM2 := ifP hM2 hc23
    refine Or.inl (And.intro (And.intro (by kernel_rfl) (by kernel_rfl)) ?_)
    obtain ⟨x24, gx24, hM2⟩ := j0 hM2
    obtain ⟨bx24, csx24, ex24, rx24⟩ := s6 fu20 gx24
    refine And.intro bx24 ?_
    obtain ⟨rfl, ix24⟩ := rx24
    refine Exists.intro _ (And.intro ex24 ?_)
    obtain ⟨x25, gx25, hM2⟩ := j0 hM2
    obtain ⟨bx25, csx25, ex25, rx25⟩ := Sl.getI (r := Wp.int.toRp) (I1.mono (sX10.trans sX18) rx7) gx25 (by decide)
    refine And.intro bx25 ?_
    obtain ⟨rfl, ix25⟩ := rx25
    refine Exists.intro _ (And.intro ex25 ?_)
    obtain ⟨x26, gx26, hM2⟩ := j0 hM2
    refine Exists.intro (.int .i64 x26) (And.intro (U00 _ [.int .i64 p0_0, .int .i64 p0_1, .slice ap0_2 p0_2.length cp0_2] (p0_0, p0_1, p0_2) (z0 ip0_0 ip0_1 (I0.mono ((sx7.trans sX10).trans sX18) rp0_2)) x24 ix24 x25 ix25 _  gx26) ?_)
    obtain ⟨q27, gq27, hM2⟩ := j0 hM2
    have ix26 : F0 x26 := G2 gq27
    obtain ⟨x28, gx28, hM2⟩ := j0 hM2
    refine Exists.intro (.bool x28) (And.intro ?_ ?_)
    ·intro hq
     intro v29 k30 f31
     obtain ⟨az32, cz32, rfl, rz32, sz32, lz32⟩ := Z0.out (r := Wp.int.toRp) f31 fu20
     exact T00 _ az32 u20.length cz32 u20 rz32 x26 ix26 _ (I2 gx28 hq)
    refine And.intro (fun hc33 => ?_) (fun hc33 => ?_)
    ·replace hM2 := ifP hM2 hc33
     obtain ⟨q34, gq34, hM2⟩ := j0 hM2
     refine And.intro (E2 gq34 (by first | rw [F2.length fu20, F2.length (show F2 (Wp.int.R k21) ([[.int .i64 x26]] : List (List Value)) [x26] from ⟨⟨rfl, ix26⟩, trivial⟩)] | exact congrArg (· + 1) (F2.length fu20))) ?_
     refine And.intro rfl (And.intro (by repeat (first | exact trivial | refine And.intro rfl ?_)) (And.intro (by repeat (first | exact trivial | refine And.intro rfl ?_)) (Exists.intro m22 (And.intro ⟨(IntKind.i64.wrap (u19 + 1)), (wu20 ++ ([[.int .i64 x26]] : List (List Value))), (u20 ++ [x26]), rfl, rfl, sX18, (H0 _), (F2.append fu20 (show F2 (Wp.int.R k21) ([[.int .i64 x26]] : List (List Value)) [x26] from ⟨⟨rfl, ix26⟩, trivial⟩)), hM2⟩ (Nat.lt_succ_self _)))))
    ·replace hM2 := ifN hM2 hc33
     refine And.intro rfl (And.intro (by repeat (first | exact trivial | refine And.intro rfl ?_)) (And.intro (by repeat (first | exact trivial | refine And.intro rfl ?_)) (Exists.intro m22 (And.intro ⟨(IntKind.i64.wrap (u19 + 1)), wu20, u20, rfl, rfl, sX18, (H0 _), fu20, hM2⟩ (Nat.lt_succ_self _)))))
   ·replace hM2 := ifN hM2 hc23
    have hE := Option.some.inj hM2; subst hE
    try dsimp only [T0, U0] at hM1
    refine And.intro rfl (And.intro (by repeat (first | exact trivial | refine And.intro rfl ?_)) (And.intro (by repeat (first | exact trivial | refine And.intro rfl ?_)) (Exists.intro m14 (And.intro ⟨(IntKind.i64.wrap (u11 + 1)), wu20, u20, rfl, rfl, (sX10.trans sX18), (H0 _), fu20, hM1⟩ (Nat.lt_succ_self _)))))
  ·replace hM1 := ifN hM1 hc17
   have hE := Option.some.inj hM1; subst hE
   try dsimp only [T0, U0] at hM0
   intro v39 k40 f41
   obtain ⟨az42, cz42, rfl, rz42, sz42, lz42⟩ := Z0.out (r := Wp.int.toRp) f41 fu12
   have hE := Option.some.inj hM0; subst hE
   exact ⟨az42, u12.length, cz42, rfl, rz42, ((sx7.trans sX10).trans sz42)⟩
theorem o04 (h : Hp) (csp0 : List Value) (p0 : l0) (rp0 : Y0.R h csp0 p0) (r : l0) (hM0 : S6 p0 = some r) :
  Tr Tryz.prog 189 #[.agg csp0.toArray] h fun v h' => ∃ (cs0 : List Value), v = .agg cs0.toArray ∧ Y0.R h' cs0 r ∧ Sub h h' := by
 obtain ⟨p0_0, p0_1, ap0_2, np0_2, cp0_2, p0_2, rfl, rfl, ip0_0, ip0_1, rp0_2⟩ := B0 rp0
 obtain ⟨rfl, lp0_2⟩ := Sl.len rp0_2
 unfold S6 at hM0
 dsimp only at hM0
 refine U2 (args := [.agg #[.int .i64 p0_0, .int .i64 p0_1, .slice ap0_2 p0_2.length cp0_2]]) (fn := Tryz.f189) rfl ?_
 obtain ⟨x1, gx1, hM0⟩ := j0 hM0
 refine Tr.mono (n04 _ [.int .i64 p0_0, .int .i64 p0_1, .slice ap0_2 p0_2.length cp0_2] (p0_0, p0_1, p0_2) (z0 ip0_0 ip0_1 rp0_2) _  gx1) ?_
 rintro v3 k2 ⟨ax1, nx1, cx1, rfl, rx1, sx1⟩
 obtain ⟨rfl, lx1⟩ := Sl.len rx1
 refine And.intro (fun hc4 => ?_) (fun hc4 => ?_)
 ·replace hM0 := ifP hM0 hc4
  obtain ⟨x5, gx5, hM0⟩ := j0 hM0
  refine Tr.mono (P3 _ [.int .i64 p0_0, .int .i64 p0_1, .slice ap0_2 p0_2.length cp0_2] (p0_0, p0_1, p0_2) (z0 ip0_0 ip0_1 (I0.mono sx1 rp0_2)) _  gx5) ?_
  rintro v7 k6 ⟨csx5, rfl, rx5, sx5⟩
  obtain ⟨x5_0, x5_1, ax5_2, nx5_2, cx5_2, x5_2, rfl, rfl, ix5_0, ix5_1, rx5_2⟩ := B0 rx5
  obtain ⟨rfl, lx5_2⟩ := Sl.len rx5_2
  try dsimp only at hM0
  have hE := Option.some.inj hM0; subst hE
  exact ⟨([.int .i64 x5_0, .int .i64 x5_1, .slice ax5_2 x5_2.length cx5_2]), rfl, (z0 ix5_0 ix5_1 rx5_2), (sx1.trans sx5)⟩
 ·replace hM0 := ifN hM0 hc4
  obtain ⟨x8, gx8, hM0⟩ := j0 hM0
  refine Tr.mono (E01 _ [.int .i64 p0_0, .int .i64 p0_1, .slice ap0_2 p0_2.length cp0_2] (p0_0, p0_1, p0_2) (z0 ip0_0 ip0_1 (I0.mono sx1 rp0_2)) ax1 x1.length cx1 x1 rx1 _  gx8) ?_
  rintro v10 k9 ⟨csx8_0, rfl, rx8_0, sx8⟩
  obtain ⟨x8_0, x8_1⟩ := x8
  dsimp only at hM0 rx8_0
  obtain ⟨x8_0_0, x8_0_1, ax8_0_2, nx8_0_2, cx8_0_2, x8_0_2, rfl, rfl, ix8_0_0, ix8_0_1, rx8_0_2⟩ := B0 rx8_0
  obtain ⟨rfl, lx8_0_2⟩ := Sl.len rx8_0_2
  try dsimp only at hM0
  have hE := Option.some.inj hM0; subst hE
  exact ⟨([.int .i64 x8_0_0, .int .i64 x8_0_1, .slice ax8_0_2 x8_0_2.length cx8_0_2]), rfl, (z0 ix8_0_0 ix8_0_1 rx8_0_2), (sx1.trans sx8)⟩
end Go.Proofs.YtfdlgbfeceodeaaGreat
