/- Texts of the claim, joined: The walks of batch 1; The walks of batch 4g; The walks of batch 9; The walks of batch 9f; The walks of batch g1. -/
import Derived.Test.YtfdlgbfeceodeaaGreatPart18
import Derived.Test.YtfdlgbfeceodeaaGreatChecked
import Derived.Test.YtfdlgbfeceodeaaGreatH35
import Derived.Test.YtfdlgbfeceodeaaGreatSI
import Derived.Test.YtfdlgbfeceodeaaGreatPart21
namespace Go.Proofs.YtfdlgbfeceodeaaGreat
open Go.H
set_option linter.unusedVariables false
set_option linter.unusedSimpArgs false
set_option maxRecDepth 10000
theorem T5 (h : Hp) (p0 : Int) (ip0 : H0 p0) (p1 : Int) (ip1 : H0 p1) (p2 : Int) (ip2 : H0 p2) (r : Bool) (hM0 : F4 p0 p1 p2 = some r) :
  Tr Tryz.prog 105 #[.int .i64 p0, .int .i64 p1, .int .i64 p2] h fun v h' => v = .bool r ∧ h' = h := by
 unfold F4 at hM0
 refine Tr.forget (T2 (args := [.int .i64 p0, .int .i64 p1, .int .i64 p2]) (fn := Tryz.f105) rfl ?_)
 have hE := Option.some.inj hM0; subst hE
 exact And.intro rfl (Sub.refl _)
theorem s06 (h : Hp) (p0 : Int) (ip0 : H0 p0) (ap1 : Option Addr) (np1 cp1 : Nat) (p1 : P0) (rp1 : K1.R h [.slice ap1 np1 cp1] p1) (r : Bool) (hM0 : K9 p0 p1 = some r) :
  Tr Tryz.prog 124 #[.int .i64 p0, .slice ap1 np1 cp1] h fun v h' => v = .bool r ∧ h' = h := by
 obtain ⟨rfl, lp1⟩ := Sl.len rp1
 unfold K9 at hM0
 refine Tr.forget (T2 (args := [.int .i64 p0, .slice ap1 p1.length cp1]) (fn := Tryz.f124) rfl ?_)
 obtain ⟨X1, hLX1, hM0⟩ := j0 hM0
 refine Exists.intro { vars := [5], boxes := [], owns := [], fuel := true } (Exists.intro (fun vs os h' => ∃ (u2 : Int), vs.tail = [.int .i64 u2] ∧ os = [] ∧ Sub h h' ∧ H0 u2 ∧ U6 p1 p0 (Q1 vs) u2 = some X1) (Exists.intro (fun _ _ => 0) ?_))
 refine And.intro (Exists.intro T0 ⟨0, rfl, rfl, (Sub.refl _), (c64 (by decide) (by decide)), hLX1⟩) ?_
 rintro v_0 m4 k3 ⟨u2, evX1, eoX1, sX1, iu2, hM1⟩
 cases evX1
 cases eoX1
 replace hM1 : U6 p1 p0 m4 u2 = some X1 := hM1
 obtain _ | m4 := m4
 ·cases (show (none : Option _) = some X1 from hM1)
 rw [U6.eq_2] at hM1
 refine And.intro (fun hc5 => ?_) (fun hc5 => ?_)
 ·replace hM1 := ifP hM1 hc5
  refine Or.inl (And.intro (And.intro (by kernel_rfl) (by kernel_rfl)) ?_)
  obtain ⟨x6, gx6, hM1⟩ := j0 hM1
  obtain ⟨bx6, csx6, ex6, rx6⟩ := Sl.getI (r := Wp.int.toRp) (K1.mono sX1 rp1) gx6 (by decide)
  refine And.intro bx6 ?_
  obtain ⟨rfl, ix6⟩ := rx6
  refine Exists.intro _ (And.intro ex6 ?_)
  obtain ⟨x7, gx7, hM1⟩ := j0 hM1
  obtain ⟨csx7, ex7, rx7⟩ := Sl.getG (r := Wp.int.toRp) (K1.mono sX1 rp1) gx7 (by decide) (A04 k3)
  refine And.intro (fun q => (ex7 q).1) ?_
  obtain ⟨rfl, ix7⟩ := rx7
  refine Exists.intro _ (And.intro (fun q => (ex7 q).2) ?_)
  obtain ⟨x8, gx8, hM1⟩ := j0 hM1
  refine Exists.intro (.bool x8) (And.intro (fun q => T5 _ x7 ix7 (IntKind.i64.wrap (0 - p0)) (K0 _) p0 ip0 _  (N2 gx8 q)) ?_)
  obtain ⟨x9, gx9, hM1⟩ := j0 hM1
  obtain ⟨csx9, ex9, rx9⟩ := Sl.getG (r := Wp.int.toRp) (K1.mono sX1 rp1) gx9 (by decide) (A04 k3)
  refine And.intro (fun q => (ex9 q).1) ?_
  obtain ⟨rfl, ix9⟩ := rx9
  refine Exists.intro _ (And.intro (fun q => (ex9 q).2) ?_)
  obtain ⟨x10, gx10, hM1⟩ := j0 hM1
  obtain ⟨csx10, ex10, rx10⟩ := Sl.getG (r := Wp.int.toRp) (K1.mono sX1 rp1) gx10 (by decide) (A04 k3)
  refine And.intro (fun q => (ex10 q).1) ?_
  obtain ⟨rfl, ix10⟩ := rx10
  refine Exists.intro _ (And.intro (fun q => (ex10 q).2) ?_)
  refine And.intro (fun hc11 => ?_) (fun hc11 => ?_)
  ·replace hM1 := ifP hM1 hc11
   have hE := Option.some.inj hM1; subst hE
   try dsimp only [G3, J3] at hM0
   have hE := Option.some.inj hM0; subst hE
   exact And.intro rfl sX1
  ·replace hM1 := ifN hM1 hc11
   refine And.intro rfl (And.intro (by repeat (first | exact trivial | refine And.intro rfl ?_)) (And.intro (by repeat (first | exact trivial | refine And.intro rfl ?_)) (Exists.intro m4 (And.intro ⟨(IntKind.i64.wrap (u2 + 1)), rfl, rfl, sX1, (K0 _), hM1⟩ (Nat.lt_succ_self _)))))
 ·replace hM1 := ifN hM1 hc5
  have hE := Option.some.inj hM1; subst hE
  try dsimp only [U0, Z0] at hM0
  obtain ⟨x12, gx12, hM0⟩ := j0 hM0
  refine Tr.val (T5 _ p0 ip0 1 (c64 (by decide) (by decide)) 3 (c64 (by decide) (by decide)) _  gx12) ?_
  have hE := Option.some.inj hM0; subst hE
  exact And.intro rfl sX1
theorem P06 (h : Hp) (ap0 : Option Addr) (np0 cp0 : Nat) (p0 : V2) (rp0 : D3.R h [.slice ap0 np0 cp0] p0) (r : Int) (hM0 : l7 p0 = some r) :
  Tr Tryz.prog 198 #[.slice ap0 np0 cp0] h fun v h' => v = .int .i64 r ∧ h' = h := by
 obtain ⟨rfl, lp0⟩ := Sl.len rp0
 unfold l7 at hM0
 refine Tr.forget (T2 (args := [.slice ap0 p0.length cp0]) (fn := Tryz.f198) rfl ?_)
 obtain ⟨X1, hLX1, hM0⟩ := j0 hM0
 refine Exists.intro { vars := [3, 4], boxes := [], owns := [], fuel := true } (Exists.intro (fun vs os h' => ∃ (u2 : Int) (u3 : Int), vs.tail = [.int .i64 u2, .int .i64 u3] ∧ os = [] ∧ Sub h h' ∧ H0 u2 ∧ H0 u3 ∧ K3 p0 (Q1 vs) u2 u3 = some X1) (Exists.intro (fun _ _ => 0) ?_))
 refine And.intro (Exists.intro T0 ⟨0, 0, rfl, rfl, (Sub.refl _), (c64 (by decide) (by decide)), (c64 (by decide) (by decide)), hLX1⟩) ?_
 rintro v_0 v_1 m5 k4 ⟨u2, u3, evX1, eoX1, sX1, iu2, iu3, hM1⟩
 cases evX1
 cases eoX1
 replace hM1 : K3 p0 m5 u2 u3 = some X1 := hM1
 obtain _ | m5 := m5
 ·cases (show (none : Option _) = some X1 from hM1)
 rw [K3.eq_2] at hM1
 refine And.intro (fun hc6 => ?_) (fun hc6 => ?_)
 ·replace hM1 := ifP hM1 hc6
  obtain ⟨x7, gx7, hM1⟩ := j0 hM1
  obtain ⟨bx7, csx7, ex7, rx7⟩ := Sl.getI (r := K1.toRp) (D3.mono sX1 rp0) gx7 (by decide)
  refine And.intro bx7 ?_
  obtain ⟨ax7, nx7, cx7, rfl⟩ := Wp.slice_cell rx7
  obtain ⟨rfl, lx7⟩ := Sl.len rx7
  refine Exists.intro _ (And.intro ex7 ?_)
  refine And.intro rfl (And.intro (by repeat (first | exact trivial | refine And.intro rfl ?_)) (And.intro (by repeat (first | exact trivial | refine And.intro rfl ?_)) (Exists.intro m5 (And.intro ⟨(IntKind.i64.wrap (u2 + ((x7.length : Nat) : Int))), (IntKind.i64.wrap (u3 + 1)), rfl, rfl, sX1, (K0 _), (K0 _), hM1⟩ (Nat.lt_succ_self _)))))
 ·replace hM1 := ifN hM1 hc6
  have hE := Option.some.inj hM1; subst hE
  try dsimp only [U0, Z0] at hM0
  have hE := Option.some.inj hM0; subst hE
  exact And.intro rfl sX1
theorem E04 (h : Hp) (p0 : Int) (ip0 : H0 p0) (ap1 : Option Addr) (np1 cp1 : Nat) (p1 : V2) (rp1 : D3.R h [.slice ap1 np1 cp1] p1) (r : Bool) (hM0 : E8 p0 p1 = some r) :
  Tr Tryz.prog 141 #[.int .i64 p0, .slice ap1 np1 cp1] h fun v h' => v = .bool r ∧ h' = h := by
 obtain ⟨rfl, lp1⟩ := Sl.len rp1
 unfold E8 at hM0
 refine Tr.forget (T2 (args := [.int .i64 p0, .slice ap1 p1.length cp1]) (fn := Tryz.f141) rfl ?_)
 obtain ⟨X1, hLX1, hM0⟩ := j0 hM0
 refine Exists.intro { vars := [5], boxes := [], owns := [], fuel := true } (Exists.intro (fun vs os h' => ∃ (u2 : Int), vs.tail = [.int .i64 u2] ∧ os = [] ∧ Sub h h' ∧ H0 u2 ∧ M5 p1 p0 (Q1 vs) u2 = some X1) (Exists.intro (fun _ _ => 0) ?_))
 refine And.intro (Exists.intro T0 ⟨0, rfl, rfl, (Sub.refl _), (c64 (by decide) (by decide)), hLX1⟩) ?_
 rintro v_0 m4 k3 ⟨u2, evX1, eoX1, sX1, iu2, hM1⟩
 cases evX1
 cases eoX1
 replace hM1 : M5 p1 p0 m4 u2 = some X1 := hM1
 obtain _ | m4 := m4
 ·cases (show (none : Option _) = some X1 from hM1)
 rw [M5.eq_2] at hM1
 refine And.intro (fun hc5 => ?_) (fun hc5 => ?_)
 ·replace hM1 := ifP hM1 hc5
  obtain ⟨x6, gx6, hM1⟩ := j0 hM1
  obtain ⟨bx6, csx6, ex6, rx6⟩ := Sl.getI (r := K1.toRp) (D3.mono sX1 rp1) gx6 (by decide)
  refine And.intro bx6 ?_
  obtain ⟨ax6, nx6, cx6, rfl⟩ := Wp.slice_cell rx6
  obtain ⟨rfl, lx6⟩ := Sl.len rx6
  refine Exists.intro _ (And.intro ex6 ?_)
  obtain ⟨x7, gx7, hM1⟩ := j0 hM1
  refine Tr.val (s06 _ p0 ip0 ax6 x6.length cx6 x6 rx6 _  gx7) ?_
  refine And.intro (fun hc8 => ?_) (fun hc8 => ?_)
  ·replace hM1 := ifP hM1 hc8
   have hE := Option.some.inj hM1; subst hE
   try dsimp only [G3, J3] at hM0
   have hE := Option.some.inj hM0; subst hE
   exact And.intro rfl sX1
  ·replace hM1 := ifN hM1 hc8
   refine And.intro rfl (And.intro (by repeat (first | exact trivial | refine And.intro rfl ?_)) (And.intro (by repeat (first | exact trivial | refine And.intro rfl ?_)) (Exists.intro m4 (And.intro ⟨(IntKind.i64.wrap (u2 + 1)), rfl, rfl, sX1, (K0 _), hM1⟩ (Nat.lt_succ_self _)))))
 ·replace hM1 := ifN hM1 hc5
  have hE := Option.some.inj hM1; subst hE
  try dsimp only [U0, Z0] at hM0
  obtain ⟨x9, gx9, hM0⟩ := j0 hM0
  refine Tr.val (T5 _ p0 ip0 1 (c64 (by decide) (by decide)) 3 (c64 (by decide) (by decide)) _  gx9) ?_
  obtain ⟨x10, gx10, hM0⟩ := j0 hM0
  refine Exists.intro (.int .i64 x10) (And.intro (fun q => P06 _ ap1 p1.length cp1 p1 (D3.mono sX1 rp1) _  (N2 gx10 q)) ?_)
  obtain ⟨q11, gq11, hM0⟩ := j0 hM0
  have ix10 : H0 x10 := U2 gq11
  have hE := Option.some.inj hM0; subst hE
  exact And.intro rfl sX1
theorem R9 (h : Hp) (csp0 : List Value) (p0 : D0) (rp0 : j1.R h csp0 p0) (r : Bool) (hM0 : i5 p0 = some r) :
  Tr Tryz.prog 87 #[.agg csp0.toArray] h fun v h' => v = .bool r ∧ h' = h := by
 obtain ⟨aF, aB, aH, aC, aD, rfl, rfl, aG, aA⟩ := A2 rp0
 obtain ⟨rfl, aI⟩ := Sl.len aA
 unfold i5 at hM0
 dsimp only at hM0
 refine Tr.forget (T2 (args := [.agg #[.int .i64 aF, .slice aB aD.length aC]]) (fn := Tryz.f87) rfl ?_)
 obtain ⟨X1, hLX1, hM0⟩ := j0 hM0
 refine Exists.intro { vars := [3], boxes := [], owns := [], fuel := true } (Exists.intro (fun vs os h' => ∃ (u2 : Int), vs.tail = [.int .i64 u2] ∧ os = [] ∧ Sub h h' ∧ H0 u2 ∧ T3 aD (Q1 vs) u2 = some X1) (Exists.intro (fun _ _ => 0) ?_))
 refine And.intro (Exists.intro T0 ⟨0, rfl, rfl, (Sub.refl _), (c64 (by decide) (by decide)), hLX1⟩) ?_
 rintro v_0 m4 k3 ⟨u2, evX1, eoX1, sX1, iu2, hM1⟩
 cases evX1
 cases eoX1
 replace hM1 : T3 aD m4 u2 = some X1 := hM1
 obtain _ | m4 := m4
 ·cases (show (none : Option _) = some X1 from hM1)
 rw [T3.eq_2] at hM1
 refine And.intro (fun hc5 => ?_) (fun hc5 => ?_)
 ·replace hM1 := ifP hM1 hc5
  obtain ⟨x6, gx6, hM1⟩ := j0 hM1
  obtain ⟨bx6, csx6, ex6, rx6⟩ := Sl.getI (r := K1.toRp) (D3.mono sX1 aA) gx6 (by decide)
  refine And.intro bx6 ?_
  obtain ⟨ax6, nx6, cx6, rfl⟩ := Wp.slice_cell rx6
  obtain ⟨rfl, lx6⟩ := Sl.len rx6
  refine Exists.intro _ (And.intro ex6 ?_)
  refine Or.inl (And.intro (And.intro (by kernel_rfl) (by kernel_rfl)) ?_)
  obtain ⟨x7, gx7, hM1⟩ := j0 hM1
  obtain ⟨csx7, ex7, rx7⟩ := Sl.getG (r := Wp.int.toRp) rx6 gx7 (by decide) (A04 k3)
  refine And.intro (fun q => (ex7 q).1) ?_
  obtain ⟨rfl, ix7⟩ := rx7
  refine Exists.intro _ (And.intro (fun q => (ex7 q).2) ?_)
  obtain ⟨x8, gx8, hM1⟩ := j0 hM1
  obtain ⟨csx8, ex8, rx8⟩ := Sl.getG (r := Wp.int.toRp) rx6 gx8 (by decide) (A04 k3)
  refine And.intro (fun q => (ex8 q).1) ?_
  obtain ⟨rfl, ix8⟩ := rx8
  refine Exists.intro _ (And.intro (fun q => (ex8 q).2) ?_)
  refine And.intro (fun hc9 => ?_) (fun hc9 => ?_)
  ·replace hM1 := ifP hM1 hc9
   have hE := Option.some.inj hM1; subst hE
   try dsimp only [G3, J3] at hM0
   have hE := Option.some.inj hM0; subst hE
   exact And.intro rfl sX1
  ·replace hM1 := ifN hM1 hc9
   refine And.intro rfl (And.intro (by repeat (first | exact trivial | refine And.intro rfl ?_)) (And.intro (by repeat (first | exact trivial | refine And.intro rfl ?_)) (Exists.intro m4 (And.intro ⟨(IntKind.i64.wrap (u2 + 1)), rfl, rfl, sX1, (K0 _), hM1⟩ (Nat.lt_succ_self _)))))
 ·replace hM1 := ifN hM1 hc5
  have hE := Option.some.inj hM1; subst hE
  try dsimp only [U0, Z0] at hM0
  obtain ⟨x10, gx10, hM0⟩ := j0 hM0
  refine Tr.val (E04 _ aF aG aB aD.length aC aD (D3.mono sX1 aA) _  gx10) ?_
  have hE := Option.some.inj hM0; subst hE
  exact And.intro rfl sX1
theorem Z7 (h : Hp) (p0 : Int) (ip0 : H0 p0) (p1 : Int) (ip1 : H0 p1) (p2 : Int) (ip2 : H0 p2) (r : Bool) (hM0 : c6 p0 p1 p2 = some r) :
  Tr Tryz.prog 110 #[.int .i64 p0, .int .i64 p1, .int .i64 p2] h fun v h' => v = .bool r ∧ h' = h := by
 unfold c6 at hM0
 refine Tr.forget (T2 (args := [.int .i64 p0, .int .i64 p1, .int .i64 p2]) (fn := Tryz.f110) rfl ?_)
 have hE := Option.some.inj hM0; subst hE
 exact And.intro rfl (Sub.refl _)
theorem P09 (h : Hp) (p0 : Int) (ip0 : H0 p0) (p1 : Int) (ip1 : H0 p1) (r : Bool) (hM0 : p9 p0 p1 = some r) :
  Tr Tryz.prog 185 #[.int .i64 p0, .int .i64 p1] h fun v h' => v = .bool r ∧ h' = h := by
 unfold p9 at hM0
 refine Tr.forget (T2 (args := [.int .i64 p0, .int .i64 p1]) (fn := Tryz.f185) rfl ?_)
 obtain ⟨x1, gx1, hM0⟩ := j0 hM0
 refine Exists.intro (.bool x1) (And.intro (fun q => Z7 _ p1 ip1 (IntKind.i64.wrap (0 - p0)) (K0 _) p0 ip0 _  (N2 gx1 q)) ?_)
 have hE := Option.some.inj hM0; subst hE
 exact And.intro rfl (Sub.refl _)
theorem Z02 (h : Hp) (p0 : Int) (ip0 : H0 p0) (p1 : Int) (ip1 : H0 p1) (r : Bool) (hM0 : M7 p0 p1 = some r) :
  Tr Tryz.prog 150 #[.int .i64 p0, .int .i64 p1] h fun v h' => v = .bool r ∧ h' = h := by
 unfold M7 at hM0
 refine Tr.forget (T2 (args := [.int .i64 p0, .int .i64 p1]) (fn := Tryz.f150) rfl ?_)
 have hE := Option.some.inj hM0; subst hE
 exact And.intro rfl (Sub.refl _)
theorem t06 (h : Hp) (p0 : Int) (ip0 : H0 p0) (ap1 : Option Addr) (np1 cp1 : Nat) (p1 : P0) (rp1 : K1.R h [.slice ap1 np1 cp1] p1) (r : Bool) (hM0 : L9 p0 p1 = some r) :
  Tr Tryz.prog 126 #[.int .i64 p0, .slice ap1 np1 cp1] h fun v h' => v = .bool r ∧ h' = h := by
 obtain ⟨rfl, lp1⟩ := Sl.len rp1
 unfold L9 at hM0
 refine Tr.forget (T2 (args := [.int .i64 p0, .slice ap1 p1.length cp1]) (fn := Tryz.f126) rfl ?_)
 obtain ⟨x1, gx1, hM0⟩ := j0 hM0
 refine Tr.val (Z7 _ p0 ip0 1 (c64 (by decide) (by decide)) 3 (c64 (by decide) (by decide)) _  gx1) ?_
 refine And.intro (fun hc2 => ?_) (fun hc2 => ?_)
 ·replace hM0 := ifP hM0 hc2
  have hE := Option.some.inj hM0; subst hE
  exact And.intro rfl (Sub.refl _)
 ·replace hM0 := ifN hM0 hc2
  obtain ⟨X3, hLX3, hM0⟩ := j0 hM0
  refine Exists.intro { vars := [17], boxes := [], owns := [], fuel := true } (Exists.intro (fun vs os h' => ∃ (u4 : Int), vs.tail = [.int .i64 u4] ∧ os = [] ∧ Sub h h' ∧ H0 u4 ∧ V6 p1 p0 (Q1 vs) u4 = some X3) (Exists.intro (fun _ _ => 0) ?_))
  refine And.intro (Exists.intro T0 ⟨0, rfl, rfl, (Sub.refl _), (c64 (by decide) (by decide)), hLX3⟩) ?_
  rintro v_0 m6 k5 ⟨u4, evX3, eoX3, sX3, iu4, hM1⟩
  cases evX3
  cases eoX3
  replace hM1 : V6 p1 p0 m6 u4 = some X3 := hM1
  obtain _ | m6 := m6
  ·cases (show (none : Option _) = some X3 from hM1)
  rw [V6.eq_2] at hM1
  refine And.intro (fun hc7 => ?_) (fun hc7 => ?_)
  ·replace hM1 := ifP hM1 hc7
   obtain ⟨x8, gx8, hM1⟩ := j0 hM1
   obtain ⟨bx8, csx8, ex8, rx8⟩ := Sl.getI (r := Wp.int.toRp) (K1.mono sX3 rp1) gx8 (by decide)
   refine And.intro bx8 ?_
   obtain ⟨rfl, ix8⟩ := rx8
   refine Exists.intro _ (And.intro ex8 ?_)
   obtain ⟨x9, gx9, hM1⟩ := j0 hM1
   refine Tr.val (P09 _ p0 ip0 x8 ix8 _  gx9) ?_
   obtain ⟨x10, gx10, hM1⟩ := j0 hM1
   obtain ⟨csx10, ex10, rx10⟩ := Sl.getG (r := Wp.int.toRp) (K1.mono sX3 rp1) gx10 (by decide) (A04 k5)
   refine And.intro (fun q => (ex10 q).1) ?_
   obtain ⟨rfl, ix10⟩ := rx10
   refine Exists.intro _ (And.intro (fun q => (ex10 q).2) ?_)
   obtain ⟨x11, gx11, hM1⟩ := j0 hM1
   refine Exists.intro (.bool x11) (And.intro (fun q => Z02 _ x10 ix10 x8 ix8 _  (N2 gx11 q)) ?_)
   refine And.intro (fun hc12 => ?_) (fun hc12 => ?_)
   ·replace hM1 := ifP hM1 hc12
    have hE := Option.some.inj hM1; subst hE
    try dsimp only [G3, J3] at hM0
    have hE := Option.some.inj hM0; subst hE
    exact And.intro rfl sX3
   ·replace hM1 := ifN hM1 hc12
    refine And.intro rfl (And.intro (by repeat (first | exact trivial | refine And.intro rfl ?_)) (And.intro (by repeat (first | exact trivial | refine And.intro rfl ?_)) (Exists.intro m6 (And.intro ⟨(IntKind.i64.wrap (u4 + 1)), rfl, rfl, sX3, (K0 _), hM1⟩ (Nat.lt_succ_self _)))))
  ·replace hM1 := ifN hM1 hc7
   have hE := Option.some.inj hM1; subst hE
   try dsimp only [U0, Z0] at hM0
   have hE := Option.some.inj hM0; subst hE
   exact And.intro rfl sX3
theorem Q06 (h : Hp) (ap0 : Option Addr) (np0 cp0 : Nat) (p0 : V2) (rp0 : D3.R h [.slice ap0 np0 cp0] p0) (r : Int) (hM0 : o8 p0 = some r) :
  Tr Tryz.prog 203 #[.slice ap0 np0 cp0] h fun v h' => v = .int .i64 r ∧ h' = h := by
 obtain ⟨rfl, lp0⟩ := Sl.len rp0
 unfold o8 at hM0
 refine Tr.forget (T2 (args := [.slice ap0 p0.length cp0]) (fn := Tryz.f203) rfl ?_)
 obtain ⟨X1, hLX1, hM0⟩ := j0 hM0
 refine Exists.intro { vars := [3, 8], boxes := [], owns := [], fuel := true } (Exists.intro (fun vs os h' => ∃ (u2 : Int) (u3 : Int), vs.tail = [.int .i64 u2, .int .i64 u3] ∧ os = [] ∧ Sub h h' ∧ H0 u2 ∧ H0 u3 ∧ o5 p0 (Q1 vs) u2 u3 = some X1) (Exists.intro (fun _ _ => 0) ?_))
 refine And.intro (Exists.intro T0 ⟨0, 0, rfl, rfl, (Sub.refl _), (c64 (by decide) (by decide)), (c64 (by decide) (by decide)), hLX1⟩) ?_
 rintro v_0 v_1 m5 k4 ⟨u2, u3, evX1, eoX1, sX1, iu2, iu3, hM1⟩
 cases evX1
 cases eoX1
 replace hM1 : o5 p0 m5 u2 u3 = some X1 := hM1
 obtain _ | m5 := m5
 ·cases (show (none : Option _) = some X1 from hM1)
 rw [o5.eq_2] at hM1
 refine And.intro (fun hc6 => ?_) (fun hc6 => ?_)
 ·replace hM1 := ifP hM1 hc6
  obtain ⟨x7, gx7, hM1⟩ := j0 hM1
  obtain ⟨bx7, csx7, ex7, rx7⟩ := Sl.getI (r := K1.toRp) (D3.mono sX1 rp0) gx7 (by decide)
  refine And.intro bx7 ?_
  obtain ⟨ax7, nx7, cx7, rfl⟩ := Wp.slice_cell rx7
  obtain ⟨rfl, lx7⟩ := Sl.len rx7
  refine Exists.intro _ (And.intro ex7 ?_)
  refine And.intro rfl (And.intro (by repeat (first | exact trivial | refine And.intro rfl ?_)) (And.intro (by repeat (first | exact trivial | refine And.intro rfl ?_)) (Exists.intro m5 (And.intro ⟨(IntKind.i64.wrap (u2 + ((x7.length : Nat) : Int))), (IntKind.i64.wrap (u3 + 1)), rfl, rfl, sX1, (K0 _), (K0 _), hM1⟩ (Nat.lt_succ_self _)))))
 ·replace hM1 := ifN hM1 hc6
  have hE := Option.some.inj hM1; subst hE
  try dsimp only [U0, Z0] at hM0
  have hE := Option.some.inj hM0; subst hE
  exact And.intro rfl sX1
theorem F04 (h : Hp) (p0 : Int) (ip0 : H0 p0) (ap1 : Option Addr) (np1 cp1 : Nat) (p1 : V2) (rp1 : D3.R h [.slice ap1 np1 cp1] p1) (r : Bool) (hM0 : F8 p0 p1 = some r) :
  Tr Tryz.prog 149 #[.int .i64 p0, .slice ap1 np1 cp1] h fun v h' => v = .bool r ∧ h' = h := by
 obtain ⟨rfl, lp1⟩ := Sl.len rp1
 unfold F8 at hM0
 refine Tr.forget (T2 (args := [.int .i64 p0, .slice ap1 p1.length cp1]) (fn := Tryz.f149) rfl ?_)
 obtain ⟨x1, gx1, hM0⟩ := j0 hM0
 refine Tr.val (Z7 _ p0 ip0 1 (c64 (by decide) (by decide)) 3 (c64 (by decide) (by decide)) _  gx1) ?_
 refine And.intro (fun hc2 => ?_) (fun hc2 => ?_)
 ·replace hM0 := ifP hM0 hc2
  have hE := Option.some.inj hM0; subst hE
  exact And.intro rfl (Sub.refl _)
 ·replace hM0 := ifN hM0 hc2
  obtain ⟨X3, hLX3, hM0⟩ := j0 hM0
  refine Exists.intro { vars := [17], boxes := [], owns := [], fuel := true } (Exists.intro (fun vs os h' => ∃ (u4 : Int), vs.tail = [.int .i64 u4] ∧ os = [] ∧ Sub h h' ∧ H0 u4 ∧ N5 p1 p0 (Q1 vs) u4 = some X3) (Exists.intro (fun _ _ => 0) ?_))
  refine And.intro (Exists.intro T0 ⟨0, rfl, rfl, (Sub.refl _), (c64 (by decide) (by decide)), hLX3⟩) ?_
  rintro v_0 m6 k5 ⟨u4, evX3, eoX3, sX3, iu4, hM1⟩
  cases evX3
  cases eoX3
  replace hM1 : N5 p1 p0 m6 u4 = some X3 := hM1
  obtain _ | m6 := m6
  ·cases (show (none : Option _) = some X3 from hM1)
  rw [N5.eq_2] at hM1
  refine And.intro (fun hc7 => ?_) (fun hc7 => ?_)
  ·replace hM1 := ifP hM1 hc7
   obtain ⟨x8, gx8, hM1⟩ := j0 hM1
   obtain ⟨bx8, csx8, ex8, rx8⟩ := Sl.getI (r := K1.toRp) (D3.mono sX3 rp1) gx8 (by decide)
   refine And.intro bx8 ?_
   obtain ⟨ax8, nx8, cx8, rfl⟩ := Wp.slice_cell rx8
   obtain ⟨rfl, lx8⟩ := Sl.len rx8
   refine Exists.intro _ (And.intro ex8 ?_)
   obtain ⟨x9, gx9, hM1⟩ := j0 hM1
   refine Tr.val (t06 _ p0 ip0 ax8 x8.length cx8 x8 rx8 _  gx9) ?_
   refine And.intro (fun hc10 => ?_) (fun hc10 => ?_)
   ·replace hM1 := ifP hM1 hc10
    have hE := Option.some.inj hM1; subst hE
    try dsimp only [G3, J3] at hM0
    have hE := Option.some.inj hM0; subst hE
    exact And.intro rfl sX3
   ·replace hM1 := ifN hM1 hc10
    refine And.intro rfl (And.intro (by repeat (first | exact trivial | refine And.intro rfl ?_)) (And.intro (by repeat (first | exact trivial | refine And.intro rfl ?_)) (Exists.intro m6 (And.intro ⟨(IntKind.i64.wrap (u4 + 1)), rfl, rfl, sX3, (K0 _), hM1⟩ (Nat.lt_succ_self _)))))
  ·replace hM1 := ifN hM1 hc7
   have hE := Option.some.inj hM1; subst hE
   try dsimp only [U0, Z0] at hM0
   obtain ⟨x11, gx11, hM0⟩ := j0 hM0
   refine Tr.val (Q06 _ ap1 p1.length cp1 p1 (D3.mono sX3 rp1) _  gx11) ?_
   obtain ⟨q12, gq12, hM0⟩ := j0 hM0
   have ix11 : H0 x11 := U2 gq12
   have hE := Option.some.inj hM0; subst hE
   exact And.intro rfl sX3
theorem S9 (h : Hp) (csp0 : List Value) (p0 : D0) (rp0 : j1.R h csp0 p0) (r : Bool) (hM0 : j5 p0 = some r) :
  Tr Tryz.prog 95 #[.agg csp0.toArray] h fun v h' => v = .bool r ∧ h' = h := by
 obtain ⟨aF, aB, aH, aC, aD, rfl, rfl, aG, aA⟩ := A2 rp0
 obtain ⟨rfl, aI⟩ := Sl.len aA
 unfold j5 at hM0
 dsimp only at hM0
 refine Tr.forget (T2 (args := [.agg #[.int .i64 aF, .slice aB aD.length aC]]) (fn := Tryz.f95) rfl ?_)
 obtain ⟨x1, gx1, hM0⟩ := j0 hM0
 refine Tr.val (F04 _ aF aG aB aD.length aC aD aA _  gx1) ?_
 refine And.intro (fun hc2 => ?_) (fun hc2 => ?_)
 ·replace hM0 := ifP hM0 hc2
  have hE := Option.some.inj hM0; subst hE
  exact And.intro rfl (Sub.refl _)
 ·replace hM0 := ifN hM0 hc2
  obtain ⟨X3, hLX3, hM0⟩ := j0 hM0
  refine Exists.intro { vars := [14], boxes := [], owns := [], fuel := true } (Exists.intro (fun vs os h' => ∃ (u4 : Int), vs.tail = [.int .i64 u4] ∧ os = [] ∧ Sub h h' ∧ H0 u4 ∧ U3 aD (Q1 vs) u4 = some X3) (Exists.intro (fun _ _ => 0) ?_))
  refine And.intro (Exists.intro T0 ⟨0, rfl, rfl, (Sub.refl _), (c64 (by decide) (by decide)), hLX3⟩) ?_
  rintro v_0 m6 k5 ⟨u4, evX3, eoX3, sX3, iu4, hM1⟩
  cases evX3
  cases eoX3
  replace hM1 : U3 aD m6 u4 = some X3 := hM1
  obtain _ | m6 := m6
  ·cases (show (none : Option _) = some X3 from hM1)
  rw [U3.eq_2] at hM1
  refine And.intro (fun hc7 => ?_) (fun hc7 => ?_)
  ·replace hM1 := ifP hM1 hc7
   obtain ⟨x8, gx8, hM1⟩ := j0 hM1
   obtain ⟨bx8, csx8, ex8, rx8⟩ := Sl.getI (r := K1.toRp) (D3.mono sX3 aA) gx8 (by decide)
   refine And.intro bx8 ?_
   obtain ⟨ax8, nx8, cx8, rfl⟩ := Wp.slice_cell rx8
   obtain ⟨rfl, lx8⟩ := Sl.len rx8
   refine Exists.intro _ (And.intro ex8 ?_)
   refine Or.inl (And.intro (And.intro (by kernel_rfl) (by kernel_rfl)) ?_)
   obtain ⟨x9, gx9, hM1⟩ := j0 hM1
   obtain ⟨csx9, ex9, rx9⟩ := Sl.getG (r := Wp.int.toRp) rx8 gx9 (by decide) (A04 k5)
   refine And.intro (fun q => (ex9 q).1) ?_
   obtain ⟨rfl, ix9⟩ := rx9
   refine Exists.intro _ (And.intro (fun q => (ex9 q).2) ?_)
   obtain ⟨x10, gx10, hM1⟩ := j0 hM1
   obtain ⟨csx10, ex10, rx10⟩ := Sl.getG (r := Wp.int.toRp) rx8 gx10 (by decide) (A04 k5)
   refine And.intro (fun q => (ex10 q).1) ?_
   obtain ⟨rfl, ix10⟩ := rx10
   refine Exists.intro _ (And.intro (fun q => (ex10 q).2) ?_)
   obtain ⟨x11, gx11, hM1⟩ := j0 hM1
   refine Exists.intro (.bool x11) (And.intro (fun q => Z02 _ x9 ix9 x10 ix10 _  (N2 gx11 q)) ?_)
   refine And.intro (fun hc12 => ?_) (fun hc12 => ?_)
   ·replace hM1 := ifP hM1 hc12
    have hE := Option.some.inj hM1; subst hE
    try dsimp only [G3, J3] at hM0
    have hE := Option.some.inj hM0; subst hE
    exact And.intro rfl sX3
   ·replace hM1 := ifN hM1 hc12
    refine And.intro rfl (And.intro (by repeat (first | exact trivial | refine And.intro rfl ?_)) (And.intro (by repeat (first | exact trivial | refine And.intro rfl ?_)) (Exists.intro m6 (And.intro ⟨(IntKind.i64.wrap (u4 + 1)), rfl, rfl, sX3, (K0 _), hM1⟩ (Nat.lt_succ_self _)))))
  ·replace hM1 := ifN hM1 hc7
   have hE := Option.some.inj hM1; subst hE
   try dsimp only [U0, Z0] at hM0
   have hE := Option.some.inj hM0; subst hE
   exact And.intro rfl sX3
theorem Q00 (h : Hp) (p0 : Int) (ip0 : H0 p0) (p1 : Int) (ip1 : H0 p1) (r : Int) (hM0 : l6 p0 p1 = some r) :
  Tr Tryz.prog 223 #[.int .i64 p0, .int .i64 p1] h fun v h' => v = .int .i64 r ∧ h' = h := by
 unfold l6 at hM0
 refine Tr.forget (T2 (args := [.int .i64 p0, .int .i64 p1]) (fn := Tryz.f223) rfl ?_)
 refine And.intro (fun hc1 => ?_) (fun hc1 => ?_)
 ·replace hM0 := ifP hM0 hc1
  have hE := Option.some.inj hM0; subst hE
  exact And.intro rfl (Sub.refl _)
 ·replace hM0 := ifN hM0 hc1
  refine And.intro (fun hc2 => ?_) (fun hc2 => ?_)
  ·replace hM0 := ifP hM0 hc2
   have hE := Option.some.inj hM0; subst hE
   exact And.intro rfl (Sub.refl _)
  ·replace hM0 := ifN hM0 hc2
   have hE := Option.some.inj hM0; subst hE
   exact And.intro rfl (Sub.refl _)
end Go.Proofs.YtfdlgbfeceodeaaGreat
namespace Go.Proofs.YtfdlgbfeceodeaaGreat
open Go.H
set_option linter.unusedVariables false
set_option linter.unusedSimpArgs false
set_option maxRecDepth 10000
theorem u06 (h : Hp) (csp0 : List Value) (p0 : l0) (rp0 : Y0.R h csp0 p0) (csp1 : List Value) (p1 : C0) (rp1 : Q0.R h csp1 p1) (r : Bool) (hM0 : M9 p0 p1 = some r) :
  Tr Tryz.prog 148 #[.agg csp0.toArray, .agg csp1.toArray] h fun v h' => v = .bool r ∧ h' = h := by
 obtain ⟨aB, aA, aC, aN, aD, aQ, rfl, rfl, aF, aO, aG⟩ := B0 rp0
 obtain ⟨rfl, aP⟩ := Sl.len aG
 obtain ⟨aH, aI, aJ, rfl, rfl, aK, aL, aM⟩ := D1 rp1
 unfold M9 at hM0
 dsimp only at hM0
 refine Tr.forget (T2 (args := [.agg #[.int .i64 aB, .int .i64 aA, .slice aC aQ.length aD], .agg #[.int .i64 aH, .int .i64 aI, .int .i64 aJ]]) (fn := Tryz.f148) rfl ?_)
 obtain ⟨x1, gx1, hM0⟩ := j0 hM0
 refine Tr.val (T5 _ aH aK 0 (c64 (by decide) (by decide)) (IntKind.i64.wrap (aA - 1)) (K0 _) _  gx1) ?_
 obtain ⟨x2, gx2, hM0⟩ := j0 hM0
 refine Exists.intro (.bool x2) (And.intro (fun q => T5 _ aJ aM 0 (c64 (by decide) (by decide)) (IntKind.i64.wrap (aA - 1)) (K0 _) _  (N2 gx2 q)) ?_)
 obtain ⟨x3, gx3, hM0⟩ := j0 hM0
 refine Exists.intro (.bool x3) (And.intro (fun q => T5 _ aI aL 1 (c64 (by decide) (by decide)) aB aF _  (N2 gx3 q)) ?_)
 have hE := Option.some.inj hM0; subst hE
 exact And.intro rfl (Sub.refl _)
theorem X01 (h : Hp) (csp0 : List Value) (p0 : C0) (rp0 : Q0.R h csp0 p0) (csp1 : List Value) (p1 : C0) (rp1 : Q0.R h csp1 p1) (r : Int) (hM0 : R6 p0 p1 = some r) :
  Tr Tryz.prog 199 #[.agg csp0.toArray, .agg csp1.toArray] h fun v h' => v = .int .i64 r ∧ h' = h := by
 obtain ⟨aA, aB, aC, rfl, rfl, aH, aI, aJ⟩ := D1 rp0
 obtain ⟨aD, aF, aG, rfl, rfl, aK, aL, aM⟩ := D1 rp1
 unfold R6 at hM0
 dsimp only at hM0
 refine Tr.forget (T2 (args := [.agg #[.int .i64 aA, .int .i64 aB, .int .i64 aC], .agg #[.int .i64 aD, .int .i64 aF, .int .i64 aG]]) (fn := Tryz.f199) rfl ?_)
 obtain ⟨X1, hLX1, hM0⟩ := j0 hM0
 refine Exists.intro { vars := [7], boxes := [], owns := [], fuel := true } (Exists.intro (fun vs os h' => ∃ (u2 : Int), vs.tail = [.int .i64 u2] ∧ os = [] ∧ Sub h h' ∧ H0 u2 ∧ U5 aA aB aC aD aF aG (Q1 vs) u2 = some X1) (Exists.intro (fun _ _ => 0) ?_))
 refine And.intro (Exists.intro T0 ⟨0, rfl, rfl, (Sub.refl _), (c64 (by decide) (by decide)), hLX1⟩) ?_
 rintro v_0 m4 k3 ⟨u2, evX1, eoX1, sX1, iu2, hM1⟩
 cases evX1
 cases eoX1
 replace hM1 : U5 aA aB aC aD aF aG m4 u2 = some X1 := hM1
 obtain _ | m4 := m4
 ·cases (show (none : Option _) = some X1 from hM1)
 rw [U5.eq_2] at hM1
 refine And.intro (fun hc5 => ?_) (fun hc5 => ?_)
 ·replace hM1 := ifP hM1 hc5
  refine Or.inl (And.intro (And.intro (by kernel_rfl) (by kernel_rfl)) ?_)
  obtain ⟨x6, gx6, hM1⟩ := j0 hM1
  obtain ⟨bx6, csx6, ex6, rx6⟩ := H6 (F2.up (r := Wp.int.toRp) sX1 (show F2 (Wp.int.R h) ([[.int .i64 aA], [.int .i64 aB], [.int .i64 aC]] : List (List Value)) [aA, aB, aC] from ⟨⟨rfl, aH⟩, ⟨⟨rfl, aI⟩, ⟨⟨rfl, aJ⟩, trivial⟩⟩⟩)) gx6
  refine And.intro bx6 ?_
  obtain ⟨rfl, ix6⟩ := rx6
  refine Exists.intro _ (And.intro ex6 ?_)
  obtain ⟨x7, gx7, hM1⟩ := j0 hM1
  obtain ⟨bx7, csx7, ex7, rx7⟩ := H6 (F2.up (r := Wp.int.toRp) sX1 (show F2 (Wp.int.R h) ([[.int .i64 aD], [.int .i64 aF], [.int .i64 aG]] : List (List Value)) [aD, aF, aG] from ⟨⟨rfl, aK⟩, ⟨⟨rfl, aL⟩, ⟨⟨rfl, aM⟩, trivial⟩⟩⟩)) gx7
  refine And.intro bx7 ?_
  obtain ⟨rfl, ix7⟩ := rx7
  refine Exists.intro _ (And.intro ex7 ?_)
  refine And.intro (fun hc8 => ?_) (fun hc8 => ?_)
  ·replace hM1 := ifP hM1 hc8
   have hE := Option.some.inj hM1; subst hE
   try dsimp only [G3, J3] at hM0
   have hE := Option.some.inj hM0; subst hE
   exact And.intro rfl sX1
  ·replace hM1 := ifN hM1 hc8
   refine Or.inl (And.intro (And.intro (by kernel_rfl) (by kernel_rfl)) ?_)
   obtain ⟨x9, gx9, hM1⟩ := j0 hM1
   obtain ⟨bx9, csx9, ex9, rx9⟩ := H6 (F2.up (r := Wp.int.toRp) sX1 (show F2 (Wp.int.R h) ([[.int .i64 aA], [.int .i64 aB], [.int .i64 aC]] : List (List Value)) [aA, aB, aC] from ⟨⟨rfl, aH⟩, ⟨⟨rfl, aI⟩, ⟨⟨rfl, aJ⟩, trivial⟩⟩⟩)) gx9
   refine And.intro bx9 ?_
   obtain ⟨rfl, ix9⟩ := rx9
   refine Exists.intro _ (And.intro ex9 ?_)
   obtain ⟨x10, gx10, hM1⟩ := j0 hM1
   obtain ⟨bx10, csx10, ex10, rx10⟩ := H6 (F2.up (r := Wp.int.toRp) sX1 (show F2 (Wp.int.R h) ([[.int .i64 aD], [.int .i64 aF], [.int .i64 aG]] : List (List Value)) [aD, aF, aG] from ⟨⟨rfl, aK⟩, ⟨⟨rfl, aL⟩, ⟨⟨rfl, aM⟩, trivial⟩⟩⟩)) gx10
   refine And.intro bx10 ?_
   obtain ⟨rfl, ix10⟩ := rx10
   refine Exists.intro _ (And.intro ex10 ?_)
   refine And.intro (fun hc11 => ?_) (fun hc11 => ?_)
   ·replace hM1 := ifP hM1 hc11
    have hE := Option.some.inj hM1; subst hE
    try dsimp only [G3, J3] at hM0
    have hE := Option.some.inj hM0; subst hE
    exact And.intro rfl sX1
   ·replace hM1 := ifN hM1 hc11
    refine And.intro rfl (And.intro (by repeat (first | exact trivial | refine And.intro rfl ?_)) (And.intro (by repeat (first | exact trivial | refine And.intro rfl ?_)) (Exists.intro m4 (And.intro ⟨(IntKind.i64.wrap (u2 + 1)), rfl, rfl, sX1, (K0 _), hM1⟩ (Nat.lt_succ_self _)))))
 ·replace hM1 := ifN hM1 hc5
  have hE := Option.some.inj hM1; subst hE
  try dsimp only [U0, Z0] at hM0
  have hE := Option.some.inj hM0; subst hE
  exact And.intro rfl sX1
theorem C5 (h : Hp) (csp0 : List Value) (p0 : l0) (rp0 : Y0.R h csp0 p0) (r : Bool) (hM0 : N3 p0 = some r) :
  Tr Tryz.prog 142 #[.agg csp0.toArray] h fun v h' => v = .bool r ∧ h' = h := by
 obtain ⟨aB, aC, aD, bB, aF, aI, rfl, rfl, aG, aH, aA⟩ := B0 rp0
 obtain ⟨rfl, bC⟩ := Sl.len aA
 unfold N3 at hM0
 dsimp only at hM0
 refine Tr.forget (T2 (args := [.agg #[.int .i64 aB, .int .i64 aC, .slice aD aI.length aF]]) (fn := Tryz.f142) rfl ?_)
 obtain ⟨X1, hLX1, hM0⟩ := j0 hM0
 refine Exists.intro { vars := [3], boxes := [], owns := [], fuel := true } (Exists.intro (fun vs os h' => ∃ (u2 : Int), vs.tail = [.int .i64 u2] ∧ os = [] ∧ Sub h h' ∧ H0 u2 ∧ s6 aI aB aC (Q1 vs) u2 = some X1) (Exists.intro (fun _ _ => 0) ?_))
 refine And.intro (Exists.intro T0 ⟨0, rfl, rfl, (Sub.refl _), (c64 (by decide) (by decide)), hLX1⟩) ?_
 rintro v_0 m4 k3 ⟨u2, evX1, eoX1, sX1, iu2, hM1⟩
 cases evX1
 cases eoX1
 replace hM1 : s6 aI aB aC m4 u2 = some X1 := hM1
 obtain _ | m4 := m4
 ·cases (show (none : Option _) = some X1 from hM1)
 rw [s6.eq_2] at hM1
 refine And.intro (fun hc5 => ?_) (fun hc5 => ?_)
 ·replace hM1 := ifP hM1 hc5
  refine Or.inl (And.intro (And.intro (by kernel_rfl) (by kernel_rfl)) ?_)
  obtain ⟨x6, gx6, hM1⟩ := j0 hM1
  obtain ⟨bx6, csx6, ex6, rx6⟩ := Sl.getI (r := Q0.toRp) (I0.mono sX1 aA) gx6 (by decide)
  refine And.intro bx6 ?_
  obtain ⟨aJ, aK, aL, rfl, rfl, aM, aN, aO⟩ := D1 rx6
  try dsimp only at hM1
  refine Exists.intro _ (And.intro ex6 ?_)
  obtain ⟨x7, gx7, hM1⟩ := j0 hM1
  refine Exists.intro (.bool x7) (And.intro (u06 _ [.int .i64 aB, .int .i64 aC, .slice aD aI.length aF] (aB, aC, aI) (z0 aG aH (I0.mono sX1 aA)) [.int .i64 aJ, .int .i64 aK, .int .i64 aL] (aJ, aK, aL) (V0 aM aN aO) _  gx7) ?_)
  obtain ⟨x8, gx8, hM1⟩ := j0 hM1
  obtain ⟨csx8, ex8, rx8⟩ := Sl.getG (r := Q0.toRp) (I0.mono sX1 aA) gx8 (by decide) (u0g k3)
  refine And.intro (fun q => (ex8 q).1) ?_
  obtain ⟨aP, aQ, aR, rfl, rfl, aS, aT, aU⟩ := D1 rx8
  try dsimp only at hM1
  refine Exists.intro _ (And.intro (fun q => (ex8 q).2) ?_)
  obtain ⟨x9, gx9, hM1⟩ := j0 hM1
  obtain ⟨csx9, ex9, rx9⟩ := Sl.getG (r := Q0.toRp) (I0.mono sX1 aA) gx9 (by decide) (u0g k3)
  refine And.intro (fun q => (ex9 q).1) ?_
  obtain ⟨aV, aW, aX, rfl, rfl, aY, aZ, bA⟩ := D1 rx9
  try dsimp only at hM1
  refine Exists.intro _ (And.intro (fun q => (ex9 q).2) ?_)
  obtain ⟨x10, gx10, hM1⟩ := j0 hM1
  refine Exists.intro (.int .i64 x10) (And.intro (fun q => X01 _ [.int .i64 aP, .int .i64 aQ, .int .i64 aR] (aP, aQ, aR) (V0 aS aT aU) [.int .i64 aV, .int .i64 aW, .int .i64 aX] (aV, aW, aX) (V0 aY aZ bA) _  (N2 gx10 q)) ?_)
  obtain ⟨q11, gq11, hM1⟩ := j0 hM1
  have ix10 : H0 x10 := U2 gq11
  refine And.intro (fun hc12 => ?_) (fun hc12 => ?_)
  ·replace hM1 := ifP hM1 hc12
   have hE := Option.some.inj hM1; subst hE
   try dsimp only [G3, J3] at hM0
   have hE := Option.some.inj hM0; subst hE
   exact And.intro rfl sX1
  ·replace hM1 := ifN hM1 hc12
   refine And.intro rfl (And.intro (by repeat (first | exact trivial | refine And.intro rfl ?_)) (And.intro (by repeat (first | exact trivial | refine And.intro rfl ?_)) (Exists.intro m4 (And.intro ⟨(IntKind.i64.wrap (u2 + 1)), rfl, rfl, sX1, (K0 _), hM1⟩ (Nat.lt_succ_self _)))))
 ·replace hM1 := ifN hM1 hc5
  have hE := Option.some.inj hM1; subst hE
  try dsimp only [U0, Z0] at hM0
  obtain ⟨x13, gx13, hM0⟩ := j0 hM0
  refine Tr.val (T5 _ aB aG 1 (c64 (by decide) (by decide)) 3 (c64 (by decide) (by decide)) _  gx13) ?_
  obtain ⟨x14, gx14, hM0⟩ := j0 hM0
  refine Exists.intro (.bool x14) (And.intro (fun q => T5 _ aC aH 1 (c64 (by decide) (by decide)) 40 (c64 (by decide) (by decide)) _  (N2 gx14 q)) ?_)
  have hE := Option.some.inj hM0; subst hE
  exact And.intro rfl sX1
theorem w00 (h : Hp) (csp0 : List Value) (p0 : l0) (rp0 : Y0.R h csp0 p0) (p1 : Int) (ip1 : H0 p1) (r : Bool) (hM0 : E5 p0 p1 = some r) :
  Tr Tryz.prog 153 #[.agg csp0.toArray, .int .i64 p1] h fun v h' => v = .bool r ∧ h' = h := by
 obtain ⟨aF, aA, aB, aG, aC, aK, rfl, rfl, aH, aI, aD⟩ := B0 rp0
 obtain ⟨rfl, aJ⟩ := Sl.len aD
 unfold E5 at hM0
 dsimp only at hM0
 refine Tr.forget (T2 (args := [.agg #[.int .i64 aF, .int .i64 aA, .slice aB aK.length aC], .int .i64 p1]) (fn := Tryz.f153) rfl ?_)
 obtain ⟨x1, gx1, hM0⟩ := j0 hM0
 refine Tr.val (Z7 _ p1 ip1 0 (c64 (by decide) (by decide)) (IntKind.i64.wrap (aA - 1)) (K0 _) _  gx1) ?_
 have hE := Option.some.inj hM0; subst hE
 exact And.intro rfl (Sub.refl _)
theorem P01 (h : Hp) (csp0 : List Value) (p0 : l0) (rp0 : Y0.R h csp0 p0) (csp1 : List Value) (p1 : C0) (rp1 : Q0.R h csp1 p1) (r : Bool) (hM0 : t6 p0 p1 = some r) :
  Tr Tryz.prog 158 #[.agg csp0.toArray, .agg csp1.toArray] h fun v h' => v = .bool r ∧ h' = h := by
 obtain ⟨aA, aB, aC, aP, aD, aI, rfl, rfl, aF, aH, aG⟩ := B0 rp0
 obtain ⟨rfl, aQ⟩ := Sl.len aG
 obtain ⟨aJ, aK, aL, rfl, rfl, aM, aN, aO⟩ := D1 rp1
 unfold t6 at hM0
 dsimp only at hM0
 refine Tr.forget (T2 (args := [.agg #[.int .i64 aA, .int .i64 aB, .slice aC aI.length aD], .agg #[.int .i64 aJ, .int .i64 aK, .int .i64 aL]]) (fn := Tryz.f158) rfl ?_)
 obtain ⟨x1, gx1, hM0⟩ := j0 hM0
 refine Tr.val (w00 _ [.int .i64 aA, .int .i64 aB, .slice aC aI.length aD] (aA, aB, aI) (z0 aF aH aG) aJ aM _  gx1) ?_
 obtain ⟨x2, gx2, hM0⟩ := j0 hM0
 refine Exists.intro (.bool x2) (And.intro (fun q => w00 _ [.int .i64 aA, .int .i64 aB, .slice aC aI.length aD] (aA, aB, aI) (z0 aF aH aG) aL aO _  (N2 gx2 q)) ?_)
 obtain ⟨x3, gx3, hM0⟩ := j0 hM0
 refine Exists.intro (.bool x3) (And.intro (fun q => Z7 _ aK aN 1 (c64 (by decide) (by decide)) aA aF _  (N2 gx3 q)) ?_)
 have hE := Option.some.inj hM0; subst hE
 exact And.intro rfl (Sub.refl _)
theorem Y01 (h : Hp) (csp0 : List Value) (p0 : C0) (rp0 : Q0.R h csp0 p0) (csp1 : List Value) (p1 : C0) (rp1 : Q0.R h csp1 p1) (r : Int) (hM0 : Q7 p0 p1 = some r) :
  Tr Tryz.prog 204 #[.agg csp0.toArray, .agg csp1.toArray] h fun v h' => v = .int .i64 r ∧ h' = h := by
 obtain ⟨aA, aB, aC, rfl, rfl, aD, aF, aG⟩ := D1 rp0
 obtain ⟨aH, aI, aJ, rfl, rfl, aK, aL, aM⟩ := D1 rp1
 unfold Q7 at hM0
 dsimp only at hM0
 refine Tr.forget (T2 (args := [.agg #[.int .i64 aA, .int .i64 aB, .int .i64 aC], .agg #[.int .i64 aH, .int .i64 aI, .int .i64 aJ]]) (fn := Tryz.f204) rfl ?_)
 obtain ⟨x1, gx1, hM0⟩ := j0 hM0
 refine Tr.val (Q00 _ aA aD aH aK _  gx1) ?_
 obtain ⟨q2, gq2, hM0⟩ := j0 hM0
 have ix1 : H0 x1 := U2 gq2
 refine And.intro (fun hc3 => ?_) (fun hc3 => ?_)
 ·replace hM0 := ifP hM0 hc3
  have hE := Option.some.inj hM0; subst hE
  exact And.intro rfl (Sub.refl _)
 ·replace hM0 := ifN hM0 hc3
  obtain ⟨x4, gx4, hM0⟩ := j0 hM0
  refine Tr.val (Q00 _ aB aF aI aL _  gx4) ?_
  obtain ⟨q5, gq5, hM0⟩ := j0 hM0
  have ix4 : H0 x4 := U2 gq5
  refine And.intro (fun hc6 => ?_) (fun hc6 => ?_)
  ·replace hM0 := ifP hM0 hc6
   have hE := Option.some.inj hM0; subst hE
   exact And.intro rfl (Sub.refl _)
  ·replace hM0 := ifN hM0 hc6
   obtain ⟨x7, gx7, hM0⟩ := j0 hM0
   refine Tr.val (Q00 _ aC aG aJ aM _  gx7) ?_
   obtain ⟨q8, gq8, hM0⟩ := j0 hM0
   have ix7 : H0 x7 := U2 gq8
   have hE := Option.some.inj hM0; subst hE
   exact And.intro rfl (Sub.refl _)
theorem A8 (h : Hp) (csp0 : List Value) (p0 : l0) (rp0 : Y0.R h csp0 p0) (r : Bool) (hM0 : p5 p0 = some r) :
  Tr Tryz.prog 151 #[.agg csp0.toArray] h fun v h' => v = .bool r ∧ h' = h := by
 obtain ⟨aB, aC, aH, aV, aI, aR, rfl, rfl, aJ, aK, aA⟩ := B0 rp0
 obtain ⟨rfl, aW⟩ := Sl.len aA
 unfold p5 at hM0
 dsimp only at hM0
 refine Tr.forget (T2 (args := [.agg #[.int .i64 aB, .int .i64 aC, .slice aH aR.length aI]]) (fn := Tryz.f151) rfl ?_)
 obtain ⟨x1, gx1, hM0⟩ := j0 hM0
 refine Tr.val (Z7 _ aB aJ 1 (c64 (by decide) (by decide)) 3 (c64 (by decide) (by decide)) _  gx1) ?_
 obtain ⟨x2, gx2, hM0⟩ := j0 hM0
 refine Exists.intro (.bool x2) (And.intro (fun q => Z7 _ aC aK 1 (c64 (by decide) (by decide)) 40 (c64 (by decide) (by decide)) _  (N2 gx2 q)) ?_)
 refine And.intro (fun hc3 => ?_) (fun hc3 => ?_)
 ·replace hM0 := ifP hM0 hc3
  have hE := Option.some.inj hM0; subst hE
  exact And.intro rfl (Sub.refl _)
 ·replace hM0 := ifN hM0 hc3
  obtain ⟨X4, hLX4, hM0⟩ := j0 hM0
  refine Exists.intro { vars := [24], boxes := [], owns := [], fuel := true } (Exists.intro (fun vs os h' => ∃ (u5 : Int), vs.tail = [.int .i64 u5] ∧ os = [] ∧ Sub h h' ∧ H0 u5 ∧ w6 aR aB aC (Q1 vs) u5 = some X4) (Exists.intro (fun _ _ => 0) ?_))
  refine And.intro (Exists.intro T0 ⟨0, rfl, rfl, (Sub.refl _), (c64 (by decide) (by decide)), hLX4⟩) ?_
  rintro v_0 m7 k6 ⟨u5, evX4, eoX4, sX4, iu5, hM1⟩
  cases evX4
  cases eoX4
  replace hM1 : w6 aR aB aC m7 u5 = some X4 := hM1
  obtain _ | m7 := m7
  ·cases (show (none : Option _) = some X4 from hM1)
  rw [w6.eq_2] at hM1
  refine And.intro (fun hc8 => ?_) (fun hc8 => ?_)
  ·replace hM1 := ifP hM1 hc8
   obtain ⟨x9, gx9, hM1⟩ := j0 hM1
   obtain ⟨bx9, csx9, ex9, rx9⟩ := Sl.getI (r := Q0.toRp) (I0.mono sX4 aA) gx9 (by decide)
   refine And.intro bx9 ?_
   obtain ⟨aD, aF, aG, rfl, rfl, aL, aM, aN⟩ := D1 rx9
   try dsimp only at hM1
   refine Exists.intro _ (And.intro ex9 ?_)
   refine Or.inl (And.intro (And.intro (by kernel_rfl) (by kernel_rfl)) ?_)
   obtain ⟨x10, gx10, hM1⟩ := j0 hM1
   refine Exists.intro (.bool x10) (And.intro (P01 _ [.int .i64 aB, .int .i64 aC, .slice aH aR.length aI] (aB, aC, aR) (z0 aJ aK (I0.mono sX4 aA)) [.int .i64 aD, .int .i64 aF, .int .i64 aG] (aD, aF, aG) (V0 aL aM aN) _  gx10) ?_)
   obtain ⟨x11, gx11, hM1⟩ := j0 hM1
   obtain ⟨csx11, ex11, rx11⟩ := Sl.getG (r := Q0.toRp) (I0.mono sX4 aA) gx11 (by decide) (u0g k6)
   refine And.intro (fun q => (ex11 q).1) ?_
   obtain ⟨aO, aP, aQ, rfl, rfl, aS, aT, aU⟩ := D1 rx11
   try dsimp only at hM1
   refine Exists.intro _ (And.intro (fun q => (ex11 q).2) ?_)
   obtain ⟨x12, gx12, hM1⟩ := j0 hM1
   refine Exists.intro (.int .i64 x12) (And.intro (fun q => Y01 _ [.int .i64 aO, .int .i64 aP, .int .i64 aQ] (aO, aP, aQ) (V0 aS aT aU) [.int .i64 aD, .int .i64 aF, .int .i64 aG] (aD, aF, aG) (V0 aL aM aN) _  (N2 gx12 q)) ?_)
   obtain ⟨q13, gq13, hM1⟩ := j0 hM1
   have ix12 : H0 x12 := U2 gq13
   refine And.intro (fun hc14 => ?_) (fun hc14 => ?_)
   ·replace hM1 := ifP hM1 hc14
    have hE := Option.some.inj hM1; subst hE
    try dsimp only [G3, J3] at hM0
    have hE := Option.some.inj hM0; subst hE
    exact And.intro rfl sX4
   ·replace hM1 := ifN hM1 hc14
    refine And.intro rfl (And.intro (by repeat (first | exact trivial | refine And.intro rfl ?_)) (And.intro (by repeat (first | exact trivial | refine And.intro rfl ?_)) (Exists.intro m7 (And.intro ⟨(IntKind.i64.wrap (u5 + 1)), rfl, rfl, sX4, (K0 _), hM1⟩ (Nat.lt_succ_self _)))))
  ·replace hM1 := ifN hM1 hc8
   have hE := Option.some.inj hM1; subst hE
   try dsimp only [U0, Z0] at hM0
   have hE := Option.some.inj hM0; subst hE
   exact And.intro rfl sX4
end Go.Proofs.YtfdlgbfeceodeaaGreat
namespace Go.Proofs.YtfdlgbfeceodeaaGreat
open Go.H
set_option linter.unusedVariables false
set_option linter.unusedSimpArgs false
set_option maxRecDepth 10000
theorem x00 (h : Hp) (ap0 : Option Addr) (np0 cp0 : Nat) (p0 : P0) (rp0 : K1.R h [.slice ap0 np0 cp0] p0) (p1 : Int) (ip1 : H0 p1) (r : P0) (hM0 : y7 p0 p1 = some r) :
  Tr Tryz.prog 222 #[.slice ap0 np0 cp0, .int .i64 p1] h fun v h' => ∃ (a0 : Option Addr) (n0 c0 : Nat), v = .slice a0 n0 c0 ∧ K1.R h' [.slice a0 n0 c0] r ∧ Sub h h' := by
 obtain ⟨rfl, lp0⟩ := Sl.len rp0
 unfold y7 at hM0
 refine T2 (args := [.slice ap0 p0.length cp0, .int .i64 p1]) (fn := Tryz.f222) rfl ?_
 obtain ⟨X1, hLX1, hM0⟩ := j0 hM0
 refine Exists.intro { vars := [6, 7], boxes := [], owns := [0], fuel := true } (Exists.intro (fun vs os h' => ∃ (u2 : Bool) (u3 : Int) (wu4 : List (List Value)) (u4 : List Int), vs.tail = [.bool u2, .int .i64 u3] ∧ os = [wu4] ∧ Sub h h' ∧ H0 u3 ∧ F2 (Wp.int.R h') wu4 u4 ∧ c4 p0 p1 (Q1 vs) u2 u3 u4 = some X1) (Exists.intro (fun _ _ => 0) ?_))
 refine And.intro (Exists.intro T0 ⟨false, 0, [], ([] : P0), rfl, rfl, (Sub.refl _), (c64 (by decide) (by decide)), (show F2 (Wp.int.R h) ([] : List (List Value)) ([] : P0) from trivial), hLX1⟩) ?_
 rintro v_0 v_1 wu4 m6 k5 ⟨u2, u3, zzu4, u4, evX1, eoX1, sX1, iu3, fu4, hM1⟩
 cases evX1
 cases eoX1
 replace hM1 : c4 p0 p1 m6 u2 u3 u4 = some X1 := hM1
 obtain _ | m6 := m6
 ·cases (show (none : Option _) = some X1 from hM1)
 rw [c4.eq_2] at hM1
 refine And.intro (fun hc7 => ?_) (fun hc7 => ?_)
 ·replace hM1 := ifP hM1 hc7
  obtain ⟨x8, gx8, hM1⟩ := j0 hM1
  obtain ⟨bx8, csx8, ex8, rx8⟩ := Sl.getI (r := Wp.int.toRp) (K1.mono sX1 rp0) gx8 (by decide)
  refine And.intro bx8 ?_
  obtain ⟨rfl, ix8⟩ := rx8
  refine Exists.intro _ (And.intro ex8 ?_)
  refine And.intro (fun hc9 => ?_) (fun hc9 => ?_)
  ·replace hM1 := ifP hM1 hc9
   obtain ⟨x10, gx10, hM1⟩ := j0 hM1
   obtain ⟨bx10, csx10, ex10, rx10⟩ := Sl.getI (r := Wp.int.toRp) (K1.mono sX1 rp0) gx10 (by decide)
   refine And.intro bx10 ?_
   obtain ⟨rfl, ix10⟩ := rx10
   refine Exists.intro _ (And.intro ex10 ?_)
   refine And.intro (fun hc11 => ?_) (fun hc11 => ?_)
   ·replace hM1 := ifP hM1 hc11
    obtain ⟨q12, gq12, hM1⟩ := j0 hM1
    refine And.intro (M2 gq12 (by first | rw [F2.length fu4, F2.length (show F2 (Wp.int.R k5) ([[.int .i64 p1]] : List (List Value)) [p1] from ⟨⟨rfl, ip1⟩, trivial⟩)] | exact congrArg (· + 1) (F2.length fu4))) ?_
    obtain ⟨x13, gx13, hM1⟩ := j0 hM1
    obtain ⟨bx13, csx13, ex13, rx13⟩ := Sl.getI (r := Wp.int.toRp) (K1.mono sX1 rp0) gx13 (by decide)
    refine And.intro bx13 ?_
    obtain ⟨rfl, ix13⟩ := rx13
    refine Exists.intro _ (And.intro ex13 ?_)
    obtain ⟨q14, gq14, hM1⟩ := j0 hM1
    refine And.intro (M2 gq14 (by first | rw [F2.length (F2.append fu4 (show F2 (Wp.int.R k5) ([[.int .i64 p1]] : List (List Value)) [p1] from ⟨⟨rfl, ip1⟩, trivial⟩)), F2.length (show F2 (Wp.int.R k5) ([[.int .i64 x13]] : List (List Value)) [x13] from ⟨⟨rfl, ix13⟩, trivial⟩)] | exact congrArg (· + 1) (F2.length (F2.append fu4 (show F2 (Wp.int.R k5) ([[.int .i64 p1]] : List (List Value)) [p1] from ⟨⟨rfl, ip1⟩, trivial⟩))))) ?_
    refine And.intro rfl (And.intro (by repeat (first | exact trivial | refine And.intro rfl ?_)) (And.intro (by repeat (first | exact trivial | refine And.intro rfl ?_)) (Exists.intro m6 (And.intro ⟨true, (IntKind.i64.wrap (u3 + 1)), ((wu4 ++ ([[.int .i64 p1]] : List (List Value))) ++ ([[.int .i64 x13]] : List (List Value))), ((u4 ++ [p1]) ++ [x13]), rfl, rfl, sX1, (K0 _), (F2.append (F2.append fu4 (show F2 (Wp.int.R k5) ([[.int .i64 p1]] : List (List Value)) [p1] from ⟨⟨rfl, ip1⟩, trivial⟩)) (show F2 (Wp.int.R k5) ([[.int .i64 x13]] : List (List Value)) [x13] from ⟨⟨rfl, ix13⟩, trivial⟩)), hM1⟩ (Nat.lt_succ_self _)))))
   ·replace hM1 := ifN hM1 hc11
    obtain ⟨x15, gx15, hM1⟩ := j0 hM1
    obtain ⟨bx15, csx15, ex15, rx15⟩ := Sl.getI (r := Wp.int.toRp) (K1.mono sX1 rp0) gx15 (by decide)
    refine And.intro bx15 ?_
    obtain ⟨rfl, ix15⟩ := rx15
    refine Exists.intro _ (And.intro ex15 ?_)
    obtain ⟨q16, gq16, hM1⟩ := j0 hM1
    refine And.intro (M2 gq16 (by first | rw [F2.length fu4, F2.length (show F2 (Wp.int.R k5) ([[.int .i64 x15]] : List (List Value)) [x15] from ⟨⟨rfl, ix15⟩, trivial⟩)] | exact congrArg (· + 1) (F2.length fu4))) ?_
    refine And.intro rfl (And.intro (by repeat (first | exact trivial | refine And.intro rfl ?_)) (And.intro (by repeat (first | exact trivial | refine And.intro rfl ?_)) (Exists.intro m6 (And.intro ⟨true, (IntKind.i64.wrap (u3 + 1)), (wu4 ++ ([[.int .i64 x15]] : List (List Value))), (u4 ++ [x15]), rfl, rfl, sX1, (K0 _), (F2.append fu4 (show F2 (Wp.int.R k5) ([[.int .i64 x15]] : List (List Value)) [x15] from ⟨⟨rfl, ix15⟩, trivial⟩)), hM1⟩ (Nat.lt_succ_self _)))))
  ·replace hM1 := ifN hM1 hc9
   obtain ⟨x17, gx17, hM1⟩ := j0 hM1
   obtain ⟨bx17, csx17, ex17, rx17⟩ := Sl.getI (r := Wp.int.toRp) (K1.mono sX1 rp0) gx17 (by decide)
   refine And.intro bx17 ?_
   obtain ⟨rfl, ix17⟩ := rx17
   refine Exists.intro _ (And.intro ex17 ?_)
   refine And.intro (fun hc18 => ?_) (fun hc18 => ?_)
   ·replace hM1 := ifP hM1 hc18
    obtain ⟨q19, gq19, hM1⟩ := j0 hM1
    refine And.intro (M2 gq19 (by first | rw [F2.length fu4, F2.length (show F2 (Wp.int.R k5) ([[.int .i64 p1]] : List (List Value)) [p1] from ⟨⟨rfl, ip1⟩, trivial⟩)] | exact congrArg (· + 1) (F2.length fu4))) ?_
    obtain ⟨x20, gx20, hM1⟩ := j0 hM1
    obtain ⟨bx20, csx20, ex20, rx20⟩ := Sl.getI (r := Wp.int.toRp) (K1.mono sX1 rp0) gx20 (by decide)
    refine And.intro bx20 ?_
    obtain ⟨rfl, ix20⟩ := rx20
    refine Exists.intro _ (And.intro ex20 ?_)
    obtain ⟨q21, gq21, hM1⟩ := j0 hM1
    refine And.intro (M2 gq21 (by first | rw [F2.length (F2.append fu4 (show F2 (Wp.int.R k5) ([[.int .i64 p1]] : List (List Value)) [p1] from ⟨⟨rfl, ip1⟩, trivial⟩)), F2.length (show F2 (Wp.int.R k5) ([[.int .i64 x20]] : List (List Value)) [x20] from ⟨⟨rfl, ix20⟩, trivial⟩)] | exact congrArg (· + 1) (F2.length (F2.append fu4 (show F2 (Wp.int.R k5) ([[.int .i64 p1]] : List (List Value)) [p1] from ⟨⟨rfl, ip1⟩, trivial⟩))))) ?_
    refine And.intro rfl (And.intro (by repeat (first | exact trivial | refine And.intro rfl ?_)) (And.intro (by repeat (first | exact trivial | refine And.intro rfl ?_)) (Exists.intro m6 (And.intro ⟨true, (IntKind.i64.wrap (u3 + 1)), ((wu4 ++ ([[.int .i64 p1]] : List (List Value))) ++ ([[.int .i64 x20]] : List (List Value))), ((u4 ++ [p1]) ++ [x20]), rfl, rfl, sX1, (K0 _), (F2.append (F2.append fu4 (show F2 (Wp.int.R k5) ([[.int .i64 p1]] : List (List Value)) [p1] from ⟨⟨rfl, ip1⟩, trivial⟩)) (show F2 (Wp.int.R k5) ([[.int .i64 x20]] : List (List Value)) [x20] from ⟨⟨rfl, ix20⟩, trivial⟩)), hM1⟩ (Nat.lt_succ_self _)))))
   ·replace hM1 := ifN hM1 hc18
    obtain ⟨x22, gx22, hM1⟩ := j0 hM1
    obtain ⟨bx22, csx22, ex22, rx22⟩ := Sl.getI (r := Wp.int.toRp) (K1.mono sX1 rp0) gx22 (by decide)
    refine And.intro bx22 ?_
    obtain ⟨rfl, ix22⟩ := rx22
    refine Exists.intro _ (And.intro ex22 ?_)
    obtain ⟨q23, gq23, hM1⟩ := j0 hM1
    refine And.intro (M2 gq23 (by first | rw [F2.length fu4, F2.length (show F2 (Wp.int.R k5) ([[.int .i64 x22]] : List (List Value)) [x22] from ⟨⟨rfl, ix22⟩, trivial⟩)] | exact congrArg (· + 1) (F2.length fu4))) ?_
    refine And.intro rfl (And.intro (by repeat (first | exact trivial | refine And.intro rfl ?_)) (And.intro (by repeat (first | exact trivial | refine And.intro rfl ?_)) (Exists.intro m6 (And.intro ⟨u2, (IntKind.i64.wrap (u3 + 1)), (wu4 ++ ([[.int .i64 x22]] : List (List Value))), (u4 ++ [x22]), rfl, rfl, sX1, (K0 _), (F2.append fu4 (show F2 (Wp.int.R k5) ([[.int .i64 x22]] : List (List Value)) [x22] from ⟨⟨rfl, ix22⟩, trivial⟩)), hM1⟩ (Nat.lt_succ_self _)))))
 ·replace hM1 := ifN hM1 hc7
  have hE := Option.some.inj hM1; subst hE
  try dsimp only [U0, Z0] at hM0
  refine And.intro (fun hc24 => ?_) (fun hc24 => ?_)
  ·replace hM0 := ifP hM0 hc24
   obtain ⟨q25, gq25, hM0⟩ := j0 hM0
   refine And.intro (M2 gq25 (by first | rw [F2.length fu4, F2.length (show F2 (Wp.int.R k5) ([[.int .i64 p1]] : List (List Value)) [p1] from ⟨⟨rfl, ip1⟩, trivial⟩)] | exact congrArg (· + 1) (F2.length fu4))) ?_
   intro v26 k27 f28
   obtain ⟨az29, cz29, rfl, rz29, sz29, lz29⟩ := E1.out (r := Wp.int.toRp) f28 (F2.append fu4 (show F2 (Wp.int.R k5) ([[.int .i64 p1]] : List (List Value)) [p1] from ⟨⟨rfl, ip1⟩, trivial⟩))
   have hE := Option.some.inj hM0; subst hE
   exact ⟨az29, ((u4 ++ [p1])).length, cz29, rfl, rz29, (sX1.trans sz29)⟩
  ·replace hM0 := ifN hM0 hc24
   intro v30 k31 f32
   obtain ⟨az33, cz33, rfl, rz33, sz33, lz33⟩ := E1.out (r := Wp.int.toRp) f32 fu4
   have hE := Option.some.inj hM0; subst hE
   exact ⟨az33, u4.length, cz33, rfl, rz33, (sX1.trans sz33)⟩
theorem i01 (h : Hp) (ap0 : Option Addr) (np0 cp0 : Nat) (p0 : P0) (rp0 : K1.R h [.slice ap0 np0 cp0] p0) (p1 : Int) (ip1 : H0 p1) (r : Bool) (hM0 : S7 p0 p1 = some r) :
  Tr Tryz.prog 160 #[.slice ap0 np0 cp0, .int .i64 p1] h fun v h' => v = .bool r ∧ h' = h := by
 obtain ⟨rfl, lp0⟩ := Sl.len rp0
 unfold S7 at hM0
 refine Tr.forget (T2 (args := [.slice ap0 p0.length cp0, .int .i64 p1]) (fn := Tryz.f160) rfl ?_)
 obtain ⟨X1, hLX1, hM0⟩ := j0 hM0
 refine Exists.intro { vars := [5], boxes := [], owns := [], fuel := true } (Exists.intro (fun vs os h' => ∃ (u2 : Int), vs.tail = [.int .i64 u2] ∧ os = [] ∧ Sub h h' ∧ H0 u2 ∧ I7 p0 p1 (Q1 vs) u2 = some X1) (Exists.intro (fun _ _ => 0) ?_))
 refine And.intro (Exists.intro T0 ⟨0, rfl, rfl, (Sub.refl _), (c64 (by decide) (by decide)), hLX1⟩) ?_
 rintro v_0 m4 k3 ⟨u2, evX1, eoX1, sX1, iu2, hM1⟩
 cases evX1
 cases eoX1
 replace hM1 : I7 p0 p1 m4 u2 = some X1 := hM1
 obtain _ | m4 := m4
 ·cases (show (none : Option _) = some X1 from hM1)
 rw [I7.eq_2] at hM1
 refine And.intro (fun hc5 => ?_) (fun hc5 => ?_)
 ·replace hM1 := ifP hM1 hc5
  obtain ⟨x6, gx6, hM1⟩ := j0 hM1
  obtain ⟨bx6, csx6, ex6, rx6⟩ := Sl.getI (r := Wp.int.toRp) (K1.mono sX1 rp0) gx6 (by decide)
  refine And.intro bx6 ?_
  obtain ⟨rfl, ix6⟩ := rx6
  refine Exists.intro _ (And.intro ex6 ?_)
  refine And.intro (fun hc7 => ?_) (fun hc7 => ?_)
  ·replace hM1 := ifP hM1 hc7
   have hE := Option.some.inj hM1; subst hE
   try dsimp only [G3, J3] at hM0
   have hE := Option.some.inj hM0; subst hE
   exact And.intro rfl sX1
  ·replace hM1 := ifN hM1 hc7
   refine And.intro rfl (And.intro (by repeat (first | exact trivial | refine And.intro rfl ?_)) (And.intro (by repeat (first | exact trivial | refine And.intro rfl ?_)) (Exists.intro m4 (And.intro ⟨(IntKind.i64.wrap (u2 + 1)), rfl, rfl, sX1, (K0 _), hM1⟩ (Nat.lt_succ_self _)))))
 ·replace hM1 := ifN hM1 hc5
  have hE := Option.some.inj hM1; subst hE
  try dsimp only [U0, Z0] at hM0
  have hE := Option.some.inj hM0; subst hE
  exact And.intro rfl sX1
theorem Z08 (h : Hp) (csp0 : List Value) (p0 : l0) (rp0 : Y0.R h csp0 p0) (p1 : Int) (ip1 : H0 p1) (p2 : Int) (ip2 : H0 p2) (r : P0) (hM0 : T8 p0 p1 p2 = some r) :
  Tr Tryz.prog 202 #[.agg csp0.toArray, .int .i64 p1, .int .i64 p2] h fun v h' => ∃ (a0 : Option Addr) (n0 c0 : Nat), v = .slice a0 n0 c0 ∧ K1.R h' [.slice a0 n0 c0] r ∧ Sub h h' := by
 obtain ⟨aJ, aK, aF, aM, aG, aH, rfl, rfl, aN, aO, aB⟩ := B0 rp0
 obtain ⟨rfl, aP⟩ := Sl.len aB
 unfold T8 at hM0
 dsimp only at hM0
 refine T2 (args := [.agg #[.int .i64 aJ, .int .i64 aK, .slice aF aH.length aG], .int .i64 p1, .int .i64 p2]) (fn := Tryz.f202) rfl ?_
 obtain ⟨X5, hLX5, hM0⟩ := j0 hM0
 refine Exists.intro { vars := [7, 8], boxes := [], owns := [], fuel := true, pubs := [7, 10] } (Exists.intro (fun vs os h' => ∃ (au6 : Option Addr) (nu6 cu6 : Nat) (u6 : P0) (u7 : Int), vs.tail = [.slice au6 nu6 cu6, .int .i64 u7] ∧ os = [] ∧ Sub h h' ∧ K1.R h' [.slice au6 nu6 cu6] u6 ∧ H0 u7 ∧ O3 aH p2 p1 (Q1 vs) u6 u7 = some X5) (Exists.intro (fun _ _ => 0) ?_))
 intro v1 k2 f3
 obtain ⟨az4, cz4, rfl, rz4, sz4, lz4⟩ := E1.out (r := Wp.int.toRp) f3 (show F2 (Wp.int.R h) ([] : List (List Value)) ([] : P0) from trivial)
 refine And.intro (Exists.intro T0 ⟨az4, (([] : P0)).length, cz4, ([] : P0), 0, rfl, rfl, sz4, rz4, (c64 (by decide) (by decide)), hLX5⟩) ?_
 rintro v_0 v_1 m9 k8 ⟨au6, nu6, cu6, u6, u7, evX5, eoX5, sX5, ru6, iu7, hM1⟩
 cases evX5
 cases eoX5
 replace hM1 : O3 aH p2 p1 m9 u6 u7 = some X5 := hM1
 obtain _ | m9 := m9
 ·cases (show (none : Option _) = some X5 from hM1)
 rw [O3.eq_2] at hM1
 obtain ⟨rfl, lu6⟩ := Sl.len ru6
 refine And.intro (fun hc10 => ?_) (fun hc10 => ?_)
 ·replace hM1 := ifP hM1 hc10
  obtain ⟨x11, gx11, hM1⟩ := j0 hM1
  obtain ⟨bx11, csx11, ex11, rx11⟩ := Sl.getI (r := Q0.toRp) (I0.mono sX5 aB) gx11 (by decide)
  refine And.intro bx11 ?_
  obtain ⟨aC, aQ, aI, rfl, rfl, aA, aL, aD⟩ := D1 rx11
  try dsimp only at hM1
  refine Exists.intro _ (And.intro ex11 ?_)
  refine And.intro (fun hc12 => ?_) (fun hc12 => ?_)
  ·replace hM1 := ifP hM1 hc12
   obtain ⟨x13, gx13, hM1⟩ := j0 hM1
   refine Tr.mono (x00 _ au6 u6.length cu6 u6 ru6 aI aD _  gx13) ?_
   rintro v15 k14 ⟨ax13, nx13, cx13, rfl, rx13, sx13⟩
   obtain ⟨rfl, lx13⟩ := Sl.len rx13
   refine And.intro (fun hc16 => ?_) (fun hc16 => ?_)
   ·replace hM1 := ifP hM1 hc16
    obtain ⟨x17, gx17, hM1⟩ := j0 hM1
    refine Tr.mono (x00 _ ax13 x13.length cx13 x13 rx13 aC aA _  gx17) ?_
    rintro v19 k18 ⟨ax17, nx17, cx17, rfl, rx17, sx17⟩
    obtain ⟨rfl, lx17⟩ := Sl.len rx17
    refine And.intro rfl (And.intro (by repeat (first | exact trivial | refine And.intro rfl ?_)) (And.intro (by repeat (first | exact trivial | refine And.intro rfl ?_)) (Exists.intro m9 (And.intro ⟨ax17, x17.length, cx17, x17, (IntKind.i64.wrap (u7 + 1)), rfl, rfl, ((sX5.trans sx13).trans sx17), rx17, (K0 _), hM1⟩ (Nat.lt_succ_self _)))))
   ·replace hM1 := ifN hM1 hc16
    refine And.intro rfl (And.intro (by repeat (first | exact trivial | refine And.intro rfl ?_)) (And.intro (by repeat (first | exact trivial | refine And.intro rfl ?_)) (Exists.intro m9 (And.intro ⟨ax13, x13.length, cx13, x13, (IntKind.i64.wrap (u7 + 1)), rfl, rfl, (sX5.trans sx13), rx13, (K0 _), hM1⟩ (Nat.lt_succ_self _)))))
  ·replace hM1 := ifN hM1 hc12
   refine And.intro (fun hc20 => ?_) (fun hc20 => ?_)
   ·replace hM1 := ifP hM1 hc20
    obtain ⟨x21, gx21, hM1⟩ := j0 hM1
    refine Tr.mono (x00 _ au6 u6.length cu6 u6 ru6 aC aA _  gx21) ?_
    rintro v23 k22 ⟨ax21, nx21, cx21, rfl, rx21, sx21⟩
    obtain ⟨rfl, lx21⟩ := Sl.len rx21
    refine And.intro rfl (And.intro (by repeat (first | exact trivial | refine And.intro rfl ?_)) (And.intro (by repeat (first | exact trivial | refine And.intro rfl ?_)) (Exists.intro m9 (And.intro ⟨ax21, x21.length, cx21, x21, (IntKind.i64.wrap (u7 + 1)), rfl, rfl, (sX5.trans sx21), rx21, (K0 _), hM1⟩ (Nat.lt_succ_self _)))))
   ·replace hM1 := ifN hM1 hc20
    refine And.intro rfl (And.intro (by repeat (first | exact trivial | refine And.intro rfl ?_)) (And.intro (by repeat (first | exact trivial | refine And.intro rfl ?_)) (Exists.intro m9 (And.intro ⟨au6, u6.length, cu6, u6, (IntKind.i64.wrap (u7 + 1)), rfl, rfl, sX5, ru6, (K0 _), hM1⟩ (Nat.lt_succ_self _)))))
 ·replace hM1 := ifN hM1 hc10
  have hE := Option.some.inj hM1; subst hE
  try dsimp only [U0, Z0] at hM0
  have hE := Option.some.inj hM0; subst hE
  exact ⟨au6, u6.length, cu6, rfl, ru6, sX5⟩
theorem j01 (h : Hp) (csp0 : List Value) (p0 : l0) (rp0 : Y0.R h csp0 p0) (p1 : Int) (ip1 : H0 p1) (p2 : Int) (ip2 : H0 p2) (r : Int) (hM0 : K6 p0 p1 p2 = some r) :
  Tr Tryz.prog 147 #[.agg csp0.toArray, .int .i64 p1, .int .i64 p2] h fun v h' => v = .int .i64 r ∧ h' = h := by
 obtain ⟨aD, aF, aA, aJ, aB, aI, rfl, rfl, aG, aH, aC⟩ := B0 rp0
 obtain ⟨rfl, aK⟩ := Sl.len aC
 unfold K6 at hM0
 dsimp only at hM0
 refine Tr.forget (T2 (args := [.agg #[.int .i64 aD, .int .i64 aF, .slice aA aI.length aB], .int .i64 p1, .int .i64 p2]) (fn := Tryz.f147) rfl ?_)
 obtain ⟨x1, gx1, hM0⟩ := j0 hM0
 refine Tr.mono (Z08 _ [.int .i64 aD, .int .i64 aF, .slice aA aI.length aB] (aD, aF, aI) (z0 aG aH aC) p1 ip1 p2 ip2 _  gx1) ?_
 rintro v3 k2 ⟨ax1, nx1, cx1, rfl, rx1, sx1⟩
 obtain ⟨rfl, lx1⟩ := Sl.len rx1
 refine And.intro (fun hc4 => ?_) (fun hc4 => ?_)
 ·replace hM0 := ifP hM0 hc4
  have hE := Option.some.inj hM0; subst hE
  exact And.intro rfl sx1
 ·replace hM0 := ifN hM0 hc4
  obtain ⟨x5, gx5, hM0⟩ := j0 hM0
  obtain ⟨bx5, csx5, ex5, rx5⟩ := Sl.getI (r := Wp.int.toRp) rx1 gx5 (by decide)
  refine And.intro bx5 ?_
  obtain ⟨rfl, ix5⟩ := rx5
  refine Exists.intro _ (And.intro ex5 ?_)
  have hE := Option.some.inj hM0; subst hE
  exact And.intro rfl sx1
theorem G9 (h : Hp) (csp0 : List Value) (p0 : l0) (rp0 : Y0.R h csp0 p0) (r : Bool) (hM0 : g6 p0 = some r) :
  Tr Tryz.prog 88 #[.agg csp0.toArray] h fun v h' => v = .bool r ∧ h' = h := by
 obtain ⟨aB, aC, aF, aP, aG, aD, rfl, rfl, aH, aI, aA⟩ := B0 rp0
 obtain ⟨rfl, aQ⟩ := Sl.len aA
 unfold g6 at hM0
 dsimp only at hM0
 refine Tr.forget (T2 (args := [.agg #[.int .i64 aB, .int .i64 aC, .slice aF aD.length aG]]) (fn := Tryz.f88) rfl ?_)
 obtain ⟨X1, hLX1, hM0⟩ := j0 hM0
 refine Exists.intro { vars := [3], boxes := [], owns := [], fuel := true } (Exists.intro (fun vs os h' => ∃ (u2 : Int), vs.tail = [.int .i64 u2] ∧ os = [] ∧ Sub h h' ∧ H0 u2 ∧ O4 aD aB aC (Q1 vs) u2 = some X1) (Exists.intro (fun _ _ => 0) ?_))
 refine And.intro (Exists.intro T0 ⟨0, rfl, rfl, (Sub.refl _), (c64 (by decide) (by decide)), hLX1⟩) ?_
 rintro v_0 m4 k3 ⟨u2, evX1, eoX1, sX1, iu2, hM1⟩
 cases evX1
 cases eoX1
 replace hM1 : O4 aD aB aC m4 u2 = some X1 := hM1
 obtain _ | m4 := m4
 ·cases (show (none : Option _) = some X1 from hM1)
 rw [O4.eq_2] at hM1
 obtain ⟨x5, gx5, hM1⟩ := j0 hM1
 refine Exists.intro (.bool x5) (And.intro (fun q => C5 _ [.int .i64 aB, .int .i64 aC, .slice aF aD.length aG] (aB, aC, aD) (z0 aH aI (I0.mono sX1 aA)) _  (N2 gx5 q)) ?_)
 refine And.intro (fun hc6 => ?_) (fun hc6 => ?_)
 ·replace hM1 := ifP hM1 hc6
  obtain ⟨X7, hLX7, hM1⟩ := j0 hM1
  refine Exists.intro { vars := [4], boxes := [], owns := [], fuel := true } (Exists.intro (fun vs os h' => ∃ (u8 : Int), vs.tail = [.int .i64 u8] ∧ os = [] ∧ Sub k3 h' ∧ H0 u8 ∧ O5 u2 aD (Q1 vs) u8 = some X7) (Exists.intro (fun _ _ => 0) ?_))
  refine And.intro (Exists.intro T0 ⟨0, rfl, rfl, (Sub.refl _), (c64 (by decide) (by decide)), hLX7⟩) ?_
  rintro v_0 m10 k9 ⟨u8, evX7, eoX7, sX7, iu8, hM2⟩
  cases evX7
  cases eoX7
  replace hM2 : O5 u2 aD m10 u8 = some X7 := hM2
  obtain _ | m10 := m10
  ·cases (show (none : Option _) = some X7 from hM2)
  rw [O5.eq_2] at hM2
  refine And.intro (fun hc11 => ?_) (fun hc11 => ?_)
  ·replace hM2 := ifP hM2 hc11
   obtain ⟨x12, gx12, hM2⟩ := j0 hM2
   obtain ⟨bx12, csx12, ex12, rx12⟩ := Sl.getI (r := Q0.toRp) (I0.mono (sX1.trans sX7) aA) gx12 (by decide)
   refine And.intro bx12 ?_
   obtain ⟨aR, aS, aT, rfl, rfl, aJ, aK, aL⟩ := D1 rx12
   try dsimp only at hM2
   refine Exists.intro _ (And.intro ex12 ?_)
   obtain ⟨x13, gx13, hM2⟩ := j0 hM2
   obtain ⟨bx13, csx13, ex13, rx13⟩ := Sl.getI (r := Q0.toRp) (I0.mono (sX1.trans sX7) aA) gx13 (by decide)
   refine And.intro bx13 ?_
   obtain ⟨aU, aV, aW, rfl, rfl, aM, aN, aO⟩ := D1 rx13
   try dsimp only at hM2
   refine Exists.intro _ (And.intro ex13 ?_)
   refine And.intro (fun hc14 => ?_) (fun hc14 => ?_)
   ·replace hM2 := ifP hM2 hc14
    have hE := Option.some.inj hM2; subst hE
    try dsimp only [G3, J3] at hM1
    have hE := Option.some.inj hM1; subst hE
    try dsimp only [G3, J3] at hM0
    have hE := Option.some.inj hM0; subst hE
    exact And.intro rfl (sX1.trans sX7)
   ·replace hM2 := ifN hM2 hc14
    refine And.intro rfl (And.intro (by repeat (first | exact trivial | refine And.intro rfl ?_)) (And.intro (by repeat (first | exact trivial | refine And.intro rfl ?_)) (Exists.intro m10 (And.intro ⟨(IntKind.i64.wrap (u8 + 1)), rfl, rfl, sX7, (K0 _), hM2⟩ (Nat.lt_succ_self _)))))
  ·replace hM2 := ifN hM2 hc11
   have hE := Option.some.inj hM2; subst hE
   try dsimp only [U0, Z0] at hM1
   refine And.intro rfl (And.intro (by repeat (first | exact trivial | refine And.intro rfl ?_)) (And.intro (by repeat (first | exact trivial | refine And.intro rfl ?_)) (Exists.intro m4 (And.intro ⟨(IntKind.i64.wrap (u2 + 1)), rfl, rfl, (sX1.trans sX7), (K0 _), hM1⟩ (Nat.lt_succ_self _)))))
 ·replace hM1 := ifN hM1 hc6
  have hE := Option.some.inj hM1; subst hE
  try dsimp only [U0, Z0] at hM0
  obtain ⟨x18, gx18, hM0⟩ := j0 hM0
  refine Tr.val (C5 _ [.int .i64 aB, .int .i64 aC, .slice aF aD.length aG] (aB, aC, aD) (z0 aH aI (I0.mono sX1 aA)) _  gx18) ?_
  have hE := Option.some.inj hM0; subst hE
  exact And.intro rfl sX1
theorem Q09 (h : Hp) (csp0 : List Value) (p0 : l0) (rp0 : Y0.R h csp0 p0) (p1 : Int) (ip1 : H0 p1) (ap2 : Option Addr) (np2 cp2 : Nat) (p2 : P0) (rp2 : K1.R h [.slice ap2 np2 cp2] p2) (r : Int × Bool) (hM0 : r9 p0 p1 p2 = some r) :
  Tr Tryz.prog 143 #[.agg csp0.toArray, .int .i64 p1, .slice ap2 np2 cp2] h fun v h' => v = .tuple #[.int .i64 r.1, .bool r.2] ∧ h' = h := by
 obtain ⟨aB, aA, aC, aJ, aD, aG, rfl, rfl, aH, aI, aF⟩ := B0 rp0
 obtain ⟨rfl, aK⟩ := Sl.len aF
 obtain ⟨rfl, lp2⟩ := Sl.len rp2
 unfold r9 at hM0
 dsimp only at hM0
 refine Tr.forget (T2 (args := [.agg #[.int .i64 aB, .int .i64 aA, .slice aC aG.length aD], .int .i64 p1, .slice ap2 p2.length cp2]) (fn := Tryz.f143) rfl ?_)
 obtain ⟨x1, gx1, hM0⟩ := j0 hM0
 refine Tr.val (G9 _ [.int .i64 aB, .int .i64 aA, .slice aC aG.length aD] (aB, aA, aG) (z0 aH aI aF) _  gx1) ?_
 obtain ⟨x2, gx2, hM0⟩ := j0 hM0
 refine Exists.intro (.bool x2) (And.intro (fun q => T5 _ p1 ip1 0 (c64 (by decide) (by decide)) (IntKind.i64.wrap (aA - 1)) (K0 _) _  (N2 gx2 q)) ?_)
 refine And.intro (fun hc3 => ?_) (fun hc3 => ?_)
 ·replace hM0 := ifP hM0 hc3
  have hE := Option.some.inj hM0; subst hE
  exact And.intro rfl (Sub.refl _)
 ·replace hM0 := ifN hM0 hc3
  obtain ⟨X4, hLX4, hM0⟩ := j0 hM0
  refine Exists.intro { vars := [1, 8], boxes := [], owns := [], fuel := true } (Exists.intro (fun vs os h' => ∃ (u5 : Int) (u6 : Int), vs.tail = [.int .i64 u5, .int .i64 u6] ∧ os = [] ∧ Sub h h' ∧ H0 u5 ∧ H0 u6 ∧ P5 p2 aB aA aG (Q1 vs) u5 u6 = some X4) (Exists.intro (fun _ _ => 0) ?_))
  refine And.intro (Exists.intro T0 ⟨p1, 0, rfl, rfl, (Sub.refl _), ip1, (c64 (by decide) (by decide)), hLX4⟩) ?_
  rintro v_0 v_1 m8 k7 ⟨u5, u6, evX4, eoX4, sX4, iu5, iu6, hM1⟩
  cases evX4
  cases eoX4
  replace hM1 : P5 p2 aB aA aG m8 u5 u6 = some X4 := hM1
  obtain _ | m8 := m8
  ·cases (show (none : Option _) = some X4 from hM1)
  rw [P5.eq_2] at hM1
  refine And.intro (fun hc9 => ?_) (fun hc9 => ?_)
  ·replace hM1 := ifP hM1 hc9
   refine Or.inl (And.intro (And.intro (by kernel_rfl) (by kernel_rfl)) ?_)
   obtain ⟨x10, gx10, hM1⟩ := j0 hM1
   obtain ⟨bx10, csx10, ex10, rx10⟩ := Sl.getI (r := Wp.int.toRp) (K1.mono sX4 rp2) gx10 (by decide)
   refine And.intro bx10 ?_
   obtain ⟨rfl, ix10⟩ := rx10
   refine Exists.intro _ (And.intro ex10 ?_)
   obtain ⟨x11, gx11, hM1⟩ := j0 hM1
   refine Exists.intro (.int .i64 x11) (And.intro (j01 _ [.int .i64 aB, .int .i64 aA, .slice aC aG.length aD] (aB, aA, aG) (z0 aH aI (I0.mono sX4 aF)) u5 iu5 x10 ix10 _  gx11) ?_)
   obtain ⟨q12, gq12, hM1⟩ := j0 hM1
   have ix11 : H0 x11 := U2 gq12
   refine And.intro (fun hc13 => ?_) (fun hc13 => ?_)
   ·replace hM1 := ifP hM1 hc13
    have hE := Option.some.inj hM1; subst hE
    try dsimp only [G3, J3] at hM0
    have hE := Option.some.inj hM0; subst hE
    exact And.intro rfl sX4
   ·replace hM1 := ifN hM1 hc13
    refine And.intro rfl (And.intro (by repeat (first | exact trivial | refine And.intro rfl ?_)) (And.intro (by repeat (first | exact trivial | refine And.intro rfl ?_)) (Exists.intro m8 (And.intro ⟨x11, (IntKind.i64.wrap (u6 + 1)), rfl, rfl, sX4, ix11, (K0 _), hM1⟩ (Nat.lt_succ_self _)))))
  ·replace hM1 := ifN hM1 hc9
   have hE := Option.some.inj hM1; subst hE
   try dsimp only [U0, Z0] at hM0
   have hE := Option.some.inj hM0; subst hE
   exact And.intro rfl sX4
theorem a09 (h : Hp) (csp0 : List Value) (p0 : l0) (rp0 : Y0.R h csp0 p0) (p1 : Int) (ip1 : H0 p1) (p2 : Int) (ip2 : H0 p2) (r : P0) (hM0 : U8 p0 p1 p2 = some r) :
  Tr Tryz.prog 209 #[.agg csp0.toArray, .int .i64 p1, .int .i64 p2] h fun v h' => ∃ (a0 : Option Addr) (n0 c0 : Nat), v = .slice a0 n0 c0 ∧ New K1 h h' [.slice a0 n0 c0] r := by
 obtain ⟨aJ, aK, aG, aL, aH, aI, rfl, rfl, aM, aN, aC⟩ := B0 rp0
 obtain ⟨rfl, aO⟩ := Sl.len aC
 unfold U8 at hM0
 dsimp only at hM0
 refine T2 (args := [.agg #[.int .i64 aJ, .int .i64 aK, .slice aG aI.length aH], .int .i64 p1, .int .i64 p2]) (fn := Tryz.f209) rfl ?_
 obtain ⟨X1, hLX1, hM0⟩ := j0 hM0
 refine Exists.intro { vars := [14], boxes := [], owns := [0], fuel := true } (Exists.intro (fun vs os h' => ∃ (u2 : Int) (wu3 : List (List Value)) (u3 : List Int), vs.tail = [.int .i64 u2] ∧ os = [wu3] ∧ Sub h h' ∧ H0 u2 ∧ F2 (Wp.int.R h') wu3 u3 ∧ w4 aI p2 p1 (Q1 vs) u2 u3 = some X1) (Exists.intro (fun _ _ => 0) ?_))
 refine And.intro (Exists.intro T0 ⟨0, [], ([] : P0), rfl, rfl, (Sub.refl _), (c64 (by decide) (by decide)), (show F2 (Wp.int.R h) ([] : List (List Value)) ([] : P0) from trivial), hLX1⟩) ?_
 rintro v_0 wu3 m5 k4 ⟨u2, zzu3, u3, evX1, eoX1, sX1, iu2, fu3, hM1⟩
 cases evX1
 cases eoX1
 replace hM1 : w4 aI p2 p1 m5 u2 u3 = some X1 := hM1
 obtain _ | m5 := m5
 ·cases (show (none : Option _) = some X1 from hM1)
 rw [w4.eq_2] at hM1
 refine And.intro (fun hc6 => ?_) (fun hc6 => ?_)
 ·replace hM1 := ifP hM1 hc6
  obtain ⟨x7, gx7, hM1⟩ := j0 hM1
  obtain ⟨bx7, csx7, ex7, rx7⟩ := Sl.getI (r := Q0.toRp) (I0.mono sX1 aC) gx7 (by decide)
  refine And.intro bx7 ?_
  obtain ⟨aA, aQ, aB, rfl, rfl, aD, aP, aF⟩ := D1 rx7
  try dsimp only at hM1
  refine Exists.intro _ (And.intro ex7 ?_)
  refine And.intro (fun hc8 => ?_) (fun hc8 => ?_)
  ·replace hM1 := ifP hM1 hc8
   obtain ⟨q9, gq9, hM1⟩ := j0 hM1
   refine And.intro (M2 gq9 (by first | rw [F2.length fu3, F2.length (show F2 (Wp.int.R k4) ([[.int .i64 aB]] : List (List Value)) [aB] from ⟨⟨rfl, aF⟩, trivial⟩)] | exact congrArg (· + 1) (F2.length fu3))) ?_
   refine And.intro rfl (And.intro (by repeat (first | exact trivial | refine And.intro rfl ?_)) (And.intro (by repeat (first | exact trivial | refine And.intro rfl ?_)) (Exists.intro m5 (And.intro ⟨(IntKind.i64.wrap (u2 + 1)), (wu3 ++ ([[.int .i64 aB]] : List (List Value))), (u3 ++ [aB]), rfl, rfl, sX1, (K0 _), (F2.append fu3 (show F2 (Wp.int.R k4) ([[.int .i64 aB]] : List (List Value)) [aB] from ⟨⟨rfl, aF⟩, trivial⟩)), hM1⟩ (Nat.lt_succ_self _)))))
  ·replace hM1 := ifN hM1 hc8
   refine And.intro (fun hc10 => ?_) (fun hc10 => ?_)
   ·replace hM1 := ifP hM1 hc10
    obtain ⟨q11, gq11, hM1⟩ := j0 hM1
    refine And.intro (M2 gq11 (by first | rw [F2.length fu3, F2.length (show F2 (Wp.int.R k4) ([[.int .i64 aA]] : List (List Value)) [aA] from ⟨⟨rfl, aD⟩, trivial⟩)] | exact congrArg (· + 1) (F2.length fu3))) ?_
    refine And.intro rfl (And.intro (by repeat (first | exact trivial | refine And.intro rfl ?_)) (And.intro (by repeat (first | exact trivial | refine And.intro rfl ?_)) (Exists.intro m5 (And.intro ⟨(IntKind.i64.wrap (u2 + 1)), (wu3 ++ ([[.int .i64 aA]] : List (List Value))), (u3 ++ [aA]), rfl, rfl, sX1, (K0 _), (F2.append fu3 (show F2 (Wp.int.R k4) ([[.int .i64 aA]] : List (List Value)) [aA] from ⟨⟨rfl, aD⟩, trivial⟩)), hM1⟩ (Nat.lt_succ_self _)))))
   ·replace hM1 := ifN hM1 hc10
    refine And.intro rfl (And.intro (by repeat (first | exact trivial | refine And.intro rfl ?_)) (And.intro (by repeat (first | exact trivial | refine And.intro rfl ?_)) (Exists.intro m5 (And.intro ⟨(IntKind.i64.wrap (u2 + 1)), wu3, u3, rfl, rfl, sX1, (K0 _), fu3, hM1⟩ (Nat.lt_succ_self _)))))
 ·replace hM1 := ifN hM1 hc6
  have hE := Option.some.inj hM1; subst hE
  try dsimp only [U0, Z0] at hM0
  refine Or.inl ?_
  intro v12 k13 f14
  obtain ⟨q15, gq15, hM0⟩ := j0 hM0
  refine Tr.mono (P0g _ f14 fu3 (U2 gq15)) ?_
  rintro _ kz16 ⟨rfl, vsz16, fz16, qz16⟩
  obtain ⟨az16, cz16, rfl, rz16, sz16, lz16⟩ := E1.out (r := Wp.int.toRp) fz16 qz16
  refine Tr.mono (Q0g _ fz16 qz16) ?_
  rintro _ kz17 ⟨vsz17, fz17, qz17⟩
  obtain ⟨az17, cz17, rfl, rz17, sz17, lz17⟩ := E1.out (r := Wp.int.toRp) fz17 qz17
  have hE := Option.some.inj hM0; subst hE
  exact ⟨az17, ((n01 eqI (G03 L7 u3))).length, cz17, rfl, (New.from (E1.newPlain (r := Wp.int) fz17 qz17 (t0h _)) sX1)⟩
theorem k01 (h : Hp) (csp0 : List Value) (p0 : l0) (rp0 : Y0.R h csp0 p0) (p1 : Int) (ip1 : H0 p1) (p2 : Int) (ip2 : H0 p2) (r : Int) (hM0 : L6 p0 p1 p2 = some r) :
  Tr Tryz.prog 157 #[.agg csp0.toArray, .int .i64 p1, .int .i64 p2] h fun v h' => v = .int .i64 r ∧ h' = h := by
 obtain ⟨aD, aF, aA, aJ, aB, aI, rfl, rfl, aG, aH, aC⟩ := B0 rp0
 obtain ⟨rfl, aK⟩ := Sl.len aC
 unfold L6 at hM0
 dsimp only at hM0
 refine Tr.forget (T2 (args := [.agg #[.int .i64 aD, .int .i64 aF, .slice aA aI.length aB], .int .i64 p1, .int .i64 p2]) (fn := Tryz.f157) rfl ?_)
 obtain ⟨x1, gx1, hM0⟩ := j0 hM0
 refine Tr.mono (a09 _ [.int .i64 aD, .int .i64 aF, .slice aA aI.length aB] (aD, aF, aI) (z0 aG aH aC) p1 ip1 p2 ip2 _  gx1) ?_
 rintro v3 k2 ⟨ax1, nx1, cx1, rfl, wx1⟩
 have sx1 : Sub h k2 := wx1.sub
 have rx1 := wx1.r
 obtain ⟨rfl, lx1⟩ := Sl.len rx1
 refine And.intro (fun hc4 => ?_) (fun hc4 => ?_)
 ·replace hM0 := ifP hM0 hc4
  have hE := Option.some.inj hM0; subst hE
  exact And.intro rfl sx1
 ·replace hM0 := ifN hM0 hc4
  obtain ⟨x5, gx5, hM0⟩ := j0 hM0
  obtain ⟨bx5, csx5, ex5, rx5⟩ := Sl.getI (r := Wp.int.toRp) rx1 gx5 (by decide)
  refine And.intro bx5 ?_
  obtain ⟨rfl, ix5⟩ := rx5
  refine Exists.intro _ (And.intro ex5 ?_)
  have hE := Option.some.inj hM0; subst hE
  exact And.intro rfl sx1
theorem H9 (h : Hp) (csp0 : List Value) (p0 : l0) (rp0 : Y0.R h csp0 p0) (r : Bool) (hM0 : i6 p0 = some r) :
  Tr Tryz.prog 96 #[.agg csp0.toArray] h fun v h' => v = .bool r ∧ h' = h := by
 obtain ⟨aD, aF, aB, aP, aC, aG, rfl, rfl, aH, aI, aA⟩ := B0 rp0
 obtain ⟨rfl, aQ⟩ := Sl.len aA
 unfold i6 at hM0
 dsimp only at hM0
 refine Tr.forget (T2 (args := [.agg #[.int .i64 aD, .int .i64 aF, .slice aB aG.length aC]]) (fn := Tryz.f96) rfl ?_)
 obtain ⟨x1, gx1, hM0⟩ := j0 hM0
 refine Tr.val (A8 _ [.int .i64 aD, .int .i64 aF, .slice aB aG.length aC] (aD, aF, aG) (z0 aH aI aA) _  gx1) ?_
 refine And.intro (fun hc2 => ?_) (fun hc2 => ?_)
 ·replace hM0 := ifP hM0 hc2
  have hE := Option.some.inj hM0; subst hE
  exact And.intro rfl (Sub.refl _)
 ·replace hM0 := ifN hM0 hc2
  obtain ⟨X3, hLX3, hM0⟩ := j0 hM0
  refine Exists.intro { vars := [13], boxes := [], owns := [], fuel := true } (Exists.intro (fun vs os h' => ∃ (u4 : Int), vs.tail = [.int .i64 u4] ∧ os = [] ∧ Sub h h' ∧ H0 u4 ∧ R5 aG (Q1 vs) u4 = some X3) (Exists.intro (fun _ _ => 0) ?_))
  refine And.intro (Exists.intro T0 ⟨0, rfl, rfl, (Sub.refl _), (c64 (by decide) (by decide)), hLX3⟩) ?_
  rintro v_0 m6 k5 ⟨u4, evX3, eoX3, sX3, iu4, hM1⟩
  cases evX3
  cases eoX3
  replace hM1 : R5 aG m6 u4 = some X3 := hM1
  obtain _ | m6 := m6
  ·cases (show (none : Option _) = some X3 from hM1)
  rw [R5.eq_2] at hM1
  refine And.intro (fun hc7 => ?_) (fun hc7 => ?_)
  ·replace hM1 := ifP hM1 hc7
   obtain ⟨x8, gx8, hM1⟩ := j0 hM1
   obtain ⟨bx8, csx8, ex8, rx8⟩ := Sl.getI (r := Q0.toRp) (I0.mono sX3 aA) gx8 (by decide)
   refine And.intro bx8 ?_
   obtain ⟨aJ, aK, aL, rfl, rfl, aR, aS, aT⟩ := D1 rx8
   try dsimp only at hM1
   refine Exists.intro _ (And.intro ex8 ?_)
   obtain ⟨x9, gx9, hM1⟩ := j0 hM1
   obtain ⟨qx9, vsx9, ex9, fx9⟩ := Sl.cutI (r := Q0.toRp) (I0.mono sX3 aA) gx9
   refine And.intro qx9 (Exists.intro vsx9 (And.intro ex9 ?_))
   intro vx9 hvx9 _
   obtain ⟨ax9, cx9, rfl, rx9⟩ := fx9 vx9 hvx9
   have lx9 := (Sl.len rx9).2
   obtain ⟨X10, hLX10, hM1⟩ := j0 hM1
   refine Exists.intro { vars := [24], boxes := [], owns := [], fuel := true } (Exists.intro (fun vs os h' => ∃ (u11 : Int), vs.tail = [.int .i64 u11] ∧ os = [] ∧ Sub k5 h' ∧ H0 u11 ∧ Q5 x9 aK aJ aL (Q1 vs) u11 = some X10) (Exists.intro (fun _ _ => 0) ?_))
   refine And.intro (Exists.intro T0 ⟨0, rfl, rfl, (Sub.refl _), (c64 (by decide) (by decide)), hLX10⟩) ?_
   rintro v_0 m13 k12 ⟨u11, evX10, eoX10, sX10, iu11, hM2⟩
   cases evX10
   cases eoX10
   replace hM2 : Q5 x9 aK aJ aL m13 u11 = some X10 := hM2
   obtain _ | m13 := m13
   ·cases (show (none : Option _) = some X10 from hM2)
   rw [Q5.eq_2] at hM2
   refine And.intro (fun hc14 => ?_) (fun hc14 => ?_)
   ·replace hM2 := ifP hM2 hc14
    obtain ⟨x15, gx15, hM2⟩ := j0 hM2
    obtain ⟨bx15, csx15, ex15, rx15⟩ := Sl.getI (r := Q0.toRp) (I0.mono sX10 rx9) gx15 (by decide)
    refine And.intro bx15 ?_
    obtain ⟨aU, aV, aW, rfl, rfl, aM, aN, aO⟩ := D1 rx15
    try dsimp only at hM2
    refine Exists.intro _ (And.intro ex15 ?_)
    refine And.intro (fun hc16 => ?_) (fun hc16 => ?_)
    ·replace hM2 := ifP hM2 hc16
     have hE := Option.some.inj hM2; subst hE
     try dsimp only [G3, J3] at hM1
     have hE := Option.some.inj hM1; subst hE
     try dsimp only [G3, J3] at hM0
     have hE := Option.some.inj hM0; subst hE
     exact And.intro rfl (sX3.trans sX10)
    ·replace hM2 := ifN hM2 hc16
     refine And.intro rfl (And.intro (by repeat (first | exact trivial | refine And.intro rfl ?_)) (And.intro (by repeat (first | exact trivial | refine And.intro rfl ?_)) (Exists.intro m13 (And.intro ⟨(IntKind.i64.wrap (u11 + 1)), rfl, rfl, sX10, (K0 _), hM2⟩ (Nat.lt_succ_self _)))))
   ·replace hM2 := ifN hM2 hc14
    have hE := Option.some.inj hM2; subst hE
    try dsimp only [U0, Z0] at hM1
    refine And.intro rfl (And.intro (by repeat (first | exact trivial | refine And.intro rfl ?_)) (And.intro (by repeat (first | exact trivial | refine And.intro rfl ?_)) (Exists.intro m6 (And.intro ⟨(IntKind.i64.wrap (u4 + 1)), rfl, rfl, (sX3.trans sX10), (K0 _), hM1⟩ (Nat.lt_succ_self _)))))
  ·replace hM1 := ifN hM1 hc7
   have hE := Option.some.inj hM1; subst hE
   try dsimp only [U0, Z0] at hM0
   have hE := Option.some.inj hM0; subst hE
   exact And.intro rfl sX3
theorem g08 (h : Hp) (csp0 : List Value) (p0 : l0) (rp0 : Y0.R h csp0 p0) (p1 : Int) (ip1 : H0 p1) (ap2 : Option Addr) (np2 cp2 : Nat) (p2 : P0) (rp2 : K1.R h [.slice ap2 np2 cp2] p2) (r : Int × Int) (hM0 : J8 p0 p1 p2 = some r) :
  Tr Tryz.prog 152 #[.agg csp0.toArray, .int .i64 p1, .slice ap2 np2 cp2] h fun v h' => v = .tuple #[.int .i64 r.1, .int .i64 r.2] ∧ h' = h := by
 obtain ⟨aA, aB, aC, aJ, aD, aG, rfl, rfl, aH, aI, aF⟩ := B0 rp0
 obtain ⟨rfl, aK⟩ := Sl.len aF
 obtain ⟨rfl, lp2⟩ := Sl.len rp2
 unfold J8 at hM0
 dsimp only at hM0
 refine Tr.forget (T2 (args := [.agg #[.int .i64 aA, .int .i64 aB, .slice aC aG.length aD], .int .i64 p1, .slice ap2 p2.length cp2]) (fn := Tryz.f152) rfl ?_)
 obtain ⟨X1, hLX1, hM0⟩ := j0 hM0
 refine Exists.intro { vars := [1, 13], boxes := [], owns := [], fuel := true } (Exists.intro (fun vs os h' => ∃ (u2 : Int) (u3 : Int), vs.tail = [.int .i64 u2, .int .i64 u3] ∧ os = [] ∧ Sub h h' ∧ H0 u2 ∧ H0 u3 ∧ d5 p2 aA aB aG (Q1 vs) u2 u3 = some X1) (Exists.intro (fun _ _ => 0) ?_))
 refine And.intro (Exists.intro T0 ⟨p1, 0, rfl, rfl, (Sub.refl _), ip1, (c64 (by decide) (by decide)), hLX1⟩) ?_
 rintro v_0 v_1 m5 k4 ⟨u2, u3, evX1, eoX1, sX1, iu2, iu3, hM1⟩
 cases evX1
 cases eoX1
 replace hM1 : d5 p2 aA aB aG m5 u2 u3 = some X1 := hM1
 obtain _ | m5 := m5
 ·cases (show (none : Option _) = some X1 from hM1)
 rw [d5.eq_2] at hM1
 refine And.intro (fun hc6 => ?_) (fun hc6 => ?_)
 ·replace hM1 := ifP hM1 hc6
  obtain ⟨x7, gx7, hM1⟩ := j0 hM1
  obtain ⟨bx7, csx7, ex7, rx7⟩ := Sl.getI (r := Wp.int.toRp) (K1.mono sX1 rp2) gx7 (by decide)
  refine And.intro bx7 ?_
  obtain ⟨rfl, ix7⟩ := rx7
  refine Exists.intro _ (And.intro ex7 ?_)
  obtain ⟨x8, gx8, hM1⟩ := j0 hM1
  refine Tr.val (k01 _ [.int .i64 aA, .int .i64 aB, .slice aC aG.length aD] (aA, aB, aG) (z0 aH aI (I0.mono sX1 aF)) u2 iu2 x7 ix7 _  gx8) ?_
  obtain ⟨q9, gq9, hM1⟩ := j0 hM1
  have ix8 : H0 x8 := U2 gq9
  refine And.intro (fun hc10 => ?_) (fun hc10 => ?_)
  ·replace hM1 := ifP hM1 hc10
   have hE := Option.some.inj hM1; subst hE
   try dsimp only [G3, J3] at hM0
   have hE := Option.some.inj hM0; subst hE
   exact And.intro rfl sX1
  ·replace hM1 := ifN hM1 hc10
   refine And.intro rfl (And.intro (by repeat (first | exact trivial | refine And.intro rfl ?_)) (And.intro (by repeat (first | exact trivial | refine And.intro rfl ?_)) (Exists.intro m5 (And.intro ⟨x8, (IntKind.i64.wrap (u3 + 1)), rfl, rfl, sX1, ix8, (K0 _), hM1⟩ (Nat.lt_succ_self _)))))
 ·replace hM1 := ifN hM1 hc6
  have hE := Option.some.inj hM1; subst hE
  try dsimp only [U0, Z0] at hM0
  have hE := Option.some.inj hM0; subst hE
  exact And.intro rfl sX1
end Go.Proofs.YtfdlgbfeceodeaaGreat
namespace Go.Proofs.YtfdlgbfeceodeaaGreat
open Go.H
set_option linter.unusedVariables false
set_option linter.unusedSimpArgs false
set_option maxRecDepth 10000
theorem R06 (h : Hp) (csp0 : List Value) (p0 : D0) (rp0 : j1.R h csp0 p0) (csp1 : List Value) (p1 : l0) (rp1 : Y0.R h csp1 p1) (r : Int × Int) (hM0 : o7 p0 p1 = some r) :
  Tr Tryz.prog 89 #[.agg csp0.toArray, .agg csp1.toArray] h fun v h' => v = .tuple #[.int .i64 r.1, .int .i64 r.2] ∧ h' = h := by
 obtain ⟨aD, aF, aS, aG, aH, rfl, rfl, aQ, aI⟩ := A2 rp0
 obtain ⟨rfl, aT⟩ := Sl.len aI
 obtain ⟨aA, aB, aJ, aU, aK, aC, rfl, rfl, aN, aO, aL⟩ := B0 rp1
 obtain ⟨rfl, aV⟩ := Sl.len aL
 unfold o7 at hM0
 dsimp only at hM0
 refine Tr.forget (T2 (args := [.agg #[.int .i64 aD, .slice aF aH.length aG], .agg #[.int .i64 aA, .int .i64 aB, .slice aJ aC.length aK]]) (fn := Tryz.f89) rfl ?_)
 obtain ⟨X1, hLX1, hM0⟩ := j0 hM0
 refine Exists.intro { vars := [6], boxes := [], owns := [], fuel := true } (Exists.intro (fun vs os h' => ∃ (u2 : Int), vs.tail = [.int .i64 u2] ∧ os = [] ∧ Sub h h' ∧ H0 u2 ∧ L3 aB aD aH aA aC (Q1 vs) u2 = some X1) (Exists.intro (fun _ _ => 0) ?_))
 refine And.intro (Exists.intro T0 ⟨0, rfl, rfl, (Sub.refl _), (c64 (by decide) (by decide)), hLX1⟩) ?_
 rintro v_0 m4 k3 ⟨u2, evX1, eoX1, sX1, iu2, hM1⟩
 cases evX1
 cases eoX1
 replace hM1 : L3 aB aD aH aA aC m4 u2 = some X1 := hM1
 obtain _ | m4 := m4
 ·cases (show (none : Option _) = some X1 from hM1)
 rw [L3.eq_2] at hM1
 obtain ⟨x5, gx5, hM1⟩ := j0 hM1
 refine Exists.intro (.bool x5) (And.intro (fun q => R9 _ [.int .i64 aD, .slice aF aH.length aG] (aD, aH) (J2 aQ (D3.mono sX1 aI)) _  (N2 gx5 q)) ?_)
 obtain ⟨x6, gx6, hM1⟩ := j0 hM1
 refine Exists.intro (.bool x6) (And.intro (fun q => G9 _ [.int .i64 aA, .int .i64 aB, .slice aJ aC.length aK] (aA, aB, aC) (z0 aN aO (I0.mono sX1 aL)) _  (N2 gx6 q)) ?_)
 refine And.intro (fun hc7 => ?_) (fun hc7 => ?_)
 ·replace hM1 := ifP hM1 hc7
  obtain ⟨X8, hLX8, hM1⟩ := j0 hM1
  refine Exists.intro { vars := [7], boxes := [], owns := [], fuel := true } (Exists.intro (fun vs os h' => ∃ (u9 : Int), vs.tail = [.int .i64 u9] ∧ os = [] ∧ Sub k3 h' ∧ H0 u9 ∧ R4 aH aA aB aC u2 (Q1 vs) u9 = some X8) (Exists.intro (fun _ _ => 0) ?_))
  refine And.intro (Exists.intro T0 ⟨0, rfl, rfl, (Sub.refl _), (c64 (by decide) (by decide)), hLX8⟩) ?_
  rintro v_0 m11 k10 ⟨u9, evX8, eoX8, sX8, iu9, hM2⟩
  cases evX8
  cases eoX8
  replace hM2 : R4 aH aA aB aC u2 m11 u9 = some X8 := hM2
  obtain _ | m11 := m11
  ·cases (show (none : Option _) = some X8 from hM2)
  rw [R4.eq_2] at hM2
  refine And.intro (fun hc12 => ?_) (fun hc12 => ?_)
  ·replace hM2 := ifP hM2 hc12
   refine Or.inr (Or.inr (Or.inr (Or.inl (And.intro (And.intro (by kernel_rfl) (by kernel_rfl)) ?_))))
   obtain ⟨x13, gx13, hM2⟩ := j0 hM2
   obtain ⟨bx13, csx13, ex13, rx13⟩ := Sl.getI (r := K1.toRp) (D3.mono (sX1.trans sX8) aI) gx13 (by decide)
   obtain ⟨ax13, nx13, cx13, rfl⟩ := Wp.slice_cell rx13
   obtain ⟨rfl, lx13⟩ := Sl.len rx13
   refine Or.inl (Exists.intro (.hel (.slice aF aH.length aG) u9 1 0) (And.intro ?_ ?_))
   ·intro k14 s15
    exact And.intro bx13 (And.intro rfl (And.intro rfl rfl))
   refine Or.inl (Exists.intro (.val (.slice ax13 x13.length cx13)) (And.intro ?_ ?_))
   ·intro k16 s17
    exact Exists.intro _ (And.intro (i7.up s17 ex13) (And.intro rfl (And.intro rfl rfl)))
   obtain ⟨x18, gx18, hM2⟩ := j0 hM2
   obtain ⟨aM, aP⟩ := x18
   try dsimp only at hM2
   obtain ⟨q19, gq19, hM2⟩ := j0 hM2
   have aR : H0 aM := U2 gq19
   refine Or.inl (Exists.intro (.val (.tuple #[.int .i64 aM, .bool aP])) (And.intro ?_ ?_))
   ·intro k20 s21
    exact Tr.val (Q09 _ [.int .i64 aA, .int .i64 aB, .slice aJ aC.length aK] (aA, aB, aC) (z0 aN aO (I0.mono ((sX1.trans sX8).trans s21) aL)) u2 iu2 ax13 x13.length cx13 x13 (K1.mono s21 rx13) _ gx18) (And.intro rfl (And.intro rfl rfl))
   refine Or.inl (Exists.intro (.val (.int .i64 aM)) (And.intro ?_ ?_))
   ·intro k22 s23
    exact And.intro rfl (And.intro rfl rfl)
   refine Or.inl (Exists.intro (.val (.bool aP)) (And.intro ?_ ?_))
   ·intro k24 s25
    exact And.intro rfl (And.intro rfl rfl)
   intro k26 s27
   refine And.intro (fun hc28 => ?_) (fun hc28 => ?_)
   ·replace hM2 := ifP hM2 hc28
    have hE := Option.some.inj hM2; subst hE
    try dsimp only [G3, J3] at hM1
    have hE := Option.some.inj hM1; subst hE
    try dsimp only [G3, J3] at hM0
    have hE := Option.some.inj hM0; subst hE
    exact And.intro rfl ((sX1.trans sX8).trans s27)
   ·replace hM2 := ifN hM2 hc28
    refine And.intro rfl (And.intro (by repeat (first | exact trivial | refine And.intro rfl ?_)) (And.intro (by repeat (first | exact trivial | refine And.intro rfl ?_)) (Exists.intro m11 (And.intro ⟨(IntKind.i64.wrap (u9 + 1)), rfl, rfl, (sX8.trans s27), (K0 _), hM2⟩ (Nat.lt_succ_self _)))))
  ·replace hM2 := ifN hM2 hc12
   have hE := Option.some.inj hM2; subst hE
   try dsimp only [U0, Z0] at hM1
   refine And.intro rfl (And.intro (by repeat (first | exact trivial | refine And.intro rfl ?_)) (And.intro (by repeat (first | exact trivial | refine And.intro rfl ?_)) (Exists.intro m4 (And.intro ⟨(IntKind.i64.wrap (u2 + 1)), rfl, rfl, (sX1.trans sX8), (K0 _), hM1⟩ (Nat.lt_succ_self _)))))
 ·replace hM1 := ifN hM1 hc7
  have hE := Option.some.inj hM1; subst hE
  try dsimp only [U0, Z0] at hM0
  have hE := Option.some.inj hM0; subst hE
  exact And.intro rfl sX1
theorem S06 (h : Hp) (csp0 : List Value) (p0 : D0) (rp0 : j1.R h csp0 p0) (csp1 : List Value) (p1 : l0) (rp1 : Y0.R h csp1 p1) (r : Int × Int) (hM0 : p7 p0 p1 = some r) :
  Tr Tryz.prog 97 #[.agg csp0.toArray, .agg csp1.toArray] h fun v h' => v = .tuple #[.int .i64 r.1, .int .i64 r.2] ∧ h' = h := by
 obtain ⟨aN, aJ, aT, aK, aD, rfl, rfl, aO, aF⟩ := A2 rp0
 obtain ⟨rfl, aU⟩ := Sl.len aF
 obtain ⟨aA, aB, aG, aV, aH, aC, rfl, rfl, aL, aM, aI⟩ := B0 rp1
 obtain ⟨rfl, aW⟩ := Sl.len aI
 unfold p7 at hM0
 dsimp only at hM0
 refine Tr.forget (T2 (args := [.agg #[.int .i64 aN, .slice aJ aD.length aK], .agg #[.int .i64 aA, .int .i64 aB, .slice aG aC.length aH]]) (fn := Tryz.f97) rfl ?_)
 obtain ⟨x1, gx1, hM0⟩ := j0 hM0
 refine Tr.val (S9 _ [.int .i64 aN, .slice aJ aD.length aK] (aN, aD) (J2 aO aF) _  gx1) ?_
 obtain ⟨x2, gx2, hM0⟩ := j0 hM0
 refine Exists.intro (.bool x2) (And.intro (fun q => H9 _ [.int .i64 aA, .int .i64 aB, .slice aG aC.length aH] (aA, aB, aC) (z0 aL aM aI) _  (N2 gx2 q)) ?_)
 refine And.intro (fun hc3 => ?_) (fun hc3 => ?_)
 ·replace hM0 := ifP hM0 hc3
  have hE := Option.some.inj hM0; subst hE
  exact And.intro rfl (Sub.refl _)
 ·replace hM0 := ifN hM0 hc3
  obtain ⟨X4, hLX4, hM0⟩ := j0 hM0
  refine Exists.intro { vars := [6], boxes := [], owns := [], fuel := true } (Exists.intro (fun vs os h' => ∃ (u5 : Int), vs.tail = [.int .i64 u5] ∧ os = [] ∧ Sub h h' ∧ H0 u5 ∧ T4 aB aD aA aC (Q1 vs) u5 = some X4) (Exists.intro (fun _ _ => 0) ?_))
  refine And.intro (Exists.intro T0 ⟨0, rfl, rfl, (Sub.refl _), (c64 (by decide) (by decide)), hLX4⟩) ?_
  rintro v_0 m7 k6 ⟨u5, evX4, eoX4, sX4, iu5, hM1⟩
  cases evX4
  cases eoX4
  replace hM1 : T4 aB aD aA aC m7 u5 = some X4 := hM1
  obtain _ | m7 := m7
  ·cases (show (none : Option _) = some X4 from hM1)
  rw [T4.eq_2] at hM1
  refine And.intro (fun hc8 => ?_) (fun hc8 => ?_)
  ·replace hM1 := ifP hM1 hc8
   obtain ⟨X9, hLX9, hM1⟩ := j0 hM1
   refine Exists.intro { vars := [35], boxes := [], owns := [], fuel := true } (Exists.intro (fun vs os h' => ∃ (u10 : Int), vs.tail = [.int .i64 u10] ∧ os = [] ∧ Sub k6 h' ∧ H0 u10 ∧ S4 aD aA aB aC u5 (Q1 vs) u10 = some X9) (Exists.intro (fun _ _ => 0) ?_))
   refine And.intro (Exists.intro T0 ⟨0, rfl, rfl, (Sub.refl _), (c64 (by decide) (by decide)), hLX9⟩) ?_
   rintro v_0 m12 k11 ⟨u10, evX9, eoX9, sX9, iu10, hM2⟩
   cases evX9
   cases eoX9
   replace hM2 : S4 aD aA aB aC u5 m12 u10 = some X9 := hM2
   obtain _ | m12 := m12
   ·cases (show (none : Option _) = some X9 from hM2)
   rw [S4.eq_2] at hM2
   refine And.intro (fun hc13 => ?_) (fun hc13 => ?_)
   ·replace hM2 := ifP hM2 hc13
    obtain ⟨x14, gx14, hM2⟩ := j0 hM2
    obtain ⟨bx14, csx14, ex14, rx14⟩ := Sl.getI (r := K1.toRp) (D3.mono (sX4.trans sX9) aF) gx14 (by decide)
    refine And.intro bx14 ?_
    obtain ⟨ax14, nx14, cx14, rfl⟩ := Wp.slice_cell rx14
    obtain ⟨rfl, lx14⟩ := Sl.len rx14
    refine Exists.intro _ (And.intro ex14 ?_)
    obtain ⟨x15, gx15, hM2⟩ := j0 hM2
    obtain ⟨aP, aQ⟩ := x15
    try dsimp only at hM2
    refine Tr.val (g08 _ [.int .i64 aA, .int .i64 aB, .slice aG aC.length aH] (aA, aB, aC) (z0 aL aM (I0.mono (sX4.trans sX9) aI)) u5 iu5 ax14 x14.length cx14 x14 rx14 _  gx15) ?_
    obtain ⟨q16, gq16, hM2⟩ := j0 hM2
    have aR : H0 aP := U2 gq16
    obtain ⟨q17, gq17, hM2⟩ := j0 hM2
    have aS : H0 aQ := U2 gq17
    refine And.intro (fun hc18 => ?_) (fun hc18 => ?_)
    ·replace hM2 := ifP hM2 hc18
     have hE := Option.some.inj hM2; subst hE
     try dsimp only [G3, J3] at hM1
     have hE := Option.some.inj hM1; subst hE
     try dsimp only [G3, J3] at hM0
     have hE := Option.some.inj hM0; subst hE
     exact And.intro rfl (sX4.trans sX9)
    ·replace hM2 := ifN hM2 hc18
     refine And.intro rfl (And.intro (by repeat (first | exact trivial | refine And.intro rfl ?_)) (And.intro (by repeat (first | exact trivial | refine And.intro rfl ?_)) (Exists.intro m12 (And.intro ⟨(IntKind.i64.wrap (u10 + 1)), rfl, rfl, sX9, (K0 _), hM2⟩ (Nat.lt_succ_self _)))))
   ·replace hM2 := ifN hM2 hc13
    have hE := Option.some.inj hM2; subst hE
    try dsimp only [U0, Z0] at hM1
    refine And.intro rfl (And.intro (by repeat (first | exact trivial | refine And.intro rfl ?_)) (And.intro (by repeat (first | exact trivial | refine And.intro rfl ?_)) (Exists.intro m7 (And.intro ⟨(IntKind.i64.wrap (u5 + 1)), rfl, rfl, (sX4.trans sX9), (K0 _), hM1⟩ (Nat.lt_succ_self _)))))
  ·replace hM1 := ifN hM1 hc8
   have hE := Option.some.inj hM1; subst hE
   try dsimp only [U0, Z0] at hM0
   have hE := Option.some.inj hM0; subst hE
   exact And.intro rfl sX4
end Go.Proofs.YtfdlgbfeceodeaaGreat
namespace Go.Proofs.YtfdlgbfeceodeaaGreat
open Go.H
set_option linter.unusedVariables false
set_option linter.unusedSimpArgs false
set_option maxRecDepth 10000
theorem Y3 (h : Hp) (csp0 : List Value) (p0 : l0) (rp0 : Y0.R h csp0 p0) (r : l0) (hM0 : P2 p0 = some r) :
  Tr Tryz.prog 68 #[.agg csp0.toArray] h fun v h' => ∃ (cs0 : List Value), v = .agg cs0.toArray ∧ Y0.R h' cs0 r ∧ Sub h h' := by
 obtain ⟨aB, aC, aD, aJ, aF, aI, rfl, rfl, aG, aH, aA⟩ := B0 rp0
 obtain ⟨rfl, aK⟩ := Sl.len aA
 unfold P2 at hM0
 dsimp only at hM0
 refine T2 (args := [.agg #[.int .i64 aB, .int .i64 aC, .slice aD aI.length aF]]) (fn := Tryz.f68) rfl ?_
 refine Or.inr (Or.inr (Or.inl (And.intro (And.intro (by kernel_rfl) (by kernel_rfl)) ?_)))
 refine Or.inr ?_
 refine Or.inr ?_
 refine Or.inr ?_
 refine Or.inr ?_
 refine Exists.intro 0 (And.intro (And.intro rfl rfl) ?_)
 refine And.intro trivial (And.intro (by first | exact trivial | exact rfl) ?_)
 obtain ⟨vsy1, ey1, fy1⟩ := Sl.rows (r := Q0.toRp) aA
 refine Exists.intro vsy1 (And.intro ey1 ?_)
 obtain ⟨q2, gq2, hM0⟩ := j0 hM0
 refine And.intro (M2 gq2 (by first | rw [F2.length (show F2 (Q0.R h) ([] : List (List Value)) ([] : J0) from trivial), F2.length fy1] | exact congrArg (· + 1) (F2.length (show F2 (Q0.R h) ([] : List (List Value)) ([] : J0) from trivial)))) ?_
 refine And.intro trivial (And.intro (by first | exact trivial | exact rfl) ?_)
 refine And.intro trivial (And.intro (by first | exact trivial | exact rfl) ?_)
 refine And.intro trivial (And.intro (by first | exact trivial | exact rfl) ?_)
 intro v3 k4 f5
 obtain ⟨az6, cz6, rfl, rz6, sz6, lz6⟩ := E1.out (r := Q0.toRp) f5 (F2.append (show F2 (Q0.R h) ([] : List (List Value)) ([] : J0) from trivial) fy1)
 have hE := Option.some.inj hM0; subst hE
 exact ⟨([.int .i64 aB, .int .i64 aC, .slice az6 ((([] : J0) ++ aI)).length cz6]), rfl, (z0 aG aH rz6), sz6⟩
theorem n9 (h : Hp) (ap0 : Option Addr) (np0 cp0 : Nat) (p0 : J0) (rp0 : I0.R h [.slice ap0 np0 cp0] p0) (csp1 : List Value) (p1 : C0) (rp1 : Q0.R h csp1 p1) (r : J0) (hM0 : M6 p0 p1 = some r) :
  Tr Tryz.prog 144 #[.slice ap0 np0 cp0, .agg csp1.toArray] h fun v h' => ∃ (a0 : Option Addr) (n0 c0 : Nat), v = .slice a0 n0 c0 ∧ I0.R h' [.slice a0 n0 c0] r ∧ Sub h h' := by
 obtain ⟨rfl, lp0⟩ := Sl.len rp0
 obtain ⟨aA, aB, aC, rfl, rfl, aD, aF, aG⟩ := D1 rp1
 unfold M6 at hM0
 dsimp only at hM0
 refine T2 (args := [.slice ap0 p0.length cp0, .agg #[.int .i64 aA, .int .i64 aB, .int .i64 aC]]) (fn := Tryz.f144) rfl ?_
 obtain ⟨X1, hLX1, hM0⟩ := j0 hM0
 refine Exists.intro { vars := [6, 7], boxes := [], owns := [0], fuel := true } (Exists.intro (fun vs os h' => ∃ (u2 : Bool) (u3 : Int) (wu4 : List (List Value)) (u4 : List C0), vs.tail = [.bool u2, .int .i64 u3] ∧ os = [wu4] ∧ Sub h h' ∧ H0 u3 ∧ F2 (Q0.R h') wu4 u4 ∧ d4 p0 aA aB aC (Q1 vs) u2 u3 u4 = some X1) (Exists.intro (fun _ _ => 0) ?_))
 refine And.intro (Exists.intro T0 ⟨false, 0, [], ([] : J0), rfl, rfl, (Sub.refl _), (c64 (by decide) (by decide)), (show F2 (Q0.R h) ([] : List (List Value)) ([] : J0) from trivial), hLX1⟩) ?_
 rintro v_0 v_1 wu4 m6 k5 ⟨u2, u3, zzu4, u4, evX1, eoX1, sX1, iu3, fu4, hM1⟩
 cases evX1
 cases eoX1
 replace hM1 : d4 p0 aA aB aC m6 u2 u3 u4 = some X1 := hM1
 obtain _ | m6 := m6
 ·cases (show (none : Option _) = some X1 from hM1)
 rw [d4.eq_2] at hM1
 refine And.intro (fun hc7 => ?_) (fun hc7 => ?_)
 ·replace hM1 := ifP hM1 hc7
  refine Or.inl (And.intro (And.intro (by kernel_rfl) (by kernel_rfl)) ?_)
  obtain ⟨x8, gx8, hM1⟩ := j0 hM1
  obtain ⟨bx8, csx8, ex8, rx8⟩ := Sl.getI (r := Q0.toRp) (I0.mono sX1 rp0) gx8 (by decide)
  refine And.intro bx8 ?_
  obtain ⟨bF, bG, bH, rfl, rfl, bI, bJ, bK⟩ := D1 rx8
  try dsimp only at hM1
  refine Exists.intro _ (And.intro ex8 ?_)
  obtain ⟨x9, gx9, hM1⟩ := j0 hM1
  refine Exists.intro (.int .i64 x9) (And.intro (X01 _ [.int .i64 aA, .int .i64 aB, .int .i64 aC] (aA, aB, aC) (V0 aD aF aG) [.int .i64 bF, .int .i64 bG, .int .i64 bH] (bF, bG, bH) (V0 bI bJ bK) _  gx9) ?_)
  obtain ⟨q10, gq10, hM1⟩ := j0 hM1
  have ix9 : H0 x9 := U2 gq10
  refine And.intro (fun hc11 => ?_) (fun hc11 => ?_)
  ·replace hM1 := ifP hM1 hc11
   refine And.intro (fun hc12 => ?_) (fun hc12 => ?_)
   ·replace hM1 := ifP hM1 hc12
    obtain ⟨q13, gq13, hM1⟩ := j0 hM1
    refine And.intro (M2 gq13 (by first | rw [F2.length fu4, F2.length (show F2 (Q0.R k5) ([[.int .i64 aA, .int .i64 aB, .int .i64 aC]] : List (List Value)) [(aA, aB, aC)] from ⟨(V0 aD aF aG), trivial⟩)] | exact congrArg (· + 1) (F2.length fu4))) ?_
    obtain ⟨x14, gx14, hM1⟩ := j0 hM1
    obtain ⟨bx14, csx14, ex14, rx14⟩ := Sl.getI (r := Q0.toRp) (I0.mono sX1 rp0) gx14 (by decide)
    refine And.intro bx14 ?_
    obtain ⟨aH, aI, aJ, rfl, rfl, aT, aU, aV⟩ := D1 rx14
    try dsimp only at hM1
    refine Exists.intro _ (And.intro ex14 ?_)
    obtain ⟨q15, gq15, hM1⟩ := j0 hM1
    refine And.intro (M2 gq15 (by first | rw [F2.length (F2.append fu4 (show F2 (Q0.R k5) ([[.int .i64 aA, .int .i64 aB, .int .i64 aC]] : List (List Value)) [(aA, aB, aC)] from ⟨(V0 aD aF aG), trivial⟩)), F2.length (show F2 (Q0.R k5) ([[.int .i64 aH, .int .i64 aI, .int .i64 aJ]] : List (List Value)) [(aH, aI, aJ)] from ⟨(V0 aT aU aV), trivial⟩)] | exact congrArg (· + 1) (F2.length (F2.append fu4 (show F2 (Q0.R k5) ([[.int .i64 aA, .int .i64 aB, .int .i64 aC]] : List (List Value)) [(aA, aB, aC)] from ⟨(V0 aD aF aG), trivial⟩))))) ?_
    refine And.intro rfl (And.intro (by repeat (first | exact trivial | refine And.intro rfl ?_)) (And.intro (by repeat (first | exact trivial | refine And.intro rfl ?_)) (Exists.intro m6 (And.intro ⟨true, (IntKind.i64.wrap (u3 + 1)), ((wu4 ++ ([[.int .i64 aA, .int .i64 aB, .int .i64 aC]] : List (List Value))) ++ ([[.int .i64 aH, .int .i64 aI, .int .i64 aJ]] : List (List Value))), ((u4 ++ [(aA, aB, aC)]) ++ [(aH, aI, aJ)]), rfl, rfl, sX1, (K0 _), (F2.append (F2.append fu4 (show F2 (Q0.R k5) ([[.int .i64 aA, .int .i64 aB, .int .i64 aC]] : List (List Value)) [(aA, aB, aC)] from ⟨(V0 aD aF aG), trivial⟩)) (show F2 (Q0.R k5) ([[.int .i64 aH, .int .i64 aI, .int .i64 aJ]] : List (List Value)) [(aH, aI, aJ)] from ⟨(V0 aT aU aV), trivial⟩)), hM1⟩ (Nat.lt_succ_self _)))))
   ·replace hM1 := ifN hM1 hc12
    obtain ⟨x16, gx16, hM1⟩ := j0 hM1
    obtain ⟨bx16, csx16, ex16, rx16⟩ := Sl.getI (r := Q0.toRp) (I0.mono sX1 rp0) gx16 (by decide)
    refine And.intro bx16 ?_
    obtain ⟨aK, aL, aM, rfl, rfl, aW, aX, aY⟩ := D1 rx16
    try dsimp only at hM1
    refine Exists.intro _ (And.intro ex16 ?_)
    obtain ⟨q17, gq17, hM1⟩ := j0 hM1
    refine And.intro (M2 gq17 (by first | rw [F2.length fu4, F2.length (show F2 (Q0.R k5) ([[.int .i64 aK, .int .i64 aL, .int .i64 aM]] : List (List Value)) [(aK, aL, aM)] from ⟨(V0 aW aX aY), trivial⟩)] | exact congrArg (· + 1) (F2.length fu4))) ?_
    refine And.intro rfl (And.intro (by repeat (first | exact trivial | refine And.intro rfl ?_)) (And.intro (by repeat (first | exact trivial | refine And.intro rfl ?_)) (Exists.intro m6 (And.intro ⟨true, (IntKind.i64.wrap (u3 + 1)), (wu4 ++ ([[.int .i64 aK, .int .i64 aL, .int .i64 aM]] : List (List Value))), (u4 ++ [(aK, aL, aM)]), rfl, rfl, sX1, (K0 _), (F2.append fu4 (show F2 (Q0.R k5) ([[.int .i64 aK, .int .i64 aL, .int .i64 aM]] : List (List Value)) [(aK, aL, aM)] from ⟨(V0 aW aX aY), trivial⟩)), hM1⟩ (Nat.lt_succ_self _)))))
  ·replace hM1 := ifN hM1 hc11
   refine And.intro (fun hc18 => ?_) (fun hc18 => ?_)
   ·replace hM1 := ifP hM1 hc18
    obtain ⟨q19, gq19, hM1⟩ := j0 hM1
    refine And.intro (M2 gq19 (by first | rw [F2.length fu4, F2.length (show F2 (Q0.R k5) ([[.int .i64 aA, .int .i64 aB, .int .i64 aC]] : List (List Value)) [(aA, aB, aC)] from ⟨(V0 aD aF aG), trivial⟩)] | exact congrArg (· + 1) (F2.length fu4))) ?_
    obtain ⟨x20, gx20, hM1⟩ := j0 hM1
    obtain ⟨bx20, csx20, ex20, rx20⟩ := Sl.getI (r := Q0.toRp) (I0.mono sX1 rp0) gx20 (by decide)
    refine And.intro bx20 ?_
    obtain ⟨aN, aO, aP, rfl, rfl, aZ, bA, bB⟩ := D1 rx20
    try dsimp only at hM1
    refine Exists.intro _ (And.intro ex20 ?_)
    obtain ⟨q21, gq21, hM1⟩ := j0 hM1
    refine And.intro (M2 gq21 (by first | rw [F2.length (F2.append fu4 (show F2 (Q0.R k5) ([[.int .i64 aA, .int .i64 aB, .int .i64 aC]] : List (List Value)) [(aA, aB, aC)] from ⟨(V0 aD aF aG), trivial⟩)), F2.length (show F2 (Q0.R k5) ([[.int .i64 aN, .int .i64 aO, .int .i64 aP]] : List (List Value)) [(aN, aO, aP)] from ⟨(V0 aZ bA bB), trivial⟩)] | exact congrArg (· + 1) (F2.length (F2.append fu4 (show F2 (Q0.R k5) ([[.int .i64 aA, .int .i64 aB, .int .i64 aC]] : List (List Value)) [(aA, aB, aC)] from ⟨(V0 aD aF aG), trivial⟩))))) ?_
    refine And.intro rfl (And.intro (by repeat (first | exact trivial | refine And.intro rfl ?_)) (And.intro (by repeat (first | exact trivial | refine And.intro rfl ?_)) (Exists.intro m6 (And.intro ⟨true, (IntKind.i64.wrap (u3 + 1)), ((wu4 ++ ([[.int .i64 aA, .int .i64 aB, .int .i64 aC]] : List (List Value))) ++ ([[.int .i64 aN, .int .i64 aO, .int .i64 aP]] : List (List Value))), ((u4 ++ [(aA, aB, aC)]) ++ [(aN, aO, aP)]), rfl, rfl, sX1, (K0 _), (F2.append (F2.append fu4 (show F2 (Q0.R k5) ([[.int .i64 aA, .int .i64 aB, .int .i64 aC]] : List (List Value)) [(aA, aB, aC)] from ⟨(V0 aD aF aG), trivial⟩)) (show F2 (Q0.R k5) ([[.int .i64 aN, .int .i64 aO, .int .i64 aP]] : List (List Value)) [(aN, aO, aP)] from ⟨(V0 aZ bA bB), trivial⟩)), hM1⟩ (Nat.lt_succ_self _)))))
   ·replace hM1 := ifN hM1 hc18
    obtain ⟨x22, gx22, hM1⟩ := j0 hM1
    obtain ⟨bx22, csx22, ex22, rx22⟩ := Sl.getI (r := Q0.toRp) (I0.mono sX1 rp0) gx22 (by decide)
    refine And.intro bx22 ?_
    obtain ⟨aQ, aR, aS, rfl, rfl, bC, bD, bE⟩ := D1 rx22
    try dsimp only at hM1
    refine Exists.intro _ (And.intro ex22 ?_)
    obtain ⟨q23, gq23, hM1⟩ := j0 hM1
    refine And.intro (M2 gq23 (by first | rw [F2.length fu4, F2.length (show F2 (Q0.R k5) ([[.int .i64 aQ, .int .i64 aR, .int .i64 aS]] : List (List Value)) [(aQ, aR, aS)] from ⟨(V0 bC bD bE), trivial⟩)] | exact congrArg (· + 1) (F2.length fu4))) ?_
    refine And.intro rfl (And.intro (by repeat (first | exact trivial | refine And.intro rfl ?_)) (And.intro (by repeat (first | exact trivial | refine And.intro rfl ?_)) (Exists.intro m6 (And.intro ⟨u2, (IntKind.i64.wrap (u3 + 1)), (wu4 ++ ([[.int .i64 aQ, .int .i64 aR, .int .i64 aS]] : List (List Value))), (u4 ++ [(aQ, aR, aS)]), rfl, rfl, sX1, (K0 _), (F2.append fu4 (show F2 (Q0.R k5) ([[.int .i64 aQ, .int .i64 aR, .int .i64 aS]] : List (List Value)) [(aQ, aR, aS)] from ⟨(V0 bC bD bE), trivial⟩)), hM1⟩ (Nat.lt_succ_self _)))))
 ·replace hM1 := ifN hM1 hc7
  have hE := Option.some.inj hM1; subst hE
  try dsimp only [U0, Z0] at hM0
  refine And.intro (fun hc24 => ?_) (fun hc24 => ?_)
  ·replace hM0 := ifP hM0 hc24
   obtain ⟨q25, gq25, hM0⟩ := j0 hM0
   refine And.intro (M2 gq25 (by first | rw [F2.length fu4, F2.length (show F2 (Q0.R k5) ([[.int .i64 aA, .int .i64 aB, .int .i64 aC]] : List (List Value)) [(aA, aB, aC)] from ⟨(V0 aD aF aG), trivial⟩)] | exact congrArg (· + 1) (F2.length fu4))) ?_
   intro v26 k27 f28
   obtain ⟨az29, cz29, rfl, rz29, sz29, lz29⟩ := E1.out (r := Q0.toRp) f28 (F2.append fu4 (show F2 (Q0.R k5) ([[.int .i64 aA, .int .i64 aB, .int .i64 aC]] : List (List Value)) [(aA, aB, aC)] from ⟨(V0 aD aF aG), trivial⟩))
   have hE := Option.some.inj hM0; subst hE
   exact ⟨az29, ((u4 ++ [(aA, aB, aC)])).length, cz29, rfl, rz29, (sX1.trans sz29)⟩
  ·replace hM0 := ifN hM0 hc24
   intro v30 k31 f32
   obtain ⟨az33, cz33, rfl, rz33, sz33, lz33⟩ := E1.out (r := Q0.toRp) f32 fu4
   have hE := Option.some.inj hM0; subst hE
   exact ⟨az33, u4.length, cz33, rfl, rz33, (sX1.trans sz33)⟩
theorem R09 (h : Hp) (csp0 : List Value) (p0 : l0) (rp0 : Y0.R h csp0 p0) (p1 : Int) (ip1 : H0 p1) (r : Int) (hM0 : G8 p0 p1 = some r) :
  Tr Tryz.prog 214 #[.agg csp0.toArray, .int .i64 p1] h fun v h' => v = .int .i64 r ∧ h' = h := by
 obtain ⟨aF, aG, aB, aK, aC, aD, rfl, rfl, aL, aM, aA⟩ := B0 rp0
 obtain ⟨rfl, aN⟩ := Sl.len aA
 unfold G8 at hM0
 dsimp only at hM0
 refine Tr.forget (T2 (args := [.agg #[.int .i64 aF, .int .i64 aG, .slice aB aD.length aC], .int .i64 p1]) (fn := Tryz.f214) rfl ?_)
 obtain ⟨X1, hLX1, hM0⟩ := j0 hM0
 refine Exists.intro { vars := [5, 6], boxes := [], owns := [], fuel := true } (Exists.intro (fun vs os h' => ∃ (u2 : Int) (u3 : Int), vs.tail = [.int .i64 u2, .int .i64 u3] ∧ os = [] ∧ Sub h h' ∧ H0 u2 ∧ H0 u3 ∧ n3 aD p1 (Q1 vs) u2 u3 = some X1) (Exists.intro (fun _ _ => 0) ?_))
 refine And.intro (Exists.intro T0 ⟨0, 0, rfl, rfl, (Sub.refl _), (c64 (by decide) (by decide)), (c64 (by decide) (by decide)), hLX1⟩) ?_
 rintro v_0 v_1 m5 k4 ⟨u2, u3, evX1, eoX1, sX1, iu2, iu3, hM1⟩
 cases evX1
 cases eoX1
 replace hM1 : n3 aD p1 m5 u2 u3 = some X1 := hM1
 obtain _ | m5 := m5
 ·cases (show (none : Option _) = some X1 from hM1)
 rw [n3.eq_2] at hM1
 refine And.intro (fun hc6 => ?_) (fun hc6 => ?_)
 ·replace hM1 := ifP hM1 hc6
  obtain ⟨x7, gx7, hM1⟩ := j0 hM1
  obtain ⟨bx7, csx7, ex7, rx7⟩ := Sl.getI (r := Q0.toRp) (I0.mono sX1 aA) gx7 (by decide)
  refine And.intro bx7 ?_
  obtain ⟨aX, aY, aZ, rfl, rfl, aO, aP, aQ⟩ := D1 rx7
  try dsimp only at hM1
  refine Exists.intro _ (And.intro ex7 ?_)
  refine And.intro (fun hc8 => ?_) (fun hc8 => ?_)
  ·replace hM1 := ifP hM1 hc8
   obtain ⟨x9, gx9, hM1⟩ := j0 hM1
   obtain ⟨bx9, csx9, ex9, rx9⟩ := Sl.getI (r := Q0.toRp) (I0.mono sX1 aA) gx9 (by decide)
   refine And.intro bx9 ?_
   obtain ⟨bA, bB, bC, rfl, rfl, aR, aS, aT⟩ := D1 rx9
   try dsimp only at hM1
   refine Exists.intro _ (And.intro ex9 ?_)
   refine And.intro (fun hc10 => ?_) (fun hc10 => ?_)
   ·replace hM1 := ifP hM1 hc10
    refine And.intro rfl (And.intro (by repeat (first | exact trivial | refine And.intro rfl ?_)) (And.intro (by repeat (first | exact trivial | refine And.intro rfl ?_)) (Exists.intro m5 (And.intro ⟨(IntKind.i64.wrap ((IntKind.i64.wrap (u2 + 1)) + 1)), (IntKind.i64.wrap (u3 + 1)), rfl, rfl, sX1, (K0 _), (K0 _), hM1⟩ (Nat.lt_succ_self _)))))
   ·replace hM1 := ifN hM1 hc10
    refine And.intro rfl (And.intro (by repeat (first | exact trivial | refine And.intro rfl ?_)) (And.intro (by repeat (first | exact trivial | refine And.intro rfl ?_)) (Exists.intro m5 (And.intro ⟨(IntKind.i64.wrap (u2 + 1)), (IntKind.i64.wrap (u3 + 1)), rfl, rfl, sX1, (K0 _), (K0 _), hM1⟩ (Nat.lt_succ_self _)))))
  ·replace hM1 := ifN hM1 hc8
   obtain ⟨x11, gx11, hM1⟩ := j0 hM1
   obtain ⟨bx11, csx11, ex11, rx11⟩ := Sl.getI (r := Q0.toRp) (I0.mono sX1 aA) gx11 (by decide)
   refine And.intro bx11 ?_
   obtain ⟨aU, aV, aW, rfl, rfl, aH, aI, aJ⟩ := D1 rx11
   try dsimp only at hM1
   refine Exists.intro _ (And.intro ex11 ?_)
   refine And.intro (fun hc12 => ?_) (fun hc12 => ?_)
   ·replace hM1 := ifP hM1 hc12
    refine And.intro rfl (And.intro (by repeat (first | exact trivial | refine And.intro rfl ?_)) (And.intro (by repeat (first | exact trivial | refine And.intro rfl ?_)) (Exists.intro m5 (And.intro ⟨(IntKind.i64.wrap (u2 + 1)), (IntKind.i64.wrap (u3 + 1)), rfl, rfl, sX1, (K0 _), (K0 _), hM1⟩ (Nat.lt_succ_self _)))))
   ·replace hM1 := ifN hM1 hc12
    refine And.intro rfl (And.intro (by repeat (first | exact trivial | refine And.intro rfl ?_)) (And.intro (by repeat (first | exact trivial | refine And.intro rfl ?_)) (Exists.intro m5 (And.intro ⟨u2, (IntKind.i64.wrap (u3 + 1)), rfl, rfl, sX1, iu2, (K0 _), hM1⟩ (Nat.lt_succ_self _)))))
 ·replace hM1 := ifN hM1 hc6
  have hE := Option.some.inj hM1; subst hE
  try dsimp only [U0, Z0] at hM0
  have hE := Option.some.inj hM0; subst hE
  exact And.intro rfl sX1
theorem T06 (h : Hp) (csp0 : List Value) (p0 : l0) (rp0 : Y0.R h csp0 p0) (p1 : Int) (ip1 : H0 p1) (r : P0) (hM0 : p8 p0 p1 = some r) :
  Tr Tryz.prog 219 #[.agg csp0.toArray, .int .i64 p1] h fun v h' => ∃ (a0 : Option Addr) (n0 c0 : Nat), v = .slice a0 n0 c0 ∧ K1.R h' [.slice a0 n0 c0] r ∧ Sub h h' := by
 obtain ⟨aK, aH, aI, aO, aJ, aC, rfl, rfl, aL, aM, aD⟩ := B0 rp0
 obtain ⟨rfl, aP⟩ := Sl.len aD
 unfold p8 at hM0
 dsimp only at hM0
 refine T2 (args := [.agg #[.int .i64 aK, .int .i64 aH, .slice aI aC.length aJ], .int .i64 p1]) (fn := Tryz.f219) rfl ?_
 obtain ⟨x1, gx1, hM0⟩ := j0 hM0
 refine Tr.val (C5 _ [.int .i64 aK, .int .i64 aH, .slice aI aC.length aJ] (aK, aH, aC) (z0 aL aM aD) _  gx1) ?_
 obtain ⟨x2, gx2, hM0⟩ := j0 hM0
 refine Exists.intro (.bool x2) (And.intro (fun q => T5 _ p1 ip1 0 (c64 (by decide) (by decide)) (IntKind.i64.wrap (aH - 1)) (K0 _) _  (N2 gx2 q)) ?_)
 refine And.intro (fun hc3 => ?_) (fun hc3 => ?_)
 ·replace hM0 := ifP hM0 hc3
  intro v4 k5 f6
  obtain ⟨az7, cz7, rfl, rz7, sz7, lz7⟩ := E1.out (r := Wp.int.toRp) f6 (show F2 (Wp.int.R h) ([] : List (List Value)) ([] : P0) from trivial)
  have hE := Option.some.inj hM0; subst hE
  exact ⟨az7, (([] : P0)).length, cz7, rfl, rz7, sz7⟩
 ·replace hM0 := ifN hM0 hc3
  obtain ⟨X12, hLX12, hM0⟩ := j0 hM0
  refine Exists.intro { vars := [5, 6], boxes := [], owns := [], fuel := true, pubs := [5, 22] } (Exists.intro (fun vs os h' => ∃ (au13 : Option Addr) (nu13 cu13 : Nat) (u13 : P0) (u14 : Int), vs.tail = [.slice au13 nu13 cu13, .int .i64 u14] ∧ os = [] ∧ Sub h h' ∧ K1.R h' [.slice au13 nu13 cu13] u13 ∧ H0 u14 ∧ Q4 aC (Q1 vs) u13 u14 = some X12) (Exists.intro (fun _ _ => 0) ?_))
  intro v8 k9 f10
  obtain ⟨az11, cz11, rfl, rz11, sz11, lz11⟩ := E1.out (r := Wp.int.toRp) f10 (show F2 (Wp.int.R h) ([[.int .i64 p1]] : List (List Value)) [p1] from ⟨⟨rfl, ip1⟩, trivial⟩)
  refine And.intro (Exists.intro T0 ⟨az11, ([p1]).length, cz11, [p1], 0, rfl, rfl, sz11, rz11, (c64 (by decide) (by decide)), hLX12⟩) ?_
  rintro v_0 v_1 m16 k15 ⟨au13, nu13, cu13, u13, u14, evX12, eoX12, sX12, ru13, iu14, hM1⟩
  cases evX12
  cases eoX12
  replace hM1 : Q4 aC m16 u13 u14 = some X12 := hM1
  obtain _ | m16 := m16
  ·cases (show (none : Option _) = some X12 from hM1)
  rw [Q4.eq_2] at hM1
  obtain ⟨rfl, lu13⟩ := Sl.len ru13
  refine And.intro (fun hc17 => ?_) (fun hc17 => ?_)
  ·replace hM1 := ifP hM1 hc17
   obtain ⟨X18, hLX18, hM1⟩ := j0 hM1
   refine Exists.intro { vars := [5, 7], boxes := [], owns := [], fuel := true } (Exists.intro (fun vs os h' => ∃ (au19 : Option Addr) (nu19 cu19 : Nat) (u19 : P0) (u20 : Int), vs.tail = [.slice au19 nu19 cu19, .int .i64 u20] ∧ os = [] ∧ Sub k15 h' ∧ K1.R h' [.slice au19 nu19 cu19] u19 ∧ H0 u20 ∧ l3 aC (Q1 vs) u19 u20 = some X18) (Exists.intro (fun _ _ => 0) ?_))
   refine And.intro (Exists.intro T0 ⟨au13, u13.length, cu13, u13, 0, rfl, rfl, (Sub.refl _), ru13, (c64 (by decide) (by decide)), hLX18⟩) ?_
   rintro v_0 v_1 m22 k21 ⟨au19, nu19, cu19, u19, u20, evX18, eoX18, sX18, ru19, iu20, hM2⟩
   cases evX18
   cases eoX18
   replace hM2 : l3 aC m22 u19 u20 = some X18 := hM2
   obtain _ | m22 := m22
   ·cases (show (none : Option _) = some X18 from hM2)
   rw [l3.eq_2] at hM2
   obtain ⟨rfl, lu19⟩ := Sl.len ru19
   refine And.intro (fun hc23 => ?_) (fun hc23 => ?_)
   ·replace hM2 := ifP hM2 hc23
    obtain ⟨x24, gx24, hM2⟩ := j0 hM2
    obtain ⟨bx24, csx24, ex24, rx24⟩ := Sl.getI (r := Q0.toRp) (I0.mono (sX12.trans sX18) aD) gx24 (by decide)
    refine And.intro bx24 ?_
    obtain ⟨aF, aQ, aG, rfl, rfl, aA, aN, aB⟩ := D1 rx24
    try dsimp only at hM2
    refine Exists.intro _ (And.intro ex24 ?_)
    obtain ⟨x25, gx25, hM2⟩ := j0 hM2
    refine Tr.val (i01 _ au19 u19.length cu19 u19 ru19 aF aA _  gx25) ?_
    refine And.intro (fun hc26 => ?_) (fun hc26 => ?_)
    ·replace hM2 := ifP hM2 hc26
     obtain ⟨x27, gx27, hM2⟩ := j0 hM2
     refine Tr.mono (x00 _ au19 u19.length cu19 u19 ru19 aG aB _  gx27) ?_
     rintro v29 k28 ⟨ax27, nx27, cx27, rfl, rx27, sx27⟩
     obtain ⟨rfl, lx27⟩ := Sl.len rx27
     obtain ⟨x30, gx30, hM2⟩ := j0 hM2
     refine Tr.val (i01 _ ax27 x27.length cx27 x27 rx27 aG aB _  gx30) ?_
     refine And.intro (fun hc31 => ?_) (fun hc31 => ?_)
     ·replace hM2 := ifP hM2 hc31
      obtain ⟨x32, gx32, hM2⟩ := j0 hM2
      refine Tr.mono (x00 _ ax27 x27.length cx27 x27 rx27 aF aA _  gx32) ?_
      rintro v34 k33 ⟨ax32, nx32, cx32, rfl, rx32, sx32⟩
      obtain ⟨rfl, lx32⟩ := Sl.len rx32
      refine And.intro rfl (And.intro (by repeat (first | exact trivial | refine And.intro rfl ?_)) (And.intro (by repeat (first | exact trivial | refine And.intro rfl ?_)) (Exists.intro m22 (And.intro ⟨ax32, x32.length, cx32, x32, (IntKind.i64.wrap (u20 + 1)), rfl, rfl, ((sX18.trans sx27).trans sx32), rx32, (K0 _), hM2⟩ (Nat.lt_succ_self _)))))
     ·replace hM2 := ifN hM2 hc31
      refine And.intro rfl (And.intro (by repeat (first | exact trivial | refine And.intro rfl ?_)) (And.intro (by repeat (first | exact trivial | refine And.intro rfl ?_)) (Exists.intro m22 (And.intro ⟨ax27, x27.length, cx27, x27, (IntKind.i64.wrap (u20 + 1)), rfl, rfl, (sX18.trans sx27), rx27, (K0 _), hM2⟩ (Nat.lt_succ_self _)))))
    ·replace hM2 := ifN hM2 hc26
     obtain ⟨x35, gx35, hM2⟩ := j0 hM2
     refine Tr.val (i01 _ au19 u19.length cu19 u19 ru19 aG aB _  gx35) ?_
     refine And.intro (fun hc36 => ?_) (fun hc36 => ?_)
     ·replace hM2 := ifP hM2 hc36
      obtain ⟨x37, gx37, hM2⟩ := j0 hM2
      refine Tr.mono (x00 _ au19 u19.length cu19 u19 ru19 aF aA _  gx37) ?_
      rintro v39 k38 ⟨ax37, nx37, cx37, rfl, rx37, sx37⟩
      obtain ⟨rfl, lx37⟩ := Sl.len rx37
      refine And.intro rfl (And.intro (by repeat (first | exact trivial | refine And.intro rfl ?_)) (And.intro (by repeat (first | exact trivial | refine And.intro rfl ?_)) (Exists.intro m22 (And.intro ⟨ax37, x37.length, cx37, x37, (IntKind.i64.wrap (u20 + 1)), rfl, rfl, (sX18.trans sx37), rx37, (K0 _), hM2⟩ (Nat.lt_succ_self _)))))
     ·replace hM2 := ifN hM2 hc36
      refine And.intro rfl (And.intro (by repeat (first | exact trivial | refine And.intro rfl ?_)) (And.intro (by repeat (first | exact trivial | refine And.intro rfl ?_)) (Exists.intro m22 (And.intro ⟨au19, u19.length, cu19, u19, (IntKind.i64.wrap (u20 + 1)), rfl, rfl, sX18, ru19, (K0 _), hM2⟩ (Nat.lt_succ_self _)))))
   ·replace hM2 := ifN hM2 hc23
    have hE := Option.some.inj hM2; subst hE
    try dsimp only [U0, Z0] at hM1
    refine And.intro rfl (And.intro (by repeat (first | exact trivial | refine And.intro rfl ?_)) (And.intro (by repeat (first | exact trivial | refine And.intro rfl ?_)) (Exists.intro m16 (And.intro ⟨au19, u19.length, cu19, u19, (IntKind.i64.wrap (u14 + 1)), rfl, rfl, (sX12.trans sX18), ru19, (K0 _), hM1⟩ (Nat.lt_succ_self _)))))
  ·replace hM1 := ifN hM1 hc17
   have hE := Option.some.inj hM1; subst hE
   try dsimp only [U0, Z0] at hM0
   have hE := Option.some.inj hM0; subst hE
   exact ⟨au13, u13.length, cu13, rfl, ru13, sX12⟩
theorem i0c (h : Hp) (csp0 : List Value) (p0 : l0) (rp0 : Y0.R h csp0 p0) (r : Int) (hM0 : F00 p0 = some r) :
  Tr Tryz.prog 192 #[.agg csp0.toArray] h fun v h' => v = .int .i64 r ∧ h' = h := by
 obtain ⟨aA, aB, aC, aJ, aD, aG, rfl, rfl, aH, aI, aF⟩ := B0 rp0
 obtain ⟨rfl, aK⟩ := Sl.len aF
 unfold F00 at hM0
 dsimp only at hM0
 refine Tr.forget (T2 (args := [.agg #[.int .i64 aA, .int .i64 aB, .slice aC aG.length aD]]) (fn := Tryz.f192) rfl ?_)
 obtain ⟨x1, gx1, hM0⟩ := j0 hM0
 refine Tr.mono (T06 _ [.int .i64 aA, .int .i64 aB, .slice aC aG.length aD] (aA, aB, aG) (z0 aH aI aF) 0 (c64 (by decide) (by decide)) _  gx1) ?_
 rintro v3 k2 ⟨ax1, nx1, cx1, rfl, rx1, sx1⟩
 obtain ⟨rfl, lx1⟩ := Sl.len rx1
 obtain ⟨X4, hLX4, hM0⟩ := j0 hM0
 refine Exists.intro { vars := [4], boxes := [], owns := [], fuel := true } (Exists.intro (fun vs os h' => ∃ (u5 : Int), vs.tail = [.int .i64 u5] ∧ os = [] ∧ Sub k2 h' ∧ H0 u5 ∧ W6 aB aA aG x1 (Q1 vs) u5 = some X4) (Exists.intro (fun _ _ => 0) ?_))
 refine And.intro (Exists.intro T0 ⟨1, rfl, rfl, (Sub.refl _), (c64 (by decide) (by decide)), hLX4⟩) ?_
 rintro v_0 m7 k6 ⟨u5, evX4, eoX4, sX4, iu5, hM1⟩
 cases evX4
 cases eoX4
 replace hM1 : W6 aB aA aG x1 m7 u5 = some X4 := hM1
 obtain _ | m7 := m7
 ·cases (show (none : Option _) = some X4 from hM1)
 rw [W6.eq_2] at hM1
 refine And.intro (fun hc8 => ?_) (fun hc8 => ?_)
 ·replace hM1 := ifP hM1 hc8
  obtain ⟨x9, gx9, hM1⟩ := j0 hM1
  refine Tr.val (R09 _ [.int .i64 aA, .int .i64 aB, .slice aC aG.length aD] (aA, aB, aG) (z0 aH aI (I0.mono (sx1.trans sX4) aF)) u5 iu5 _  gx9) ?_
  obtain ⟨q10, gq10, hM1⟩ := j0 hM1
  have ix9 : H0 x9 := U2 gq10
  obtain ⟨x11, gx11, hM1⟩ := j0 hM1
  refine Exists.intro (.bool x11) (And.intro (fun q => i01 _ ax1 x1.length cx1 x1 (K1.mono sX4 rx1) u5 iu5 _  (N2 gx11 q)) ?_)
  refine And.intro (fun hc12 => ?_) (fun hc12 => ?_)
  ·replace hM1 := ifP hM1 hc12
   have hE := Option.some.inj hM1; subst hE
   try dsimp only [G3, J3] at hM0
   have hE := Option.some.inj hM0; subst hE
   exact And.intro rfl (sx1.trans sX4)
  ·replace hM1 := ifN hM1 hc12
   refine And.intro rfl (And.intro (by repeat (first | exact trivial | refine And.intro rfl ?_)) (And.intro (by repeat (first | exact trivial | refine And.intro rfl ?_)) (Exists.intro m7 (And.intro ⟨(IntKind.i64.wrap (u5 + 1)), rfl, rfl, sX4, (K0 _), hM1⟩ (Nat.lt_succ_self _)))))
 ·replace hM1 := ifN hM1 hc8
  have hE := Option.some.inj hM1; subst hE
  try dsimp only [U0, Z0] at hM0
  have hE := Option.some.inj hM0; subst hE
  exact And.intro rfl (sx1.trans sX4)
theorem Q01 (h : Hp) (csp0 : List Value) (p0 : l0) (rp0 : Y0.R h csp0 p0) (ap1 : Option Addr) (np1 cp1 : Nat) (p1 : P0) (rp1 : K1.R h [.slice ap1 np1 cp1] p1) (r : l0 × Bool) (hM0 : A6 p0 p1 = some r) :
  Tr Tryz.prog 215 #[.agg csp0.toArray, .slice ap1 np1 cp1] h fun v h' => ∃ (cs0 : List Value), v = .tuple #[.agg cs0.toArray, .bool r.2] ∧ Y0.R h' cs0 r.1 ∧ Sub h h' := by
 obtain ⟨aA, aB, aF, bD, aG, aD, rfl, rfl, aH, aI, aC⟩ := B0 rp0
 obtain ⟨rfl, bE⟩ := Sl.len aC
 obtain ⟨rfl, lp1⟩ := Sl.len rp1
 unfold A6 at hM0
 dsimp only at hM0
 refine T2 (args := [.agg #[.int .i64 aA, .int .i64 aB, .slice aF aD.length aG], .slice ap1 p1.length cp1]) (fn := Tryz.f215) rfl ?_
 obtain ⟨x1, gx1, hM0⟩ := j0 hM0
 refine Tr.val (C5 _ [.int .i64 aA, .int .i64 aB, .slice aF aD.length aG] (aA, aB, aD) (z0 aH aI aC) _  gx1) ?_
 refine And.intro (fun hc2 => ?_) (fun hc2 => ?_)
 ·replace hM0 := ifP hM0 hc2
  obtain ⟨x3, gx3, hM0⟩ := j0 hM0
  refine Tr.mono (Y3 _ [.int .i64 aA, .int .i64 aB, .slice aF aD.length aG] (aA, aB, aD) (z0 aH aI aC) _  gx3) ?_
  rintro v5 k4 ⟨csx3, rfl, rx3, sx3⟩
  obtain ⟨aX, aY, aR, bF, aS, bK, rfl, rfl, aT, aU, aL⟩ := B0 rx3
  obtain ⟨rfl, bG⟩ := Sl.len aL
  try dsimp only at hM0
  have hE := Option.some.inj hM0; subst hE
  exact ⟨([.int .i64 aX, .int .i64 aY, .slice aR bK.length aS]), rfl, (z0 aT aU aL), sx3⟩
 ·replace hM0 := ifN hM0 hc2
  obtain ⟨q6, gq6, hM0⟩ := j0 hM0
  refine And.intro (U2 gq6) ?_
  obtain ⟨X7, hLX7, hM0⟩ := j0 hM0
  refine Exists.intro { vars := [8], boxes := [], owns := [0], fuel := true, kept := [0] } (Exists.intro (fun vs os h' => ∃ (u8 : Int) (wu9 : List (List Value)) (u9 : List Int), vs.tail = [.int .i64 u8] ∧ os = [wu9] ∧ Sub h h' ∧ H0 u8 ∧ F2 (Wp.int.R h') wu9 u9 ∧ f4 p1 aB aA aD (Q1 vs) u8 u9 = some X7) (Exists.intro (fun _ _ => 0) ?_))
  refine And.intro (Exists.intro T0 ⟨0, (List.replicate aB.toNat ([.int .i64 0] : List Value)), (List.replicate aB.toNat (0 : Int)), rfl, rfl, (Sub.refl _), (c64 (by decide) (by decide)), (F2.rep (p := Wp.int.R h) (a := [.int .i64 0]) (b := 0) ⟨rfl, (c64 (by decide) (by decide))⟩ (aB.toNat)), hLX7⟩) ?_
  rintro v_0 wu9 m11 k10 ⟨u8, zzu9, u9, evX7, eoX7, sX7, iu8, fu9, hM1⟩
  cases evX7
  cases eoX7
  replace hM1 : f4 p1 aB aA aD m11 u8 u9 = some X7 := hM1
  obtain _ | m11 := m11
  ·cases (show (none : Option _) = some X7 from hM1)
  rw [f4.eq_2] at hM1
  refine And.intro (fun hc12 => ?_) (fun hc12 => ?_)
  ·replace hM1 := ifP hM1 hc12
   refine Or.inl (And.intro (And.intro (by kernel_rfl) (by kernel_rfl)) ?_)
   obtain ⟨x13, gx13, hM1⟩ := j0 hM1
   obtain ⟨bx13, csx13, ex13, rx13⟩ := Sl.getI (r := Wp.int.toRp) (K1.mono sX7 rp1) gx13 (by decide)
   refine And.intro bx13 ?_
   obtain ⟨rfl, ix13⟩ := rx13
   refine Exists.intro _ (And.intro ex13 ?_)
   obtain ⟨x14, gx14, hM1⟩ := j0 hM1
   refine Exists.intro (.bool x14) (And.intro (T5 _ x13 ix13 0 (c64 (by decide) (by decide)) (IntKind.i64.wrap (aB - 1)) (K0 _) _  gx14) ?_)
   obtain ⟨x15, gx15, hM1⟩ := j0 hM1
   obtain ⟨csx15, ex15, rx15⟩ := Sl.getG (r := Wp.int.toRp) (K1.mono sX7 rp1) gx15 (by decide) (A04 k10)
   refine And.intro (fun q => (ex15 q).1) ?_
   obtain ⟨rfl, ix15⟩ := rx15
   refine Exists.intro _ (And.intro (fun q => (ex15 q).2) ?_)
   obtain ⟨x16, gx16, hM1⟩ := j0 hM1
   obtain ⟨csx16, ex16, rx16⟩ := C07 fu9 gx16 (A04 k10)
   refine And.intro (fun q => (ex16 q).1) ?_
   obtain ⟨rfl, ix16⟩ := rx16
   refine Exists.intro _ (And.intro (fun q => (ex16 q).2) ?_)
   refine And.intro (fun hc17 => ?_) (fun hc17 => ?_)
   ·replace hM1 := ifP hM1 hc17
    obtain ⟨x18, gx18, hM1⟩ := j0 hM1
    refine Tr.mono (Y3 _ [.int .i64 aA, .int .i64 aB, .slice aF aD.length aG] (aA, aB, aD) (z0 aH aI (I0.mono sX7 aC)) _  gx18) ?_
    rintro v20 k19 ⟨csx18, rfl, rx18, sx18⟩
    obtain ⟨aV, aW, aM, aZ, aN, bH, rfl, rfl, aO, aP, aJ⟩ := B0 rx18
    obtain ⟨rfl, bA⟩ := Sl.len aJ
    try dsimp only at hM1
    have hE := Option.some.inj hM1; subst hE
    try dsimp only [G3, J3] at hM0
    have hE := Option.some.inj hM0; subst hE
    exact ⟨([.int .i64 aV, .int .i64 aW, .slice aM bH.length aN]), rfl, (z0 aO aP aJ), (sX7.trans sx18)⟩
   ·replace hM1 := ifN hM1 hc17
    obtain ⟨x21, gx21, hM1⟩ := j0 hM1
    obtain ⟨bx21, csx21, ex21, rx21⟩ := Sl.getI (r := Wp.int.toRp) (K1.mono sX7 rp1) gx21 (by decide)
    refine And.intro bx21 ?_
    obtain ⟨rfl, ix21⟩ := rx21
    refine Exists.intro _ (And.intro ex21 ?_)
    obtain ⟨x22, gx22, hM1⟩ := j0 hM1
    obtain ⟨bx22, csx22, ex22, rx22⟩ := H6 fu9 gx22
    refine And.intro bx22 ?_
    obtain ⟨rfl, ix22⟩ := rx22
    refine Exists.intro _ (And.intro ex22 ?_)
    refine And.intro rfl (And.intro (by repeat (first | exact trivial | refine And.intro rfl ?_)) (And.intro (by repeat (first | exact trivial | refine And.intro rfl ?_)) (Exists.intro m11 (And.intro ⟨(IntKind.i64.wrap (u8 + 1)), (wu9.set x21.toNat [.int .i64 (IntKind.i64.wrap (u8 + 1))]), (u9.set x21.toNat (IntKind.i64.wrap (u8 + 1))), rfl, rfl, sX7, (K0 _), (F2.set (p := Wp.int.R k10) (a := [.int .i64 (IntKind.i64.wrap (u8 + 1))]) (b := (IntKind.i64.wrap (u8 + 1))) ⟨rfl, (K0 _)⟩ x21.toNat fu9), hM1⟩ (Nat.lt_succ_self _)))))
  ·replace hM1 := ifN hM1 hc12
   have hE := Option.some.inj hM1; subst hE
   try dsimp only [U0, Z0] at hM0
   obtain ⟨X23, hLX23, hM0⟩ := j0 hM0
   refine Exists.intro { vars := [9], boxes := [2], owns := [], fuel := true } (Exists.intro (fun vs os h' => ∃ (u24 : Int) (u25 : Int) (u26 : Int) (au27 : Option Addr) (nu27 cu27 : Nat) (u27 : J0), vs.tail = [.int .i64 u24, .int .i64 u25, .int .i64 u26, .slice au27 nu27 cu27] ∧ os = [] ∧ Sub k10 h' ∧ H0 u24 ∧ H0 u25 ∧ H0 u26 ∧ I0.R h' [.slice au27 nu27 cu27] u27 ∧ I3 aD u9 (Q1 vs) u24 u25 u26 u27 = some X23) (Exists.intro (fun _ _ => 0) ?_))
   refine And.intro (Exists.intro T0 ⟨0, aA, ((p1.length : Nat) : Int), none, 0, 0, [], rfl, rfl, (Sub.refl _), (c64 (by decide) (by decide)), aH, (a0l lp1), (T0e Q0 k10), hLX23⟩) ?_
   rintro v_0 v_1 v_2 v_3 m29 k28 ⟨u24, u25, u26, au27, nu27, cu27, u27, evX23, eoX23, sX23, iu24, iu25, iu26, ru27, hM1⟩
   cases evX23
   cases eoX23
   replace hM1 : I3 aD u9 m29 u24 u25 u26 u27 = some X23 := hM1
   obtain _ | m29 := m29
   ·cases (show (none : Option _) = some X23 from hM1)
   rw [I3.eq_2] at hM1
   obtain ⟨rfl, lu27⟩ := Sl.len ru27
   refine And.intro (fun hc30 => ?_) (fun hc30 => ?_)
   ·replace hM1 := ifP hM1 hc30
    obtain ⟨x31, gx31, hM1⟩ := j0 hM1
    obtain ⟨bx31, csx31, ex31, rx31⟩ := Sl.getI (r := Q0.toRp) (I0.mono (sX7.trans sX23) aC) gx31 (by decide)
    refine And.intro bx31 ?_
    obtain ⟨bI, aK, bJ, rfl, rfl, bB, aQ, bC⟩ := D1 rx31
    try dsimp only at hM1
    refine Exists.intro _ (And.intro ex31 ?_)
    obtain ⟨x32, gx32, hM1⟩ := j0 hM1
    obtain ⟨bx32, csx32, ex32, rx32⟩ := H6 (F2.up (r := Wp.int.toRp) sX23 fu9) gx32
    refine And.intro bx32 ?_
    obtain ⟨rfl, ix32⟩ := rx32
    refine Exists.intro _ (And.intro ex32 ?_)
    obtain ⟨x33, gx33, hM1⟩ := j0 hM1
    obtain ⟨csx33, ex33, rx33⟩ := C07 (F2.up (r := Wp.int.toRp) sX23 fu9) gx33 (A04 k28)
    refine And.intro (fun q => (ex33 q).1) ?_
    obtain ⟨rfl, ix33⟩ := rx33
    refine Exists.intro _ (And.intro (fun q => (ex33 q).2) ?_)
    refine And.intro (fun hc34 => ?_) (fun hc34 => ?_)
    ·replace hM1 := ifP hM1 hc34
     refine Or.inr (Or.inr (Or.inl (And.intro (And.intro (by kernel_rfl) (by kernel_rfl)) ?_)))
     obtain ⟨x35, gx35, hM1⟩ := j0 hM1
     obtain ⟨bx35, csx35, ex35, rx35⟩ := H6 (F2.up (r := Wp.int.toRp) sX23 fu9) gx35
     obtain ⟨rfl, ix35⟩ := rx35
     refine Or.inl ?_
     apply Exists.intro
     refine And.intro ?_ ?_
     ·intro k36 s37
      exact And.intro bx35 (And.intro rfl (And.intro rfl rfl))
     refine Or.inl (Exists.intro (.val (.int .i64 x35)) (And.intro ?_ ?_))
     ·intro k38 s39
      exact Exists.intro _ (And.intro ex35 (And.intro rfl (And.intro rfl rfl)))
     refine Or.inl (Exists.intro (.val (.int .i64 (IntKind.i64.wrap (x35 - 1)))) (And.intro ?_ ?_))
     ·intro k40 s41
      exact And.intro rfl (And.intro rfl rfl)
     obtain ⟨x42, gx42, hM1⟩ := j0 hM1
     obtain ⟨bx42, csx42, ex42, rx42⟩ := H6 (F2.up (r := Wp.int.toRp) sX23 fu9) gx42
     obtain ⟨rfl, ix42⟩ := rx42
     refine Or.inl ?_
     apply Exists.intro
     refine And.intro ?_ ?_
     ·intro k43 s44
      exact And.intro bx42 (And.intro rfl (And.intro rfl rfl))
     refine Or.inl (Exists.intro (.val (.int .i64 x42)) (And.intro ?_ ?_))
     ·intro k45 s46
      exact Exists.intro _ (And.intro ex42 (And.intro rfl (And.intro rfl rfl)))
     refine Or.inl (Exists.intro (.val (.int .i64 (IntKind.i64.wrap (x42 - 1)))) (And.intro ?_ ?_))
     ·intro k47 s48
      exact And.intro rfl (And.intro rfl rfl)
     refine Or.inl (Exists.intro (.agg [.val (.int .i64 (IntKind.i64.wrap (x35 - 1))), .val (.int .i64 aK), .val (.int .i64 (IntKind.i64.wrap (x42 - 1)))]) (And.intro ?_ ?_))
     ·intro k49 s50
      exact And.intro rfl (And.intro rfl rfl)
     refine Or.inr ?_
     refine Or.inr ?_
     refine Exists.intro 1 (And.intro (And.intro rfl rfl) ?_)
     obtain ⟨x51, gx51, hM1⟩ := j0 hM1
     refine Tr.mono (n9 _ au27 u27.length cu27 u27 ru27 [.int .i64 (IntKind.i64.wrap (x35 - 1)), .int .i64 aK, .int .i64 (IntKind.i64.wrap (x42 - 1))] ((IntKind.i64.wrap (x35 - 1)), aK, (IntKind.i64.wrap (x42 - 1))) (V0 (K0 _) aQ (K0 _)) _  gx51) ?_
     rintro v53 k52 ⟨ax51, nx51, cx51, rfl, rx51, sx51⟩
     obtain ⟨rfl, lx51⟩ := Sl.len rx51
     refine And.intro (And.intro rfl sx51) (And.intro (by first | exact trivial | exact rfl) ?_)
     refine And.intro trivial (And.intro (by first | exact trivial | exact rfl) ?_)
     refine And.intro rfl (And.intro (by repeat (first | exact trivial | refine And.intro rfl ?_)) (And.intro (by repeat (first | exact trivial | refine And.intro rfl ?_)) (Exists.intro m29 (And.intro ⟨(IntKind.i64.wrap (u24 + 1)), u25, u26, ax51, x51.length, cx51, x51, rfl, rfl, (sX23.trans sx51), (K0 _), iu25, iu26, rx51, hM1⟩ (Nat.lt_succ_self _)))))
    ·replace hM1 := ifN hM1 hc34
     refine And.intro rfl (And.intro (by repeat (first | exact trivial | refine And.intro rfl ?_)) (And.intro (by repeat (first | exact trivial | refine And.intro rfl ?_)) (Exists.intro m29 (And.intro ⟨(IntKind.i64.wrap (u24 + 1)), u25, u26, au27, u27.length, cu27, u27, rfl, rfl, sX23, (K0 _), iu25, iu26, ru27, hM1⟩ (Nat.lt_succ_self _)))))
   ·replace hM1 := ifN hM1 hc30
    have hE := Option.some.inj hM1; subst hE
    try dsimp only [U0, Z0] at hM0
    have hE := Option.some.inj hM0; subst hE
    exact ⟨([.int .i64 u25, .int .i64 u26, .slice au27 u27.length cu27]), rfl, (z0 iu25 iu26 ru27), (sX7.trans sX23)⟩
theorem T03 (h : Hp) (p0 : Int) (ip0 : H0 p0) (r : P0) (hM0 : n7 p0 = some r) :
  Tr Tryz.prog 146 #[.int .i64 p0] h fun v h' => ∃ (a0 : Option Addr) (n0 c0 : Nat), v = .slice a0 n0 c0 ∧ K1.R h' [.slice a0 n0 c0] r ∧ Sub h h' := by
 unfold n7 at hM0
 refine T2 (args := [.int .i64 p0]) (fn := Tryz.f146) rfl ?_
 obtain ⟨X1, hLX1, hM0⟩ := j0 hM0
 refine Exists.intro { vars := [4], boxes := [], owns := [0], fuel := true } (Exists.intro (fun vs os h' => ∃ (u2 : Int) (wu3 : List (List Value)) (u3 : List Int), vs.tail = [.int .i64 u2] ∧ os = [wu3] ∧ Sub h h' ∧ H0 u2 ∧ F2 (Wp.int.R h') wu3 u3 ∧ s5 p0 (Q1 vs) u2 u3 = some X1) (Exists.intro (fun _ _ => 0) ?_))
 refine And.intro (Exists.intro T0 ⟨1, [], ([] : P0), rfl, rfl, (Sub.refl _), (c64 (by decide) (by decide)), (show F2 (Wp.int.R h) ([] : List (List Value)) ([] : P0) from trivial), hLX1⟩) ?_
 rintro v_0 wu3 m5 k4 ⟨u2, zzu3, u3, evX1, eoX1, sX1, iu2, fu3, hM1⟩
 cases evX1
 cases eoX1
 replace hM1 : s5 p0 m5 u2 u3 = some X1 := hM1
 obtain _ | m5 := m5
 ·cases (show (none : Option _) = some X1 from hM1)
 rw [s5.eq_2] at hM1
 refine And.intro (fun hc6 => ?_) (fun hc6 => ?_)
 ·replace hM1 := ifP hM1 hc6
  obtain ⟨q7, gq7, hM1⟩ := j0 hM1
  refine And.intro (M2 gq7 (by first | rw [F2.length fu3, F2.length (show F2 (Wp.int.R k4) ([[.int .i64 u2]] : List (List Value)) [u2] from ⟨⟨rfl, iu2⟩, trivial⟩)] | exact congrArg (· + 1) (F2.length fu3))) ?_
  obtain ⟨q8, gq8, hM1⟩ := j0 hM1
  refine And.intro (M2 gq8 (by first | rw [F2.length (F2.append fu3 (show F2 (Wp.int.R k4) ([[.int .i64 u2]] : List (List Value)) [u2] from ⟨⟨rfl, iu2⟩, trivial⟩)), F2.length (show F2 (Wp.int.R k4) ([[.int .i64 (IntKind.i64.wrap (0 - u2))]] : List (List Value)) [(IntKind.i64.wrap (0 - u2))] from ⟨⟨rfl, (K0 _)⟩, trivial⟩)] | exact congrArg (· + 1) (F2.length (F2.append fu3 (show F2 (Wp.int.R k4) ([[.int .i64 u2]] : List (List Value)) [u2] from ⟨⟨rfl, iu2⟩, trivial⟩))))) ?_
  refine And.intro rfl (And.intro (by repeat (first | exact trivial | refine And.intro rfl ?_)) (And.intro (by repeat (first | exact trivial | refine And.intro rfl ?_)) (Exists.intro m5 (And.intro ⟨(IntKind.i64.wrap (u2 + 1)), ((wu3 ++ ([[.int .i64 u2]] : List (List Value))) ++ ([[.int .i64 (IntKind.i64.wrap (0 - u2))]] : List (List Value))), ((u3 ++ [u2]) ++ [(IntKind.i64.wrap (0 - u2))]), rfl, rfl, sX1, (K0 _), (F2.append (F2.append fu3 (show F2 (Wp.int.R k4) ([[.int .i64 u2]] : List (List Value)) [u2] from ⟨⟨rfl, iu2⟩, trivial⟩)) (show F2 (Wp.int.R k4) ([[.int .i64 (IntKind.i64.wrap (0 - u2))]] : List (List Value)) [(IntKind.i64.wrap (0 - u2))] from ⟨⟨rfl, (K0 _)⟩, trivial⟩)), hM1⟩ (Nat.lt_succ_self _)))))
 ·replace hM1 := ifN hM1 hc6
  have hE := Option.some.inj hM1; subst hE
  try dsimp only [U0, Z0] at hM0
  intro v9 k10 f11
  obtain ⟨az12, cz12, rfl, rz12, sz12, lz12⟩ := E1.out (r := Wp.int.toRp) f11 fu3
  have hE := Option.some.inj hM0; subst hE
  exact ⟨az12, u3.length, cz12, rfl, rz12, (sX1.trans sz12)⟩
theorem G04 (h : Hp) (csp0 : List Value) (p0 : l0) (rp0 : Y0.R h csp0 p0) (r : P0) (hM0 : Z6 p0 = some r) :
  Tr Tryz.prog 218 #[.agg csp0.toArray] h fun v h' => ∃ (a0 : Option Addr) (n0 c0 : Nat), v = .slice a0 n0 c0 ∧ K1.R h' [.slice a0 n0 c0] r ∧ Sub h h' := by
 obtain ⟨aA, aB, aD, aJ, aF, aC, rfl, rfl, aG, aI, aH⟩ := B0 rp0
 obtain ⟨rfl, aK⟩ := Sl.len aH
 unfold Z6 at hM0
 dsimp only at hM0
 refine T2 (args := [.agg #[.int .i64 aA, .int .i64 aB, .slice aD aC.length aF]]) (fn := Tryz.f218) rfl ?_
 obtain ⟨x1, gx1, hM0⟩ := j0 hM0
 refine Tr.val (G9 _ [.int .i64 aA, .int .i64 aB, .slice aD aC.length aF] (aA, aB, aC) (z0 aG aI aH) _  gx1) ?_
 refine And.intro (fun hc2 => ?_) (fun hc2 => ?_)
 ·replace hM0 := ifP hM0 hc2
  intro v3 k4 f5
  obtain ⟨az6, cz6, rfl, rz6, sz6, lz6⟩ := E1.out (r := Wp.int.toRp) f5 (show F2 (Wp.int.R h) ([] : List (List Value)) ([] : P0) from trivial)
  have hE := Option.some.inj hM0; subst hE
  exact ⟨az6, (([] : P0)).length, cz6, rfl, rz6, sz6⟩
 ·replace hM0 := ifN hM0 hc2
  obtain ⟨x7, gx7, hM0⟩ := j0 hM0
  refine Tr.mono (T03 _ aA aG _  gx7) ?_
  rintro v9 k8 ⟨ax7, nx7, cx7, rfl, rx7, sx7⟩
  obtain ⟨rfl, lx7⟩ := Sl.len rx7
  obtain ⟨X10, hLX10, hM0⟩ := j0 hM0
  refine Exists.intro { vars := [5], boxes := [], owns := [0], fuel := true } (Exists.intro (fun vs os h' => ∃ (u11 : Int) (wu12 : List (List Value)) (u12 : List Int), vs.tail = [.int .i64 u11] ∧ os = [wu12] ∧ Sub k8 h' ∧ H0 u11 ∧ F2 (Wp.int.R h') wu12 u12 ∧ K4 x7 aA aB aC (Q1 vs) u11 u12 = some X10) (Exists.intro (fun _ _ => 0) ?_))
  refine And.intro (Exists.intro T0 ⟨0, ([[.int .i64 0]] : List (List Value)), [0], rfl, rfl, (Sub.refl _), (c64 (by decide) (by decide)), (F2.up (r := Wp.int.toRp) sx7 (show F2 (Wp.int.R h) ([[.int .i64 0]] : List (List Value)) [0] from ⟨⟨rfl, (c64 (by decide) (by decide))⟩, trivial⟩)), hLX10⟩) ?_
  rintro v_0 wu12 m14 k13 ⟨u11, zzu12, u12, evX10, eoX10, sX10, iu11, fu12, hM1⟩
  cases evX10
  cases eoX10
  replace hM1 : K4 x7 aA aB aC m14 u11 u12 = some X10 := hM1
  obtain _ | m14 := m14
  ·cases (show (none : Option _) = some X10 from hM1)
  rw [K4.eq_2] at hM1
  obtain ⟨m15, gm15, hM1⟩ := j0 hM1
  obtain rfl : wu12.length = m15 := (F2.length fu12).trans (Option.some.inj gm15)
  obtain ⟨q16, gq16, hM1⟩ := j0 hM1
  refine And.intro (fun hc17 => ?_) (fun hc17 => ?_)
  ·replace hM1 := ifP hM1 hc17
   obtain ⟨X18, hLX18, hM1⟩ := j0 hM1
   refine Exists.intro { vars := [6], boxes := [], owns := [0], fuel := true } (Exists.intro (fun vs os h' => ∃ (u19 : Int) (wu20 : List (List Value)) (u20 : List Int), vs.tail = [.int .i64 u19] ∧ os = [wu20] ∧ Sub k13 h' ∧ H0 u19 ∧ F2 (Wp.int.R h') wu20 u20 ∧ A3 x7 u11 aA aB aC (Q1 vs) u19 u20 = some X18) (Exists.intro (fun _ _ => 0) ?_))
   refine And.intro (Exists.intro T0 ⟨0, wu12, u12, rfl, rfl, (Sub.refl _), (c64 (by decide) (by decide)), fu12, hLX18⟩) ?_
   rintro v_0 wu20 m22 k21 ⟨u19, zzu20, u20, evX18, eoX18, sX18, iu19, fu20, hM2⟩
   cases evX18
   cases eoX18
   replace hM2 : A3 x7 u11 aA aB aC m22 u19 u20 = some X18 := hM2
   obtain _ | m22 := m22
   ·cases (show (none : Option _) = some X18 from hM2)
   rw [A3.eq_2] at hM2
   refine And.intro (fun hc23 => ?_) (fun hc23 => ?_)
   ·replace hM2 := ifP hM2 hc23
    refine Or.inl (And.intro (And.intro (by kernel_rfl) (by kernel_rfl)) ?_)
    obtain ⟨x24, gx24, hM2⟩ := j0 hM2
    obtain ⟨bx24, csx24, ex24, rx24⟩ := H6 fu20 gx24
    refine And.intro bx24 ?_
    obtain ⟨rfl, ix24⟩ := rx24
    refine Exists.intro _ (And.intro ex24 ?_)
    obtain ⟨x25, gx25, hM2⟩ := j0 hM2
    obtain ⟨bx25, csx25, ex25, rx25⟩ := Sl.getI (r := Wp.int.toRp) (K1.mono (sX10.trans sX18) rx7) gx25 (by decide)
    refine And.intro bx25 ?_
    obtain ⟨rfl, ix25⟩ := rx25
    refine Exists.intro _ (And.intro ex25 ?_)
    obtain ⟨x26, gx26, hM2⟩ := j0 hM2
    refine Exists.intro (.int .i64 x26) (And.intro (j01 _ [.int .i64 aA, .int .i64 aB, .slice aD aC.length aF] (aA, aB, aC) (z0 aG aI (I0.mono ((sx7.trans sX10).trans sX18) aH)) x24 ix24 x25 ix25 _  gx26) ?_)
    obtain ⟨q27, gq27, hM2⟩ := j0 hM2
    have ix26 : H0 x26 := U2 gq27
    obtain ⟨x28, gx28, hM2⟩ := j0 hM2
    refine Exists.intro (.bool x28) (And.intro ?_ ?_)
    ·intro hq
     intro v29 k30 f31
     obtain ⟨az32, cz32, rfl, rz32, sz32, lz32⟩ := E1.out (r := Wp.int.toRp) f31 fu20
     exact i01 _ az32 u20.length cz32 u20 rz32 x26 ix26 _ (N2 gx28 hq)
    refine And.intro (fun hc33 => ?_) (fun hc33 => ?_)
    ·replace hM2 := ifP hM2 hc33
     obtain ⟨q34, gq34, hM2⟩ := j0 hM2
     refine And.intro (M2 gq34 (by first | rw [F2.length fu20, F2.length (show F2 (Wp.int.R k21) ([[.int .i64 x26]] : List (List Value)) [x26] from ⟨⟨rfl, ix26⟩, trivial⟩)] | exact congrArg (· + 1) (F2.length fu20))) ?_
     refine And.intro rfl (And.intro (by repeat (first | exact trivial | refine And.intro rfl ?_)) (And.intro (by repeat (first | exact trivial | refine And.intro rfl ?_)) (Exists.intro m22 (And.intro ⟨(IntKind.i64.wrap (u19 + 1)), (wu20 ++ ([[.int .i64 x26]] : List (List Value))), (u20 ++ [x26]), rfl, rfl, sX18, (K0 _), (F2.append fu20 (show F2 (Wp.int.R k21) ([[.int .i64 x26]] : List (List Value)) [x26] from ⟨⟨rfl, ix26⟩, trivial⟩)), hM2⟩ (Nat.lt_succ_self _)))))
    ·replace hM2 := ifN hM2 hc33
     refine And.intro rfl (And.intro (by repeat (first | exact trivial | refine And.intro rfl ?_)) (And.intro (by repeat (first | exact trivial | refine And.intro rfl ?_)) (Exists.intro m22 (And.intro ⟨(IntKind.i64.wrap (u19 + 1)), wu20, u20, rfl, rfl, sX18, (K0 _), fu20, hM2⟩ (Nat.lt_succ_self _)))))
   ·replace hM2 := ifN hM2 hc23
    have hE := Option.some.inj hM2; subst hE
    try dsimp only [U0, Z0] at hM1
    refine And.intro rfl (And.intro (by repeat (first | exact trivial | refine And.intro rfl ?_)) (And.intro (by repeat (first | exact trivial | refine And.intro rfl ?_)) (Exists.intro m14 (And.intro ⟨(IntKind.i64.wrap (u11 + 1)), wu20, u20, rfl, rfl, (sX10.trans sX18), (K0 _), fu20, hM1⟩ (Nat.lt_succ_self _)))))
  ·replace hM1 := ifN hM1 hc17
   have hE := Option.some.inj hM1; subst hE
   try dsimp only [U0, Z0] at hM0
   intro v39 k40 f41
   obtain ⟨az42, cz42, rfl, rz42, sz42, lz42⟩ := E1.out (r := Wp.int.toRp) f41 fu12
   have hE := Option.some.inj hM0; subst hE
   exact ⟨az42, u12.length, cz42, rfl, rz42, ((sx7.trans sX10).trans sz42)⟩
theorem H04 (h : Hp) (csp0 : List Value) (p0 : l0) (rp0 : Y0.R h csp0 p0) (r : l0) (hM0 : c7 p0 = some r) :
  Tr Tryz.prog 189 #[.agg csp0.toArray] h fun v h' => ∃ (cs0 : List Value), v = .agg cs0.toArray ∧ Y0.R h' cs0 r ∧ Sub h h' := by
 obtain ⟨aA, aB, aC, bC, aD, aP, rfl, rfl, aH, aI, aF⟩ := B0 rp0
 obtain ⟨rfl, bD⟩ := Sl.len aF
 unfold c7 at hM0
 dsimp only at hM0
 refine T2 (args := [.agg #[.int .i64 aA, .int .i64 aB, .slice aC aP.length aD]]) (fn := Tryz.f189) rfl ?_
 obtain ⟨x1, gx1, hM0⟩ := j0 hM0
 refine Tr.mono (G04 _ [.int .i64 aA, .int .i64 aB, .slice aC aP.length aD] (aA, aB, aP) (z0 aH aI aF) _  gx1) ?_
 rintro v3 k2 ⟨ax1, nx1, cx1, rfl, rx1, sx1⟩
 obtain ⟨rfl, lx1⟩ := Sl.len rx1
 refine And.intro (fun hc4 => ?_) (fun hc4 => ?_)
 ·replace hM0 := ifP hM0 hc4
  obtain ⟨x5, gx5, hM0⟩ := j0 hM0
  refine Tr.mono (Y3 _ [.int .i64 aA, .int .i64 aB, .slice aC aP.length aD] (aA, aB, aP) (z0 aH aI (I0.mono sx1 aF)) _  gx5) ?_
  rintro v7 k6 ⟨csx5, rfl, rx5, sx5⟩
  obtain ⟨aY, aZ, aS, bE, aT, bG, rfl, rfl, aU, aV, aN⟩ := B0 rx5
  obtain ⟨rfl, bF⟩ := Sl.len aN
  try dsimp only at hM0
  have hE := Option.some.inj hM0; subst hE
  exact ⟨([.int .i64 aY, .int .i64 aZ, .slice aS bG.length aT]), rfl, (z0 aU aV aN), (sx1.trans sx5)⟩
 ·replace hM0 := ifN hM0 hc4
  obtain ⟨x8, gx8, hM0⟩ := j0 hM0
  refine Tr.mono (Q01 _ [.int .i64 aA, .int .i64 aB, .slice aC aP.length aD] (aA, aB, aP) (z0 aH aI (I0.mono sx1 aF)) ax1 x1.length cx1 x1 rx1 _  gx8) ?_
  rintro v10 k9 ⟨bA, rfl, aO, sx8⟩
  obtain ⟨bH, bI⟩ := x8
  dsimp only at hM0 aO
  obtain ⟨aQ, aR, aJ, aW, aK, bB, rfl, rfl, aL, aM, aG⟩ := B0 aO
  obtain ⟨rfl, aX⟩ := Sl.len aG
  try dsimp only at hM0
  have hE := Option.some.inj hM0; subst hE
  exact ⟨([.int .i64 aQ, .int .i64 aR, .slice aJ bB.length aK]), rfl, (z0 aL aM aG), (sx1.trans sx8)⟩
end Go.Proofs.YtfdlgbfeceodeaaGreat
