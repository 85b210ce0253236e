/- Texts of the claim, joined: The walks of batch 1; The walks of batch 4g; The walks of batch 9; The walks of batch 9f; The walks of batch g1. -/
import Derived.Test.YtfdlgbfeceodeaaGreatPart17
import Derived.Test.YtfdlgbfeceodeaaGreatChecked
import Derived.Test.YtfdlgbfeceodeaaGreatH35
import Derived.Test.YtfdlgbfeceodeaaGreatSI
import Derived.Test.YtfdlgbfeceodeaaGreatEQ
namespace Go.Proofs.YtfdlgbfeceodeaaGreat
open Go.H
set_option linter.unusedVariables false
set_option linter.unusedSimpArgs false
set_option maxRecDepth 10000
theorem F6 (h : Hp) (p0 : Int) (ip0 : J0 p0) (p1 : Int) (ip1 : J0 p1) (p2 : Int) (ip2 : J0 p2) (r : Bool) (hM0 : f4 p0 p1 p2 = some r) :
  Tr Tryz.prog 105 #[.int .i64 p0, .int .i64 p1, .int .i64 p2] h fun v h' => v = .bool r ∧ h' = h := by
 unfold f4 at hM0
 refine Tr.forget (c3 (args := [.int .i64 p0, .int .i64 p1, .int .i64 p2]) (fn := Tryz.f105) rfl ?_)
 have hE := Option.some.inj hM0; subst hE
 exact And.intro rfl (Sub.refl _)
theorem V04 (h : Hp) (p0 : Int) (ip0 : J0 p0) (ap1 : Option Addr) (np1 cp1 : Nat) (p1 : U1) (rp1 : O2.R h [.slice ap1 np1 cp1] p1) (r : Bool) (hM0 : T7 p0 p1 = some r) :
  Tr Tryz.prog 124 #[.int .i64 p0, .slice ap1 np1 cp1] h fun v h' => v = .bool r ∧ h' = h := by
 obtain ⟨rfl, lp1⟩ := Sl.len rp1
 unfold T7 at hM0
 refine Tr.forget (c3 (args := [.int .i64 p0, .slice ap1 p1.length cp1]) (fn := Tryz.f124) rfl ?_)
 obtain ⟨X1, hLX1, hM0⟩ := j0 hM0
 refine Exists.intro { vars := [5], boxes := [], owns := [], fuel := true } (Exists.intro (fun vs os h' => ∃ (u2 : Int), vs.tail = [.int .i64 u2] ∧ os = [] ∧ Sub h h' ∧ J0 u2 ∧ I6 p1 p0 (I3 vs) u2 = some X1) (Exists.intro (fun _ _ => 0) ?_))
 refine And.intro (Exists.intro D1 ⟨0, rfl, rfl, (Sub.refl _), (c64 (by decide) (by decide)), hLX1⟩) ?_
 rintro v_0 m4 k3 ⟨u2, evX1, eoX1, sX1, iu2, hM1⟩
 cases evX1
 cases eoX1
 replace hM1 : I6 p1 p0 m4 u2 = some X1 := hM1
 obtain _ | m4 := m4
 ·cases (show (none : Option _) = some X1 from hM1)
 rw [z9] at hM1
 refine And.intro (fun hc5 => ?_) (fun hc5 => ?_)
 ·have hc5 : ((decide (u2 < ((p1.length : Nat) : Int)))) = true := hc5
  rw [if_pos hc5] at hM1
  refine Or.inl (And.intro (And.intro (by kernel_rfl) (by kernel_rfl)) ?_)
  obtain ⟨x6, gx6, hM1⟩ := j0 hM1
  obtain ⟨bx6, csx6, ex6, rx6⟩ := Sl.getI (r := Wp.int.toRp) (O2.mono sX1 rp1) gx6 (by decide)
  refine And.intro bx6 ?_
  obtain ⟨rfl, ix6⟩ := rx6
  refine Exists.intro _ (And.intro ex6 ?_)
  obtain ⟨x7, gx7, hM1⟩ := j0 hM1
  obtain ⟨csx7, ex7, rx7⟩ := Sl.getG (r := Wp.int.toRp) (O2.mono sX1 rp1) gx7 (by decide) (M07 k3)
  refine And.intro (fun q => (ex7 q).1) ?_
  obtain ⟨rfl, ix7⟩ := rx7
  refine Exists.intro _ (And.intro (fun q => (ex7 q).2) ?_)
  obtain ⟨x8, gx8, hM1⟩ := j0 hM1
  refine Exists.intro (.bool x8) (And.intro (fun q => F6 _ x7 ix7 (IntKind.i64.wrap (0 - p0)) (U0 _) p0 ip0 _  (U2 gx8 q)) ?_)
  obtain ⟨x9, gx9, hM1⟩ := j0 hM1
  obtain ⟨csx9, ex9, rx9⟩ := Sl.getG (r := Wp.int.toRp) (O2.mono sX1 rp1) gx9 (by decide) (M07 k3)
  refine And.intro (fun q => (ex9 q).1) ?_
  obtain ⟨rfl, ix9⟩ := rx9
  refine Exists.intro _ (And.intro (fun q => (ex9 q).2) ?_)
  obtain ⟨x10, gx10, hM1⟩ := j0 hM1
  obtain ⟨csx10, ex10, rx10⟩ := Sl.getG (r := Wp.int.toRp) (O2.mono sX1 rp1) gx10 (by decide) (M07 k3)
  refine And.intro (fun q => (ex10 q).1) ?_
  obtain ⟨rfl, ix10⟩ := rx10
  refine Exists.intro _ (And.intro (fun q => (ex10 q).2) ?_)
  refine And.intro (fun hc11 => ?_) (fun hc11 => ?_)
  ·have hc11 : ((bif (bif (decide (x6 = 0)) then true else (!x8)) then true else (bif (decide (u2 > 0)) then (decide (x9 = (IntKind.i64.wrap (0 - x10)))) else false))) = true := hc11
   rw [if_pos hc11] at hM1
   have hE := Option.some.inj hM1; subst hE
   try dsimp only [A4, B4] at hM0
   have hE := Option.some.inj hM0; subst hE
   exact And.intro rfl sX1
  ·have hc11 : ((bif (bif (decide (x6 = 0)) then true else (!x8)) then true else (bif (decide (u2 > 0)) then (decide (x9 = (IntKind.i64.wrap (0 - x10)))) else false))) = false := hc11
   rw [if_neg (K1 hc11)] at hM1
   refine And.intro rfl (And.intro (by first | exact trivial | exact And.intro rfl trivial | exact And.intro rfl (And.intro rfl trivial) | exact And.intro rfl (And.intro rfl (And.intro rfl trivial)) | exact And.intro rfl (And.intro rfl (And.intro rfl (And.intro rfl trivial)))) (And.intro (by first | exact trivial | exact And.intro rfl trivial | exact And.intro rfl (And.intro rfl trivial) | exact And.intro rfl (And.intro rfl (And.intro rfl trivial)) | exact And.intro rfl (And.intro rfl (And.intro rfl (And.intro rfl trivial)))) (Exists.intro m4 (And.intro ⟨(IntKind.i64.wrap (u2 + 1)), rfl, rfl, sX1, (U0 _), hM1⟩ (Nat.lt_succ_self _)))))
 ·have hc5 : ((decide (u2 < ((p1.length : Nat) : Int)))) = false := hc5
  rw [if_neg (K1 hc5)] at hM1
  have hE := Option.some.inj hM1; subst hE
  try dsimp only [J1, O1] at hM0
  obtain ⟨x12, gx12, hM0⟩ := j0 hM0
  refine Tr.val (F6 _ p0 ip0 1 (c64 (by decide) (by decide)) 3 (c64 (by decide) (by decide)) _  gx12) ?_
  have hE := Option.some.inj hM0; subst hE
  exact And.intro rfl sX1
theorem o05 (h : Hp) (ap0 : Option Addr) (np0 cp0 : Nat) (p0 : l3) (rp0 : i5.R h [.slice ap0 np0 cp0] p0) (r : Int) (hM0 : U5 p0 = some r) :
  Tr Tryz.prog 198 #[.slice ap0 np0 cp0] h fun v h' => v = .int .i64 r ∧ h' = h := by
 obtain ⟨rfl, lp0⟩ := Sl.len rp0
 unfold U5 at hM0
 refine Tr.forget (c3 (args := [.slice ap0 p0.length cp0]) (fn := Tryz.f198) rfl ?_)
 obtain ⟨X1, hLX1, hM0⟩ := j0 hM0
 refine Exists.intro { vars := [3, 4], boxes := [], owns := [], fuel := true } (Exists.intro (fun vs os h' => ∃ (u2 : Int) (u3 : Int), vs.tail = [.int .i64 u2, .int .i64 u3] ∧ os = [] ∧ Sub h h' ∧ J0 u2 ∧ J0 u3 ∧ P3 p0 (I3 vs) u2 u3 = some X1) (Exists.intro (fun _ _ => 0) ?_))
 refine And.intro (Exists.intro D1 ⟨0, 0, rfl, rfl, (Sub.refl _), (c64 (by decide) (by decide)), (c64 (by decide) (by decide)), hLX1⟩) ?_
 rintro v_0 v_1 m5 k4 ⟨u2, u3, evX1, eoX1, sX1, iu2, iu3, hM1⟩
 cases evX1
 cases eoX1
 replace hM1 : P3 p0 m5 u2 u3 = some X1 := hM1
 obtain _ | m5 := m5
 ·cases (show (none : Option _) = some X1 from hM1)
 rw [P5] at hM1
 refine And.intro (fun hc6 => ?_) (fun hc6 => ?_)
 ·have hc6 : ((decide (u3 < ((p0.length : Nat) : Int)))) = true := hc6
  rw [if_pos hc6] at hM1
  obtain ⟨x7, gx7, hM1⟩ := j0 hM1
  obtain ⟨bx7, csx7, ex7, rx7⟩ := Sl.getI (r := O2.toRp) (i5.mono sX1 rp0) gx7 (by decide)
  refine And.intro bx7 ?_
  obtain ⟨ax7, nx7, cx7, rfl⟩ := Wp.slice_cell rx7
  obtain ⟨rfl, lx7⟩ := Sl.len rx7
  refine Exists.intro _ (And.intro ex7 ?_)
  refine And.intro rfl (And.intro (by first | exact trivial | exact And.intro rfl trivial | exact And.intro rfl (And.intro rfl trivial) | exact And.intro rfl (And.intro rfl (And.intro rfl trivial)) | exact And.intro rfl (And.intro rfl (And.intro rfl (And.intro rfl trivial)))) (And.intro (by first | exact trivial | exact And.intro rfl trivial | exact And.intro rfl (And.intro rfl trivial) | exact And.intro rfl (And.intro rfl (And.intro rfl trivial)) | exact And.intro rfl (And.intro rfl (And.intro rfl (And.intro rfl trivial)))) (Exists.intro m5 (And.intro ⟨(IntKind.i64.wrap (u2 + ((x7.length : Nat) : Int))), (IntKind.i64.wrap (u3 + 1)), rfl, rfl, sX1, (U0 _), (U0 _), hM1⟩ (Nat.lt_succ_self _)))))
 ·have hc6 : ((decide (u3 < ((p0.length : Nat) : Int)))) = false := hc6
  rw [if_neg (K1 hc6)] at hM1
  have hE := Option.some.inj hM1; subst hE
  try dsimp only [J1, O1] at hM0
  have hE := Option.some.inj hM0; subst hE
  exact And.intro rfl sX1
theorem Y07 (h : Hp) (p0 : Int) (ip0 : J0 p0) (ap1 : Option Addr) (np1 cp1 : Nat) (p1 : l3) (rp1 : i5.R h [.slice ap1 np1 cp1] p1) (r : Bool) (hM0 : S8 p0 p1 = some r) :
  Tr Tryz.prog 141 #[.int .i64 p0, .slice ap1 np1 cp1] h fun v h' => v = .bool r ∧ h' = h := by
 obtain ⟨rfl, lp1⟩ := Sl.len rp1
 unfold S8 at hM0
 refine Tr.forget (c3 (args := [.int .i64 p0, .slice ap1 p1.length cp1]) (fn := Tryz.f141) rfl ?_)
 obtain ⟨X1, hLX1, hM0⟩ := j0 hM0
 refine Exists.intro { vars := [5], boxes := [], owns := [], fuel := true } (Exists.intro (fun vs os h' => ∃ (u2 : Int), vs.tail = [.int .i64 u2] ∧ os = [] ∧ Sub h h' ∧ J0 u2 ∧ D5 p1 p0 (I3 vs) u2 = some X1) (Exists.intro (fun _ _ => 0) ?_))
 refine And.intro (Exists.intro D1 ⟨0, rfl, rfl, (Sub.refl _), (c64 (by decide) (by decide)), hLX1⟩) ?_
 rintro v_0 m4 k3 ⟨u2, evX1, eoX1, sX1, iu2, hM1⟩
 cases evX1
 cases eoX1
 replace hM1 : D5 p1 p0 m4 u2 = some X1 := hM1
 obtain _ | m4 := m4
 ·cases (show (none : Option _) = some X1 from hM1)
 rw [H8] at hM1
 refine And.intro (fun hc5 => ?_) (fun hc5 => ?_)
 ·have hc5 : ((decide (u2 < ((p1.length : Nat) : Int)))) = true := hc5
  rw [if_pos hc5] at hM1
  obtain ⟨x6, gx6, hM1⟩ := j0 hM1
  obtain ⟨bx6, csx6, ex6, rx6⟩ := Sl.getI (r := O2.toRp) (i5.mono sX1 rp1) gx6 (by decide)
  refine And.intro bx6 ?_
  obtain ⟨ax6, nx6, cx6, rfl⟩ := Wp.slice_cell rx6
  obtain ⟨rfl, lx6⟩ := Sl.len rx6
  refine Exists.intro _ (And.intro ex6 ?_)
  obtain ⟨x7, gx7, hM1⟩ := j0 hM1
  refine Tr.val (V04 _ p0 ip0 ax6 x6.length cx6 x6 rx6 _  gx7) ?_
  refine And.intro (fun hc8 => ?_) (fun hc8 => ?_)
  ·have hc8 : ((!x7)) = true := hc8
   rw [if_pos hc8] at hM1
   have hE := Option.some.inj hM1; subst hE
   try dsimp only [A4, B4] at hM0
   have hE := Option.some.inj hM0; subst hE
   exact And.intro rfl sX1
  ·have hc8 : ((!x7)) = false := hc8
   rw [if_neg (K1 hc8)] at hM1
   refine And.intro rfl (And.intro (by first | exact trivial | exact And.intro rfl trivial | exact And.intro rfl (And.intro rfl trivial) | exact And.intro rfl (And.intro rfl (And.intro rfl trivial)) | exact And.intro rfl (And.intro rfl (And.intro rfl (And.intro rfl trivial)))) (And.intro (by first | exact trivial | exact And.intro rfl trivial | exact And.intro rfl (And.intro rfl trivial) | exact And.intro rfl (And.intro rfl (And.intro rfl trivial)) | exact And.intro rfl (And.intro rfl (And.intro rfl (And.intro rfl trivial)))) (Exists.intro m4 (And.intro ⟨(IntKind.i64.wrap (u2 + 1)), rfl, rfl, sX1, (U0 _), hM1⟩ (Nat.lt_succ_self _)))))
 ·have hc5 : ((decide (u2 < ((p1.length : Nat) : Int)))) = false := hc5
  rw [if_neg (K1 hc5)] at hM1
  have hE := Option.some.inj hM1; subst hE
  try dsimp only [J1, O1] at hM0
  obtain ⟨x9, gx9, hM0⟩ := j0 hM0
  refine Tr.val (F6 _ p0 ip0 1 (c64 (by decide) (by decide)) 3 (c64 (by decide) (by decide)) _  gx9) ?_
  obtain ⟨x10, gx10, hM0⟩ := j0 hM0
  refine Exists.intro (.int .i64 x10) (And.intro (fun q => o05 _ ap1 p1.length cp1 p1 (i5.mono sX1 rp1) _  (U2 gx10 q)) ?_)
  obtain ⟨q11, gq11, hM0⟩ := j0 hM0
  have ix10 : J0 x10 := J3 gq11
  have hE := Option.some.inj hM0; subst hE
  exact And.intro rfl sX1
theorem I00 (h : Hp) (csp0 : List Value) (p0 : M0) (rp0 : S0.R h csp0 p0) (r : Bool) (hM0 : j4 p0 = some r) :
  Tr Tryz.prog 87 #[.agg csp0.toArray] h fun v h' => v = .bool r ∧ h' = h := by
 obtain ⟨p0_0, ap0_1, np0_1, cp0_1, p0_1, rfl, rfl, ip0_0, rp0_1⟩ := D2 rp0
 obtain ⟨rfl, lp0_1⟩ := Sl.len rp0_1
 unfold j4 at hM0
 dsimp only at hM0
 refine Tr.forget (c3 (args := [.agg #[.int .i64 p0_0, .slice ap0_1 p0_1.length cp0_1]]) (fn := Tryz.f87) rfl ?_)
 obtain ⟨X1, hLX1, hM0⟩ := j0 hM0
 refine Exists.intro { vars := [3], boxes := [], owns := [], fuel := true } (Exists.intro (fun vs os h' => ∃ (u2 : Int), vs.tail = [.int .i64 u2] ∧ os = [] ∧ Sub h h' ∧ J0 u2 ∧ K3 p0_1 (I3 vs) u2 = some X1) (Exists.intro (fun _ _ => 0) ?_))
 refine And.intro (Exists.intro D1 ⟨0, rfl, rfl, (Sub.refl _), (c64 (by decide) (by decide)), hLX1⟩) ?_
 rintro v_0 m4 k3 ⟨u2, evX1, eoX1, sX1, iu2, hM1⟩
 cases evX1
 cases eoX1
 replace hM1 : K3 p0_1 m4 u2 = some X1 := hM1
 obtain _ | m4 := m4
 ·cases (show (none : Option _) = some X1 from hM1)
 rw [J6] at hM1
 refine And.intro (fun hc5 => ?_) (fun hc5 => ?_)
 ·have hc5 : ((decide (u2 < ((p0_1.length : Nat) : Int)))) = true := hc5
  rw [if_pos hc5] at hM1
  obtain ⟨x6, gx6, hM1⟩ := j0 hM1
  obtain ⟨bx6, csx6, ex6, rx6⟩ := Sl.getI (r := O2.toRp) (i5.mono sX1 rp0_1) gx6 (by decide)
  refine And.intro bx6 ?_
  obtain ⟨ax6, nx6, cx6, rfl⟩ := Wp.slice_cell rx6
  obtain ⟨rfl, lx6⟩ := Sl.len rx6
  refine Exists.intro _ (And.intro ex6 ?_)
  refine Or.inl (And.intro (And.intro (by kernel_rfl) (by kernel_rfl)) ?_)
  obtain ⟨x7, gx7, hM1⟩ := j0 hM1
  obtain ⟨csx7, ex7, rx7⟩ := Sl.getG (r := Wp.int.toRp) rx6 gx7 (by decide) (M07 k3)
  refine And.intro (fun q => (ex7 q).1) ?_
  obtain ⟨rfl, ix7⟩ := rx7
  refine Exists.intro _ (And.intro (fun q => (ex7 q).2) ?_)
  obtain ⟨x8, gx8, hM1⟩ := j0 hM1
  obtain ⟨csx8, ex8, rx8⟩ := Sl.getG (r := Wp.int.toRp) rx6 gx8 (by decide) (M07 k3)
  refine And.intro (fun q => (ex8 q).1) ?_
  obtain ⟨rfl, ix8⟩ := rx8
  refine Exists.intro _ (And.intro (fun q => (ex8 q).2) ?_)
  refine And.intro (fun hc9 => ?_) (fun hc9 => ?_)
  ·have hc9 : ((bif (decide (((x6.length : Nat) : Int) = 0)) then true else (decide (x7 = (IntKind.i64.wrap (0 - x8)))))) = true := hc9
   rw [if_pos hc9] at hM1
   have hE := Option.some.inj hM1; subst hE
   try dsimp only [A4, B4] at hM0
   have hE := Option.some.inj hM0; subst hE
   exact And.intro rfl sX1
  ·have hc9 : ((bif (decide (((x6.length : Nat) : Int) = 0)) then true else (decide (x7 = (IntKind.i64.wrap (0 - x8)))))) = false := hc9
   rw [if_neg (K1 hc9)] at hM1
   refine And.intro rfl (And.intro (by first | exact trivial | exact And.intro rfl trivial | exact And.intro rfl (And.intro rfl trivial) | exact And.intro rfl (And.intro rfl (And.intro rfl trivial)) | exact And.intro rfl (And.intro rfl (And.intro rfl (And.intro rfl trivial)))) (And.intro (by first | exact trivial | exact And.intro rfl trivial | exact And.intro rfl (And.intro rfl trivial) | exact And.intro rfl (And.intro rfl (And.intro rfl trivial)) | exact And.intro rfl (And.intro rfl (And.intro rfl (And.intro rfl trivial)))) (Exists.intro m4 (And.intro ⟨(IntKind.i64.wrap (u2 + 1)), rfl, rfl, sX1, (U0 _), hM1⟩ (Nat.lt_succ_self _)))))
 ·have hc5 : ((decide (u2 < ((p0_1.length : Nat) : Int)))) = false := hc5
  rw [if_neg (K1 hc5)] at hM1
  have hE := Option.some.inj hM1; subst hE
  try dsimp only [J1, O1] at hM0
  obtain ⟨x10, gx10, hM0⟩ := j0 hM0
  refine Tr.val (Y07 _ p0_0 ip0_0 ap0_1 p0_1.length cp0_1 p0_1 (i5.mono sX1 rp0_1) _  gx10) ?_
  have hE := Option.some.inj hM0; subst hE
  exact And.intro rfl sX1
theorem a8 (h : Hp) (p0 : Int) (ip0 : J0 p0) (p1 : Int) (ip1 : J0 p1) (p2 : Int) (ip2 : J0 p2) (r : Bool) (hM0 : B5 p0 p1 p2 = some r) :
  Tr Tryz.prog 110 #[.int .i64 p0, .int .i64 p1, .int .i64 p2] h fun v h' => v = .bool r ∧ h' = h := by
 unfold B5 at hM0
 refine Tr.forget (c3 (args := [.int .i64 p0, .int .i64 p1, .int .i64 p2]) (fn := Tryz.f110) rfl ?_)
 have hE := Option.some.inj hM0; subst hE
 exact And.intro rfl (Sub.refl _)
theorem Z07 (h : Hp) (p0 : Int) (ip0 : J0 p0) (p1 : Int) (ip1 : J0 p1) (r : Bool) (hM0 : E7 p0 p1 = some r) :
  Tr Tryz.prog 185 #[.int .i64 p0, .int .i64 p1] h fun v h' => v = .bool r ∧ h' = h := by
 unfold E7 at hM0
 refine Tr.forget (c3 (args := [.int .i64 p0, .int .i64 p1]) (fn := Tryz.f185) rfl ?_)
 obtain ⟨x1, gx1, hM0⟩ := j0 hM0
 refine Exists.intro (.bool x1) (And.intro (fun q => a8 _ p1 ip1 (IntKind.i64.wrap (0 - p0)) (U0 _) p0 ip0 _  (U2 gx1 q)) ?_)
 have hE := Option.some.inj hM0; subst hE
 exact And.intro rfl (Sub.refl _)
theorem q02 (h : Hp) (p0 : Int) (ip0 : J0 p0) (p1 : Int) (ip1 : J0 p1) (r : Bool) (hM0 : Q4 p0 p1 = some r) :
  Tr Tryz.prog 150 #[.int .i64 p0, .int .i64 p1] h fun v h' => v = .bool r ∧ h' = h := by
 unfold Q4 at hM0
 refine Tr.forget (c3 (args := [.int .i64 p0, .int .i64 p1]) (fn := Tryz.f150) rfl ?_)
 have hE := Option.some.inj hM0; subst hE
 exact And.intro rfl (Sub.refl _)
theorem W04 (h : Hp) (p0 : Int) (ip0 : J0 p0) (ap1 : Option Addr) (np1 cp1 : Nat) (p1 : U1) (rp1 : O2.R h [.slice ap1 np1 cp1] p1) (r : Bool) (hM0 : U7 p0 p1 = some r) :
  Tr Tryz.prog 126 #[.int .i64 p0, .slice ap1 np1 cp1] h fun v h' => v = .bool r ∧ h' = h := by
 obtain ⟨rfl, lp1⟩ := Sl.len rp1
 unfold U7 at hM0
 refine Tr.forget (c3 (args := [.int .i64 p0, .slice ap1 p1.length cp1]) (fn := Tryz.f126) rfl ?_)
 obtain ⟨x1, gx1, hM0⟩ := j0 hM0
 refine Tr.val (a8 _ p0 ip0 1 (c64 (by decide) (by decide)) 3 (c64 (by decide) (by decide)) _  gx1) ?_
 refine And.intro (fun hc2 => ?_) (fun hc2 => ?_)
 ·have hc2 : ((bif (!x1) then true else (decide (((p1.length : Nat) : Int) > 24)))) = true := hc2
  rw [if_pos hc2] at hM0
  have hE := Option.some.inj hM0; subst hE
  exact And.intro rfl (Sub.refl _)
 ·have hc2 : ((bif (!x1) then true else (decide (((p1.length : Nat) : Int) > 24)))) = false := hc2
  rw [if_neg (K1 hc2)] at hM0
  obtain ⟨X3, hLX3, hM0⟩ := j0 hM0
  refine Exists.intro { vars := [17], boxes := [], owns := [], fuel := true } (Exists.intro (fun vs os h' => ∃ (u4 : Int), vs.tail = [.int .i64 u4] ∧ os = [] ∧ Sub h h' ∧ J0 u4 ∧ K6 p1 p0 (I3 vs) u4 = some X3) (Exists.intro (fun _ _ => 0) ?_))
  refine And.intro (Exists.intro D1 ⟨0, rfl, rfl, (Sub.refl _), (c64 (by decide) (by decide)), hLX3⟩) ?_
  rintro v_0 m6 k5 ⟨u4, evX3, eoX3, sX3, iu4, hM1⟩
  cases evX3
  cases eoX3
  replace hM1 : K6 p1 p0 m6 u4 = some X3 := hM1
  obtain _ | m6 := m6
  ·cases (show (none : Option _) = some X3 from hM1)
  rw [A9] at hM1
  refine And.intro (fun hc7 => ?_) (fun hc7 => ?_)
  ·have hc7 : ((decide (u4 < ((p1.length : Nat) : Int)))) = true := hc7
   rw [if_pos hc7] at hM1
   obtain ⟨x8, gx8, hM1⟩ := j0 hM1
   obtain ⟨bx8, csx8, ex8, rx8⟩ := Sl.getI (r := Wp.int.toRp) (O2.mono sX3 rp1) gx8 (by decide)
   refine And.intro bx8 ?_
   obtain ⟨rfl, ix8⟩ := rx8
   refine Exists.intro _ (And.intro ex8 ?_)
   obtain ⟨x9, gx9, hM1⟩ := j0 hM1
   refine Tr.val (Z07 _ p0 ip0 x8 ix8 _  gx9) ?_
   obtain ⟨x10, gx10, hM1⟩ := j0 hM1
   obtain ⟨csx10, ex10, rx10⟩ := Sl.getG (r := Wp.int.toRp) (O2.mono sX3 rp1) gx10 (by decide) (M07 k5)
   refine And.intro (fun q => (ex10 q).1) ?_
   obtain ⟨rfl, ix10⟩ := rx10
   refine Exists.intro _ (And.intro (fun q => (ex10 q).2) ?_)
   obtain ⟨x11, gx11, hM1⟩ := j0 hM1
   refine Exists.intro (.bool x11) (And.intro (fun q => q02 _ x10 ix10 x8 ix8 _  (U2 gx11 q)) ?_)
   refine And.intro (fun hc12 => ?_) (fun hc12 => ?_)
   ·have hc12 : ((bif (!x9) then true else (bif (decide (u4 > 0)) then x11 else false))) = true := hc12
    rw [if_pos hc12] at hM1
    have hE := Option.some.inj hM1; subst hE
    try dsimp only [A4, B4] at hM0
    have hE := Option.some.inj hM0; subst hE
    exact And.intro rfl sX3
   ·have hc12 : ((bif (!x9) then true else (bif (decide (u4 > 0)) then x11 else false))) = false := hc12
    rw [if_neg (K1 hc12)] at hM1
    refine And.intro rfl (And.intro (by first | exact trivial | exact And.intro rfl trivial | exact And.intro rfl (And.intro rfl trivial) | exact And.intro rfl (And.intro rfl (And.intro rfl trivial)) | exact And.intro rfl (And.intro rfl (And.intro rfl (And.intro rfl trivial)))) (And.intro (by first | exact trivial | exact And.intro rfl trivial | exact And.intro rfl (And.intro rfl trivial) | exact And.intro rfl (And.intro rfl (And.intro rfl trivial)) | exact And.intro rfl (And.intro rfl (And.intro rfl (And.intro rfl trivial)))) (Exists.intro m6 (And.intro ⟨(IntKind.i64.wrap (u4 + 1)), rfl, rfl, sX3, (U0 _), hM1⟩ (Nat.lt_succ_self _)))))
  ·have hc7 : ((decide (u4 < ((p1.length : Nat) : Int)))) = false := hc7
   rw [if_neg (K1 hc7)] at hM1
   have hE := Option.some.inj hM1; subst hE
   try dsimp only [J1, O1] at hM0
   have hE := Option.some.inj hM0; subst hE
   exact And.intro rfl sX3
theorem p05 (h : Hp) (ap0 : Option Addr) (np0 cp0 : Nat) (p0 : l3) (rp0 : i5.R h [.slice ap0 np0 cp0] p0) (r : Int) (hM0 : i7 p0 = some r) :
  Tr Tryz.prog 203 #[.slice ap0 np0 cp0] h fun v h' => v = .int .i64 r ∧ h' = h := by
 obtain ⟨rfl, lp0⟩ := Sl.len rp0
 unfold i7 at hM0
 refine Tr.forget (c3 (args := [.slice ap0 p0.length cp0]) (fn := Tryz.f203) rfl ?_)
 obtain ⟨X1, hLX1, hM0⟩ := j0 hM0
 refine Exists.intro { vars := [3, 8], boxes := [], owns := [], fuel := true } (Exists.intro (fun vs os h' => ∃ (u2 : Int) (u3 : Int), vs.tail = [.int .i64 u2, .int .i64 u3] ∧ os = [] ∧ Sub h h' ∧ J0 u2 ∧ J0 u3 ∧ C4 p0 (I3 vs) u2 u3 = some X1) (Exists.intro (fun _ _ => 0) ?_))
 refine And.intro (Exists.intro D1 ⟨0, 0, rfl, rfl, (Sub.refl _), (c64 (by decide) (by decide)), (c64 (by decide) (by decide)), hLX1⟩) ?_
 rintro v_0 v_1 m5 k4 ⟨u2, u3, evX1, eoX1, sX1, iu2, iu3, hM1⟩
 cases evX1
 cases eoX1
 replace hM1 : C4 p0 m5 u2 u3 = some X1 := hM1
 obtain _ | m5 := m5
 ·cases (show (none : Option _) = some X1 from hM1)
 rw [S9] at hM1
 refine And.intro (fun hc6 => ?_) (fun hc6 => ?_)
 ·have hc6 : ((decide (u3 < ((p0.length : Nat) : Int)))) = true := hc6
  rw [if_pos hc6] at hM1
  obtain ⟨x7, gx7, hM1⟩ := j0 hM1
  obtain ⟨bx7, csx7, ex7, rx7⟩ := Sl.getI (r := O2.toRp) (i5.mono sX1 rp0) gx7 (by decide)
  refine And.intro bx7 ?_
  obtain ⟨ax7, nx7, cx7, rfl⟩ := Wp.slice_cell rx7
  obtain ⟨rfl, lx7⟩ := Sl.len rx7
  refine Exists.intro _ (And.intro ex7 ?_)
  refine And.intro rfl (And.intro (by first | exact trivial | exact And.intro rfl trivial | exact And.intro rfl (And.intro rfl trivial) | exact And.intro rfl (And.intro rfl (And.intro rfl trivial)) | exact And.intro rfl (And.intro rfl (And.intro rfl (And.intro rfl trivial)))) (And.intro (by first | exact trivial | exact And.intro rfl trivial | exact And.intro rfl (And.intro rfl trivial) | exact And.intro rfl (And.intro rfl (And.intro rfl trivial)) | exact And.intro rfl (And.intro rfl (And.intro rfl (And.intro rfl trivial)))) (Exists.intro m5 (And.intro ⟨(IntKind.i64.wrap (u2 + ((x7.length : Nat) : Int))), (IntKind.i64.wrap (u3 + 1)), rfl, rfl, sX1, (U0 _), (U0 _), hM1⟩ (Nat.lt_succ_self _)))))
 ·have hc6 : ((decide (u3 < ((p0.length : Nat) : Int)))) = false := hc6
  rw [if_neg (K1 hc6)] at hM1
  have hE := Option.some.inj hM1; subst hE
  try dsimp only [J1, O1] at hM0
  have hE := Option.some.inj hM0; subst hE
  exact And.intro rfl sX1
theorem a08 (h : Hp) (p0 : Int) (ip0 : J0 p0) (ap1 : Option Addr) (np1 cp1 : Nat) (p1 : l3) (rp1 : i5.R h [.slice ap1 np1 cp1] p1) (r : Bool) (hM0 : T8 p0 p1 = some r) :
  Tr Tryz.prog 149 #[.int .i64 p0, .slice ap1 np1 cp1] h fun v h' => v = .bool r ∧ h' = h := by
 obtain ⟨rfl, lp1⟩ := Sl.len rp1
 unfold T8 at hM0
 refine Tr.forget (c3 (args := [.int .i64 p0, .slice ap1 p1.length cp1]) (fn := Tryz.f149) rfl ?_)
 obtain ⟨x1, gx1, hM0⟩ := j0 hM0
 refine Tr.val (a8 _ p0 ip0 1 (c64 (by decide) (by decide)) 3 (c64 (by decide) (by decide)) _  gx1) ?_
 refine And.intro (fun hc2 => ?_) (fun hc2 => ?_)
 ·have hc2 : ((bif (!x1) then true else (decide (((p1.length : Nat) : Int) > 6)))) = true := hc2
  rw [if_pos hc2] at hM0
  have hE := Option.some.inj hM0; subst hE
  exact And.intro rfl (Sub.refl _)
 ·have hc2 : ((bif (!x1) then true else (decide (((p1.length : Nat) : Int) > 6)))) = false := hc2
  rw [if_neg (K1 hc2)] at hM0
  obtain ⟨X3, hLX3, hM0⟩ := j0 hM0
  refine Exists.intro { vars := [17], boxes := [], owns := [], fuel := true } (Exists.intro (fun vs os h' => ∃ (u4 : Int), vs.tail = [.int .i64 u4] ∧ os = [] ∧ Sub h h' ∧ J0 u4 ∧ E5 p1 p0 (I3 vs) u4 = some X3) (Exists.intro (fun _ _ => 0) ?_))
  refine And.intro (Exists.intro D1 ⟨0, rfl, rfl, (Sub.refl _), (c64 (by decide) (by decide)), hLX3⟩) ?_
  rintro v_0 m6 k5 ⟨u4, evX3, eoX3, sX3, iu4, hM1⟩
  cases evX3
  cases eoX3
  replace hM1 : E5 p1 p0 m6 u4 = some X3 := hM1
  obtain _ | m6 := m6
  ·cases (show (none : Option _) = some X3 from hM1)
  rw [I8] at hM1
  refine And.intro (fun hc7 => ?_) (fun hc7 => ?_)
  ·have hc7 : ((decide (u4 < ((p1.length : Nat) : Int)))) = true := hc7
   rw [if_pos hc7] at hM1
   obtain ⟨x8, gx8, hM1⟩ := j0 hM1
   obtain ⟨bx8, csx8, ex8, rx8⟩ := Sl.getI (r := O2.toRp) (i5.mono sX3 rp1) gx8 (by decide)
   refine And.intro bx8 ?_
   obtain ⟨ax8, nx8, cx8, rfl⟩ := Wp.slice_cell rx8
   obtain ⟨rfl, lx8⟩ := Sl.len rx8
   refine Exists.intro _ (And.intro ex8 ?_)
   obtain ⟨x9, gx9, hM1⟩ := j0 hM1
   refine Tr.val (W04 _ p0 ip0 ax8 x8.length cx8 x8 rx8 _  gx9) ?_
   refine And.intro (fun hc10 => ?_) (fun hc10 => ?_)
   ·have hc10 : ((!x9)) = true := hc10
    rw [if_pos hc10] at hM1
    have hE := Option.some.inj hM1; subst hE
    try dsimp only [A4, B4] at hM0
    have hE := Option.some.inj hM0; subst hE
    exact And.intro rfl sX3
   ·have hc10 : ((!x9)) = false := hc10
    rw [if_neg (K1 hc10)] at hM1
    refine And.intro rfl (And.intro (by first | exact trivial | exact And.intro rfl trivial | exact And.intro rfl (And.intro rfl trivial) | exact And.intro rfl (And.intro rfl (And.intro rfl trivial)) | exact And.intro rfl (And.intro rfl (And.intro rfl (And.intro rfl trivial)))) (And.intro (by first | exact trivial | exact And.intro rfl trivial | exact And.intro rfl (And.intro rfl trivial) | exact And.intro rfl (And.intro rfl (And.intro rfl trivial)) | exact And.intro rfl (And.intro rfl (And.intro rfl (And.intro rfl trivial)))) (Exists.intro m6 (And.intro ⟨(IntKind.i64.wrap (u4 + 1)), rfl, rfl, sX3, (U0 _), hM1⟩ (Nat.lt_succ_self _)))))
  ·have hc7 : ((decide (u4 < ((p1.length : Nat) : Int)))) = false := hc7
   rw [if_neg (K1 hc7)] at hM1
   have hE := Option.some.inj hM1; subst hE
   try dsimp only [J1, O1] at hM0
   obtain ⟨x11, gx11, hM0⟩ := j0 hM0
   refine Tr.val (p05 _ ap1 p1.length cp1 p1 (i5.mono sX3 rp1) _  gx11) ?_
   obtain ⟨q12, gq12, hM0⟩ := j0 hM0
   have ix11 : J0 x11 := J3 gq12
   have hE := Option.some.inj hM0; subst hE
   exact And.intro rfl sX3
theorem J00 (h : Hp) (csp0 : List Value) (p0 : M0) (rp0 : S0.R h csp0 p0) (r : Bool) (hM0 : W4 p0 = some r) :
  Tr Tryz.prog 95 #[.agg csp0.toArray] h fun v h' => v = .bool r ∧ h' = h := by
 obtain ⟨p0_0, ap0_1, np0_1, cp0_1, p0_1, rfl, rfl, ip0_0, rp0_1⟩ := D2 rp0
 obtain ⟨rfl, lp0_1⟩ := Sl.len rp0_1
 unfold W4 at hM0
 dsimp only at hM0
 refine Tr.forget (c3 (args := [.agg #[.int .i64 p0_0, .slice ap0_1 p0_1.length cp0_1]]) (fn := Tryz.f95) rfl ?_)
 obtain ⟨x1, gx1, hM0⟩ := j0 hM0
 refine Tr.val (a08 _ p0_0 ip0_0 ap0_1 p0_1.length cp0_1 p0_1 rp0_1 _  gx1) ?_
 refine And.intro (fun hc2 => ?_) (fun hc2 => ?_)
 ·have hc2 : ((!x1)) = true := hc2
  rw [if_pos hc2] at hM0
  have hE := Option.some.inj hM0; subst hE
  exact And.intro rfl (Sub.refl _)
 ·have hc2 : ((!x1)) = false := hc2
  rw [if_neg (K1 hc2)] at hM0
  obtain ⟨X3, hLX3, hM0⟩ := j0 hM0
  refine Exists.intro { vars := [14], boxes := [], owns := [], fuel := true } (Exists.intro (fun vs os h' => ∃ (u4 : Int), vs.tail = [.int .i64 u4] ∧ os = [] ∧ Sub h h' ∧ J0 u4 ∧ L3 p0_1 (I3 vs) u4 = some X3) (Exists.intro (fun _ _ => 0) ?_))
  refine And.intro (Exists.intro D1 ⟨0, rfl, rfl, (Sub.refl _), (c64 (by decide) (by decide)), hLX3⟩) ?_
  rintro v_0 m6 k5 ⟨u4, evX3, eoX3, sX3, iu4, hM1⟩
  cases evX3
  cases eoX3
  replace hM1 : L3 p0_1 m6 u4 = some X3 := hM1
  obtain _ | m6 := m6
  ·cases (show (none : Option _) = some X3 from hM1)
  rw [L6] at hM1
  refine And.intro (fun hc7 => ?_) (fun hc7 => ?_)
  ·have hc7 : ((decide (u4 < ((p0_1.length : Nat) : Int)))) = true := hc7
   rw [if_pos hc7] at hM1
   obtain ⟨x8, gx8, hM1⟩ := j0 hM1
   obtain ⟨bx8, csx8, ex8, rx8⟩ := Sl.getI (r := O2.toRp) (i5.mono sX3 rp0_1) gx8 (by decide)
   refine And.intro bx8 ?_
   obtain ⟨ax8, nx8, cx8, rfl⟩ := Wp.slice_cell rx8
   obtain ⟨rfl, lx8⟩ := Sl.len rx8
   refine Exists.intro _ (And.intro ex8 ?_)
   refine Or.inl (And.intro (And.intro (by kernel_rfl) (by kernel_rfl)) ?_)
   obtain ⟨x9, gx9, hM1⟩ := j0 hM1
   obtain ⟨csx9, ex9, rx9⟩ := Sl.getG (r := Wp.int.toRp) rx8 gx9 (by decide) (M07 k5)
   refine And.intro (fun q => (ex9 q).1) ?_
   obtain ⟨rfl, ix9⟩ := rx9
   refine Exists.intro _ (And.intro (fun q => (ex9 q).2) ?_)
   obtain ⟨x10, gx10, hM1⟩ := j0 hM1
   obtain ⟨csx10, ex10, rx10⟩ := Sl.getG (r := Wp.int.toRp) rx8 gx10 (by decide) (M07 k5)
   refine And.intro (fun q => (ex10 q).1) ?_
   obtain ⟨rfl, ix10⟩ := rx10
   refine Exists.intro _ (And.intro (fun q => (ex10 q).2) ?_)
   obtain ⟨x11, gx11, hM1⟩ := j0 hM1
   refine Exists.intro (.bool x11) (And.intro (fun q => q02 _ x9 ix9 x10 ix10 _  (U2 gx11 q)) ?_)
   refine And.intro (fun hc12 => ?_) (fun hc12 => ?_)
   ·have hc12 : ((bif (decide (((x8.length : Nat) : Int) = 0)) then true else x11)) = true := hc12
    rw [if_pos hc12] at hM1
    have hE := Option.some.inj hM1; subst hE
    try dsimp only [A4, B4] at hM0
    have hE := Option.some.inj hM0; subst hE
    exact And.intro rfl sX3
   ·have hc12 : ((bif (decide (((x8.length : Nat) : Int) = 0)) then true else x11)) = false := hc12
    rw [if_neg (K1 hc12)] at hM1
    refine And.intro rfl (And.intro (by first | exact trivial | exact And.intro rfl trivial | exact And.intro rfl (And.intro rfl trivial) | exact And.intro rfl (And.intro rfl (And.intro rfl trivial)) | exact And.intro rfl (And.intro rfl (And.intro rfl (And.intro rfl trivial)))) (And.intro (by first | exact trivial | exact And.intro rfl trivial | exact And.intro rfl (And.intro rfl trivial) | exact And.intro rfl (And.intro rfl (And.intro rfl trivial)) | exact And.intro rfl (And.intro rfl (And.intro rfl (And.intro rfl trivial)))) (Exists.intro m6 (And.intro ⟨(IntKind.i64.wrap (u4 + 1)), rfl, rfl, sX3, (U0 _), hM1⟩ (Nat.lt_succ_self _)))))
  ·have hc7 : ((decide (u4 < ((p0_1.length : Nat) : Int)))) = false := hc7
   rw [if_neg (K1 hc7)] at hM1
   have hE := Option.some.inj hM1; subst hE
   try dsimp only [J1, O1] at hM0
   have hE := Option.some.inj hM0; subst hE
   exact And.intro rfl sX3
theorem m00 (h : Hp) (p0 : Int) (ip0 : J0 p0) (p1 : Int) (ip1 : J0 p1) (r : Int) (hM0 : o5 p0 p1 = some r) :
  Tr Tryz.prog 223 #[.int .i64 p0, .int .i64 p1] h fun v h' => v = .int .i64 r ∧ h' = h := by
 unfold o5 at hM0
 refine Tr.forget (c3 (args := [.int .i64 p0, .int .i64 p1]) (fn := Tryz.f223) rfl ?_)
 refine And.intro (fun hc1 => ?_) (fun hc1 => ?_)
 ·have hc1 : ((decide (p0 < p1))) = true := hc1
  rw [if_pos hc1] at hM0
  have hE := Option.some.inj hM0; subst hE
  exact And.intro rfl (Sub.refl _)
 ·have hc1 : ((decide (p0 < p1))) = false := hc1
  rw [if_neg (K1 hc1)] at hM0
  refine And.intro (fun hc2 => ?_) (fun hc2 => ?_)
  ·have hc2 : ((decide (p0 > p1))) = true := hc2
   rw [if_pos hc2] at hM0
   have hE := Option.some.inj hM0; subst hE
   exact And.intro rfl (Sub.refl _)
  ·have hc2 : ((decide (p0 > p1))) = false := hc2
   rw [if_neg (K1 hc2)] at hM0
   have hE := Option.some.inj hM0; subst hE
   exact And.intro rfl (Sub.refl _)
end Go.Proofs.YtfdlgbfeceodeaaGreat
namespace Go.Proofs.YtfdlgbfeceodeaaGreat
open Go.H
set_option linter.unusedVariables false
set_option linter.unusedSimpArgs false
set_option maxRecDepth 10000
theorem X04 (h : Hp) (csp0 : List Value) (p0 : l0) (rp0 : P0.R h csp0 p0) (csp1 : List Value) (p1 : D0) (rp1 : N0.R h csp1 p1) (r : Bool) (hM0 : V7 p0 p1 = some r) :
  Tr Tryz.prog 148 #[.agg csp0.toArray, .agg csp1.toArray] h fun v h' => v = .bool r ∧ h' = h := by
 obtain ⟨p0_0, p0_1, ap0_2, np0_2, cp0_2, p0_2, rfl, rfl, ip0_0, ip0_1, rp0_2⟩ := B0 rp0
 obtain ⟨rfl, lp0_2⟩ := Sl.len rp0_2
 obtain ⟨p1_0, p1_1, p1_2, rfl, rfl, ip1_0, ip1_1, ip1_2⟩ := V0 rp1
 unfold V7 at hM0
 dsimp only at hM0
 refine Tr.forget (c3 (args := [.agg #[.int .i64 p0_0, .int .i64 p0_1, .slice ap0_2 p0_2.length cp0_2], .agg #[.int .i64 p1_0, .int .i64 p1_1, .int .i64 p1_2]]) (fn := Tryz.f148) rfl ?_)
 obtain ⟨x1, gx1, hM0⟩ := j0 hM0
 refine Tr.val (F6 _ p1_0 ip1_0 0 (c64 (by decide) (by decide)) (IntKind.i64.wrap (p0_1 - 1)) (U0 _) _  gx1) ?_
 obtain ⟨x2, gx2, hM0⟩ := j0 hM0
 refine Exists.intro (.bool x2) (And.intro (fun q => F6 _ p1_2 ip1_2 0 (c64 (by decide) (by decide)) (IntKind.i64.wrap (p0_1 - 1)) (U0 _) _  (U2 gx2 q)) ?_)
 obtain ⟨x3, gx3, hM0⟩ := j0 hM0
 refine Exists.intro (.bool x3) (And.intro (fun q => F6 _ p1_1 ip1_1 1 (c64 (by decide) (by decide)) p0_0 ip0_0 _  (U2 gx3 q)) ?_)
 have hE := Option.some.inj hM0; subst hE
 exact And.intro rfl (Sub.refl _)
theorem q01 (h : Hp) (csp0 : List Value) (p0 : D0) (rp0 : N0.R h csp0 p0) (csp1 : List Value) (p1 : D0) (rp1 : N0.R h csp1 p1) (r : Int) (hM0 : i4 p0 p1 = some r) :
  Tr Tryz.prog 199 #[.agg csp0.toArray, .agg csp1.toArray] h fun v h' => v = .int .i64 r ∧ h' = h := by
 obtain ⟨p0_0, p0_1, p0_2, rfl, rfl, ip0_0, ip0_1, ip0_2⟩ := V0 rp0
 obtain ⟨p1_0, p1_1, p1_2, rfl, rfl, ip1_0, ip1_1, ip1_2⟩ := V0 rp1
 unfold i4 at hM0
 dsimp only at hM0
 refine Tr.forget (c3 (args := [.agg #[.int .i64 p0_0, .int .i64 p0_1, .int .i64 p0_2], .agg #[.int .i64 p1_0, .int .i64 p1_1, .int .i64 p1_2]]) (fn := Tryz.f199) rfl ?_)
 obtain ⟨X1, hLX1, hM0⟩ := j0 hM0
 refine Exists.intro { vars := [7], boxes := [], owns := [], fuel := true } (Exists.intro (fun vs os h' => ∃ (u2 : Int), vs.tail = [.int .i64 u2] ∧ os = [] ∧ Sub h h' ∧ J0 u2 ∧ Y4 p0_0 p0_1 p0_2 p1_0 p1_1 p1_2 (I3 vs) u2 = some X1) (Exists.intro (fun _ _ => 0) ?_))
 refine And.intro (Exists.intro D1 ⟨0, rfl, rfl, (Sub.refl _), (c64 (by decide) (by decide)), hLX1⟩) ?_
 rintro v_0 m4 k3 ⟨u2, evX1, eoX1, sX1, iu2, hM1⟩
 cases evX1
 cases eoX1
 replace hM1 : Y4 p0_0 p0_1 p0_2 p1_0 p1_1 p1_2 m4 u2 = some X1 := hM1
 obtain _ | m4 := m4
 ·cases (show (none : Option _) = some X1 from hM1)
 rw [B9] at hM1
 refine And.intro (fun hc5 => ?_) (fun hc5 => ?_)
 ·have hc5 : ((decide (u2 < 3))) = true := hc5
  rw [if_pos hc5] at hM1
  refine Or.inl (And.intro (And.intro (by kernel_rfl) (by kernel_rfl)) ?_)
  obtain ⟨x6, gx6, hM1⟩ := j0 hM1
  obtain ⟨bx6, csx6, ex6, rx6⟩ := i08 (F2.up (r := Wp.int.toRp) sX1 (show F2 (Wp.int.R h) ([[.int .i64 p0_0], [.int .i64 p0_1], [.int .i64 p0_2]] : List (List Value)) [p0_0, p0_1, p0_2] from ⟨⟨rfl, ip0_0⟩, ⟨⟨rfl, ip0_1⟩, ⟨⟨rfl, ip0_2⟩, trivial⟩⟩⟩)) gx6
  refine And.intro bx6 ?_
  obtain ⟨rfl, ix6⟩ := rx6
  refine Exists.intro _ (And.intro ex6 ?_)
  obtain ⟨x7, gx7, hM1⟩ := j0 hM1
  obtain ⟨bx7, csx7, ex7, rx7⟩ := i08 (F2.up (r := Wp.int.toRp) sX1 (show F2 (Wp.int.R h) ([[.int .i64 p1_0], [.int .i64 p1_1], [.int .i64 p1_2]] : List (List Value)) [p1_0, p1_1, p1_2] from ⟨⟨rfl, ip1_0⟩, ⟨⟨rfl, ip1_1⟩, ⟨⟨rfl, ip1_2⟩, trivial⟩⟩⟩)) gx7
  refine And.intro bx7 ?_
  obtain ⟨rfl, ix7⟩ := rx7
  refine Exists.intro _ (And.intro ex7 ?_)
  refine And.intro (fun hc8 => ?_) (fun hc8 => ?_)
  ·have hc8 : ((decide (x6 < x7))) = true := hc8
   rw [if_pos hc8] at hM1
   have hE := Option.some.inj hM1; subst hE
   try dsimp only [A4, B4] at hM0
   have hE := Option.some.inj hM0; subst hE
   exact And.intro rfl sX1
  ·have hc8 : ((decide (x6 < x7))) = false := hc8
   rw [if_neg (K1 hc8)] at hM1
   refine Or.inl (And.intro (And.intro (by kernel_rfl) (by kernel_rfl)) ?_)
   obtain ⟨x9, gx9, hM1⟩ := j0 hM1
   obtain ⟨bx9, csx9, ex9, rx9⟩ := i08 (F2.up (r := Wp.int.toRp) sX1 (show F2 (Wp.int.R h) ([[.int .i64 p0_0], [.int .i64 p0_1], [.int .i64 p0_2]] : List (List Value)) [p0_0, p0_1, p0_2] from ⟨⟨rfl, ip0_0⟩, ⟨⟨rfl, ip0_1⟩, ⟨⟨rfl, ip0_2⟩, trivial⟩⟩⟩)) gx9
   refine And.intro bx9 ?_
   obtain ⟨rfl, ix9⟩ := rx9
   refine Exists.intro _ (And.intro ex9 ?_)
   obtain ⟨x10, gx10, hM1⟩ := j0 hM1
   obtain ⟨bx10, csx10, ex10, rx10⟩ := i08 (F2.up (r := Wp.int.toRp) sX1 (show F2 (Wp.int.R h) ([[.int .i64 p1_0], [.int .i64 p1_1], [.int .i64 p1_2]] : List (List Value)) [p1_0, p1_1, p1_2] from ⟨⟨rfl, ip1_0⟩, ⟨⟨rfl, ip1_1⟩, ⟨⟨rfl, ip1_2⟩, trivial⟩⟩⟩)) gx10
   refine And.intro bx10 ?_
   obtain ⟨rfl, ix10⟩ := rx10
   refine Exists.intro _ (And.intro ex10 ?_)
   refine And.intro (fun hc11 => ?_) (fun hc11 => ?_)
   ·have hc11 : ((decide (x9 > x10))) = true := hc11
    rw [if_pos hc11] at hM1
    have hE := Option.some.inj hM1; subst hE
    try dsimp only [A4, B4] at hM0
    have hE := Option.some.inj hM0; subst hE
    exact And.intro rfl sX1
   ·have hc11 : ((decide (x9 > x10))) = false := hc11
    rw [if_neg (K1 hc11)] at hM1
    refine And.intro rfl (And.intro (by first | exact trivial | exact And.intro rfl trivial | exact And.intro rfl (And.intro rfl trivial) | exact And.intro rfl (And.intro rfl (And.intro rfl trivial)) | exact And.intro rfl (And.intro rfl (And.intro rfl (And.intro rfl trivial)))) (And.intro (by first | exact trivial | exact And.intro rfl trivial | exact And.intro rfl (And.intro rfl trivial) | exact And.intro rfl (And.intro rfl (And.intro rfl trivial)) | exact And.intro rfl (And.intro rfl (And.intro rfl (And.intro rfl trivial)))) (Exists.intro m4 (And.intro ⟨(IntKind.i64.wrap (u2 + 1)), rfl, rfl, sX1, (U0 _), hM1⟩ (Nat.lt_succ_self _)))))
 ·have hc5 : ((decide (u2 < 3))) = false := hc5
  rw [if_neg (K1 hc5)] at hM1
  have hE := Option.some.inj hM1; subst hE
  try dsimp only [J1, O1] at hM0
  have hE := Option.some.inj hM0; subst hE
  exact And.intro rfl sX1
theorem t7 (h : Hp) (csp0 : List Value) (p0 : l0) (rp0 : P0.R h csp0 p0) (r : Bool) (hM0 : c4 p0 = some r) :
  Tr Tryz.prog 142 #[.agg csp0.toArray] h fun v h' => v = .bool r ∧ h' = h := by
 obtain ⟨p0_0, p0_1, ap0_2, np0_2, cp0_2, p0_2, rfl, rfl, ip0_0, ip0_1, rp0_2⟩ := B0 rp0
 obtain ⟨rfl, lp0_2⟩ := Sl.len rp0_2
 unfold c4 at hM0
 dsimp only at hM0
 refine Tr.forget (c3 (args := [.agg #[.int .i64 p0_0, .int .i64 p0_1, .slice ap0_2 p0_2.length cp0_2]]) (fn := Tryz.f142) rfl ?_)
 obtain ⟨X1, hLX1, hM0⟩ := j0 hM0
 refine Exists.intro { vars := [3], boxes := [], owns := [], fuel := true } (Exists.intro (fun vs os h' => ∃ (u2 : Int), vs.tail = [.int .i64 u2] ∧ os = [] ∧ Sub h h' ∧ J0 u2 ∧ V5 p0_2 p0_0 p0_1 (I3 vs) u2 = some X1) (Exists.intro (fun _ _ => 0) ?_))
 refine And.intro (Exists.intro D1 ⟨0, rfl, rfl, (Sub.refl _), (c64 (by decide) (by decide)), hLX1⟩) ?_
 rintro v_0 m4 k3 ⟨u2, evX1, eoX1, sX1, iu2, hM1⟩
 cases evX1
 cases eoX1
 replace hM1 : V5 p0_2 p0_0 p0_1 m4 u2 = some X1 := hM1
 obtain _ | m4 := m4
 ·cases (show (none : Option _) = some X1 from hM1)
 rw [Z8] at hM1
 refine And.intro (fun hc5 => ?_) (fun hc5 => ?_)
 ·have hc5 : ((decide (u2 < ((p0_2.length : Nat) : Int)))) = true := hc5
  rw [if_pos hc5] at hM1
  refine Or.inl (And.intro (And.intro (by kernel_rfl) (by kernel_rfl)) ?_)
  obtain ⟨x6, gx6, hM1⟩ := j0 hM1
  obtain ⟨bx6, csx6, ex6, rx6⟩ := Sl.getI (r := N0.toRp) (K0.mono sX1 rp0_2) gx6 (by decide)
  refine And.intro bx6 ?_
  obtain ⟨x6_0, x6_1, x6_2, rfl, rfl, ix6_0, ix6_1, ix6_2⟩ := V0 rx6
  dsimp only at hM1
  refine Exists.intro _ (And.intro ex6 ?_)
  obtain ⟨x7, gx7, hM1⟩ := j0 hM1
  refine Exists.intro (.bool x7) (And.intro (X04 _ [.int .i64 p0_0, .int .i64 p0_1, .slice ap0_2 p0_2.length cp0_2] (p0_0, p0_1, p0_2) (z0 ip0_0 ip0_1 (K0.mono sX1 rp0_2)) [.int .i64 x6_0, .int .i64 x6_1, .int .i64 x6_2] (x6_0, x6_1, x6_2) (O0 ix6_0 ix6_1 ix6_2) _  gx7) ?_)
  obtain ⟨x8, gx8, hM1⟩ := j0 hM1
  obtain ⟨csx8, ex8, rx8⟩ := Sl.getG (r := N0.toRp) (K0.mono sX1 rp0_2) gx8 (by decide) (F0d k3)
  refine And.intro (fun q => (ex8 q).1) ?_
  obtain ⟨x8_0, x8_1, x8_2, rfl, rfl, ix8_0, ix8_1, ix8_2⟩ := V0 rx8
  dsimp only at hM1
  refine Exists.intro _ (And.intro (fun q => (ex8 q).2) ?_)
  obtain ⟨x9, gx9, hM1⟩ := j0 hM1
  obtain ⟨csx9, ex9, rx9⟩ := Sl.getG (r := N0.toRp) (K0.mono sX1 rp0_2) gx9 (by decide) (F0d k3)
  refine And.intro (fun q => (ex9 q).1) ?_
  obtain ⟨x9_0, x9_1, x9_2, rfl, rfl, ix9_0, ix9_1, ix9_2⟩ := V0 rx9
  dsimp only at hM1
  refine Exists.intro _ (And.intro (fun q => (ex9 q).2) ?_)
  obtain ⟨x10, gx10, hM1⟩ := j0 hM1
  refine Exists.intro (.int .i64 x10) (And.intro (fun q => q01 _ [.int .i64 x8_0, .int .i64 x8_1, .int .i64 x8_2] (x8_0, x8_1, x8_2) (O0 ix8_0 ix8_1 ix8_2) [.int .i64 x9_0, .int .i64 x9_1, .int .i64 x9_2] (x9_0, x9_1, x9_2) (O0 ix9_0 ix9_1 ix9_2) _  (U2 gx10 q)) ?_)
  obtain ⟨q11, gq11, hM1⟩ := j0 hM1
  have ix10 : J0 x10 := J3 gq11
  refine And.intro (fun hc12 => ?_) (fun hc12 => ?_)
  ·have hc12 : ((bif (!x7) then true else (bif (decide (u2 > 0)) then (decide (x10 ≥ 0)) else false))) = true := hc12
   rw [if_pos hc12] at hM1
   have hE := Option.some.inj hM1; subst hE
   try dsimp only [A4, B4] at hM0
   have hE := Option.some.inj hM0; subst hE
   exact And.intro rfl sX1
  ·have hc12 : ((bif (!x7) then true else (bif (decide (u2 > 0)) then (decide (x10 ≥ 0)) else false))) = false := hc12
   rw [if_neg (K1 hc12)] at hM1
   refine And.intro rfl (And.intro (by first | exact trivial | exact And.intro rfl trivial | exact And.intro rfl (And.intro rfl trivial) | exact And.intro rfl (And.intro rfl (And.intro rfl trivial)) | exact And.intro rfl (And.intro rfl (And.intro rfl (And.intro rfl trivial)))) (And.intro (by first | exact trivial | exact And.intro rfl trivial | exact And.intro rfl (And.intro rfl trivial) | exact And.intro rfl (And.intro rfl (And.intro rfl trivial)) | exact And.intro rfl (And.intro rfl (And.intro rfl (And.intro rfl trivial)))) (Exists.intro m4 (And.intro ⟨(IntKind.i64.wrap (u2 + 1)), rfl, rfl, sX1, (U0 _), hM1⟩ (Nat.lt_succ_self _)))))
 ·have hc5 : ((decide (u2 < ((p0_2.length : Nat) : Int)))) = false := hc5
  rw [if_neg (K1 hc5)] at hM1
  have hE := Option.some.inj hM1; subst hE
  try dsimp only [J1, O1] at hM0
  obtain ⟨x13, gx13, hM0⟩ := j0 hM0
  refine Tr.val (F6 _ p0_0 ip0_0 1 (c64 (by decide) (by decide)) 3 (c64 (by decide) (by decide)) _  gx13) ?_
  obtain ⟨x14, gx14, hM0⟩ := j0 hM0
  refine Exists.intro (.bool x14) (And.intro (fun q => F6 _ p0_1 ip0_1 1 (c64 (by decide) (by decide)) 40 (c64 (by decide) (by decide)) _  (U2 gx14 q)) ?_)
  have hE := Option.some.inj hM0; subst hE
  exact And.intro rfl sX1
theorem M9 (h : Hp) (csp0 : List Value) (p0 : l0) (rp0 : P0.R h csp0 p0) (p1 : Int) (ip1 : J0 p1) (r : Bool) (hM0 : J4 p0 p1 = some r) :
  Tr Tryz.prog 153 #[.agg csp0.toArray, .int .i64 p1] h fun v h' => v = .bool r ∧ h' = h := by
 obtain ⟨p0_0, p0_1, ap0_2, np0_2, cp0_2, p0_2, rfl, rfl, ip0_0, ip0_1, rp0_2⟩ := B0 rp0
 obtain ⟨rfl, lp0_2⟩ := Sl.len rp0_2
 unfold J4 at hM0
 dsimp only at hM0
 refine Tr.forget (c3 (args := [.agg #[.int .i64 p0_0, .int .i64 p0_1, .slice ap0_2 p0_2.length cp0_2], .int .i64 p1]) (fn := Tryz.f153) rfl ?_)
 obtain ⟨x1, gx1, hM0⟩ := j0 hM0
 refine Tr.val (a8 _ p1 ip1 0 (c64 (by decide) (by decide)) (IntKind.i64.wrap (p0_1 - 1)) (U0 _) _  gx1) ?_
 have hE := Option.some.inj hM0; subst hE
 exact And.intro rfl (Sub.refl _)
theorem k01 (h : Hp) (csp0 : List Value) (p0 : l0) (rp0 : P0.R h csp0 p0) (csp1 : List Value) (p1 : D0) (rp1 : N0.R h csp1 p1) (r : Bool) (hM0 : D4 p0 p1 = some r) :
  Tr Tryz.prog 158 #[.agg csp0.toArray, .agg csp1.toArray] h fun v h' => v = .bool r ∧ h' = h := by
 obtain ⟨p0_0, p0_1, ap0_2, np0_2, cp0_2, p0_2, rfl, rfl, ip0_0, ip0_1, rp0_2⟩ := B0 rp0
 obtain ⟨rfl, lp0_2⟩ := Sl.len rp0_2
 obtain ⟨p1_0, p1_1, p1_2, rfl, rfl, ip1_0, ip1_1, ip1_2⟩ := V0 rp1
 unfold D4 at hM0
 dsimp only at hM0
 refine Tr.forget (c3 (args := [.agg #[.int .i64 p0_0, .int .i64 p0_1, .slice ap0_2 p0_2.length cp0_2], .agg #[.int .i64 p1_0, .int .i64 p1_1, .int .i64 p1_2]]) (fn := Tryz.f158) rfl ?_)
 obtain ⟨x1, gx1, hM0⟩ := j0 hM0
 refine Tr.val (M9 _ [.int .i64 p0_0, .int .i64 p0_1, .slice ap0_2 p0_2.length cp0_2] (p0_0, p0_1, p0_2) (z0 ip0_0 ip0_1 rp0_2) p1_0 ip1_0 _  gx1) ?_
 obtain ⟨x2, gx2, hM0⟩ := j0 hM0
 refine Exists.intro (.bool x2) (And.intro (fun q => M9 _ [.int .i64 p0_0, .int .i64 p0_1, .slice ap0_2 p0_2.length cp0_2] (p0_0, p0_1, p0_2) (z0 ip0_0 ip0_1 rp0_2) p1_2 ip1_2 _  (U2 gx2 q)) ?_)
 obtain ⟨x3, gx3, hM0⟩ := j0 hM0
 refine Exists.intro (.bool x3) (And.intro (fun q => a8 _ p1_1 ip1_1 1 (c64 (by decide) (by decide)) p0_0 ip0_0 _  (U2 gx3 q)) ?_)
 have hE := Option.some.inj hM0; subst hE
 exact And.intro rfl (Sub.refl _)
theorem r01 (h : Hp) (csp0 : List Value) (p0 : D0) (rp0 : N0.R h csp0 p0) (csp1 : List Value) (p1 : D0) (rp1 : N0.R h csp1 p1) (r : Int) (hM0 : K5 p0 p1 = some r) :
  Tr Tryz.prog 204 #[.agg csp0.toArray, .agg csp1.toArray] h fun v h' => v = .int .i64 r ∧ h' = h := by
 obtain ⟨p0_0, p0_1, p0_2, rfl, rfl, ip0_0, ip0_1, ip0_2⟩ := V0 rp0
 obtain ⟨p1_0, p1_1, p1_2, rfl, rfl, ip1_0, ip1_1, ip1_2⟩ := V0 rp1
 unfold K5 at hM0
 dsimp only at hM0
 refine Tr.forget (c3 (args := [.agg #[.int .i64 p0_0, .int .i64 p0_1, .int .i64 p0_2], .agg #[.int .i64 p1_0, .int .i64 p1_1, .int .i64 p1_2]]) (fn := Tryz.f204) rfl ?_)
 obtain ⟨x1, gx1, hM0⟩ := j0 hM0
 refine Tr.val (m00 _ p0_0 ip0_0 p1_0 ip1_0 _  gx1) ?_
 obtain ⟨q2, gq2, hM0⟩ := j0 hM0
 have ix1 : J0 x1 := J3 gq2
 refine And.intro (fun hc3 => ?_) (fun hc3 => ?_)
 ·have hc3 : ((!decide (x1 = 0))) = true := hc3
  rw [if_pos hc3] at hM0
  have hE := Option.some.inj hM0; subst hE
  exact And.intro rfl (Sub.refl _)
 ·have hc3 : ((!decide (x1 = 0))) = false := hc3
  rw [if_neg (K1 hc3)] at hM0
  obtain ⟨x4, gx4, hM0⟩ := j0 hM0
  refine Tr.val (m00 _ p0_1 ip0_1 p1_1 ip1_1 _  gx4) ?_
  obtain ⟨q5, gq5, hM0⟩ := j0 hM0
  have ix4 : J0 x4 := J3 gq5
  refine And.intro (fun hc6 => ?_) (fun hc6 => ?_)
  ·have hc6 : ((!decide (x4 = 0))) = true := hc6
   rw [if_pos hc6] at hM0
   have hE := Option.some.inj hM0; subst hE
   exact And.intro rfl (Sub.refl _)
  ·have hc6 : ((!decide (x4 = 0))) = false := hc6
   rw [if_neg (K1 hc6)] at hM0
   obtain ⟨x7, gx7, hM0⟩ := j0 hM0
   refine Tr.val (m00 _ p0_2 ip0_2 p1_2 ip1_2 _  gx7) ?_
   obtain ⟨q8, gq8, hM0⟩ := j0 hM0
   have ix7 : J0 x7 := J3 gq8
   have hE := Option.some.inj hM0; subst hE
   exact And.intro rfl (Sub.refl _)
theorem z8 (h : Hp) (csp0 : List Value) (p0 : l0) (rp0 : P0.R h csp0 p0) (r : Bool) (hM0 : j5 p0 = some r) :
  Tr Tryz.prog 151 #[.agg csp0.toArray] h fun v h' => v = .bool r ∧ h' = h := by
 obtain ⟨p0_0, p0_1, ap0_2, np0_2, cp0_2, p0_2, rfl, rfl, ip0_0, ip0_1, rp0_2⟩ := B0 rp0
 obtain ⟨rfl, lp0_2⟩ := Sl.len rp0_2
 unfold j5 at hM0
 dsimp only at hM0
 refine Tr.forget (c3 (args := [.agg #[.int .i64 p0_0, .int .i64 p0_1, .slice ap0_2 p0_2.length cp0_2]]) (fn := Tryz.f151) rfl ?_)
 obtain ⟨x1, gx1, hM0⟩ := j0 hM0
 refine Tr.val (a8 _ p0_0 ip0_0 1 (c64 (by decide) (by decide)) 3 (c64 (by decide) (by decide)) _  gx1) ?_
 obtain ⟨x2, gx2, hM0⟩ := j0 hM0
 refine Exists.intro (.bool x2) (And.intro (fun q => a8 _ p0_1 ip0_1 1 (c64 (by decide) (by decide)) 40 (c64 (by decide) (by decide)) _  (U2 gx2 q)) ?_)
 refine And.intro (fun hc3 => ?_) (fun hc3 => ?_)
 ·have hc3 : ((bif (bif (!x1) then true else (!x2)) then true else (decide (((p0_2.length : Nat) : Int) > 120)))) = true := hc3
  rw [if_pos hc3] at hM0
  have hE := Option.some.inj hM0; subst hE
  exact And.intro rfl (Sub.refl _)
 ·have hc3 : ((bif (bif (!x1) then true else (!x2)) then true else (decide (((p0_2.length : Nat) : Int) > 120)))) = false := hc3
  rw [if_neg (K1 hc3)] at hM0
  obtain ⟨X4, hLX4, hM0⟩ := j0 hM0
  refine Exists.intro { vars := [24], boxes := [], owns := [], fuel := true } (Exists.intro (fun vs os h' => ∃ (u5 : Int), vs.tail = [.int .i64 u5] ∧ os = [] ∧ Sub h h' ∧ J0 u5 ∧ W5 p0_2 p0_0 p0_1 (I3 vs) u5 = some X4) (Exists.intro (fun _ _ => 0) ?_))
  refine And.intro (Exists.intro D1 ⟨0, rfl, rfl, (Sub.refl _), (c64 (by decide) (by decide)), hLX4⟩) ?_
  rintro v_0 m7 k6 ⟨u5, evX4, eoX4, sX4, iu5, hM1⟩
  cases evX4
  cases eoX4
  replace hM1 : W5 p0_2 p0_0 p0_1 m7 u5 = some X4 := hM1
  obtain _ | m7 := m7
  ·cases (show (none : Option _) = some X4 from hM1)
  rw [a9] at hM1
  refine And.intro (fun hc8 => ?_) (fun hc8 => ?_)
  ·have hc8 : ((decide (u5 < ((p0_2.length : Nat) : Int)))) = true := hc8
   rw [if_pos hc8] at hM1
   obtain ⟨x9, gx9, hM1⟩ := j0 hM1
   obtain ⟨bx9, csx9, ex9, rx9⟩ := Sl.getI (r := N0.toRp) (K0.mono sX4 rp0_2) gx9 (by decide)
   refine And.intro bx9 ?_
   obtain ⟨x9_0, x9_1, x9_2, rfl, rfl, ix9_0, ix9_1, ix9_2⟩ := V0 rx9
   dsimp only at hM1
   refine Exists.intro _ (And.intro ex9 ?_)
   refine Or.inl (And.intro (And.intro (by kernel_rfl) (by kernel_rfl)) ?_)
   obtain ⟨x10, gx10, hM1⟩ := j0 hM1
   refine Exists.intro (.bool x10) (And.intro (k01 _ [.int .i64 p0_0, .int .i64 p0_1, .slice ap0_2 p0_2.length cp0_2] (p0_0, p0_1, p0_2) (z0 ip0_0 ip0_1 (K0.mono sX4 rp0_2)) [.int .i64 x9_0, .int .i64 x9_1, .int .i64 x9_2] (x9_0, x9_1, x9_2) (O0 ix9_0 ix9_1 ix9_2) _  gx10) ?_)
   obtain ⟨x11, gx11, hM1⟩ := j0 hM1
   obtain ⟨csx11, ex11, rx11⟩ := Sl.getG (r := N0.toRp) (K0.mono sX4 rp0_2) gx11 (by decide) (F0d k6)
   refine And.intro (fun q => (ex11 q).1) ?_
   obtain ⟨x11_0, x11_1, x11_2, rfl, rfl, ix11_0, ix11_1, ix11_2⟩ := V0 rx11
   dsimp only at hM1
   refine Exists.intro _ (And.intro (fun q => (ex11 q).2) ?_)
   obtain ⟨x12, gx12, hM1⟩ := j0 hM1
   refine Exists.intro (.int .i64 x12) (And.intro (fun q => r01 _ [.int .i64 x11_0, .int .i64 x11_1, .int .i64 x11_2] (x11_0, x11_1, x11_2) (O0 ix11_0 ix11_1 ix11_2) [.int .i64 x9_0, .int .i64 x9_1, .int .i64 x9_2] (x9_0, x9_1, x9_2) (O0 ix9_0 ix9_1 ix9_2) _  (U2 gx12 q)) ?_)
   obtain ⟨q13, gq13, hM1⟩ := j0 hM1
   have ix12 : J0 x12 := J3 gq13
   refine And.intro (fun hc14 => ?_) (fun hc14 => ?_)
   ·have hc14 : ((bif (!x10) then true else (bif (decide (u5 > 0)) then (decide (x12 ≥ 0)) else false))) = true := hc14
    rw [if_pos hc14] at hM1
    have hE := Option.some.inj hM1; subst hE
    try dsimp only [A4, B4] at hM0
    have hE := Option.some.inj hM0; subst hE
    exact And.intro rfl sX4
   ·have hc14 : ((bif (!x10) then true else (bif (decide (u5 > 0)) then (decide (x12 ≥ 0)) else false))) = false := hc14
    rw [if_neg (K1 hc14)] at hM1
    refine And.intro rfl (And.intro (by first | exact trivial | exact And.intro rfl trivial | exact And.intro rfl (And.intro rfl trivial) | exact And.intro rfl (And.intro rfl (And.intro rfl trivial)) | exact And.intro rfl (And.intro rfl (And.intro rfl (And.intro rfl trivial)))) (And.intro (by first | exact trivial | exact And.intro rfl trivial | exact And.intro rfl (And.intro rfl trivial) | exact And.intro rfl (And.intro rfl (And.intro rfl trivial)) | exact And.intro rfl (And.intro rfl (And.intro rfl (And.intro rfl trivial)))) (Exists.intro m7 (And.intro ⟨(IntKind.i64.wrap (u5 + 1)), rfl, rfl, sX4, (U0 _), hM1⟩ (Nat.lt_succ_self _)))))
  ·have hc8 : ((decide (u5 < ((p0_2.length : Nat) : Int)))) = false := hc8
   rw [if_neg (K1 hc8)] at hM1
   have hE := Option.some.inj hM1; subst hE
   try dsimp only [J1, O1] at hM0
   have hE := Option.some.inj hM0; subst hE
   exact And.intro rfl sX4
end Go.Proofs.YtfdlgbfeceodeaaGreat
namespace Go.Proofs.YtfdlgbfeceodeaaGreat
open Go.H
set_option linter.unusedVariables false
set_option linter.unusedSimpArgs false
set_option maxRecDepth 10000
theorem v03 (h : Hp) (ap0 : Option Addr) (np0 cp0 : Nat) (p0 : U1) (rp0 : O2.R h [.slice ap0 np0 cp0] p0) (p1 : Int) (ip1 : J0 p1) (r : U1) (hM0 : o6 p0 p1 = some r) :
  Tr Tryz.prog 222 #[.slice ap0 np0 cp0, .int .i64 p1] h fun v h' => ∃ (a0 : Option Addr) (n0 c0 : Nat), v = .slice a0 n0 c0 ∧ O2.R h' [.slice a0 n0 c0] r ∧ Sub h h' := by
 obtain ⟨rfl, lp0⟩ := Sl.len rp0
 unfold o6 at hM0
 refine c3 (args := [.slice ap0 p0.length cp0, .int .i64 p1]) (fn := Tryz.f222) rfl ?_
 obtain ⟨X1, hLX1, hM0⟩ := j0 hM0
 refine Exists.intro { vars := [6, 7], boxes := [], owns := [0], fuel := true } (Exists.intro (fun vs os h' => ∃ (u2 : Bool) (u3 : Int) (wu4 : List (List Value)) (u4 : List Int), vs.tail = [.bool u2, .int .i64 u3] ∧ os = [wu4] ∧ Sub h h' ∧ J0 u3 ∧ F2 (Wp.int.R h') wu4 u4 ∧ A3 p0 p1 (I3 vs) u2 u3 u4 = some X1) (Exists.intro (fun _ _ => 0) ?_))
 refine And.intro (Exists.intro D1 ⟨false, 0, [], ([] : U1), rfl, rfl, (Sub.refl _), (c64 (by decide) (by decide)), (show F2 (Wp.int.R h) ([] : List (List Value)) ([] : U1) from trivial), hLX1⟩) ?_
 rintro v_0 v_1 wu4 m6 k5 ⟨u2, u3, zzu4, u4, evX1, eoX1, sX1, iu3, fu4, hM1⟩
 cases evX1
 cases eoX1
 replace hM1 : A3 p0 p1 m6 u2 u3 u4 = some X1 := hM1
 obtain _ | m6 := m6
 ·cases (show (none : Option _) = some X1 from hM1)
 rw [N6] at hM1
 refine And.intro (fun hc7 => ?_) (fun hc7 => ?_)
 ·have hc7 : ((decide (u3 < ((p0.length : Nat) : Int)))) = true := hc7
  rw [if_pos hc7] at hM1
  obtain ⟨x8, gx8, hM1⟩ := j0 hM1
  obtain ⟨bx8, csx8, ex8, rx8⟩ := Sl.getI (r := Wp.int.toRp) (O2.mono sX1 rp0) gx8 (by decide)
  refine And.intro bx8 ?_
  obtain ⟨rfl, ix8⟩ := rx8
  refine Exists.intro _ (And.intro ex8 ?_)
  refine And.intro (fun hc9 => ?_) (fun hc9 => ?_)
  ·have hc9 : ((decide (x8 = p1))) = true := hc9
   rw [if_pos hc9] at hM1
   obtain ⟨x10, gx10, hM1⟩ := j0 hM1
   obtain ⟨bx10, csx10, ex10, rx10⟩ := Sl.getI (r := Wp.int.toRp) (O2.mono sX1 rp0) gx10 (by decide)
   refine And.intro bx10 ?_
   obtain ⟨rfl, ix10⟩ := rx10
   refine Exists.intro _ (And.intro ex10 ?_)
   refine And.intro (fun hc11 => ?_) (fun hc11 => ?_)
   ·have hc11 : ((bif (decide (x10 > p1)) then (!true) else false)) = true := hc11
    rw [if_pos hc11] at hM1
    obtain ⟨q12, gq12, hM1⟩ := j0 hM1
    refine And.intro (j3 gq12 (by first | rw [F2.length fu4, F2.length (show F2 (Wp.int.R k5) ([[.int .i64 p1]] : List (List Value)) [p1] from ⟨⟨rfl, ip1⟩, trivial⟩)] | exact congrArg (· + 1) (F2.length fu4))) ?_
    obtain ⟨x13, gx13, hM1⟩ := j0 hM1
    obtain ⟨bx13, csx13, ex13, rx13⟩ := Sl.getI (r := Wp.int.toRp) (O2.mono sX1 rp0) gx13 (by decide)
    refine And.intro bx13 ?_
    obtain ⟨rfl, ix13⟩ := rx13
    refine Exists.intro _ (And.intro ex13 ?_)
    obtain ⟨q14, gq14, hM1⟩ := j0 hM1
    refine And.intro (j3 gq14 (by first | rw [F2.length (F2.append fu4 (show F2 (Wp.int.R k5) ([[.int .i64 p1]] : List (List Value)) [p1] from ⟨⟨rfl, ip1⟩, trivial⟩)), F2.length (show F2 (Wp.int.R k5) ([[.int .i64 x13]] : List (List Value)) [x13] from ⟨⟨rfl, ix13⟩, trivial⟩)] | exact congrArg (· + 1) (F2.length (F2.append fu4 (show F2 (Wp.int.R k5) ([[.int .i64 p1]] : List (List Value)) [p1] from ⟨⟨rfl, ip1⟩, trivial⟩))))) ?_
    refine And.intro rfl (And.intro (by first | exact trivial | exact And.intro rfl trivial | exact And.intro rfl (And.intro rfl trivial) | exact And.intro rfl (And.intro rfl (And.intro rfl trivial)) | exact And.intro rfl (And.intro rfl (And.intro rfl (And.intro rfl trivial)))) (And.intro (by first | exact trivial | exact And.intro rfl trivial | exact And.intro rfl (And.intro rfl trivial) | exact And.intro rfl (And.intro rfl (And.intro rfl trivial)) | exact And.intro rfl (And.intro rfl (And.intro rfl (And.intro rfl trivial)))) (Exists.intro m6 (And.intro ⟨true, (IntKind.i64.wrap (u3 + 1)), ((wu4 ++ ([[.int .i64 p1]] : List (List Value))) ++ ([[.int .i64 x13]] : List (List Value))), ((u4 ++ [p1]) ++ [x13]), rfl, rfl, sX1, (U0 _), (F2.append (F2.append fu4 (show F2 (Wp.int.R k5) ([[.int .i64 p1]] : List (List Value)) [p1] from ⟨⟨rfl, ip1⟩, trivial⟩)) (show F2 (Wp.int.R k5) ([[.int .i64 x13]] : List (List Value)) [x13] from ⟨⟨rfl, ix13⟩, trivial⟩)), hM1⟩ (Nat.lt_succ_self _)))))
   ·have hc11 : ((bif (decide (x10 > p1)) then (!true) else false)) = false := hc11
    rw [if_neg (K1 hc11)] at hM1
    obtain ⟨x15, gx15, hM1⟩ := j0 hM1
    obtain ⟨bx15, csx15, ex15, rx15⟩ := Sl.getI (r := Wp.int.toRp) (O2.mono sX1 rp0) gx15 (by decide)
    refine And.intro bx15 ?_
    obtain ⟨rfl, ix15⟩ := rx15
    refine Exists.intro _ (And.intro ex15 ?_)
    obtain ⟨q16, gq16, hM1⟩ := j0 hM1
    refine And.intro (j3 gq16 (by first | rw [F2.length fu4, F2.length (show F2 (Wp.int.R k5) ([[.int .i64 x15]] : List (List Value)) [x15] from ⟨⟨rfl, ix15⟩, trivial⟩)] | exact congrArg (· + 1) (F2.length fu4))) ?_
    refine And.intro rfl (And.intro (by first | exact trivial | exact And.intro rfl trivial | exact And.intro rfl (And.intro rfl trivial) | exact And.intro rfl (And.intro rfl (And.intro rfl trivial)) | exact And.intro rfl (And.intro rfl (And.intro rfl (And.intro rfl trivial)))) (And.intro (by first | exact trivial | exact And.intro rfl trivial | exact And.intro rfl (And.intro rfl trivial) | exact And.intro rfl (And.intro rfl (And.intro rfl trivial)) | exact And.intro rfl (And.intro rfl (And.intro rfl (And.intro rfl trivial)))) (Exists.intro m6 (And.intro ⟨true, (IntKind.i64.wrap (u3 + 1)), (wu4 ++ ([[.int .i64 x15]] : List (List Value))), (u4 ++ [x15]), rfl, rfl, sX1, (U0 _), (F2.append fu4 (show F2 (Wp.int.R k5) ([[.int .i64 x15]] : List (List Value)) [x15] from ⟨⟨rfl, ix15⟩, trivial⟩)), hM1⟩ (Nat.lt_succ_self _)))))
  ·have hc9 : ((decide (x8 = p1))) = false := hc9
   rw [if_neg (K1 hc9)] at hM1
   obtain ⟨x17, gx17, hM1⟩ := j0 hM1
   obtain ⟨bx17, csx17, ex17, rx17⟩ := Sl.getI (r := Wp.int.toRp) (O2.mono sX1 rp0) gx17 (by decide)
   refine And.intro bx17 ?_
   obtain ⟨rfl, ix17⟩ := rx17
   refine Exists.intro _ (And.intro ex17 ?_)
   refine And.intro (fun hc18 => ?_) (fun hc18 => ?_)
   ·have hc18 : ((bif (decide (x17 > p1)) then (!u2) else false)) = true := hc18
    rw [if_pos hc18] at hM1
    obtain ⟨q19, gq19, hM1⟩ := j0 hM1
    refine And.intro (j3 gq19 (by first | rw [F2.length fu4, F2.length (show F2 (Wp.int.R k5) ([[.int .i64 p1]] : List (List Value)) [p1] from ⟨⟨rfl, ip1⟩, trivial⟩)] | exact congrArg (· + 1) (F2.length fu4))) ?_
    obtain ⟨x20, gx20, hM1⟩ := j0 hM1
    obtain ⟨bx20, csx20, ex20, rx20⟩ := Sl.getI (r := Wp.int.toRp) (O2.mono sX1 rp0) gx20 (by decide)
    refine And.intro bx20 ?_
    obtain ⟨rfl, ix20⟩ := rx20
    refine Exists.intro _ (And.intro ex20 ?_)
    obtain ⟨q21, gq21, hM1⟩ := j0 hM1
    refine And.intro (j3 gq21 (by first | rw [F2.length (F2.append fu4 (show F2 (Wp.int.R k5) ([[.int .i64 p1]] : List (List Value)) [p1] from ⟨⟨rfl, ip1⟩, trivial⟩)), F2.length (show F2 (Wp.int.R k5) ([[.int .i64 x20]] : List (List Value)) [x20] from ⟨⟨rfl, ix20⟩, trivial⟩)] | exact congrArg (· + 1) (F2.length (F2.append fu4 (show F2 (Wp.int.R k5) ([[.int .i64 p1]] : List (List Value)) [p1] from ⟨⟨rfl, ip1⟩, trivial⟩))))) ?_
    refine And.intro rfl (And.intro (by first | exact trivial | exact And.intro rfl trivial | exact And.intro rfl (And.intro rfl trivial) | exact And.intro rfl (And.intro rfl (And.intro rfl trivial)) | exact And.intro rfl (And.intro rfl (And.intro rfl (And.intro rfl trivial)))) (And.intro (by first | exact trivial | exact And.intro rfl trivial | exact And.intro rfl (And.intro rfl trivial) | exact And.intro rfl (And.intro rfl (And.intro rfl trivial)) | exact And.intro rfl (And.intro rfl (And.intro rfl (And.intro rfl trivial)))) (Exists.intro m6 (And.intro ⟨true, (IntKind.i64.wrap (u3 + 1)), ((wu4 ++ ([[.int .i64 p1]] : List (List Value))) ++ ([[.int .i64 x20]] : List (List Value))), ((u4 ++ [p1]) ++ [x20]), rfl, rfl, sX1, (U0 _), (F2.append (F2.append fu4 (show F2 (Wp.int.R k5) ([[.int .i64 p1]] : List (List Value)) [p1] from ⟨⟨rfl, ip1⟩, trivial⟩)) (show F2 (Wp.int.R k5) ([[.int .i64 x20]] : List (List Value)) [x20] from ⟨⟨rfl, ix20⟩, trivial⟩)), hM1⟩ (Nat.lt_succ_self _)))))
   ·have hc18 : ((bif (decide (x17 > p1)) then (!u2) else false)) = false := hc18
    rw [if_neg (K1 hc18)] at hM1
    obtain ⟨x22, gx22, hM1⟩ := j0 hM1
    obtain ⟨bx22, csx22, ex22, rx22⟩ := Sl.getI (r := Wp.int.toRp) (O2.mono sX1 rp0) gx22 (by decide)
    refine And.intro bx22 ?_
    obtain ⟨rfl, ix22⟩ := rx22
    refine Exists.intro _ (And.intro ex22 ?_)
    obtain ⟨q23, gq23, hM1⟩ := j0 hM1
    refine And.intro (j3 gq23 (by first | rw [F2.length fu4, F2.length (show F2 (Wp.int.R k5) ([[.int .i64 x22]] : List (List Value)) [x22] from ⟨⟨rfl, ix22⟩, trivial⟩)] | exact congrArg (· + 1) (F2.length fu4))) ?_
    refine And.intro rfl (And.intro (by first | exact trivial | exact And.intro rfl trivial | exact And.intro rfl (And.intro rfl trivial) | exact And.intro rfl (And.intro rfl (And.intro rfl trivial)) | exact And.intro rfl (And.intro rfl (And.intro rfl (And.intro rfl trivial)))) (And.intro (by first | exact trivial | exact And.intro rfl trivial | exact And.intro rfl (And.intro rfl trivial) | exact And.intro rfl (And.intro rfl (And.intro rfl trivial)) | exact And.intro rfl (And.intro rfl (And.intro rfl (And.intro rfl trivial)))) (Exists.intro m6 (And.intro ⟨u2, (IntKind.i64.wrap (u3 + 1)), (wu4 ++ ([[.int .i64 x22]] : List (List Value))), (u4 ++ [x22]), rfl, rfl, sX1, (U0 _), (F2.append fu4 (show F2 (Wp.int.R k5) ([[.int .i64 x22]] : List (List Value)) [x22] from ⟨⟨rfl, ix22⟩, trivial⟩)), hM1⟩ (Nat.lt_succ_self _)))))
 ·have hc7 : ((decide (u3 < ((p0.length : Nat) : Int)))) = false := hc7
  rw [if_neg (K1 hc7)] at hM1
  have hE := Option.some.inj hM1; subst hE
  try dsimp only [J1, O1] at hM0
  refine And.intro (fun hc24 => ?_) (fun hc24 => ?_)
  ·have hc24 : ((!u2)) = true := hc24
   rw [if_pos hc24] at hM0
   obtain ⟨q25, gq25, hM0⟩ := j0 hM0
   refine And.intro (j3 gq25 (by first | rw [F2.length fu4, F2.length (show F2 (Wp.int.R k5) ([[.int .i64 p1]] : List (List Value)) [p1] from ⟨⟨rfl, ip1⟩, trivial⟩)] | exact congrArg (· + 1) (F2.length fu4))) ?_
   intro v26 k27 f28
   obtain ⟨az29, cz29, rfl, rz29, sz29, lz29⟩ := E1.out (r := Wp.int.toRp) f28 (F2.append fu4 (show F2 (Wp.int.R k5) ([[.int .i64 p1]] : List (List Value)) [p1] from ⟨⟨rfl, ip1⟩, trivial⟩))
   have hE := Option.some.inj hM0; subst hE
   exact ⟨az29, ((u4 ++ [p1])).length, cz29, rfl, rz29, (sX1.trans sz29)⟩
  ·have hc24 : ((!u2)) = false := hc24
   rw [if_neg (K1 hc24)] at hM0
   intro v30 k31 f32
   obtain ⟨az33, cz33, rfl, rz33, sz33, lz33⟩ := E1.out (r := Wp.int.toRp) f32 fu4
   have hE := Option.some.inj hM0; subst hE
   exact ⟨az33, u4.length, cz33, rfl, rz33, (sX1.trans sz33)⟩
theorem o07 (h : Hp) (csp0 : List Value) (p0 : l0) (rp0 : P0.R h csp0 p0) (p1 : Int) (ip1 : J0 p1) (p2 : Int) (ip2 : J0 p2) (r : U1) (hM0 : j8 p0 p1 p2 = some r) :
  Tr Tryz.prog 202 #[.agg csp0.toArray, .int .i64 p1, .int .i64 p2] h fun v h' => ∃ (a0 : Option Addr) (n0 c0 : Nat), v = .slice a0 n0 c0 ∧ O2.R h' [.slice a0 n0 c0] r ∧ Sub h h' := by
 obtain ⟨p0_0, p0_1, ap0_2, np0_2, cp0_2, p0_2, rfl, rfl, ip0_0, ip0_1, rp0_2⟩ := B0 rp0
 obtain ⟨rfl, lp0_2⟩ := Sl.len rp0_2
 unfold j8 at hM0
 dsimp only at hM0
 refine c3 (args := [.agg #[.int .i64 p0_0, .int .i64 p0_1, .slice ap0_2 p0_2.length cp0_2], .int .i64 p1, .int .i64 p2]) (fn := Tryz.f202) rfl ?_
 obtain ⟨X5, hLX5, hM0⟩ := j0 hM0
 refine Exists.intro { vars := [7, 8], boxes := [], owns := [], fuel := true, pubs := [7, 10] } (Exists.intro (fun vs os h' => ∃ (au6 : Option Addr) (nu6 cu6 : Nat) (u6 : U1) (u7 : Int), vs.tail = [.slice au6 nu6 cu6, .int .i64 u7] ∧ os = [] ∧ Sub h h' ∧ O2.R h' [.slice au6 nu6 cu6] u6 ∧ J0 u7 ∧ E2 p0_2 p2 p1 (I3 vs) u6 u7 = some X5) (Exists.intro (fun _ _ => 0) ?_))
 intro v1 k2 f3
 obtain ⟨az4, cz4, rfl, rz4, sz4, lz4⟩ := E1.out (r := Wp.int.toRp) f3 (show F2 (Wp.int.R h) ([] : List (List Value)) ([] : U1) from trivial)
 refine And.intro (Exists.intro D1 ⟨az4, (([] : U1)).length, cz4, ([] : U1), 0, rfl, rfl, sz4, rz4, (c64 (by decide) (by decide)), hLX5⟩) ?_
 rintro v_0 v_1 m9 k8 ⟨au6, nu6, cu6, u6, u7, evX5, eoX5, sX5, ru6, iu7, hM1⟩
 cases evX5
 cases eoX5
 replace hM1 : E2 p0_2 p2 p1 m9 u6 u7 = some X5 := hM1
 obtain _ | m9 := m9
 ·cases (show (none : Option _) = some X5 from hM1)
 rw [i8] at hM1
 obtain ⟨rfl, lu6⟩ := Sl.len ru6
 refine And.intro (fun hc10 => ?_) (fun hc10 => ?_)
 ·have hc10 : ((decide (u7 < ((p0_2.length : Nat) : Int)))) = true := hc10
  rw [if_pos hc10] at hM1
  obtain ⟨x11, gx11, hM1⟩ := j0 hM1
  obtain ⟨bx11, csx11, ex11, rx11⟩ := Sl.getI (r := N0.toRp) (K0.mono sX5 rp0_2) gx11 (by decide)
  refine And.intro bx11 ?_
  obtain ⟨x11_0, x11_1, x11_2, rfl, rfl, ix11_0, ix11_1, ix11_2⟩ := V0 rx11
  dsimp only at hM1
  refine Exists.intro _ (And.intro ex11 ?_)
  refine And.intro (fun hc12 => ?_) (fun hc12 => ?_)
  ·have hc12 : ((bif (bif (decide (p2 > 0)) then (decide (x11_1 = p2)) else false) then (decide (x11_0 = p1)) else false)) = true := hc12
   rw [if_pos hc12] at hM1
   obtain ⟨x13, gx13, hM1⟩ := j0 hM1
   refine Tr.mono (v03 _ au6 u6.length cu6 u6 ru6 x11_2 ix11_2 _  gx13) ?_
   rintro v15 k14 ⟨ax13, nx13, cx13, rfl, rx13, sx13⟩
   obtain ⟨rfl, lx13⟩ := Sl.len rx13
   refine And.intro (fun hc16 => ?_) (fun hc16 => ?_)
   ·have hc16 : ((bif (bif (decide (p2 < 0)) then (decide (x11_1 = (IntKind.i64.wrap (0 - p2)))) else false) then (decide (x11_2 = p1)) else false)) = true := hc16
    rw [if_pos hc16] at hM1
    obtain ⟨x17, gx17, hM1⟩ := j0 hM1
    refine Tr.mono (v03 _ ax13 x13.length cx13 x13 rx13 x11_0 ix11_0 _  gx17) ?_
    rintro v19 k18 ⟨ax17, nx17, cx17, rfl, rx17, sx17⟩
    obtain ⟨rfl, lx17⟩ := Sl.len rx17
    refine And.intro rfl (And.intro (by first | exact trivial | exact And.intro rfl trivial | exact And.intro rfl (And.intro rfl trivial) | exact And.intro rfl (And.intro rfl (And.intro rfl trivial)) | exact And.intro rfl (And.intro rfl (And.intro rfl (And.intro rfl trivial)))) (And.intro (by first | exact trivial | exact And.intro rfl trivial | exact And.intro rfl (And.intro rfl trivial) | exact And.intro rfl (And.intro rfl (And.intro rfl trivial)) | exact And.intro rfl (And.intro rfl (And.intro rfl (And.intro rfl trivial)))) (Exists.intro m9 (And.intro ⟨ax17, x17.length, cx17, x17, (IntKind.i64.wrap (u7 + 1)), rfl, rfl, ((sX5.trans sx13).trans sx17), rx17, (U0 _), hM1⟩ (Nat.lt_succ_self _)))))
   ·have hc16 : ((bif (bif (decide (p2 < 0)) then (decide (x11_1 = (IntKind.i64.wrap (0 - p2)))) else false) then (decide (x11_2 = p1)) else false)) = false := hc16
    rw [if_neg (K1 hc16)] at hM1
    refine And.intro rfl (And.intro (by first | exact trivial | exact And.intro rfl trivial | exact And.intro rfl (And.intro rfl trivial) | exact And.intro rfl (And.intro rfl (And.intro rfl trivial)) | exact And.intro rfl (And.intro rfl (And.intro rfl (And.intro rfl trivial)))) (And.intro (by first | exact trivial | exact And.intro rfl trivial | exact And.intro rfl (And.intro rfl trivial) | exact And.intro rfl (And.intro rfl (And.intro rfl trivial)) | exact And.intro rfl (And.intro rfl (And.intro rfl (And.intro rfl trivial)))) (Exists.intro m9 (And.intro ⟨ax13, x13.length, cx13, x13, (IntKind.i64.wrap (u7 + 1)), rfl, rfl, (sX5.trans sx13), rx13, (U0 _), hM1⟩ (Nat.lt_succ_self _)))))
  ·have hc12 : ((bif (bif (decide (p2 > 0)) then (decide (x11_1 = p2)) else false) then (decide (x11_0 = p1)) else false)) = false := hc12
   rw [if_neg (K1 hc12)] at hM1
   refine And.intro (fun hc20 => ?_) (fun hc20 => ?_)
   ·have hc20 : ((bif (bif (decide (p2 < 0)) then (decide (x11_1 = (IntKind.i64.wrap (0 - p2)))) else false) then (decide (x11_2 = p1)) else false)) = true := hc20
    rw [if_pos hc20] at hM1
    obtain ⟨x21, gx21, hM1⟩ := j0 hM1
    refine Tr.mono (v03 _ au6 u6.length cu6 u6 ru6 x11_0 ix11_0 _  gx21) ?_
    rintro v23 k22 ⟨ax21, nx21, cx21, rfl, rx21, sx21⟩
    obtain ⟨rfl, lx21⟩ := Sl.len rx21
    refine And.intro rfl (And.intro (by first | exact trivial | exact And.intro rfl trivial | exact And.intro rfl (And.intro rfl trivial) | exact And.intro rfl (And.intro rfl (And.intro rfl trivial)) | exact And.intro rfl (And.intro rfl (And.intro rfl (And.intro rfl trivial)))) (And.intro (by first | exact trivial | exact And.intro rfl trivial | exact And.intro rfl (And.intro rfl trivial) | exact And.intro rfl (And.intro rfl (And.intro rfl trivial)) | exact And.intro rfl (And.intro rfl (And.intro rfl (And.intro rfl trivial)))) (Exists.intro m9 (And.intro ⟨ax21, x21.length, cx21, x21, (IntKind.i64.wrap (u7 + 1)), rfl, rfl, (sX5.trans sx21), rx21, (U0 _), hM1⟩ (Nat.lt_succ_self _)))))
   ·have hc20 : ((bif (bif (decide (p2 < 0)) then (decide (x11_1 = (IntKind.i64.wrap (0 - p2)))) else false) then (decide (x11_2 = p1)) else false)) = false := hc20
    rw [if_neg (K1 hc20)] at hM1
    refine And.intro rfl (And.intro (by first | exact trivial | exact And.intro rfl trivial | exact And.intro rfl (And.intro rfl trivial) | exact And.intro rfl (And.intro rfl (And.intro rfl trivial)) | exact And.intro rfl (And.intro rfl (And.intro rfl (And.intro rfl trivial)))) (And.intro (by first | exact trivial | exact And.intro rfl trivial | exact And.intro rfl (And.intro rfl trivial) | exact And.intro rfl (And.intro rfl (And.intro rfl trivial)) | exact And.intro rfl (And.intro rfl (And.intro rfl (And.intro rfl trivial)))) (Exists.intro m9 (And.intro ⟨au6, u6.length, cu6, u6, (IntKind.i64.wrap (u7 + 1)), rfl, rfl, sX5, ru6, (U0 _), hM1⟩ (Nat.lt_succ_self _)))))
 ·have hc10 : ((decide (u7 < ((p0_2.length : Nat) : Int)))) = false := hc10
  rw [if_neg (K1 hc10)] at hM1
  have hE := Option.some.inj hM1; subst hE
  try dsimp only [J1, O1] at hM0
  have hE := Option.some.inj hM0; subst hE
  exact ⟨au6, u6.length, cu6, rfl, ru6, sX5⟩
theorem r02 (h : Hp) (csp0 : List Value) (p0 : l0) (rp0 : P0.R h csp0 p0) (p1 : Int) (ip1 : J0 p1) (p2 : Int) (ip2 : J0 p2) (r : Int) (hM0 : R4 p0 p1 p2 = some r) :
  Tr Tryz.prog 147 #[.agg csp0.toArray, .int .i64 p1, .int .i64 p2] h fun v h' => v = .int .i64 r ∧ h' = h := by
 obtain ⟨p0_0, p0_1, ap0_2, np0_2, cp0_2, p0_2, rfl, rfl, ip0_0, ip0_1, rp0_2⟩ := B0 rp0
 obtain ⟨rfl, lp0_2⟩ := Sl.len rp0_2
 unfold R4 at hM0
 dsimp only at hM0
 refine Tr.forget (c3 (args := [.agg #[.int .i64 p0_0, .int .i64 p0_1, .slice ap0_2 p0_2.length cp0_2], .int .i64 p1, .int .i64 p2]) (fn := Tryz.f147) rfl ?_)
 obtain ⟨x1, gx1, hM0⟩ := j0 hM0
 refine Tr.mono (o07 _ [.int .i64 p0_0, .int .i64 p0_1, .slice ap0_2 p0_2.length cp0_2] (p0_0, p0_1, p0_2) (z0 ip0_0 ip0_1 rp0_2) p1 ip1 p2 ip2 _  gx1) ?_
 rintro v3 k2 ⟨ax1, nx1, cx1, rfl, rx1, sx1⟩
 obtain ⟨rfl, lx1⟩ := Sl.len rx1
 refine And.intro (fun hc4 => ?_) (fun hc4 => ?_)
 ·have hc4 : ((decide (((x1.length : Nat) : Int) = 0))) = true := hc4
  rw [if_pos hc4] at hM0
  have hE := Option.some.inj hM0; subst hE
  exact And.intro rfl sx1
 ·have hc4 : ((decide (((x1.length : Nat) : Int) = 0))) = false := hc4
  rw [if_neg (K1 hc4)] at hM0
  obtain ⟨x5, gx5, hM0⟩ := j0 hM0
  obtain ⟨bx5, csx5, ex5, rx5⟩ := Sl.getI (r := Wp.int.toRp) rx1 gx5 (by decide)
  refine And.intro bx5 ?_
  obtain ⟨rfl, ix5⟩ := rx5
  refine Exists.intro _ (And.intro ex5 ?_)
  have hE := Option.some.inj hM0; subst hE
  exact And.intro rfl sx1
theorem c00 (h : Hp) (csp0 : List Value) (p0 : l0) (rp0 : P0.R h csp0 p0) (r : Bool) (hM0 : G4 p0 = some r) :
  Tr Tryz.prog 88 #[.agg csp0.toArray] h fun v h' => v = .bool r ∧ h' = h := by
 obtain ⟨p0_0, p0_1, ap0_2, np0_2, cp0_2, p0_2, rfl, rfl, ip0_0, ip0_1, rp0_2⟩ := B0 rp0
 obtain ⟨rfl, lp0_2⟩ := Sl.len rp0_2
 unfold G4 at hM0
 dsimp only at hM0
 refine Tr.forget (c3 (args := [.agg #[.int .i64 p0_0, .int .i64 p0_1, .slice ap0_2 p0_2.length cp0_2]]) (fn := Tryz.f88) rfl ?_)
 obtain ⟨X1, hLX1, hM0⟩ := j0 hM0
 refine Exists.intro { vars := [3], boxes := [], owns := [], fuel := true } (Exists.intro (fun vs os h' => ∃ (u2 : Int), vs.tail = [.int .i64 u2] ∧ os = [] ∧ Sub h h' ∧ J0 u2 ∧ T4 p0_2 p0_0 p0_1 (I3 vs) u2 = some X1) (Exists.intro (fun _ _ => 0) ?_))
 refine And.intro (Exists.intro D1 ⟨0, rfl, rfl, (Sub.refl _), (c64 (by decide) (by decide)), hLX1⟩) ?_
 rintro v_0 m4 k3 ⟨u2, evX1, eoX1, sX1, iu2, hM1⟩
 cases evX1
 cases eoX1
 replace hM1 : T4 p0_2 p0_0 p0_1 m4 u2 = some X1 := hM1
 obtain _ | m4 := m4
 ·cases (show (none : Option _) = some X1 from hM1)
 rw [P6] at hM1
 obtain ⟨x5, gx5, hM1⟩ := j0 hM1
 refine Exists.intro (.bool x5) (And.intro (fun q => t7 _ [.int .i64 p0_0, .int .i64 p0_1, .slice ap0_2 p0_2.length cp0_2] (p0_0, p0_1, p0_2) (z0 ip0_0 ip0_1 (K0.mono sX1 rp0_2)) _  (U2 gx5 q)) ?_)
 refine And.intro (fun hc6 => ?_) (fun hc6 => ?_)
 ·have hc6 : ((bif (decide (u2 < ((p0_2.length : Nat) : Int))) then x5 else false)) = true := hc6
  rw [if_pos hc6] at hM1
  obtain ⟨X7, hLX7, hM1⟩ := j0 hM1
  refine Exists.intro { vars := [4], boxes := [], owns := [], fuel := true } (Exists.intro (fun vs os h' => ∃ (u8 : Int), vs.tail = [.int .i64 u8] ∧ os = [] ∧ Sub k3 h' ∧ J0 u8 ∧ S4 u2 p0_2 (I3 vs) u8 = some X7) (Exists.intro (fun _ _ => 0) ?_))
  refine And.intro (Exists.intro D1 ⟨0, rfl, rfl, (Sub.refl _), (c64 (by decide) (by decide)), hLX7⟩) ?_
  rintro v_0 m10 k9 ⟨u8, evX7, eoX7, sX7, iu8, hM2⟩
  cases evX7
  cases eoX7
  replace hM2 : S4 u2 p0_2 m10 u8 = some X7 := hM2
  obtain _ | m10 := m10
  ·cases (show (none : Option _) = some X7 from hM2)
  rw [J8] at hM2
  refine And.intro (fun hc11 => ?_) (fun hc11 => ?_)
  ·have hc11 : ((decide (u8 < u2))) = true := hc11
   rw [if_pos hc11] at hM2
   obtain ⟨x12, gx12, hM2⟩ := j0 hM2
   obtain ⟨bx12, csx12, ex12, rx12⟩ := Sl.getI (r := N0.toRp) (K0.mono (sX1.trans sX7) rp0_2) gx12 (by decide)
   refine And.intro bx12 ?_
   obtain ⟨x12_0, x12_1, x12_2, rfl, rfl, ix12_0, ix12_1, ix12_2⟩ := V0 rx12
   dsimp only at hM2
   refine Exists.intro _ (And.intro ex12 ?_)
   obtain ⟨x13, gx13, hM2⟩ := j0 hM2
   obtain ⟨bx13, csx13, ex13, rx13⟩ := Sl.getI (r := N0.toRp) (K0.mono (sX1.trans sX7) rp0_2) gx13 (by decide)
   refine And.intro bx13 ?_
   obtain ⟨x13_0, x13_1, x13_2, rfl, rfl, ix13_0, ix13_1, ix13_2⟩ := V0 rx13
   dsimp only at hM2
   refine Exists.intro _ (And.intro ex13 ?_)
   refine And.intro (fun hc14 => ?_) (fun hc14 => ?_)
   ·have hc14 : ((bif (decide (x12_1 = x13_1)) then (bif (decide (x12_0 = x13_0)) then true else (decide (x12_2 = x13_2))) else false)) = true := hc14
    rw [if_pos hc14] at hM2
    have hE := Option.some.inj hM2; subst hE
    try dsimp only [A4, B4] at hM1
    have hE := Option.some.inj hM1; subst hE
    try dsimp only [A4, B4] at hM0
    have hE := Option.some.inj hM0; subst hE
    exact And.intro rfl (sX1.trans sX7)
   ·have hc14 : ((bif (decide (x12_1 = x13_1)) then (bif (decide (x12_0 = x13_0)) then true else (decide (x12_2 = x13_2))) else false)) = false := hc14
    rw [if_neg (K1 hc14)] at hM2
    refine And.intro rfl (And.intro (by first | exact trivial | exact And.intro rfl trivial | exact And.intro rfl (And.intro rfl trivial) | exact And.intro rfl (And.intro rfl (And.intro rfl trivial)) | exact And.intro rfl (And.intro rfl (And.intro rfl (And.intro rfl trivial)))) (And.intro (by first | exact trivial | exact And.intro rfl trivial | exact And.intro rfl (And.intro rfl trivial) | exact And.intro rfl (And.intro rfl (And.intro rfl trivial)) | exact And.intro rfl (And.intro rfl (And.intro rfl (And.intro rfl trivial)))) (Exists.intro m10 (And.intro ⟨(IntKind.i64.wrap (u8 + 1)), rfl, rfl, sX7, (U0 _), hM2⟩ (Nat.lt_succ_self _)))))
  ·have hc11 : ((decide (u8 < u2))) = false := hc11
   rw [if_neg (K1 hc11)] at hM2
   have hE := Option.some.inj hM2; subst hE
   try dsimp only [J1, O1] at hM1
   refine And.intro rfl (And.intro (by first | exact trivial | exact And.intro rfl trivial | exact And.intro rfl (And.intro rfl trivial) | exact And.intro rfl (And.intro rfl (And.intro rfl trivial)) | exact And.intro rfl (And.intro rfl (And.intro rfl (And.intro rfl trivial)))) (And.intro (by first | exact trivial | exact And.intro rfl trivial | exact And.intro rfl (And.intro rfl trivial) | exact And.intro rfl (And.intro rfl (And.intro rfl trivial)) | exact And.intro rfl (And.intro rfl (And.intro rfl (And.intro rfl trivial)))) (Exists.intro m4 (And.intro ⟨(IntKind.i64.wrap (u2 + 1)), rfl, rfl, (sX1.trans sX7), (U0 _), hM1⟩ (Nat.lt_succ_self _)))))
 ·have hc6 : ((bif (decide (u2 < ((p0_2.length : Nat) : Int))) then x5 else false)) = false := hc6
  rw [if_neg (K1 hc6)] at hM1
  have hE := Option.some.inj hM1; subst hE
  try dsimp only [J1, O1] at hM0
  obtain ⟨x18, gx18, hM0⟩ := j0 hM0
  refine Tr.val (t7 _ [.int .i64 p0_0, .int .i64 p0_1, .slice ap0_2 p0_2.length cp0_2] (p0_0, p0_1, p0_2) (z0 ip0_0 ip0_1 (K0.mono sX1 rp0_2)) _  gx18) ?_
  have hE := Option.some.inj hM0; subst hE
  exact And.intro rfl sX1
theorem b08 (h : Hp) (csp0 : List Value) (p0 : l0) (rp0 : P0.R h csp0 p0) (p1 : Int) (ip1 : J0 p1) (ap2 : Option Addr) (np2 cp2 : Nat) (p2 : U1) (rp2 : O2.R h [.slice ap2 np2 cp2] p2) (r : Int × Bool) (hM0 : F7 p0 p1 p2 = some r) :
  Tr Tryz.prog 143 #[.agg csp0.toArray, .int .i64 p1, .slice ap2 np2 cp2] h fun v h' => v = .tuple #[.int .i64 r.1, .bool r.2] ∧ h' = h := by
 obtain ⟨p0_0, p0_1, ap0_2, np0_2, cp0_2, p0_2, rfl, rfl, ip0_0, ip0_1, rp0_2⟩ := B0 rp0
 obtain ⟨rfl, lp0_2⟩ := Sl.len rp0_2
 obtain ⟨rfl, lp2⟩ := Sl.len rp2
 unfold F7 at hM0
 dsimp only at hM0
 refine Tr.forget (c3 (args := [.agg #[.int .i64 p0_0, .int .i64 p0_1, .slice ap0_2 p0_2.length cp0_2], .int .i64 p1, .slice ap2 p2.length cp2]) (fn := Tryz.f143) rfl ?_)
 obtain ⟨x1, gx1, hM0⟩ := j0 hM0
 refine Tr.val (c00 _ [.int .i64 p0_0, .int .i64 p0_1, .slice ap0_2 p0_2.length cp0_2] (p0_0, p0_1, p0_2) (z0 ip0_0 ip0_1 rp0_2) _  gx1) ?_
 obtain ⟨x2, gx2, hM0⟩ := j0 hM0
 refine Exists.intro (.bool x2) (And.intro (fun q => F6 _ p1 ip1 0 (c64 (by decide) (by decide)) (IntKind.i64.wrap (p0_1 - 1)) (U0 _) _  (U2 gx2 q)) ?_)
 refine And.intro (fun hc3 => ?_) (fun hc3 => ?_)
 ·have hc3 : ((bif (!x1) then true else (!x2))) = true := hc3
  rw [if_pos hc3] at hM0
  have hE := Option.some.inj hM0; subst hE
  exact And.intro rfl (Sub.refl _)
 ·have hc3 : ((bif (!x1) then true else (!x2))) = false := hc3
  rw [if_neg (K1 hc3)] at hM0
  obtain ⟨X4, hLX4, hM0⟩ := j0 hM0
  refine Exists.intro { vars := [1, 8], boxes := [], owns := [], fuel := true } (Exists.intro (fun vs os h' => ∃ (u5 : Int) (u6 : Int), vs.tail = [.int .i64 u5, .int .i64 u6] ∧ os = [] ∧ Sub h h' ∧ J0 u5 ∧ J0 u6 ∧ F5 p2 p0_0 p0_1 p0_2 (I3 vs) u5 u6 = some X4) (Exists.intro (fun _ _ => 0) ?_))
  refine And.intro (Exists.intro D1 ⟨p1, 0, rfl, rfl, (Sub.refl _), ip1, (c64 (by decide) (by decide)), hLX4⟩) ?_
  rintro v_0 v_1 m8 k7 ⟨u5, u6, evX4, eoX4, sX4, iu5, iu6, hM1⟩
  cases evX4
  cases eoX4
  replace hM1 : F5 p2 p0_0 p0_1 p0_2 m8 u5 u6 = some X4 := hM1
  obtain _ | m8 := m8
  ·cases (show (none : Option _) = some X4 from hM1)
  rw [K8] at hM1
  refine And.intro (fun hc9 => ?_) (fun hc9 => ?_)
  ·have hc9 : ((decide (u6 < ((p2.length : Nat) : Int)))) = true := hc9
   rw [if_pos hc9] at hM1
   refine Or.inl (And.intro (And.intro (by kernel_rfl) (by kernel_rfl)) ?_)
   obtain ⟨x10, gx10, hM1⟩ := j0 hM1
   obtain ⟨bx10, csx10, ex10, rx10⟩ := Sl.getI (r := Wp.int.toRp) (O2.mono sX4 rp2) gx10 (by decide)
   refine And.intro bx10 ?_
   obtain ⟨rfl, ix10⟩ := rx10
   refine Exists.intro _ (And.intro ex10 ?_)
   obtain ⟨x11, gx11, hM1⟩ := j0 hM1
   refine Exists.intro (.int .i64 x11) (And.intro (r02 _ [.int .i64 p0_0, .int .i64 p0_1, .slice ap0_2 p0_2.length cp0_2] (p0_0, p0_1, p0_2) (z0 ip0_0 ip0_1 (K0.mono sX4 rp0_2)) u5 iu5 x10 ix10 _  gx11) ?_)
   obtain ⟨q12, gq12, hM1⟩ := j0 hM1
   have ix11 : J0 x11 := J3 gq12
   refine And.intro (fun hc13 => ?_) (fun hc13 => ?_)
   ·have hc13 : ((decide (x11 < 0))) = true := hc13
    rw [if_pos hc13] at hM1
    have hE := Option.some.inj hM1; subst hE
    try dsimp only [A4, B4] at hM0
    have hE := Option.some.inj hM0; subst hE
    exact And.intro rfl sX4
   ·have hc13 : ((decide (x11 < 0))) = false := hc13
    rw [if_neg (K1 hc13)] at hM1
    refine And.intro rfl (And.intro (by first | exact trivial | exact And.intro rfl trivial | exact And.intro rfl (And.intro rfl trivial) | exact And.intro rfl (And.intro rfl (And.intro rfl trivial)) | exact And.intro rfl (And.intro rfl (And.intro rfl (And.intro rfl trivial)))) (And.intro (by first | exact trivial | exact And.intro rfl trivial | exact And.intro rfl (And.intro rfl trivial) | exact And.intro rfl (And.intro rfl (And.intro rfl trivial)) | exact And.intro rfl (And.intro rfl (And.intro rfl (And.intro rfl trivial)))) (Exists.intro m8 (And.intro ⟨x11, (IntKind.i64.wrap (u6 + 1)), rfl, rfl, sX4, ix11, (U0 _), hM1⟩ (Nat.lt_succ_self _)))))
  ·have hc9 : ((decide (u6 < ((p2.length : Nat) : Int)))) = false := hc9
   rw [if_neg (K1 hc9)] at hM1
   have hE := Option.some.inj hM1; subst hE
   try dsimp only [J1, O1] at hM0
   have hE := Option.some.inj hM0; subst hE
   exact And.intro rfl sX4
theorem p07 (h : Hp) (csp0 : List Value) (p0 : l0) (rp0 : P0.R h csp0 p0) (p1 : Int) (ip1 : J0 p1) (p2 : Int) (ip2 : J0 p2) (r : U1) (hM0 : n8 p0 p1 p2 = some r) :
  Tr Tryz.prog 209 #[.agg csp0.toArray, .int .i64 p1, .int .i64 p2] h fun v h' => ∃ (a0 : Option Addr) (n0 c0 : Nat), v = .slice a0 n0 c0 ∧ New O2 h h' [.slice a0 n0 c0] r := by
 obtain ⟨p0_0, p0_1, ap0_2, np0_2, cp0_2, p0_2, rfl, rfl, ip0_0, ip0_1, rp0_2⟩ := B0 rp0
 obtain ⟨rfl, lp0_2⟩ := Sl.len rp0_2
 unfold n8 at hM0
 dsimp only at hM0
 refine c3 (args := [.agg #[.int .i64 p0_0, .int .i64 p0_1, .slice ap0_2 p0_2.length cp0_2], .int .i64 p1, .int .i64 p2]) (fn := Tryz.f209) rfl ?_
 obtain ⟨X1, hLX1, hM0⟩ := j0 hM0
 refine Exists.intro { vars := [14], boxes := [], owns := [0], fuel := true } (Exists.intro (fun vs os h' => ∃ (u2 : Int) (wu3 : List (List Value)) (u3 : List Int), vs.tail = [.int .i64 u2] ∧ os = [wu3] ∧ Sub h h' ∧ J0 u2 ∧ F2 (Wp.int.R h') wu3 u3 ∧ V2 p0_2 p2 p1 (I3 vs) u2 u3 = some X1) (Exists.intro (fun _ _ => 0) ?_))
 refine And.intro (Exists.intro D1 ⟨0, [], ([] : U1), rfl, rfl, (Sub.refl _), (c64 (by decide) (by decide)), (show F2 (Wp.int.R h) ([] : List (List Value)) ([] : U1) from trivial), hLX1⟩) ?_
 rintro v_0 wu3 m5 k4 ⟨u2, zzu3, u3, evX1, eoX1, sX1, iu2, fu3, hM1⟩
 cases evX1
 cases eoX1
 replace hM1 : V2 p0_2 p2 p1 m5 u2 u3 = some X1 := hM1
 obtain _ | m5 := m5
 ·cases (show (none : Option _) = some X1 from hM1)
 rw [l8] at hM1
 refine And.intro (fun hc6 => ?_) (fun hc6 => ?_)
 ·have hc6 : ((decide (u2 < ((p0_2.length : Nat) : Int)))) = true := hc6
  rw [if_pos hc6] at hM1
  obtain ⟨x7, gx7, hM1⟩ := j0 hM1
  obtain ⟨bx7, csx7, ex7, rx7⟩ := Sl.getI (r := N0.toRp) (K0.mono sX1 rp0_2) gx7 (by decide)
  refine And.intro bx7 ?_
  obtain ⟨x7_0, x7_1, x7_2, rfl, rfl, ix7_0, ix7_1, ix7_2⟩ := V0 rx7
  dsimp only at hM1
  refine Exists.intro _ (And.intro ex7 ?_)
  refine And.intro (fun hc8 => ?_) (fun hc8 => ?_)
  ·have hc8 : ((bif (bif (decide (p2 > 0)) then (decide (x7_1 = p2)) else false) then (decide (x7_0 = p1)) else false)) = true := hc8
   rw [if_pos hc8] at hM1
   obtain ⟨q9, gq9, hM1⟩ := j0 hM1
   refine And.intro (j3 gq9 (by first | rw [F2.length fu3, F2.length (show F2 (Wp.int.R k4) ([[.int .i64 x7_2]] : List (List Value)) [x7_2] from ⟨⟨rfl, ix7_2⟩, trivial⟩)] | exact congrArg (· + 1) (F2.length fu3))) ?_
   refine And.intro rfl (And.intro (by first | exact trivial | exact And.intro rfl trivial | exact And.intro rfl (And.intro rfl trivial) | exact And.intro rfl (And.intro rfl (And.intro rfl trivial)) | exact And.intro rfl (And.intro rfl (And.intro rfl (And.intro rfl trivial)))) (And.intro (by first | exact trivial | exact And.intro rfl trivial | exact And.intro rfl (And.intro rfl trivial) | exact And.intro rfl (And.intro rfl (And.intro rfl trivial)) | exact And.intro rfl (And.intro rfl (And.intro rfl (And.intro rfl trivial)))) (Exists.intro m5 (And.intro ⟨(IntKind.i64.wrap (u2 + 1)), (wu3 ++ ([[.int .i64 x7_2]] : List (List Value))), (u3 ++ [x7_2]), rfl, rfl, sX1, (U0 _), (F2.append fu3 (show F2 (Wp.int.R k4) ([[.int .i64 x7_2]] : List (List Value)) [x7_2] from ⟨⟨rfl, ix7_2⟩, trivial⟩)), hM1⟩ (Nat.lt_succ_self _)))))
  ·have hc8 : ((bif (bif (decide (p2 > 0)) then (decide (x7_1 = p2)) else false) then (decide (x7_0 = p1)) else false)) = false := hc8
   rw [if_neg (K1 hc8)] at hM1
   refine And.intro (fun hc10 => ?_) (fun hc10 => ?_)
   ·have hc10 : ((bif (bif (bif (decide (p2 < 0)) then (!decide (p2 = (-9223372036854775808))) else false) then (decide (x7_1 = (IntKind.i64.wrap (0 - p2)))) else false) then (decide (x7_2 = p1)) else false)) = true := hc10
    rw [if_pos hc10] at hM1
    obtain ⟨q11, gq11, hM1⟩ := j0 hM1
    refine And.intro (j3 gq11 (by first | rw [F2.length fu3, F2.length (show F2 (Wp.int.R k4) ([[.int .i64 x7_0]] : List (List Value)) [x7_0] from ⟨⟨rfl, ix7_0⟩, trivial⟩)] | exact congrArg (· + 1) (F2.length fu3))) ?_
    refine And.intro rfl (And.intro (by first | exact trivial | exact And.intro rfl trivial | exact And.intro rfl (And.intro rfl trivial) | exact And.intro rfl (And.intro rfl (And.intro rfl trivial)) | exact And.intro rfl (And.intro rfl (And.intro rfl (And.intro rfl trivial)))) (And.intro (by first | exact trivial | exact And.intro rfl trivial | exact And.intro rfl (And.intro rfl trivial) | exact And.intro rfl (And.intro rfl (And.intro rfl trivial)) | exact And.intro rfl (And.intro rfl (And.intro rfl (And.intro rfl trivial)))) (Exists.intro m5 (And.intro ⟨(IntKind.i64.wrap (u2 + 1)), (wu3 ++ ([[.int .i64 x7_0]] : List (List Value))), (u3 ++ [x7_0]), rfl, rfl, sX1, (U0 _), (F2.append fu3 (show F2 (Wp.int.R k4) ([[.int .i64 x7_0]] : List (List Value)) [x7_0] from ⟨⟨rfl, ix7_0⟩, trivial⟩)), hM1⟩ (Nat.lt_succ_self _)))))
   ·have hc10 : ((bif (bif (bif (decide (p2 < 0)) then (!decide (p2 = (-9223372036854775808))) else false) then (decide (x7_1 = (IntKind.i64.wrap (0 - p2)))) else false) then (decide (x7_2 = p1)) else false)) = false := hc10
    rw [if_neg (K1 hc10)] at hM1
    refine And.intro rfl (And.intro (by first | exact trivial | exact And.intro rfl trivial | exact And.intro rfl (And.intro rfl trivial) | exact And.intro rfl (And.intro rfl (And.intro rfl trivial)) | exact And.intro rfl (And.intro rfl (And.intro rfl (And.intro rfl trivial)))) (And.intro (by first | exact trivial | exact And.intro rfl trivial | exact And.intro rfl (And.intro rfl trivial) | exact And.intro rfl (And.intro rfl (And.intro rfl trivial)) | exact And.intro rfl (And.intro rfl (And.intro rfl (And.intro rfl trivial)))) (Exists.intro m5 (And.intro ⟨(IntKind.i64.wrap (u2 + 1)), wu3, u3, rfl, rfl, sX1, (U0 _), fu3, hM1⟩ (Nat.lt_succ_self _)))))
 ·have hc6 : ((decide (u2 < ((p0_2.length : Nat) : Int)))) = false := hc6
  rw [if_neg (K1 hc6)] at hM1
  have hE := Option.some.inj hM1; subst hE
  try dsimp only [J1, O1] at hM0
  refine Or.inl ?_
  intro v12 k13 f14
  obtain ⟨q15, gq15, hM0⟩ := j0 hM0
  refine Tr.mono (M0d _ f14 fu3 (J3 gq15)) ?_
  rintro _ kz16 ⟨rfl, vsz16, fz16, qz16⟩
  obtain ⟨az16, cz16, rfl, rz16, sz16, lz16⟩ := E1.out (r := Wp.int.toRp) fz16 qz16
  refine Tr.mono (N0d _ fz16 qz16) ?_
  rintro _ kz17 ⟨vsz17, fz17, qz17⟩
  obtain ⟨az17, cz17, rfl, rz17, sz17, lz17⟩ := E1.out (r := Wp.int.toRp) fz17 qz17
  have hE := Option.some.inj hM0; subst hE
  exact ⟨az17, ((G00 eqI (U02 L7 u3))).length, cz17, rfl, (New.from (E1.newPlain (r := Wp.int) fz17 qz17 (l0i _)) sX1)⟩
theorem s02 (h : Hp) (csp0 : List Value) (p0 : l0) (rp0 : P0.R h csp0 p0) (p1 : Int) (ip1 : J0 p1) (p2 : Int) (ip2 : J0 p2) (r : Int) (hM0 : U4 p0 p1 p2 = some r) :
  Tr Tryz.prog 157 #[.agg csp0.toArray, .int .i64 p1, .int .i64 p2] h fun v h' => v = .int .i64 r ∧ h' = h := by
 obtain ⟨p0_0, p0_1, ap0_2, np0_2, cp0_2, p0_2, rfl, rfl, ip0_0, ip0_1, rp0_2⟩ := B0 rp0
 obtain ⟨rfl, lp0_2⟩ := Sl.len rp0_2
 unfold U4 at hM0
 dsimp only at hM0
 refine Tr.forget (c3 (args := [.agg #[.int .i64 p0_0, .int .i64 p0_1, .slice ap0_2 p0_2.length cp0_2], .int .i64 p1, .int .i64 p2]) (fn := Tryz.f157) rfl ?_)
 obtain ⟨x1, gx1, hM0⟩ := j0 hM0
 refine Tr.mono (p07 _ [.int .i64 p0_0, .int .i64 p0_1, .slice ap0_2 p0_2.length cp0_2] (p0_0, p0_1, p0_2) (z0 ip0_0 ip0_1 rp0_2) p1 ip1 p2 ip2 _  gx1) ?_
 rintro v3 k2 ⟨ax1, nx1, cx1, rfl, wx1⟩
 have sx1 : Sub h k2 := wx1.sub
 have rx1 := wx1.r
 obtain ⟨rfl, lx1⟩ := Sl.len rx1
 refine And.intro (fun hc4 => ?_) (fun hc4 => ?_)
 ·have hc4 : ((decide (((x1.length : Nat) : Int) = 0))) = true := hc4
  rw [if_pos hc4] at hM0
  have hE := Option.some.inj hM0; subst hE
  exact And.intro rfl sx1
 ·have hc4 : ((decide (((x1.length : Nat) : Int) = 0))) = false := hc4
  rw [if_neg (K1 hc4)] at hM0
  obtain ⟨x5, gx5, hM0⟩ := j0 hM0
  obtain ⟨bx5, csx5, ex5, rx5⟩ := Sl.getI (r := Wp.int.toRp) rx1 gx5 (by decide)
  refine And.intro bx5 ?_
  obtain ⟨rfl, ix5⟩ := rx5
  refine Exists.intro _ (And.intro ex5 ?_)
  have hE := Option.some.inj hM0; subst hE
  exact And.intro rfl sx1
theorem p01 (h : Hp) (csp0 : List Value) (p0 : l0) (rp0 : P0.R h csp0 p0) (r : Bool) (hM0 : M6 p0 = some r) :
  Tr Tryz.prog 96 #[.agg csp0.toArray] h fun v h' => v = .bool r ∧ h' = h := by
 obtain ⟨p0_0, p0_1, ap0_2, np0_2, cp0_2, p0_2, rfl, rfl, ip0_0, ip0_1, rp0_2⟩ := B0 rp0
 obtain ⟨rfl, lp0_2⟩ := Sl.len rp0_2
 unfold M6 at hM0
 dsimp only at hM0
 refine Tr.forget (c3 (args := [.agg #[.int .i64 p0_0, .int .i64 p0_1, .slice ap0_2 p0_2.length cp0_2]]) (fn := Tryz.f96) rfl ?_)
 obtain ⟨x1, gx1, hM0⟩ := j0 hM0
 refine Tr.val (z8 _ [.int .i64 p0_0, .int .i64 p0_1, .slice ap0_2 p0_2.length cp0_2] (p0_0, p0_1, p0_2) (z0 ip0_0 ip0_1 rp0_2) _  gx1) ?_
 refine And.intro (fun hc2 => ?_) (fun hc2 => ?_)
 ·have hc2 : ((!x1)) = true := hc2
  rw [if_pos hc2] at hM0
  have hE := Option.some.inj hM0; subst hE
  exact And.intro rfl (Sub.refl _)
 ·have hc2 : ((!x1)) = false := hc2
  rw [if_neg (K1 hc2)] at hM0
  obtain ⟨X3, hLX3, hM0⟩ := j0 hM0
  refine Exists.intro { vars := [13], boxes := [], owns := [], fuel := true } (Exists.intro (fun vs os h' => ∃ (u4 : Int), vs.tail = [.int .i64 u4] ∧ os = [] ∧ Sub h h' ∧ J0 u4 ∧ G5 p0_2 (I3 vs) u4 = some X3) (Exists.intro (fun _ _ => 0) ?_))
  refine And.intro (Exists.intro D1 ⟨0, rfl, rfl, (Sub.refl _), (c64 (by decide) (by decide)), hLX3⟩) ?_
  rintro v_0 m6 k5 ⟨u4, evX3, eoX3, sX3, iu4, hM1⟩
  cases evX3
  cases eoX3
  replace hM1 : G5 p0_2 m6 u4 = some X3 := hM1
  obtain _ | m6 := m6
  ·cases (show (none : Option _) = some X3 from hM1)
  rw [M8] at hM1
  refine And.intro (fun hc7 => ?_) (fun hc7 => ?_)
  ·have hc7 : ((decide (u4 < ((p0_2.length : Nat) : Int)))) = true := hc7
   rw [if_pos hc7] at hM1
   obtain ⟨x8, gx8, hM1⟩ := j0 hM1
   obtain ⟨bx8, csx8, ex8, rx8⟩ := Sl.getI (r := N0.toRp) (K0.mono sX3 rp0_2) gx8 (by decide)
   refine And.intro bx8 ?_
   obtain ⟨x8_0, x8_1, x8_2, rfl, rfl, ix8_0, ix8_1, ix8_2⟩ := V0 rx8
   dsimp only at hM1
   refine Exists.intro _ (And.intro ex8 ?_)
   obtain ⟨x9, gx9, hM1⟩ := j0 hM1
   obtain ⟨qx9, vsx9, ex9, fx9⟩ := Sl.cutI (r := N0.toRp) (K0.mono sX3 rp0_2) gx9
   refine And.intro qx9 (Exists.intro vsx9 (And.intro ex9 ?_))
   intro vx9 hvx9 _
   obtain ⟨ax9, cx9, rfl, rx9⟩ := fx9 vx9 hvx9
   have lx9 := (Sl.len rx9).2
   obtain ⟨X10, hLX10, hM1⟩ := j0 hM1
   refine Exists.intro { vars := [24], boxes := [], owns := [], fuel := true } (Exists.intro (fun vs os h' => ∃ (u11 : Int), vs.tail = [.int .i64 u11] ∧ os = [] ∧ Sub k5 h' ∧ J0 u11 ∧ V4 x9 x8_1 x8_0 x8_2 (I3 vs) u11 = some X10) (Exists.intro (fun _ _ => 0) ?_))
   refine And.intro (Exists.intro D1 ⟨0, rfl, rfl, (Sub.refl _), (c64 (by decide) (by decide)), hLX10⟩) ?_
   rintro v_0 m13 k12 ⟨u11, evX10, eoX10, sX10, iu11, hM2⟩
   cases evX10
   cases eoX10
   replace hM2 : V4 x9 x8_1 x8_0 x8_2 m13 u11 = some X10 := hM2
   obtain _ | m13 := m13
   ·cases (show (none : Option _) = some X10 from hM2)
   rw [L8] at hM2
   refine And.intro (fun hc14 => ?_) (fun hc14 => ?_)
   ·have hc14 : ((decide (u11 < ((x9.length : Nat) : Int)))) = true := hc14
    rw [if_pos hc14] at hM2
    obtain ⟨x15, gx15, hM2⟩ := j0 hM2
    obtain ⟨bx15, csx15, ex15, rx15⟩ := Sl.getI (r := N0.toRp) (K0.mono sX10 rx9) gx15 (by decide)
    refine And.intro bx15 ?_
    obtain ⟨x15_0, x15_1, x15_2, rfl, rfl, ix15_0, ix15_1, ix15_2⟩ := V0 rx15
    dsimp only at hM2
    refine Exists.intro _ (And.intro ex15 ?_)
    refine And.intro (fun hc16 => ?_) (fun hc16 => ?_)
    ·have hc16 : ((bif (decide (x8_1 = x15_1)) then (bif (decide (x8_0 = x15_0)) then true else (decide (x8_2 = x15_2))) else false)) = true := hc16
     rw [if_pos hc16] at hM2
     have hE := Option.some.inj hM2; subst hE
     try dsimp only [A4, B4] at hM1
     have hE := Option.some.inj hM1; subst hE
     try dsimp only [A4, B4] at hM0
     have hE := Option.some.inj hM0; subst hE
     exact And.intro rfl (sX3.trans sX10)
    ·have hc16 : ((bif (decide (x8_1 = x15_1)) then (bif (decide (x8_0 = x15_0)) then true else (decide (x8_2 = x15_2))) else false)) = false := hc16
     rw [if_neg (K1 hc16)] at hM2
     refine And.intro rfl (And.intro (by first | exact trivial | exact And.intro rfl trivial | exact And.intro rfl (And.intro rfl trivial) | exact And.intro rfl (And.intro rfl (And.intro rfl trivial)) | exact And.intro rfl (And.intro rfl (And.intro rfl (And.intro rfl trivial)))) (And.intro (by first | exact trivial | exact And.intro rfl trivial | exact And.intro rfl (And.intro rfl trivial) | exact And.intro rfl (And.intro rfl (And.intro rfl trivial)) | exact And.intro rfl (And.intro rfl (And.intro rfl (And.intro rfl trivial)))) (Exists.intro m13 (And.intro ⟨(IntKind.i64.wrap (u11 + 1)), rfl, rfl, sX10, (U0 _), hM2⟩ (Nat.lt_succ_self _)))))
   ·have hc14 : ((decide (u11 < ((x9.length : Nat) : Int)))) = false := hc14
    rw [if_neg (K1 hc14)] at hM2
    have hE := Option.some.inj hM2; subst hE
    try dsimp only [J1, O1] at hM1
    refine And.intro rfl (And.intro (by first | exact trivial | exact And.intro rfl trivial | exact And.intro rfl (And.intro rfl trivial) | exact And.intro rfl (And.intro rfl (And.intro rfl trivial)) | exact And.intro rfl (And.intro rfl (And.intro rfl (And.intro rfl trivial)))) (And.intro (by first | exact trivial | exact And.intro rfl trivial | exact And.intro rfl (And.intro rfl trivial) | exact And.intro rfl (And.intro rfl (And.intro rfl trivial)) | exact And.intro rfl (And.intro rfl (And.intro rfl (And.intro rfl trivial)))) (Exists.intro m6 (And.intro ⟨(IntKind.i64.wrap (u4 + 1)), rfl, rfl, (sX3.trans sX10), (U0 _), hM1⟩ (Nat.lt_succ_self _)))))
  ·have hc7 : ((decide (u4 < ((p0_2.length : Nat) : Int)))) = false := hc7
   rw [if_neg (K1 hc7)] at hM1
   have hE := Option.some.inj hM1; subst hE
   try dsimp only [J1, O1] at hM0
   have hE := Option.some.inj hM0; subst hE
   exact And.intro rfl sX3
theorem x06 (h : Hp) (csp0 : List Value) (p0 : l0) (rp0 : P0.R h csp0 p0) (p1 : Int) (ip1 : J0 p1) (ap2 : Option Addr) (np2 cp2 : Nat) (p2 : U1) (rp2 : O2.R h [.slice ap2 np2 cp2] p2) (r : Int × Int) (hM0 : G6 p0 p1 p2 = some r) :
  Tr Tryz.prog 152 #[.agg csp0.toArray, .int .i64 p1, .slice ap2 np2 cp2] h fun v h' => v = .tuple #[.int .i64 r.1, .int .i64 r.2] ∧ h' = h := by
 obtain ⟨p0_0, p0_1, ap0_2, np0_2, cp0_2, p0_2, rfl, rfl, ip0_0, ip0_1, rp0_2⟩ := B0 rp0
 obtain ⟨rfl, lp0_2⟩ := Sl.len rp0_2
 obtain ⟨rfl, lp2⟩ := Sl.len rp2
 unfold G6 at hM0
 dsimp only at hM0
 refine Tr.forget (c3 (args := [.agg #[.int .i64 p0_0, .int .i64 p0_1, .slice ap0_2 p0_2.length cp0_2], .int .i64 p1, .slice ap2 p2.length cp2]) (fn := Tryz.f152) rfl ?_)
 obtain ⟨X1, hLX1, hM0⟩ := j0 hM0
 refine Exists.intro { vars := [1, 13], boxes := [], owns := [], fuel := true } (Exists.intro (fun vs os h' => ∃ (u2 : Int) (u3 : Int), vs.tail = [.int .i64 u2, .int .i64 u3] ∧ os = [] ∧ Sub h h' ∧ J0 u2 ∧ J0 u3 ∧ P4 p2 p0_0 p0_1 p0_2 (I3 vs) u2 u3 = some X1) (Exists.intro (fun _ _ => 0) ?_))
 refine And.intro (Exists.intro D1 ⟨p1, 0, rfl, rfl, (Sub.refl _), ip1, (c64 (by decide) (by decide)), hLX1⟩) ?_
 rintro v_0 v_1 m5 k4 ⟨u2, u3, evX1, eoX1, sX1, iu2, iu3, hM1⟩
 cases evX1
 cases eoX1
 replace hM1 : P4 p2 p0_0 p0_1 p0_2 m5 u2 u3 = some X1 := hM1
 obtain _ | m5 := m5
 ·cases (show (none : Option _) = some X1 from hM1)
 rw [W7] at hM1
 refine And.intro (fun hc6 => ?_) (fun hc6 => ?_)
 ·have hc6 : ((decide (u3 < ((p2.length : Nat) : Int)))) = true := hc6
  rw [if_pos hc6] at hM1
  obtain ⟨x7, gx7, hM1⟩ := j0 hM1
  obtain ⟨bx7, csx7, ex7, rx7⟩ := Sl.getI (r := Wp.int.toRp) (O2.mono sX1 rp2) gx7 (by decide)
  refine And.intro bx7 ?_
  obtain ⟨rfl, ix7⟩ := rx7
  refine Exists.intro _ (And.intro ex7 ?_)
  obtain ⟨x8, gx8, hM1⟩ := j0 hM1
  refine Tr.val (s02 _ [.int .i64 p0_0, .int .i64 p0_1, .slice ap0_2 p0_2.length cp0_2] (p0_0, p0_1, p0_2) (z0 ip0_0 ip0_1 (K0.mono sX1 rp0_2)) u2 iu2 x7 ix7 _  gx8) ?_
  obtain ⟨q9, gq9, hM1⟩ := j0 hM1
  have ix8 : J0 x8 := J3 gq9
  refine And.intro (fun hc10 => ?_) (fun hc10 => ?_)
  ·have hc10 : ((decide (x8 < 0))) = true := hc10
   rw [if_pos hc10] at hM1
   have hE := Option.some.inj hM1; subst hE
   try dsimp only [A4, B4] at hM0
   have hE := Option.some.inj hM0; subst hE
   exact And.intro rfl sX1
  ·have hc10 : ((decide (x8 < 0))) = false := hc10
   rw [if_neg (K1 hc10)] at hM1
   refine And.intro rfl (And.intro (by first | exact trivial | exact And.intro rfl trivial | exact And.intro rfl (And.intro rfl trivial) | exact And.intro rfl (And.intro rfl (And.intro rfl trivial)) | exact And.intro rfl (And.intro rfl (And.intro rfl (And.intro rfl trivial)))) (And.intro (by first | exact trivial | exact And.intro rfl trivial | exact And.intro rfl (And.intro rfl trivial) | exact And.intro rfl (And.intro rfl (And.intro rfl trivial)) | exact And.intro rfl (And.intro rfl (And.intro rfl (And.intro rfl trivial)))) (Exists.intro m5 (And.intro ⟨x8, (IntKind.i64.wrap (u3 + 1)), rfl, rfl, sX1, ix8, (U0 _), hM1⟩ (Nat.lt_succ_self _)))))
 ·have hc6 : ((decide (u3 < ((p2.length : Nat) : Int)))) = false := hc6
  rw [if_neg (K1 hc6)] at hM1
  have hE := Option.some.inj hM1; subst hE
  try dsimp only [J1, O1] at hM0
  have hE := Option.some.inj hM0; subst hE
  exact And.intro rfl sX1
end Go.Proofs.YtfdlgbfeceodeaaGreat
namespace Go.Proofs.YtfdlgbfeceodeaaGreat
open Go.H
set_option linter.unusedVariables false
set_option linter.unusedSimpArgs false
set_option maxRecDepth 10000
theorem q05 (h : Hp) (csp0 : List Value) (p0 : M0) (rp0 : S0.R h csp0 p0) (csp1 : List Value) (p1 : l0) (rp1 : P0.R h csp1 p1) (r : Int × Int) (hM0 : g6 p0 p1 = some r) :
  Tr Tryz.prog 89 #[.agg csp0.toArray, .agg csp1.toArray] h fun v h' => v = .tuple #[.int .i64 r.1, .int .i64 r.2] ∧ h' = h := by
 obtain ⟨p0_0, ap0_1, np0_1, cp0_1, p0_1, rfl, rfl, ip0_0, rp0_1⟩ := D2 rp0
 obtain ⟨rfl, lp0_1⟩ := Sl.len rp0_1
 obtain ⟨p1_0, p1_1, ap1_2, np1_2, cp1_2, p1_2, rfl, rfl, ip1_0, ip1_1, rp1_2⟩ := B0 rp1
 obtain ⟨rfl, lp1_2⟩ := Sl.len rp1_2
 unfold g6 at hM0
 dsimp only at hM0
 refine Tr.forget (c3 (args := [.agg #[.int .i64 p0_0, .slice ap0_1 p0_1.length cp0_1], .agg #[.int .i64 p1_0, .int .i64 p1_1, .slice ap1_2 p1_2.length cp1_2]]) (fn := Tryz.f89) rfl ?_)
 obtain ⟨X1, hLX1, hM0⟩ := j0 hM0
 refine Exists.intro { vars := [6], boxes := [], owns := [], fuel := true } (Exists.intro (fun vs os h' => ∃ (u2 : Int), vs.tail = [.int .i64 u2] ∧ os = [] ∧ Sub h h' ∧ J0 u2 ∧ R3 p1_1 p0_0 p0_1 p1_0 p1_2 (I3 vs) u2 = some X1) (Exists.intro (fun _ _ => 0) ?_))
 refine And.intro (Exists.intro D1 ⟨0, rfl, rfl, (Sub.refl _), (c64 (by decide) (by decide)), hLX1⟩) ?_
 rintro v_0 m4 k3 ⟨u2, evX1, eoX1, sX1, iu2, hM1⟩
 cases evX1
 cases eoX1
 replace hM1 : R3 p1_1 p0_0 p0_1 p1_0 p1_2 m4 u2 = some X1 := hM1
 obtain _ | m4 := m4
 ·cases (show (none : Option _) = some X1 from hM1)
 rw [Q5] at hM1
 obtain ⟨x5, gx5, hM1⟩ := j0 hM1
 refine Exists.intro (.bool x5) (And.intro (fun q => I00 _ [.int .i64 p0_0, .slice ap0_1 p0_1.length cp0_1] (p0_0, p0_1) (n3 ip0_0 (i5.mono sX1 rp0_1)) _  (U2 gx5 q)) ?_)
 obtain ⟨x6, gx6, hM1⟩ := j0 hM1
 refine Exists.intro (.bool x6) (And.intro (fun q => c00 _ [.int .i64 p1_0, .int .i64 p1_1, .slice ap1_2 p1_2.length cp1_2] (p1_0, p1_1, p1_2) (z0 ip1_0 ip1_1 (K0.mono sX1 rp1_2)) _  (U2 gx6 q)) ?_)
 refine And.intro (fun hc7 => ?_) (fun hc7 => ?_)
 ·have hc7 : ((bif (bif (bif (decide (u2 < p1_1)) then x5 else false) then x6 else false) then (decide (p0_0 = p1_0)) else false)) = true := hc7
  rw [if_pos hc7] at hM1
  obtain ⟨X8, hLX8, hM1⟩ := j0 hM1
  refine Exists.intro { vars := [7], boxes := [], owns := [], fuel := true } (Exists.intro (fun vs os h' => ∃ (u9 : Int), vs.tail = [.int .i64 u9] ∧ os = [] ∧ Sub k3 h' ∧ J0 u9 ∧ Q3 p0_1 p1_0 p1_1 p1_2 u2 (I3 vs) u9 = some X8) (Exists.intro (fun _ _ => 0) ?_))
  refine And.intro (Exists.intro D1 ⟨0, rfl, rfl, (Sub.refl _), (c64 (by decide) (by decide)), hLX8⟩) ?_
  rintro v_0 m11 k10 ⟨u9, evX8, eoX8, sX8, iu9, hM2⟩
  cases evX8
  cases eoX8
  replace hM2 : Q3 p0_1 p1_0 p1_1 p1_2 u2 m11 u9 = some X8 := hM2
  obtain _ | m11 := m11
  ·cases (show (none : Option _) = some X8 from hM2)
  rw [B7] at hM2
  refine And.intro (fun hc12 => ?_) (fun hc12 => ?_)
  ·have hc12 : ((decide (u9 < ((p0_1.length : Nat) : Int)))) = true := hc12
   rw [if_pos hc12] at hM2
   refine Or.inr (Or.inr (Or.inr (Or.inl (And.intro (And.intro (by kernel_rfl) (by kernel_rfl)) ?_))))
   obtain ⟨x13, gx13, hM2⟩ := j0 hM2
   obtain ⟨bx13, csx13, ex13, rx13⟩ := Sl.getI (r := O2.toRp) (i5.mono (sX1.trans sX8) rp0_1) gx13 (by decide)
   obtain ⟨ax13, nx13, cx13, rfl⟩ := Wp.slice_cell rx13
   obtain ⟨rfl, lx13⟩ := Sl.len rx13
   refine Or.inl (Exists.intro (.hel (.slice ap0_1 p0_1.length cp0_1) u9 1 0) (And.intro ?_ ?_))
   ·intro k14 s15
    exact And.intro bx13 (And.intro rfl (And.intro rfl rfl))
   refine Or.inl (Exists.intro (.val (.slice ax13 x13.length cx13)) (And.intro ?_ ?_))
   ·intro k16 s17
    exact Exists.intro _ (And.intro (p6.up s17 ex13) (And.intro rfl (And.intro rfl rfl)))
   obtain ⟨x18, gx18, hM2⟩ := j0 hM2
   obtain ⟨x18_0, x18_1⟩ := x18
   try dsimp only at hM2
   obtain ⟨q19, gq19, hM2⟩ := j0 hM2
   have ix18_0 : J0 x18_0 := J3 gq19
   refine Or.inl (Exists.intro (.val (.tuple #[.int .i64 x18_0, .bool x18_1])) (And.intro ?_ ?_))
   ·intro k20 s21
    exact Tr.val (b08 _ [.int .i64 p1_0, .int .i64 p1_1, .slice ap1_2 p1_2.length cp1_2] (p1_0, p1_1, p1_2) (z0 ip1_0 ip1_1 (K0.mono ((sX1.trans sX8).trans s21) rp1_2)) u2 iu2 ax13 x13.length cx13 x13 (O2.mono s21 rx13) _ gx18) (And.intro rfl (And.intro rfl rfl))
   refine Or.inl (Exists.intro (.val (.int .i64 x18_0)) (And.intro ?_ ?_))
   ·intro k22 s23
    exact And.intro rfl (And.intro rfl rfl)
   refine Or.inl (Exists.intro (.val (.bool x18_1)) (And.intro ?_ ?_))
   ·intro k24 s25
    exact And.intro rfl (And.intro rfl rfl)
   intro k26 s27
   refine And.intro (fun hc28 => ?_) (fun hc28 => ?_)
   ·have hc28 : ((bif (!x18_1) then true else (!decide (x18_0 = u2)))) = true := hc28
    rw [if_pos hc28] at hM2
    have hE := Option.some.inj hM2; subst hE
    try dsimp only [A4, B4] at hM1
    have hE := Option.some.inj hM1; subst hE
    try dsimp only [A4, B4] at hM0
    have hE := Option.some.inj hM0; subst hE
    exact And.intro rfl ((sX1.trans sX8).trans s27)
   ·have hc28 : ((bif (!x18_1) then true else (!decide (x18_0 = u2)))) = false := hc28
    rw [if_neg (K1 hc28)] at hM2
    refine And.intro rfl (And.intro (by first | exact trivial | exact And.intro rfl trivial | exact And.intro rfl (And.intro rfl trivial) | exact And.intro rfl (And.intro rfl (And.intro rfl trivial)) | exact And.intro rfl (And.intro rfl (And.intro rfl (And.intro rfl trivial)))) (And.intro (by first | exact trivial | exact And.intro rfl trivial | exact And.intro rfl (And.intro rfl trivial) | exact And.intro rfl (And.intro rfl (And.intro rfl trivial)) | exact And.intro rfl (And.intro rfl (And.intro rfl (And.intro rfl trivial)))) (Exists.intro m11 (And.intro ⟨(IntKind.i64.wrap (u9 + 1)), rfl, rfl, (sX8.trans s27), (U0 _), hM2⟩ (Nat.lt_succ_self _)))))
  ·have hc12 : ((decide (u9 < ((p0_1.length : Nat) : Int)))) = false := hc12
   rw [if_neg (K1 hc12)] at hM2
   have hE := Option.some.inj hM2; subst hE
   try dsimp only [J1, O1] at hM1
   refine And.intro rfl (And.intro (by first | exact trivial | exact And.intro rfl trivial | exact And.intro rfl (And.intro rfl trivial) | exact And.intro rfl (And.intro rfl (And.intro rfl trivial)) | exact And.intro rfl (And.intro rfl (And.intro rfl (And.intro rfl trivial)))) (And.intro (by first | exact trivial | exact And.intro rfl trivial | exact And.intro rfl (And.intro rfl trivial) | exact And.intro rfl (And.intro rfl (And.intro rfl trivial)) | exact And.intro rfl (And.intro rfl (And.intro rfl (And.intro rfl trivial)))) (Exists.intro m4 (And.intro ⟨(IntKind.i64.wrap (u2 + 1)), rfl, rfl, (sX1.trans sX8), (U0 _), hM1⟩ (Nat.lt_succ_self _)))))
 ·have hc7 : ((bif (bif (bif (decide (u2 < p1_1)) then x5 else false) then x6 else false) then (decide (p0_0 = p1_0)) else false)) = false := hc7
  rw [if_neg (K1 hc7)] at hM1
  have hE := Option.some.inj hM1; subst hE
  try dsimp only [J1, O1] at hM0
  have hE := Option.some.inj hM0; subst hE
  exact And.intro rfl sX1
theorem r05 (h : Hp) (csp0 : List Value) (p0 : M0) (rp0 : S0.R h csp0 p0) (csp1 : List Value) (p1 : l0) (rp1 : P0.R h csp1 p1) (r : Int × Int) (hM0 : i6 p0 p1 = some r) :
  Tr Tryz.prog 97 #[.agg csp0.toArray, .agg csp1.toArray] h fun v h' => v = .tuple #[.int .i64 r.1, .int .i64 r.2] ∧ h' = h := by
 obtain ⟨p0_0, ap0_1, np0_1, cp0_1, p0_1, rfl, rfl, ip0_0, rp0_1⟩ := D2 rp0
 obtain ⟨rfl, lp0_1⟩ := Sl.len rp0_1
 obtain ⟨p1_0, p1_1, ap1_2, np1_2, cp1_2, p1_2, rfl, rfl, ip1_0, ip1_1, rp1_2⟩ := B0 rp1
 obtain ⟨rfl, lp1_2⟩ := Sl.len rp1_2
 unfold i6 at hM0
 dsimp only at hM0
 refine Tr.forget (c3 (args := [.agg #[.int .i64 p0_0, .slice ap0_1 p0_1.length cp0_1], .agg #[.int .i64 p1_0, .int .i64 p1_1, .slice ap1_2 p1_2.length cp1_2]]) (fn := Tryz.f97) rfl ?_)
 obtain ⟨x1, gx1, hM0⟩ := j0 hM0
 refine Tr.val (J00 _ [.int .i64 p0_0, .slice ap0_1 p0_1.length cp0_1] (p0_0, p0_1) (n3 ip0_0 rp0_1) _  gx1) ?_
 obtain ⟨x2, gx2, hM0⟩ := j0 hM0
 refine Exists.intro (.bool x2) (And.intro (fun q => p01 _ [.int .i64 p1_0, .int .i64 p1_1, .slice ap1_2 p1_2.length cp1_2] (p1_0, p1_1, p1_2) (z0 ip1_0 ip1_1 rp1_2) _  (U2 gx2 q)) ?_)
 refine And.intro (fun hc3 => ?_) (fun hc3 => ?_)
 ·have hc3 : ((bif (bif (!x1) then true else (!x2)) then true else (!decide (p0_0 = p1_0)))) = true := hc3
  rw [if_pos hc3] at hM0
  have hE := Option.some.inj hM0; subst hE
  exact And.intro rfl (Sub.refl _)
 ·have hc3 : ((bif (bif (!x1) then true else (!x2)) then true else (!decide (p0_0 = p1_0)))) = false := hc3
  rw [if_neg (K1 hc3)] at hM0
  obtain ⟨X4, hLX4, hM0⟩ := j0 hM0
  refine Exists.intro { vars := [6], boxes := [], owns := [], fuel := true } (Exists.intro (fun vs os h' => ∃ (u5 : Int), vs.tail = [.int .i64 u5] ∧ os = [] ∧ Sub h h' ∧ J0 u5 ∧ F4 p1_1 p0_1 p1_0 p1_2 (I3 vs) u5 = some X4) (Exists.intro (fun _ _ => 0) ?_))
  refine And.intro (Exists.intro D1 ⟨0, rfl, rfl, (Sub.refl _), (c64 (by decide) (by decide)), hLX4⟩) ?_
  rintro v_0 m7 k6 ⟨u5, evX4, eoX4, sX4, iu5, hM1⟩
  cases evX4
  cases eoX4
  replace hM1 : F4 p1_1 p0_1 p1_0 p1_2 m7 u5 = some X4 := hM1
  obtain _ | m7 := m7
  ·cases (show (none : Option _) = some X4 from hM1)
  rw [D7] at hM1
  refine And.intro (fun hc8 => ?_) (fun hc8 => ?_)
  ·have hc8 : ((decide (u5 < p1_1))) = true := hc8
   rw [if_pos hc8] at hM1
   obtain ⟨X9, hLX9, hM1⟩ := j0 hM1
   refine Exists.intro { vars := [35], boxes := [], owns := [], fuel := true } (Exists.intro (fun vs os h' => ∃ (u10 : Int), vs.tail = [.int .i64 u10] ∧ os = [] ∧ Sub k6 h' ∧ J0 u10 ∧ S3 p0_1 p1_0 p1_1 p1_2 u5 (I3 vs) u10 = some X9) (Exists.intro (fun _ _ => 0) ?_))
   refine And.intro (Exists.intro D1 ⟨0, rfl, rfl, (Sub.refl _), (c64 (by decide) (by decide)), hLX9⟩) ?_
   rintro v_0 m12 k11 ⟨u10, evX9, eoX9, sX9, iu10, hM2⟩
   cases evX9
   cases eoX9
   replace hM2 : S3 p0_1 p1_0 p1_1 p1_2 u5 m12 u10 = some X9 := hM2
   obtain _ | m12 := m12
   ·cases (show (none : Option _) = some X9 from hM2)
   rw [C7] at hM2
   refine And.intro (fun hc13 => ?_) (fun hc13 => ?_)
   ·have hc13 : ((decide (u10 < ((p0_1.length : Nat) : Int)))) = true := hc13
    rw [if_pos hc13] at hM2
    obtain ⟨x14, gx14, hM2⟩ := j0 hM2
    obtain ⟨bx14, csx14, ex14, rx14⟩ := Sl.getI (r := O2.toRp) (i5.mono (sX4.trans sX9) rp0_1) gx14 (by decide)
    refine And.intro bx14 ?_
    obtain ⟨ax14, nx14, cx14, rfl⟩ := Wp.slice_cell rx14
    obtain ⟨rfl, lx14⟩ := Sl.len rx14
    refine Exists.intro _ (And.intro ex14 ?_)
    obtain ⟨x15, gx15, hM2⟩ := j0 hM2
    obtain ⟨x15_0, x15_1⟩ := x15
    dsimp only at hM2
    refine Tr.val (x06 _ [.int .i64 p1_0, .int .i64 p1_1, .slice ap1_2 p1_2.length cp1_2] (p1_0, p1_1, p1_2) (z0 ip1_0 ip1_1 (K0.mono (sX4.trans sX9) rp1_2)) u5 iu5 ax14 x14.length cx14 x14 rx14 _  gx15) ?_
    obtain ⟨q16, gq16, hM2⟩ := j0 hM2
    have ix15_0 : J0 x15_0 := J3 gq16
    obtain ⟨q17, gq17, hM2⟩ := j0 hM2
    have ix15_1 : J0 x15_1 := J3 gq17
    refine And.intro (fun hc18 => ?_) (fun hc18 => ?_)
    ·have hc18 : ((bif (decide (x15_1 < ((x14.length : Nat) : Int))) then true else (!decide (x15_0 = u5)))) = true := hc18
     rw [if_pos hc18] at hM2
     have hE := Option.some.inj hM2; subst hE
     try dsimp only [A4, B4] at hM1
     have hE := Option.some.inj hM1; subst hE
     try dsimp only [A4, B4] at hM0
     have hE := Option.some.inj hM0; subst hE
     exact And.intro rfl (sX4.trans sX9)
    ·have hc18 : ((bif (decide (x15_1 < ((x14.length : Nat) : Int))) then true else (!decide (x15_0 = u5)))) = false := hc18
     rw [if_neg (K1 hc18)] at hM2
     refine And.intro rfl (And.intro (by first | exact trivial | exact And.intro rfl trivial | exact And.intro rfl (And.intro rfl trivial) | exact And.intro rfl (And.intro rfl (And.intro rfl trivial)) | exact And.intro rfl (And.intro rfl (And.intro rfl (And.intro rfl trivial)))) (And.intro (by first | exact trivial | exact And.intro rfl trivial | exact And.intro rfl (And.intro rfl trivial) | exact And.intro rfl (And.intro rfl (And.intro rfl trivial)) | exact And.intro rfl (And.intro rfl (And.intro rfl (And.intro rfl trivial)))) (Exists.intro m12 (And.intro ⟨(IntKind.i64.wrap (u10 + 1)), rfl, rfl, sX9, (U0 _), hM2⟩ (Nat.lt_succ_self _)))))
   ·have hc13 : ((decide (u10 < ((p0_1.length : Nat) : Int)))) = false := hc13
    rw [if_neg (K1 hc13)] at hM2
    have hE := Option.some.inj hM2; subst hE
    try dsimp only [J1, O1] at hM1
    refine And.intro rfl (And.intro (by first | exact trivial | exact And.intro rfl trivial | exact And.intro rfl (And.intro rfl trivial) | exact And.intro rfl (And.intro rfl (And.intro rfl trivial)) | exact And.intro rfl (And.intro rfl (And.intro rfl (And.intro rfl trivial)))) (And.intro (by first | exact trivial | exact And.intro rfl trivial | exact And.intro rfl (And.intro rfl trivial) | exact And.intro rfl (And.intro rfl (And.intro rfl trivial)) | exact And.intro rfl (And.intro rfl (And.intro rfl (And.intro rfl trivial)))) (Exists.intro m7 (And.intro ⟨(IntKind.i64.wrap (u5 + 1)), rfl, rfl, (sX4.trans sX9), (U0 _), hM1⟩ (Nat.lt_succ_self _)))))
  ·have hc8 : ((decide (u5 < p1_1))) = false := hc8
   rw [if_neg (K1 hc8)] at hM1
   have hE := Option.some.inj hM1; subst hE
   try dsimp only [J1, O1] at hM0
   have hE := Option.some.inj hM0; subst hE
   exact And.intro rfl sX4
end Go.Proofs.YtfdlgbfeceodeaaGreat
namespace Go.Proofs.YtfdlgbfeceodeaaGreat
open Go.H
set_option linter.unusedVariables false
set_option linter.unusedSimpArgs false
set_option maxRecDepth 10000
theorem H4 (h : Hp) (csp0 : List Value) (p0 : l0) (rp0 : P0.R h csp0 p0) (r : l0) (hM0 : Z2 p0 = some r) :
  Tr Tryz.prog 68 #[.agg csp0.toArray] h fun v h' => ∃ (cs0 : List Value), v = .agg cs0.toArray ∧ P0.R h' cs0 r ∧ Sub h h' := by
 obtain ⟨p0_0, p0_1, ap0_2, np0_2, cp0_2, p0_2, rfl, rfl, ip0_0, ip0_1, rp0_2⟩ := B0 rp0
 obtain ⟨rfl, lp0_2⟩ := Sl.len rp0_2
 unfold Z2 at hM0
 dsimp only at hM0
 refine c3 (args := [.agg #[.int .i64 p0_0, .int .i64 p0_1, .slice ap0_2 p0_2.length cp0_2]]) (fn := Tryz.f68) rfl ?_
 refine Or.inr (Or.inr (Or.inl (And.intro (And.intro (by kernel_rfl) (by kernel_rfl)) ?_)))
 refine Or.inr ?_
 refine Or.inr ?_
 refine Or.inr ?_
 refine Or.inr ?_
 refine Exists.intro 0 (And.intro (And.intro rfl rfl) ?_)
 refine And.intro trivial (And.intro (by first | exact trivial | exact rfl) ?_)
 obtain ⟨vsy1, ey1, fy1⟩ := Sl.rows (r := N0.toRp) rp0_2
 refine Exists.intro vsy1 (And.intro ey1 ?_)
 obtain ⟨q2, gq2, hM0⟩ := j0 hM0
 refine And.intro (j3 gq2 (by first | rw [F2.length (show F2 (N0.R h) ([] : List (List Value)) ([] : C0) from trivial), F2.length fy1] | exact congrArg (· + 1) (F2.length (show F2 (N0.R h) ([] : List (List Value)) ([] : C0) from trivial)))) ?_
 refine And.intro trivial (And.intro (by first | exact trivial | exact rfl) ?_)
 refine And.intro trivial (And.intro (by first | exact trivial | exact rfl) ?_)
 refine And.intro trivial (And.intro (by first | exact trivial | exact rfl) ?_)
 intro v3 k4 f5
 obtain ⟨az6, cz6, rfl, rz6, sz6, lz6⟩ := E1.out (r := N0.toRp) f5 (F2.append (show F2 (N0.R h) ([] : List (List Value)) ([] : C0) from trivial) fy1)
 have hE := Option.some.inj hM0; subst hE
 exact ⟨([.int .i64 p0_0, .int .i64 p0_1, .slice az6 ((([] : C0) ++ p0_2)).length cz6]), rfl, (z0 ip0_0 ip0_1 rz6), sz6⟩
theorem N9 (h : Hp) (ap0 : Option Addr) (np0 cp0 : Nat) (p0 : C0) (rp0 : K0.R h [.slice ap0 np0 cp0] p0) (csp1 : List Value) (p1 : D0) (rp1 : N0.R h csp1 p1) (r : C0) (hM0 : T3 p0 p1 = some r) :
  Tr Tryz.prog 144 #[.slice ap0 np0 cp0, .agg csp1.toArray] h fun v h' => ∃ (a0 : Option Addr) (n0 c0 : Nat), v = .slice a0 n0 c0 ∧ K0.R h' [.slice a0 n0 c0] r ∧ Sub h h' := by
 obtain ⟨rfl, lp0⟩ := Sl.len rp0
 obtain ⟨p1_0, p1_1, p1_2, rfl, rfl, ip1_0, ip1_1, ip1_2⟩ := V0 rp1
 unfold T3 at hM0
 dsimp only at hM0
 refine c3 (args := [.slice ap0 p0.length cp0, .agg #[.int .i64 p1_0, .int .i64 p1_1, .int .i64 p1_2]]) (fn := Tryz.f144) rfl ?_
 obtain ⟨X1, hLX1, hM0⟩ := j0 hM0
 refine Exists.intro { vars := [6, 7], boxes := [], owns := [0], fuel := true } (Exists.intro (fun vs os h' => ∃ (u2 : Bool) (u3 : Int) (wu4 : List (List Value)) (u4 : List D0), vs.tail = [.bool u2, .int .i64 u3] ∧ os = [wu4] ∧ Sub h h' ∧ J0 u3 ∧ F2 (N0.R h') wu4 u4 ∧ B3 p0 p1_0 p1_1 p1_2 (I3 vs) u2 u3 u4 = some X1) (Exists.intro (fun _ _ => 0) ?_))
 refine And.intro (Exists.intro D1 ⟨false, 0, [], ([] : C0), rfl, rfl, (Sub.refl _), (c64 (by decide) (by decide)), (show F2 (N0.R h) ([] : List (List Value)) ([] : C0) from trivial), hLX1⟩) ?_
 rintro v_0 v_1 wu4 m6 k5 ⟨u2, u3, zzu4, u4, evX1, eoX1, sX1, iu3, fu4, hM1⟩
 cases evX1
 cases eoX1
 replace hM1 : B3 p0 p1_0 p1_1 p1_2 m6 u2 u3 u4 = some X1 := hM1
 obtain _ | m6 := m6
 ·cases (show (none : Option _) = some X1 from hM1)
 rw [O6] at hM1
 refine And.intro (fun hc7 => ?_) (fun hc7 => ?_)
 ·have hc7 : ((decide (u3 < ((p0.length : Nat) : Int)))) = true := hc7
  rw [if_pos hc7] at hM1
  refine Or.inl (And.intro (And.intro (by kernel_rfl) (by kernel_rfl)) ?_)
  obtain ⟨x8, gx8, hM1⟩ := j0 hM1
  obtain ⟨bx8, csx8, ex8, rx8⟩ := Sl.getI (r := N0.toRp) (K0.mono sX1 rp0) gx8 (by decide)
  refine And.intro bx8 ?_
  obtain ⟨x8_0, x8_1, x8_2, rfl, rfl, ix8_0, ix8_1, ix8_2⟩ := V0 rx8
  dsimp only at hM1
  refine Exists.intro _ (And.intro ex8 ?_)
  obtain ⟨x9, gx9, hM1⟩ := j0 hM1
  refine Exists.intro (.int .i64 x9) (And.intro (q01 _ [.int .i64 p1_0, .int .i64 p1_1, .int .i64 p1_2] (p1_0, p1_1, p1_2) (O0 ip1_0 ip1_1 ip1_2) [.int .i64 x8_0, .int .i64 x8_1, .int .i64 x8_2] (x8_0, x8_1, x8_2) (O0 ix8_0 ix8_1 ix8_2) _  gx9) ?_)
  obtain ⟨q10, gq10, hM1⟩ := j0 hM1
  have ix9 : J0 x9 := J3 gq10
  refine And.intro (fun hc11 => ?_) (fun hc11 => ?_)
  ·have hc11 : ((decide (x9 = 0))) = true := hc11
   rw [if_pos hc11] at hM1
   refine And.intro (fun hc12 => ?_) (fun hc12 => ?_)
   ·have hc12 : ((bif (decide (x9 < 0)) then (!true) else false)) = true := hc12
    rw [if_pos hc12] at hM1
    obtain ⟨q13, gq13, hM1⟩ := j0 hM1
    refine And.intro (j3 gq13 (by first | rw [F2.length fu4, F2.length (show F2 (N0.R k5) ([[.int .i64 p1_0, .int .i64 p1_1, .int .i64 p1_2]] : List (List Value)) [(p1_0, p1_1, p1_2)] from ⟨(O0 ip1_0 ip1_1 ip1_2), trivial⟩)] | exact congrArg (· + 1) (F2.length fu4))) ?_
    obtain ⟨x14, gx14, hM1⟩ := j0 hM1
    obtain ⟨bx14, csx14, ex14, rx14⟩ := Sl.getI (r := N0.toRp) (K0.mono sX1 rp0) gx14 (by decide)
    refine And.intro bx14 ?_
    obtain ⟨x14_0, x14_1, x14_2, rfl, rfl, ix14_0, ix14_1, ix14_2⟩ := V0 rx14
    dsimp only at hM1
    refine Exists.intro _ (And.intro ex14 ?_)
    obtain ⟨q15, gq15, hM1⟩ := j0 hM1
    refine And.intro (j3 gq15 (by first | rw [F2.length (F2.append fu4 (show F2 (N0.R k5) ([[.int .i64 p1_0, .int .i64 p1_1, .int .i64 p1_2]] : List (List Value)) [(p1_0, p1_1, p1_2)] from ⟨(O0 ip1_0 ip1_1 ip1_2), trivial⟩)), F2.length (show F2 (N0.R k5) ([[.int .i64 x14_0, .int .i64 x14_1, .int .i64 x14_2]] : List (List Value)) [(x14_0, x14_1, x14_2)] from ⟨(O0 ix14_0 ix14_1 ix14_2), trivial⟩)] | exact congrArg (· + 1) (F2.length (F2.append fu4 (show F2 (N0.R k5) ([[.int .i64 p1_0, .int .i64 p1_1, .int .i64 p1_2]] : List (List Value)) [(p1_0, p1_1, p1_2)] from ⟨(O0 ip1_0 ip1_1 ip1_2), trivial⟩))))) ?_
    refine And.intro rfl (And.intro (by first | exact trivial | exact And.intro rfl trivial | exact And.intro rfl (And.intro rfl trivial) | exact And.intro rfl (And.intro rfl (And.intro rfl trivial)) | exact And.intro rfl (And.intro rfl (And.intro rfl (And.intro rfl trivial)))) (And.intro (by first | exact trivial | exact And.intro rfl trivial | exact And.intro rfl (And.intro rfl trivial) | exact And.intro rfl (And.intro rfl (And.intro rfl trivial)) | exact And.intro rfl (And.intro rfl (And.intro rfl (And.intro rfl trivial)))) (Exists.intro m6 (And.intro ⟨true, (IntKind.i64.wrap (u3 + 1)), ((wu4 ++ ([[.int .i64 p1_0, .int .i64 p1_1, .int .i64 p1_2]] : List (List Value))) ++ ([[.int .i64 x14_0, .int .i64 x14_1, .int .i64 x14_2]] : List (List Value))), ((u4 ++ [(p1_0, p1_1, p1_2)]) ++ [(x14_0, x14_1, x14_2)]), rfl, rfl, sX1, (U0 _), (F2.append (F2.append fu4 (show F2 (N0.R k5) ([[.int .i64 p1_0, .int .i64 p1_1, .int .i64 p1_2]] : List (List Value)) [(p1_0, p1_1, p1_2)] from ⟨(O0 ip1_0 ip1_1 ip1_2), trivial⟩)) (show F2 (N0.R k5) ([[.int .i64 x14_0, .int .i64 x14_1, .int .i64 x14_2]] : List (List Value)) [(x14_0, x14_1, x14_2)] from ⟨(O0 ix14_0 ix14_1 ix14_2), trivial⟩)), hM1⟩ (Nat.lt_succ_self _)))))
   ·have hc12 : ((bif (decide (x9 < 0)) then (!true) else false)) = false := hc12
    rw [if_neg (K1 hc12)] at hM1
    obtain ⟨x16, gx16, hM1⟩ := j0 hM1
    obtain ⟨bx16, csx16, ex16, rx16⟩ := Sl.getI (r := N0.toRp) (K0.mono sX1 rp0) gx16 (by decide)
    refine And.intro bx16 ?_
    obtain ⟨x16_0, x16_1, x16_2, rfl, rfl, ix16_0, ix16_1, ix16_2⟩ := V0 rx16
    dsimp only at hM1
    refine Exists.intro _ (And.intro ex16 ?_)
    obtain ⟨q17, gq17, hM1⟩ := j0 hM1
    refine And.intro (j3 gq17 (by first | rw [F2.length fu4, F2.length (show F2 (N0.R k5) ([[.int .i64 x16_0, .int .i64 x16_1, .int .i64 x16_2]] : List (List Value)) [(x16_0, x16_1, x16_2)] from ⟨(O0 ix16_0 ix16_1 ix16_2), trivial⟩)] | exact congrArg (· + 1) (F2.length fu4))) ?_
    refine And.intro rfl (And.intro (by first | exact trivial | exact And.intro rfl trivial | exact And.intro rfl (And.intro rfl trivial) | exact And.intro rfl (And.intro rfl (And.intro rfl trivial)) | exact And.intro rfl (And.intro rfl (And.intro rfl (And.intro rfl trivial)))) (And.intro (by first | exact trivial | exact And.intro rfl trivial | exact And.intro rfl (And.intro rfl trivial) | exact And.intro rfl (And.intro rfl (And.intro rfl trivial)) | exact And.intro rfl (And.intro rfl (And.intro rfl (And.intro rfl trivial)))) (Exists.intro m6 (And.intro ⟨true, (IntKind.i64.wrap (u3 + 1)), (wu4 ++ ([[.int .i64 x16_0, .int .i64 x16_1, .int .i64 x16_2]] : List (List Value))), (u4 ++ [(x16_0, x16_1, x16_2)]), rfl, rfl, sX1, (U0 _), (F2.append fu4 (show F2 (N0.R k5) ([[.int .i64 x16_0, .int .i64 x16_1, .int .i64 x16_2]] : List (List Value)) [(x16_0, x16_1, x16_2)] from ⟨(O0 ix16_0 ix16_1 ix16_2), trivial⟩)), hM1⟩ (Nat.lt_succ_self _)))))
  ·have hc11 : ((decide (x9 = 0))) = false := hc11
   rw [if_neg (K1 hc11)] at hM1
   refine And.intro (fun hc18 => ?_) (fun hc18 => ?_)
   ·have hc18 : ((bif (decide (x9 < 0)) then (!u2) else false)) = true := hc18
    rw [if_pos hc18] at hM1
    obtain ⟨q19, gq19, hM1⟩ := j0 hM1
    refine And.intro (j3 gq19 (by first | rw [F2.length fu4, F2.length (show F2 (N0.R k5) ([[.int .i64 p1_0, .int .i64 p1_1, .int .i64 p1_2]] : List (List Value)) [(p1_0, p1_1, p1_2)] from ⟨(O0 ip1_0 ip1_1 ip1_2), trivial⟩)] | exact congrArg (· + 1) (F2.length fu4))) ?_
    obtain ⟨x20, gx20, hM1⟩ := j0 hM1
    obtain ⟨bx20, csx20, ex20, rx20⟩ := Sl.getI (r := N0.toRp) (K0.mono sX1 rp0) gx20 (by decide)
    refine And.intro bx20 ?_
    obtain ⟨x20_0, x20_1, x20_2, rfl, rfl, ix20_0, ix20_1, ix20_2⟩ := V0 rx20
    dsimp only at hM1
    refine Exists.intro _ (And.intro ex20 ?_)
    obtain ⟨q21, gq21, hM1⟩ := j0 hM1
    refine And.intro (j3 gq21 (by first | rw [F2.length (F2.append fu4 (show F2 (N0.R k5) ([[.int .i64 p1_0, .int .i64 p1_1, .int .i64 p1_2]] : List (List Value)) [(p1_0, p1_1, p1_2)] from ⟨(O0 ip1_0 ip1_1 ip1_2), trivial⟩)), F2.length (show F2 (N0.R k5) ([[.int .i64 x20_0, .int .i64 x20_1, .int .i64 x20_2]] : List (List Value)) [(x20_0, x20_1, x20_2)] from ⟨(O0 ix20_0 ix20_1 ix20_2), trivial⟩)] | exact congrArg (· + 1) (F2.length (F2.append fu4 (show F2 (N0.R k5) ([[.int .i64 p1_0, .int .i64 p1_1, .int .i64 p1_2]] : List (List Value)) [(p1_0, p1_1, p1_2)] from ⟨(O0 ip1_0 ip1_1 ip1_2), trivial⟩))))) ?_
    refine And.intro rfl (And.intro (by first | exact trivial | exact And.intro rfl trivial | exact And.intro rfl (And.intro rfl trivial) | exact And.intro rfl (And.intro rfl (And.intro rfl trivial)) | exact And.intro rfl (And.intro rfl (And.intro rfl (And.intro rfl trivial)))) (And.intro (by first | exact trivial | exact And.intro rfl trivial | exact And.intro rfl (And.intro rfl trivial) | exact And.intro rfl (And.intro rfl (And.intro rfl trivial)) | exact And.intro rfl (And.intro rfl (And.intro rfl (And.intro rfl trivial)))) (Exists.intro m6 (And.intro ⟨true, (IntKind.i64.wrap (u3 + 1)), ((wu4 ++ ([[.int .i64 p1_0, .int .i64 p1_1, .int .i64 p1_2]] : List (List Value))) ++ ([[.int .i64 x20_0, .int .i64 x20_1, .int .i64 x20_2]] : List (List Value))), ((u4 ++ [(p1_0, p1_1, p1_2)]) ++ [(x20_0, x20_1, x20_2)]), rfl, rfl, sX1, (U0 _), (F2.append (F2.append fu4 (show F2 (N0.R k5) ([[.int .i64 p1_0, .int .i64 p1_1, .int .i64 p1_2]] : List (List Value)) [(p1_0, p1_1, p1_2)] from ⟨(O0 ip1_0 ip1_1 ip1_2), trivial⟩)) (show F2 (N0.R k5) ([[.int .i64 x20_0, .int .i64 x20_1, .int .i64 x20_2]] : List (List Value)) [(x20_0, x20_1, x20_2)] from ⟨(O0 ix20_0 ix20_1 ix20_2), trivial⟩)), hM1⟩ (Nat.lt_succ_self _)))))
   ·have hc18 : ((bif (decide (x9 < 0)) then (!u2) else false)) = false := hc18
    rw [if_neg (K1 hc18)] at hM1
    obtain ⟨x22, gx22, hM1⟩ := j0 hM1
    obtain ⟨bx22, csx22, ex22, rx22⟩ := Sl.getI (r := N0.toRp) (K0.mono sX1 rp0) gx22 (by decide)
    refine And.intro bx22 ?_
    obtain ⟨x22_0, x22_1, x22_2, rfl, rfl, ix22_0, ix22_1, ix22_2⟩ := V0 rx22
    dsimp only at hM1
    refine Exists.intro _ (And.intro ex22 ?_)
    obtain ⟨q23, gq23, hM1⟩ := j0 hM1
    refine And.intro (j3 gq23 (by first | rw [F2.length fu4, F2.length (show F2 (N0.R k5) ([[.int .i64 x22_0, .int .i64 x22_1, .int .i64 x22_2]] : List (List Value)) [(x22_0, x22_1, x22_2)] from ⟨(O0 ix22_0 ix22_1 ix22_2), trivial⟩)] | exact congrArg (· + 1) (F2.length fu4))) ?_
    refine And.intro rfl (And.intro (by first | exact trivial | exact And.intro rfl trivial | exact And.intro rfl (And.intro rfl trivial) | exact And.intro rfl (And.intro rfl (And.intro rfl trivial)) | exact And.intro rfl (And.intro rfl (And.intro rfl (And.intro rfl trivial)))) (And.intro (by first | exact trivial | exact And.intro rfl trivial | exact And.intro rfl (And.intro rfl trivial) | exact And.intro rfl (And.intro rfl (And.intro rfl trivial)) | exact And.intro rfl (And.intro rfl (And.intro rfl (And.intro rfl trivial)))) (Exists.intro m6 (And.intro ⟨u2, (IntKind.i64.wrap (u3 + 1)), (wu4 ++ ([[.int .i64 x22_0, .int .i64 x22_1, .int .i64 x22_2]] : List (List Value))), (u4 ++ [(x22_0, x22_1, x22_2)]), rfl, rfl, sX1, (U0 _), (F2.append fu4 (show F2 (N0.R k5) ([[.int .i64 x22_0, .int .i64 x22_1, .int .i64 x22_2]] : List (List Value)) [(x22_0, x22_1, x22_2)] from ⟨(O0 ix22_0 ix22_1 ix22_2), trivial⟩)), hM1⟩ (Nat.lt_succ_self _)))))
 ·have hc7 : ((decide (u3 < ((p0.length : Nat) : Int)))) = false := hc7
  rw [if_neg (K1 hc7)] at hM1
  have hE := Option.some.inj hM1; subst hE
  try dsimp only [J1, O1] at hM0
  refine And.intro (fun hc24 => ?_) (fun hc24 => ?_)
  ·have hc24 : ((!u2)) = true := hc24
   rw [if_pos hc24] at hM0
   obtain ⟨q25, gq25, hM0⟩ := j0 hM0
   refine And.intro (j3 gq25 (by first | rw [F2.length fu4, F2.length (show F2 (N0.R k5) ([[.int .i64 p1_0, .int .i64 p1_1, .int .i64 p1_2]] : List (List Value)) [(p1_0, p1_1, p1_2)] from ⟨(O0 ip1_0 ip1_1 ip1_2), trivial⟩)] | exact congrArg (· + 1) (F2.length fu4))) ?_
   intro v26 k27 f28
   obtain ⟨az29, cz29, rfl, rz29, sz29, lz29⟩ := E1.out (r := N0.toRp) f28 (F2.append fu4 (show F2 (N0.R k5) ([[.int .i64 p1_0, .int .i64 p1_1, .int .i64 p1_2]] : List (List Value)) [(p1_0, p1_1, p1_2)] from ⟨(O0 ip1_0 ip1_1 ip1_2), trivial⟩))
   have hE := Option.some.inj hM0; subst hE
   exact ⟨az29, ((u4 ++ [(p1_0, p1_1, p1_2)])).length, cz29, rfl, rz29, (sX1.trans sz29)⟩
  ·have hc24 : ((!u2)) = false := hc24
   rw [if_neg (K1 hc24)] at hM0
   intro v30 k31 f32
   obtain ⟨az33, cz33, rfl, rz33, sz33, lz33⟩ := E1.out (r := N0.toRp) f32 fu4
   have hE := Option.some.inj hM0; subst hE
   exact ⟨az33, u4.length, cz33, rfl, rz33, (sX1.trans sz33)⟩
theorem r07 (h : Hp) (p0 : Int) (ip0 : J0 p0) (r : U1) (hM0 : Y5 p0 = some r) :
  Tr Tryz.prog 146 #[.int .i64 p0] h fun v h' => ∃ (a0 : Option Addr) (n0 c0 : Nat), v = .slice a0 n0 c0 ∧ O2.R h' [.slice a0 n0 c0] r ∧ Sub h h' := by
 unfold Y5 at hM0
 refine c3 (args := [.int .i64 p0]) (fn := Tryz.f146) rfl ?_
 obtain ⟨X1, hLX1, hM0⟩ := j0 hM0
 refine Exists.intro { vars := [4], boxes := [], owns := [0], fuel := true } (Exists.intro (fun vs os h' => ∃ (u2 : Int) (wu3 : List (List Value)) (u3 : List Int), vs.tail = [.int .i64 u2] ∧ os = [wu3] ∧ Sub h h' ∧ J0 u2 ∧ F2 (Wp.int.R h') wu3 u3 ∧ p5 p0 (I3 vs) u2 u3 = some X1) (Exists.intro (fun _ _ => 0) ?_))
 refine And.intro (Exists.intro D1 ⟨1, [], ([] : U1), rfl, rfl, (Sub.refl _), (c64 (by decide) (by decide)), (show F2 (Wp.int.R h) ([] : List (List Value)) ([] : U1) from trivial), hLX1⟩) ?_
 rintro v_0 wu3 m5 k4 ⟨u2, zzu3, u3, evX1, eoX1, sX1, iu2, fu3, hM1⟩
 cases evX1
 cases eoX1
 replace hM1 : p5 p0 m5 u2 u3 = some X1 := hM1
 obtain _ | m5 := m5
 ·cases (show (none : Option _) = some X1 from hM1)
 rw [o8] at hM1
 refine And.intro (fun hc6 => ?_) (fun hc6 => ?_)
 ·have hc6 : ((decide (u2 ≤ p0))) = true := hc6
  rw [if_pos hc6] at hM1
  obtain ⟨q7, gq7, hM1⟩ := j0 hM1
  refine And.intro (j3 gq7 (by first | rw [F2.length fu3, F2.length (show F2 (Wp.int.R k4) ([[.int .i64 u2]] : List (List Value)) [u2] from ⟨⟨rfl, iu2⟩, trivial⟩)] | exact congrArg (· + 1) (F2.length fu3))) ?_
  obtain ⟨q8, gq8, hM1⟩ := j0 hM1
  refine And.intro (j3 gq8 (by first | rw [F2.length (F2.append fu3 (show F2 (Wp.int.R k4) ([[.int .i64 u2]] : List (List Value)) [u2] from ⟨⟨rfl, iu2⟩, trivial⟩)), F2.length (show F2 (Wp.int.R k4) ([[.int .i64 (IntKind.i64.wrap (0 - u2))]] : List (List Value)) [(IntKind.i64.wrap (0 - u2))] from ⟨⟨rfl, (U0 _)⟩, trivial⟩)] | exact congrArg (· + 1) (F2.length (F2.append fu3 (show F2 (Wp.int.R k4) ([[.int .i64 u2]] : List (List Value)) [u2] from ⟨⟨rfl, iu2⟩, trivial⟩))))) ?_
  refine And.intro rfl (And.intro (by first | exact trivial | exact And.intro rfl trivial | exact And.intro rfl (And.intro rfl trivial) | exact And.intro rfl (And.intro rfl (And.intro rfl trivial)) | exact And.intro rfl (And.intro rfl (And.intro rfl (And.intro rfl trivial)))) (And.intro (by first | exact trivial | exact And.intro rfl trivial | exact And.intro rfl (And.intro rfl trivial) | exact And.intro rfl (And.intro rfl (And.intro rfl trivial)) | exact And.intro rfl (And.intro rfl (And.intro rfl (And.intro rfl trivial)))) (Exists.intro m5 (And.intro ⟨(IntKind.i64.wrap (u2 + 1)), ((wu3 ++ ([[.int .i64 u2]] : List (List Value))) ++ ([[.int .i64 (IntKind.i64.wrap (0 - u2))]] : List (List Value))), ((u3 ++ [u2]) ++ [(IntKind.i64.wrap (0 - u2))]), rfl, rfl, sX1, (U0 _), (F2.append (F2.append fu3 (show F2 (Wp.int.R k4) ([[.int .i64 u2]] : List (List Value)) [u2] from ⟨⟨rfl, iu2⟩, trivial⟩)) (show F2 (Wp.int.R k4) ([[.int .i64 (IntKind.i64.wrap (0 - u2))]] : List (List Value)) [(IntKind.i64.wrap (0 - u2))] from ⟨⟨rfl, (U0 _)⟩, trivial⟩)), hM1⟩ (Nat.lt_succ_self _)))))
 ·have hc6 : ((decide (u2 ≤ p0))) = false := hc6
  rw [if_neg (K1 hc6)] at hM1
  have hE := Option.some.inj hM1; subst hE
  try dsimp only [J1, O1] at hM0
  intro v9 k10 f11
  obtain ⟨az12, cz12, rfl, rz12, sz12, lz12⟩ := E1.out (r := Wp.int.toRp) f11 fu3
  have hE := Option.some.inj hM0; subst hE
  exact ⟨az12, u3.length, cz12, rfl, rz12, (sX1.trans sz12)⟩
end Go.Proofs.YtfdlgbfeceodeaaGreat
