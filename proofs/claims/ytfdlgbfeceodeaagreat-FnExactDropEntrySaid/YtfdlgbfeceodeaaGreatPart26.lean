/- Texts of the claim, joined: The walks of batch g2; The walks of batch g3; The walks of batch g4; The walks of batch g5. -/
import Derived.Test.YtfdlgbfeceodeaaGreatPart18
import Derived.Test.YtfdlgbfeceodeaaGreatChecked
import Derived.Test.YtfdlgbfeceodeaaGreatH35
import Derived.Test.YtfdlgbfeceodeaaGreatPart24
import Derived.Test.YtfdlgbfeceodeaaGreatSE
import Derived.Test.YtfdlgbfeceodeaaGreatPart21
import Derived.Test.YtfdlgbfeceodeaaGreatH40
import Derived.Test.YtfdlgbfeceodeaaGreatH41
namespace Go.Proofs.YtfdlgbfeceodeaaGreat
open Go.H
set_option linter.unusedVariables false
set_option linter.unusedSimpArgs false
set_option maxRecDepth 10000
theorem K9 (h : Hp) (csp0 : List Value) (p0 : l0) (rp0 : A2.R h csp0 p0) (r : l0) (hM0 : I4 p0 = some r) :
  Tr Tryz.prog 84 #[.agg csp0.toArray] h fun v h' => ∃ (cs0 : List Value), v = .agg cs0.toArray ∧ New A2 h h' cs0 r := by
 obtain ⟨p0_0, p0_1, ap0_2, np0_2, cp0_2, p0_2, rfl, rfl, ip0_0, ip0_1, rp0_2⟩ := H0 rp0
 obtain ⟨rfl, lp0_2⟩ := Sl.len rp0_2
 unfold I4 at hM0
 dsimp only at hM0
 refine B3 (args := [.agg #[.int .i64 p0_0, .int .i64 p0_1, .slice ap0_2 p0_2.length cp0_2]]) (fn := Tryz.f84) rfl ?_
 refine Or.inr (Or.inr (Or.inl (And.intro (And.intro (by kernel_rfl) (by kernel_rfl)) ?_)))
 refine Or.inr ?_
 refine Or.inr ?_
 refine Or.inr ?_
 refine Or.inr ?_
 refine Exists.intro 0 (And.intro (And.intro rfl rfl) ?_)
 refine And.intro trivial (And.intro (by first | exact trivial | exact rfl) ?_)
 obtain ⟨vsy1, ey1, fy1⟩ := Sl.rows (r := M0.toRp) rp0_2
 refine Exists.intro vsy1 (And.intro ey1 ?_)
 obtain ⟨q2, gq2, hM0⟩ := j0 hM0
 refine And.intro (j3 gq2 (by first | rw [F2.length (show F2 (M0.R h) ([] : List (List Value)) ([] : B0) from trivial), F2.length fy1] | exact congrArg (· + 1) (F2.length (show F2 (M0.R h) ([] : List (List Value)) ([] : B0) from trivial)))) ?_
 refine And.intro trivial (And.intro (by first | exact trivial | exact rfl) ?_)
 refine And.intro trivial (And.intro (by first | exact trivial | exact rfl) ?_)
 refine And.intro trivial (And.intro (by first | exact trivial | exact rfl) ?_)
 intro v3 k4 f5
 obtain ⟨az6, cz6, rfl, rz6, sz6, lz6⟩ := P0.out (r := M0.toRp) f5 (F2.append (show F2 (M0.R h) ([] : List (List Value)) ([] : B0) from trivial) fy1)
 have hE := Option.some.inj hM0; subst hE
 exact ⟨([.int .i64 p0_0, .int .i64 p0_1, .slice az6 ((([] : B0) ++ p0_2)).length cz6]), rfl, (New.pair (New.int ip0_0) (New.pair (New.int ip0_1) (P0.newPlain (r := M0) f5 (F2.append (show F2 (M0.R h) ([] : List (List Value)) ([] : B0) from trivial) fy1) (O0e _))))⟩
theorem R05 (h : Hp) (csp0 : List Value) (p0 : l0) (rp0 : A2.R h csp0 p0) (p1 : Int) (ip1 : J0 p1) (r : Int) (hM0 : G6 p0 p1 = some r) :
  Tr Tryz.prog 194 #[.agg csp0.toArray, .int .i64 p1] h fun v h' => v = .int .i64 r ∧ h' = h := by
 obtain ⟨p0_0, p0_1, ap0_2, np0_2, cp0_2, p0_2, rfl, rfl, ip0_0, ip0_1, rp0_2⟩ := H0 rp0
 obtain ⟨rfl, lp0_2⟩ := Sl.len rp0_2
 unfold G6 at hM0
 dsimp only at hM0
 refine Tr.forget (B3 (args := [.agg #[.int .i64 p0_0, .int .i64 p0_1, .slice ap0_2 p0_2.length cp0_2], .int .i64 p1]) (fn := Tryz.f194) rfl ?_)
 obtain ⟨X1, hLX1, hM0⟩ := j0 hM0
 refine Exists.intro { vars := [5, 11], boxes := [], owns := [], fuel := true } (Exists.intro (fun vs os h' => ∃ (u2 : Int) (u3 : Int), vs.tail = [.int .i64 u2, .int .i64 u3] ∧ os = [] ∧ Sub h h' ∧ J0 u2 ∧ J0 u3 ∧ Z1 p0_2 p1 (T2 vs) u2 u3 = some X1) (Exists.intro (fun _ _ => 0) ?_))
 refine And.intro (Exists.intro S0 ⟨0, 0, rfl, rfl, (Sub.refl _), (c64 (by decide) (by decide)), (c64 (by decide) (by decide)), hLX1⟩) ?_
 rintro v_0 v_1 m5 k4 ⟨u2, u3, evX1, eoX1, sX1, iu2, iu3, hM1⟩
 cases evX1
 cases eoX1
 replace hM1 : Z1 p0_2 p1 m5 u2 u3 = some X1 := hM1
 obtain _ | m5 := m5
 ·cases (show (none : Option _) = some X1 from hM1)
 rw [z9] at hM1
 refine And.intro (fun hc6 => ?_) (fun hc6 => ?_)
 ·have hc6 : ((decide (u3 < ((p0_2.length : Nat) : Int)))) = true := hc6
  rw [if_pos hc6] at hM1
  obtain ⟨x7, gx7, hM1⟩ := j0 hM1
  obtain ⟨bx7, csx7, ex7, rx7⟩ := Sl.getI (r := M0.toRp) (I0.mono sX1 rp0_2) gx7 (by decide)
  refine And.intro bx7 ?_
  obtain ⟨x7_0, x7_1, x7_2, rfl, rfl, ix7_0, ix7_1, ix7_2⟩ := Z0 rx7
  dsimp only at hM1
  refine Exists.intro _ (And.intro ex7 ?_)
  refine And.intro (fun hc8 => ?_) (fun hc8 => ?_)
  ·have hc8 : ((decide (x7_0 = p1))) = true := hc8
   rw [if_pos hc8] at hM1
   refine And.intro (fun hc9 => ?_) (fun hc9 => ?_)
   ·have hc9 : ((decide (x7_2 = p1))) = true := hc9
    rw [if_pos hc9] at hM1
    refine And.intro rfl (And.intro (by first | exact trivial | exact And.intro rfl trivial | exact And.intro rfl (And.intro rfl trivial) | exact And.intro rfl (And.intro rfl (And.intro rfl trivial)) | exact And.intro rfl (And.intro rfl (And.intro rfl (And.intro rfl trivial)))) (And.intro (by first | exact trivial | exact And.intro rfl trivial | exact And.intro rfl (And.intro rfl trivial) | exact And.intro rfl (And.intro rfl (And.intro rfl trivial)) | exact And.intro rfl (And.intro rfl (And.intro rfl (And.intro rfl trivial)))) (Exists.intro m5 (And.intro ⟨(IntKind.i64.wrap ((IntKind.i64.wrap (u2 + 1)) + 1)), (IntKind.i64.wrap (u3 + 1)), rfl, rfl, sX1, (K0 _), (K0 _), hM1⟩ (Nat.lt_succ_self _)))))
   ·have hc9 : ((decide (x7_2 = p1))) = false := hc9
    rw [if_neg (Q1 hc9)] at hM1
    refine And.intro rfl (And.intro (by first | exact trivial | exact And.intro rfl trivial | exact And.intro rfl (And.intro rfl trivial) | exact And.intro rfl (And.intro rfl (And.intro rfl trivial)) | exact And.intro rfl (And.intro rfl (And.intro rfl (And.intro rfl trivial)))) (And.intro (by first | exact trivial | exact And.intro rfl trivial | exact And.intro rfl (And.intro rfl trivial) | exact And.intro rfl (And.intro rfl (And.intro rfl trivial)) | exact And.intro rfl (And.intro rfl (And.intro rfl (And.intro rfl trivial)))) (Exists.intro m5 (And.intro ⟨(IntKind.i64.wrap (u2 + 1)), (IntKind.i64.wrap (u3 + 1)), rfl, rfl, sX1, (K0 _), (K0 _), hM1⟩ (Nat.lt_succ_self _)))))
  ·have hc8 : ((decide (x7_0 = p1))) = false := hc8
   rw [if_neg (Q1 hc8)] at hM1
   refine And.intro (fun hc10 => ?_) (fun hc10 => ?_)
   ·have hc10 : ((decide (x7_2 = p1))) = true := hc10
    rw [if_pos hc10] at hM1
    refine And.intro rfl (And.intro (by first | exact trivial | exact And.intro rfl trivial | exact And.intro rfl (And.intro rfl trivial) | exact And.intro rfl (And.intro rfl (And.intro rfl trivial)) | exact And.intro rfl (And.intro rfl (And.intro rfl (And.intro rfl trivial)))) (And.intro (by first | exact trivial | exact And.intro rfl trivial | exact And.intro rfl (And.intro rfl trivial) | exact And.intro rfl (And.intro rfl (And.intro rfl trivial)) | exact And.intro rfl (And.intro rfl (And.intro rfl (And.intro rfl trivial)))) (Exists.intro m5 (And.intro ⟨(IntKind.i64.wrap (u2 + 1)), (IntKind.i64.wrap (u3 + 1)), rfl, rfl, sX1, (K0 _), (K0 _), hM1⟩ (Nat.lt_succ_self _)))))
   ·have hc10 : ((decide (x7_2 = p1))) = false := hc10
    rw [if_neg (Q1 hc10)] at hM1
    refine And.intro rfl (And.intro (by first | exact trivial | exact And.intro rfl trivial | exact And.intro rfl (And.intro rfl trivial) | exact And.intro rfl (And.intro rfl (And.intro rfl trivial)) | exact And.intro rfl (And.intro rfl (And.intro rfl (And.intro rfl trivial)))) (And.intro (by first | exact trivial | exact And.intro rfl trivial | exact And.intro rfl (And.intro rfl trivial) | exact And.intro rfl (And.intro rfl (And.intro rfl trivial)) | exact And.intro rfl (And.intro rfl (And.intro rfl (And.intro rfl trivial)))) (Exists.intro m5 (And.intro ⟨u2, (IntKind.i64.wrap (u3 + 1)), rfl, rfl, sX1, iu2, (K0 _), hM1⟩ (Nat.lt_succ_self _)))))
 ·have hc6 : ((decide (u3 < ((p0_2.length : Nat) : Int)))) = false := hc6
  rw [if_neg (Q1 hc6)] at hM1
  have hE := Option.some.inj hM1; subst hE
  try dsimp only [z1, D1] at hM0
  have hE := Option.some.inj hM0; subst hE
  exact And.intro rfl sX1
theorem G8 (h : Hp) (ap0 : Option Addr) (np0 cp0 : Nat) (p0 : B0) (rp0 : I0.R h [.slice ap0 np0 cp0] p0) (ap1 : Option Addr) (np1 cp1 : Nat) (p1 : B0) (rp1 : I0.R h [.slice ap1 np1 cp1] p1) (r : Bool) (hM0 : J1 p0 p1 = some r) :
  Tr Tryz.prog 196 #[.slice ap0 np0 cp0, .slice ap1 np1 cp1] h fun v h' => v = .bool r ∧ h' = h := by
 obtain ⟨rfl, lp0⟩ := Sl.len rp0
 obtain ⟨rfl, lp1⟩ := Sl.len rp1
 unfold J1 at hM0
 refine Tr.forget (B3 (args := [.slice ap0 p0.length cp0, .slice ap1 p1.length cp1]) (fn := Tryz.f196) rfl ?_)
 refine And.intro (fun hc1 => ?_) (fun hc1 => ?_)
 ·have hc1 : ((!decide (((p0.length : Nat) : Int) = ((p1.length : Nat) : Int)))) = true := hc1
  rw [if_pos hc1] at hM0
  have hE := Option.some.inj hM0; subst hE
  exact And.intro rfl (Sub.refl _)
 ·have hc1 : ((!decide (((p0.length : Nat) : Int) = ((p1.length : Nat) : Int)))) = false := hc1
  rw [if_neg (Q1 hc1)] at hM0
  obtain ⟨X2, hLX2, hM0⟩ := j0 hM0
  refine Exists.intro { vars := [13], boxes := [], owns := [], fuel := true } (Exists.intro (fun vs os h' => ∃ (u3 : Int), vs.tail = [.int .i64 u3] ∧ os = [] ∧ Sub h h' ∧ J0 u3 ∧ Q0 p0 p1 (T2 vs) u3 = some X2) (Exists.intro (fun _ _ => 0) ?_))
  refine And.intro (Exists.intro S0 ⟨0, rfl, rfl, (Sub.refl _), (c64 (by decide) (by decide)), hLX2⟩) ?_
  rintro v_0 m5 k4 ⟨u3, evX2, eoX2, sX2, iu3, hM1⟩
  cases evX2
  cases eoX2
  replace hM1 : Q0 p0 p1 m5 u3 = some X2 := hM1
  obtain _ | m5 := m5
  ·cases (show (none : Option _) = some X2 from hM1)
  rw [j2] at hM1
  refine And.intro (fun hc6 => ?_) (fun hc6 => ?_)
  ·have hc6 : ((decide (u3 < ((p0.length : Nat) : Int)))) = true := hc6
   rw [if_pos hc6] at hM1
   refine Or.inl (And.intro (And.intro (by kernel_rfl) (by kernel_rfl)) ?_)
   obtain ⟨x7, gx7, hM1⟩ := j0 hM1
   obtain ⟨bx7, csx7, ex7, rx7⟩ := Sl.getI (r := M0.toRp) (I0.mono sX2 rp0) gx7 (by decide)
   refine And.intro bx7 ?_
   obtain ⟨x7_0, x7_1, x7_2, rfl, rfl, ix7_0, ix7_1, ix7_2⟩ := Z0 rx7
   dsimp only at hM1
   refine Exists.intro _ (And.intro ex7 ?_)
   obtain ⟨x8, gx8, hM1⟩ := j0 hM1
   obtain ⟨bx8, csx8, ex8, rx8⟩ := Sl.getI (r := M0.toRp) (I0.mono sX2 rp1) gx8 (by decide)
   refine And.intro bx8 ?_
   obtain ⟨x8_0, x8_1, x8_2, rfl, rfl, ix8_0, ix8_1, ix8_2⟩ := Z0 rx8
   dsimp only at hM1
   refine Exists.intro _ (And.intro ex8 ?_)
   refine Exists.intro (!eqE (x7_0, x7_1, x7_2) (x8_0, x8_1, x8_2)) (And.intro (g09 _ _ _ rfl _ _ _ _ _ _) ?_)
   refine And.intro (fun hc9 => ?_) (fun hc9 => ?_)
   ·have hc9 : ((!eqE (x7_0, x7_1, x7_2) (x8_0, x8_1, x8_2))) = true := hc9
    rw [if_pos hc9] at hM1
    have hE := Option.some.inj hM1; subst hE
    try dsimp only [N4, O4] at hM0
    have hE := Option.some.inj hM0; subst hE
    exact And.intro rfl sX2
   ·have hc9 : ((!eqE (x7_0, x7_1, x7_2) (x8_0, x8_1, x8_2))) = false := hc9
    rw [if_neg (Q1 hc9)] at hM1
    refine And.intro rfl (And.intro (by first | exact trivial | exact And.intro rfl trivial | exact And.intro rfl (And.intro rfl trivial) | exact And.intro rfl (And.intro rfl (And.intro rfl trivial)) | exact And.intro rfl (And.intro rfl (And.intro rfl (And.intro rfl trivial)))) (And.intro (by first | exact trivial | exact And.intro rfl trivial | exact And.intro rfl (And.intro rfl trivial) | exact And.intro rfl (And.intro rfl (And.intro rfl trivial)) | exact And.intro rfl (And.intro rfl (And.intro rfl (And.intro rfl trivial)))) (Exists.intro m5 (And.intro ⟨(IntKind.i64.wrap (u3 + 1)), rfl, rfl, sX2, (K0 _), hM1⟩ (Nat.lt_succ_self _)))))
  ·have hc6 : ((decide (u3 < ((p0.length : Nat) : Int)))) = false := hc6
   rw [if_neg (Q1 hc6)] at hM1
   have hE := Option.some.inj hM1; subst hE
   try dsimp only [z1, D1] at hM0
   have hE := Option.some.inj hM0; subst hE
   exact And.intro rfl sX2
theorem O03 (h : Hp) (csp0 : List Value) (p0 : l0) (rp0 : A2.R h csp0 p0) (csp1 : List Value) (p1 : l0) (rp1 : A2.R h csp1 p1) (r : Bool) (hM0 : s6 p0 p1 = some r) :
  Tr Tryz.prog 138 #[.agg csp0.toArray, .agg csp1.toArray] h fun v h' => v = .bool r ∧ h' = h := by
 obtain ⟨p0_0, p0_1, ap0_2, np0_2, cp0_2, p0_2, rfl, rfl, ip0_0, ip0_1, rp0_2⟩ := H0 rp0
 obtain ⟨rfl, lp0_2⟩ := Sl.len rp0_2
 obtain ⟨p1_0, p1_1, ap1_2, np1_2, cp1_2, p1_2, rfl, rfl, ip1_0, ip1_1, rp1_2⟩ := H0 rp1
 obtain ⟨rfl, lp1_2⟩ := Sl.len rp1_2
 unfold s6 at hM0
 dsimp only at hM0
 refine Tr.forget (B3 (args := [.agg #[.int .i64 p0_0, .int .i64 p0_1, .slice ap0_2 p0_2.length cp0_2], .agg #[.int .i64 p1_0, .int .i64 p1_1, .slice ap1_2 p1_2.length cp1_2]]) (fn := Tryz.f138) rfl ?_)
 obtain ⟨x1, gx1, hM0⟩ := j0 hM0
 refine Exists.intro (.bool x1) (And.intro (fun q => G8 _ ap0_2 p0_2.length cp0_2 p0_2 rp0_2 ap1_2 p1_2.length cp1_2 p1_2 rp1_2 _  (n3 gx1 q)) ?_)
 have hE := Option.some.inj hM0; subst hE
 exact And.intro rfl (Sub.refl _)
theorem k03 (h : Hp) (csp0 : List Value) (p0 : l0) (rp0 : A2.R h csp0 p0) (p1 : Int) (ip1 : J0 p1) (r : (List Bool)) (hM0 : Y4 p0 p1 = some r) :
  Tr Tryz.prog 193 #[.agg csp0.toArray, .int .i64 p1] h fun v h' => ∃ (a0 : Option Addr) (n0 c0 : Nat), v = .slice a0 n0 c0 ∧ (Wp.slice Wp.bool).R h' [.slice a0 n0 c0] r ∧ Sub h h' := by
 obtain ⟨p0_0, p0_1, ap0_2, np0_2, cp0_2, p0_2, rfl, rfl, ip0_0, ip0_1, rp0_2⟩ := H0 rp0
 obtain ⟨rfl, lp0_2⟩ := Sl.len rp0_2
 unfold Y4 at hM0
 dsimp only at hM0
 refine B3 (args := [.agg #[.int .i64 p0_0, .int .i64 p0_1, .slice ap0_2 p0_2.length cp0_2], .int .i64 p1]) (fn := Tryz.f193) rfl ?_
 obtain ⟨q1, gq1, hM0⟩ := j0 hM0
 refine And.intro (P4 gq1) ?_
 obtain ⟨x2, gx2, hM0⟩ := j0 hM0
 obtain ⟨bx2, csx2, ex2, rx2⟩ := J4 (F2.rep (p := Wp.bool.R h) (a := [.bool false]) (b := false) rfl (p0_1.toNat)) gx2
 refine And.intro bx2 ?_
 obtain rfl := rx2
 refine Exists.intro _ (And.intro ex2 ?_)
 obtain ⟨X3, hLX3, hM0⟩ := j0 hM0
 refine Exists.intro { vars := [6], boxes := [], owns := [0], fuel := true, kept := [0] } (Exists.intro (fun vs os h' => ∃ (u4 : Bool) (wu5 : List (List Value)) (u5 : List Bool), vs.tail = [.bool u4] ∧ os = [wu5] ∧ Sub h h' ∧ F2 (Wp.bool.R h') wu5 u5 ∧ N3 p0_2 (T2 vs) u4 u5 = some X3) (Exists.intro (fun _ _ => 0) ?_))
 refine And.intro (Exists.intro S0 ⟨true, ((List.replicate p0_1.toNat ([.bool false] : List Value)).set p1.toNat [.bool true]), ((List.replicate p0_1.toNat (false : Bool)).set p1.toNat true), rfl, rfl, (Sub.refl _), (F2.set (p := Wp.bool.R h) (a := [.bool true]) (b := true) rfl p1.toNat (F2.rep (p := Wp.bool.R h) (a := [.bool false]) (b := false) rfl (p0_1.toNat))), hLX3⟩) ?_
 rintro v_0 wu5 m7 k6 ⟨u4, zzu5, u5, evX3, eoX3, sX3, fu5, hM1⟩
 cases evX3
 cases eoX3
 replace hM1 : N3 p0_2 m7 u4 u5 = some X3 := hM1
 obtain _ | m7 := m7
 ·cases (show (none : Option _) = some X3 from hM1)
 rw [v6] at hM1
 refine And.intro (fun hc8 => ?_) (fun hc8 => ?_)
 ·have hc8 : (u4) = true := hc8
  rw [if_pos hc8] at hM1
  obtain ⟨X9, hLX9, hM1⟩ := j0 hM1
  refine Exists.intro { vars := [6, 19], boxes := [], owns := [0], fuel := true, kept := [0] } (Exists.intro (fun vs os h' => ∃ (u10 : Bool) (u11 : Int) (wu12 : List (List Value)) (u12 : List Bool), vs.tail = [.bool u10, .int .i64 u11] ∧ os = [wu12] ∧ Sub k6 h' ∧ J0 u11 ∧ F2 (Wp.bool.R h') wu12 u12 ∧ y2 p0_2 (T2 vs) u10 u11 u12 = some X9) (Exists.intro (fun _ _ => 0) ?_))
  refine And.intro (Exists.intro S0 ⟨false, 0, wu5, u5, rfl, rfl, (Sub.refl _), (c64 (by decide) (by decide)), fu5, hLX9⟩) ?_
  rintro v_0 v_1 wu12 m14 k13 ⟨u10, u11, zzu12, u12, evX9, eoX9, sX9, iu11, fu12, hM2⟩
  cases evX9
  cases eoX9
  replace hM2 : y2 p0_2 m14 u10 u11 u12 = some X9 := hM2
  obtain _ | m14 := m14
  ·cases (show (none : Option _) = some X9 from hM2)
  rw [t6] at hM2
  refine And.intro (fun hc15 => ?_) (fun hc15 => ?_)
  ·have hc15 : ((decide (u11 < ((p0_2.length : Nat) : Int)))) = true := hc15
   rw [if_pos hc15] at hM2
   obtain ⟨x16, gx16, hM2⟩ := j0 hM2
   obtain ⟨bx16, csx16, ex16, rx16⟩ := Sl.getI (r := M0.toRp) (I0.mono (sX3.trans sX9) rp0_2) gx16 (by decide)
   refine And.intro bx16 ?_
   obtain ⟨x16_0, x16_1, x16_2, rfl, rfl, ix16_0, ix16_1, ix16_2⟩ := Z0 rx16
   dsimp only at hM2
   refine Exists.intro _ (And.intro ex16 ?_)
   refine Or.inl (And.intro (And.intro (by kernel_rfl) (by kernel_rfl)) ?_)
   obtain ⟨x17, gx17, hM2⟩ := j0 hM2
   obtain ⟨bx17, csx17, ex17, rx17⟩ := J4 fu12 gx17
   refine And.intro bx17 ?_
   obtain rfl := rx17
   refine Exists.intro _ (And.intro ex17 ?_)
   obtain ⟨x18, gx18, hM2⟩ := j0 hM2
   obtain ⟨bx18, csx18, ex18, rx18⟩ := J4 fu12 gx18
   refine And.intro bx18 ?_
   obtain rfl := rx18
   refine Exists.intro _ (And.intro ex18 ?_)
   refine And.intro (fun hc19 => ?_) (fun hc19 => ?_)
   ·have hc19 : ((!(x17 == x18))) = true := hc19
    rw [if_pos hc19] at hM2
    obtain ⟨x20, gx20, hM2⟩ := j0 hM2
    obtain ⟨bx20, csx20, ex20, rx20⟩ := J4 fu12 gx20
    refine And.intro bx20 ?_
    obtain rfl := rx20
    refine Exists.intro _ (And.intro ex20 ?_)
    obtain ⟨x21, gx21, hM2⟩ := j0 hM2
    obtain ⟨bx21, csx21, ex21, rx21⟩ := J4 (F2.set (p := Wp.bool.R k13) (a := [.bool true]) (b := true) rfl x16_0.toNat fu12) gx21
    refine And.intro bx21 ?_
    obtain rfl := rx21
    refine Exists.intro _ (And.intro ex21 ?_)
    refine And.intro rfl (And.intro (by first | exact trivial | exact And.intro rfl trivial | exact And.intro rfl (And.intro rfl trivial) | exact And.intro rfl (And.intro rfl (And.intro rfl trivial)) | exact And.intro rfl (And.intro rfl (And.intro rfl (And.intro rfl trivial)))) (And.intro (by first | exact trivial | exact And.intro rfl trivial | exact And.intro rfl (And.intro rfl trivial) | exact And.intro rfl (And.intro rfl (And.intro rfl trivial)) | exact And.intro rfl (And.intro rfl (And.intro rfl (And.intro rfl trivial)))) (Exists.intro m14 (And.intro ⟨true, (IntKind.i64.wrap (u11 + 1)), ((wu12.set x16_0.toNat [.bool true]).set x16_2.toNat [.bool true]), ((u12.set x16_0.toNat true).set x16_2.toNat true), rfl, rfl, sX9, (K0 _), (F2.set (p := Wp.bool.R k13) (a := [.bool true]) (b := true) rfl x16_2.toNat (F2.set (p := Wp.bool.R k13) (a := [.bool true]) (b := true) rfl x16_0.toNat fu12)), hM2⟩ (Nat.lt_succ_self _)))))
   ·have hc19 : ((!(x17 == x18))) = false := hc19
    rw [if_neg (Q1 hc19)] at hM2
    refine And.intro rfl (And.intro (by first | exact trivial | exact And.intro rfl trivial | exact And.intro rfl (And.intro rfl trivial) | exact And.intro rfl (And.intro rfl (And.intro rfl trivial)) | exact And.intro rfl (And.intro rfl (And.intro rfl (And.intro rfl trivial)))) (And.intro (by first | exact trivial | exact And.intro rfl trivial | exact And.intro rfl (And.intro rfl trivial) | exact And.intro rfl (And.intro rfl (And.intro rfl trivial)) | exact And.intro rfl (And.intro rfl (And.intro rfl (And.intro rfl trivial)))) (Exists.intro m14 (And.intro ⟨u10, (IntKind.i64.wrap (u11 + 1)), wu12, u12, rfl, rfl, sX9, (K0 _), fu12, hM2⟩ (Nat.lt_succ_self _)))))
  ·have hc15 : ((decide (u11 < ((p0_2.length : Nat) : Int)))) = false := hc15
   rw [if_neg (Q1 hc15)] at hM2
   have hE := Option.some.inj hM2; subst hE
   try dsimp only [z1, D1] at hM1
   refine And.intro rfl (And.intro (by first | exact trivial | exact And.intro rfl trivial | exact And.intro rfl (And.intro rfl trivial) | exact And.intro rfl (And.intro rfl (And.intro rfl trivial)) | exact And.intro rfl (And.intro rfl (And.intro rfl (And.intro rfl trivial)))) (And.intro (by first | exact trivial | exact And.intro rfl trivial | exact And.intro rfl (And.intro rfl trivial) | exact And.intro rfl (And.intro rfl (And.intro rfl trivial)) | exact And.intro rfl (And.intro rfl (And.intro rfl (And.intro rfl trivial)))) (Exists.intro m7 (And.intro ⟨u10, wu12, u12, rfl, rfl, (sX3.trans sX9), fu12, hM1⟩ (Nat.lt_succ_self _)))))
 ·have hc8 : (u4) = false := hc8
  rw [if_neg (Q1 hc8)] at hM1
  have hE := Option.some.inj hM1; subst hE
  try dsimp only [z1, D1] at hM0
  intro v27 k28 f29
  obtain ⟨az30, cz30, rfl, rz30, sz30, lz30⟩ := P0.out (r := Wp.bool.toRp) f29 fu5
  have hE := Option.some.inj hM0; subst hE
  exact ⟨az30, u5.length, cz30, rfl, rz30, (sX3.trans sz30)⟩
theorem n07 (h : Hp) (p0 : Int) (ip0 : J0 p0) (r : D0) (hM0 : p7 p0 = some r) :
  Tr Tryz.prog 156 #[.int .i64 p0] h fun v h' => ∃ (a0 : Option Addr) (n0 c0 : Nat), v = .slice a0 n0 c0 ∧ Q4.R h' [.slice a0 n0 c0] r ∧ Sub h h' := by
 unfold p7 at hM0
 refine B3 (args := [.int .i64 p0]) (fn := Tryz.f156) rfl ?_
 obtain ⟨X1, hLX1, hM0⟩ := j0 hM0
 refine Exists.intro { vars := [4], boxes := [], owns := [0], fuel := true } (Exists.intro (fun vs os h' => ∃ (u2 : Int) (wu3 : List (List Value)) (u3 : List Int), vs.tail = [.int .i64 u2] ∧ os = [wu3] ∧ Sub h h' ∧ J0 u2 ∧ F2 (Wp.int.R h') wu3 u3 ∧ y5 p0 (T2 vs) u2 u3 = some X1) (Exists.intro (fun _ _ => 0) ?_))
 refine And.intro (Exists.intro S0 ⟨1, [], ([] : D0), rfl, rfl, (Sub.refl _), (c64 (by decide) (by decide)), (show F2 (Wp.int.R h) ([] : List (List Value)) ([] : D0) from trivial), hLX1⟩) ?_
 rintro v_0 wu3 m5 k4 ⟨u2, zzu3, u3, evX1, eoX1, sX1, iu2, fu3, hM1⟩
 cases evX1
 cases eoX1
 replace hM1 : y5 p0 m5 u2 u3 = some X1 := hM1
 obtain _ | m5 := m5
 ·cases (show (none : Option _) = some X1 from hM1)
 rw [T7] at hM1
 refine And.intro (fun hc6 => ?_) (fun hc6 => ?_)
 ·have hc6 : ((decide (u2 ≤ p0))) = true := hc6
  rw [if_pos hc6] at hM1
  obtain ⟨q7, gq7, hM1⟩ := j0 hM1
  refine And.intro (j3 gq7 (by first | rw [F2.length fu3, F2.length (show F2 (Wp.int.R k4) ([[.int .i64 u2], [.int .i64 (IntKind.i64.wrap (0 - u2))]] : List (List Value)) [u2, (IntKind.i64.wrap (0 - u2))] from ⟨⟨rfl, iu2⟩, ⟨⟨rfl, (K0 _)⟩, trivial⟩⟩)] | exact congrArg (· + 2) (F2.length fu3))) ?_
  refine And.intro rfl (And.intro (by first | exact trivial | exact And.intro rfl trivial | exact And.intro rfl (And.intro rfl trivial) | exact And.intro rfl (And.intro rfl (And.intro rfl trivial)) | exact And.intro rfl (And.intro rfl (And.intro rfl (And.intro rfl trivial)))) (And.intro (by first | exact trivial | exact And.intro rfl trivial | exact And.intro rfl (And.intro rfl trivial) | exact And.intro rfl (And.intro rfl (And.intro rfl trivial)) | exact And.intro rfl (And.intro rfl (And.intro rfl (And.intro rfl trivial)))) (Exists.intro m5 (And.intro ⟨(IntKind.i64.wrap (u2 + 1)), (wu3 ++ ([[.int .i64 u2], [.int .i64 (IntKind.i64.wrap (0 - u2))]] : List (List Value))), (u3 ++ [u2, (IntKind.i64.wrap (0 - u2))]), rfl, rfl, sX1, (K0 _), (F2.append fu3 (show F2 (Wp.int.R k4) ([[.int .i64 u2], [.int .i64 (IntKind.i64.wrap (0 - u2))]] : List (List Value)) [u2, (IntKind.i64.wrap (0 - u2))] from ⟨⟨rfl, iu2⟩, ⟨⟨rfl, (K0 _)⟩, trivial⟩⟩)), hM1⟩ (Nat.lt_succ_self _)))))
 ·have hc6 : ((decide (u2 ≤ p0))) = false := hc6
  rw [if_neg (Q1 hc6)] at hM1
  have hE := Option.some.inj hM1; subst hE
  try dsimp only [z1, D1] at hM0
  intro v8 k9 f10
  obtain ⟨az11, cz11, rfl, rz11, sz11, lz11⟩ := P0.out (r := Wp.int.toRp) f10 fu3
  have hE := Option.some.inj hM0; subst hE
  exact ⟨az11, u3.length, cz11, rfl, rz11, (sX1.trans sz11)⟩
theorem z07 (h : Hp) (ap0 : Option Addr) (np0 cp0 : Nat) (p0 : B0) (rp0 : I0.R h [.slice ap0 np0 cp0] p0) (r : B0) (hM0 : N8 p0 = some r) :
  Tr Tryz.prog 154 #[.slice ap0 np0 cp0] h fun v h' => ∃ (a0 : Option Addr) (n0 c0 : Nat), v = .slice a0 n0 c0 ∧ New I0 h h' [.slice a0 n0 c0] r := by
 obtain ⟨rfl, lp0⟩ := Sl.len rp0
 unfold N8 at hM0
 refine B3 (args := [.slice ap0 p0.length cp0]) (fn := Tryz.f154) rfl ?_
 obtain ⟨vsy1, ey1, fy1⟩ := Sl.rows (r := M0.toRp) rp0
 refine Exists.intro vsy1 (And.intro ey1 ?_)
 obtain ⟨q2, gq2, hM0⟩ := j0 hM0
 refine And.intro (j3 gq2 (by first | rw [F2.length (show F2 (M0.R h) ([] : List (List Value)) ([] : B0) from trivial), F2.length fy1] | exact congrArg (· + 1) (F2.length (show F2 (M0.R h) ([] : List (List Value)) ([] : B0) from trivial)))) ?_
 refine Or.inl ?_
 intro v3 k4 f5
 obtain ⟨q6, gq6, hM0⟩ := j0 hM0
 refine Tr.mono (u0a _ f5 (F2.append (show F2 (M0.R h) ([] : List (List Value)) ([] : B0) from trivial) fy1) (P4 gq6)) ?_
 rintro _ kz7 ⟨rfl, vsz7, fz7, qz7⟩
 obtain ⟨az7, cz7, rfl, rz7, sz7, lz7⟩ := P0.out (r := M0.toRp) fz7 qz7
 refine Tr.mono (v0a _ fz7 qz7) ?_
 rintro _ kz8 ⟨vsz8, fz8, qz8⟩
 obtain ⟨az8, cz8, rfl, rz8, sz8, lz8⟩ := P0.out (r := M0.toRp) fz8 qz8
 have hE := Option.some.inj hM0; subst hE
 exact ⟨az8, ((E9 eqE (z01 M1 (([] : B0) ++ p0)))).length, cz8, rfl, (P0.newPlain (r := M0) fz8 qz8 (O0e _))⟩
theorem J05 (h : Hp) (csp0 : List Value) (p0 : l0) (rp0 : A2.R h csp0 p0) (ap1 : Option Addr) (np1 cp1 : Nat) (p1 : D0) (rp1 : Q4.R h [.slice ap1 np1 cp1] p1) (r : l0) (hM0 : o8 p0 p1 = some r) :
  Tr Tryz.prog 195 #[.agg csp0.toArray, .slice ap1 np1 cp1] h fun v h' => ∃ (cs0 : List Value), v = .agg cs0.toArray ∧ New A2 h h' cs0 r := by
 obtain ⟨p0_0, p0_1, ap0_2, np0_2, cp0_2, p0_2, rfl, rfl, ip0_0, ip0_1, rp0_2⟩ := H0 rp0
 obtain ⟨rfl, lp0_2⟩ := Sl.len rp0_2
 obtain ⟨rfl, lp1⟩ := Sl.len rp1
 unfold o8 at hM0
 dsimp only at hM0
 refine B3 (args := [.agg #[.int .i64 p0_0, .int .i64 p0_1, .slice ap0_2 p0_2.length cp0_2], .slice ap1 p1.length cp1]) (fn := Tryz.f195) rfl ?_
 obtain ⟨q1, gq1, hM0⟩ := j0 hM0
 refine And.intro (P4 gq1) ?_
 obtain ⟨m2, gm2, hM0⟩ := j0 hM0
 obtain rfl : (List.replicate p0_1.toNat ([.int .i64 0] : List Value)).length = m2 := (F2.length (F2.rep (p := Wp.int.R h) (a := [.int .i64 0]) (b := 0) ⟨rfl, (c64 (by decide) (by decide))⟩ (p0_1.toNat))).trans (Option.some.inj gm2)
 obtain ⟨q3, gq3, hM0⟩ := j0 hM0
 obtain ⟨X4, hLX4, hM0⟩ := j0 hM0
 refine Exists.intro { vars := [17], boxes := [], owns := [0], fuel := true, kept := [0] } (Exists.intro (fun vs os h' => ∃ (u5 : Int) (wu6 : List (List Value)) (u6 : List Int), vs.tail = [.int .i64 u5] ∧ os = [wu6] ∧ Sub h h' ∧ J0 u5 ∧ F2 (Wp.int.R h') wu6 u6 ∧ T6 ((List.replicate p0_1.toNat ([.int .i64 0] : List Value))).length (T2 vs) u5 u6 = some X4) (Exists.intro (fun _ _ => 0) ?_))
 refine And.intro (Exists.intro S0 ⟨0, (List.replicate p0_1.toNat ([.int .i64 0] : List Value)), (List.replicate p0_1.toNat (0 : Int)), rfl, rfl, (Sub.refl _), (c64 (by decide) (by decide)), (F2.rep (p := Wp.int.R h) (a := [.int .i64 0]) (b := 0) ⟨rfl, (c64 (by decide) (by decide))⟩ (p0_1.toNat)), hLX4⟩) ?_
 rintro v_0 wu6 m8 k7 ⟨u5, zzu6, u6, evX4, eoX4, sX4, iu5, fu6, hM1⟩
 cases evX4
 cases eoX4
 replace hM1 : T6 ((List.replicate p0_1.toNat ([.int .i64 0] : List Value))).length m8 u5 u6 = some X4 := hM1
 obtain _ | m8 := m8
 ·cases (show (none : Option _) = some X4 from hM1)
 rw [a9] at hM1
 refine And.intro (fun hc9 => ?_) (fun hc9 => ?_)
 ·have hc9 : ((decide (u5 < (((List.replicate p0_1.toNat ([.int .i64 0] : List Value)).length : Nat) : Int)))) = true := hc9
  rw [if_pos hc9] at hM1
  obtain ⟨x10, gx10, hM1⟩ := j0 hM1
  obtain ⟨bx10, csx10, ex10, rx10⟩ := J4 fu6 gx10
  refine And.intro bx10 ?_
  obtain ⟨rfl, ix10⟩ := rx10
  refine Exists.intro _ (And.intro ex10 ?_)
  refine And.intro rfl (And.intro (by first | exact trivial | exact And.intro rfl trivial | exact And.intro rfl (And.intro rfl trivial) | exact And.intro rfl (And.intro rfl (And.intro rfl trivial)) | exact And.intro rfl (And.intro rfl (And.intro rfl (And.intro rfl trivial)))) (And.intro (by first | exact trivial | exact And.intro rfl trivial | exact And.intro rfl (And.intro rfl trivial) | exact And.intro rfl (And.intro rfl (And.intro rfl trivial)) | exact And.intro rfl (And.intro rfl (And.intro rfl (And.intro rfl trivial)))) (Exists.intro m8 (And.intro ⟨(IntKind.i64.wrap (u5 + 1)), (wu6.set u5.toNat [.int .i64 (-1)]), (u6.set u5.toNat (-1)), rfl, rfl, sX4, (K0 _), (F2.set (p := Wp.int.R k7) (a := [.int .i64 (-1)]) (b := (-1)) ⟨rfl, (c64 (by decide) (by decide))⟩ u5.toNat fu6), hM1⟩ (Nat.lt_succ_self _)))))
 ·have hc9 : ((decide (u5 < (((List.replicate p0_1.toNat ([.int .i64 0] : List Value)).length : Nat) : Int)))) = false := hc9
  rw [if_neg (Q1 hc9)] at hM1
  have hE := Option.some.inj hM1; subst hE
  try dsimp only [z1, D1] at hM0
  obtain ⟨X11, hLX11, hM0⟩ := j0 hM0
  refine Exists.intro { vars := [26], boxes := [], owns := [0], fuel := true, kept := [0] } (Exists.intro (fun vs os h' => ∃ (u12 : Int) (wu13 : List (List Value)) (u13 : List Int), vs.tail = [.int .i64 u12] ∧ os = [wu13] ∧ Sub k7 h' ∧ J0 u12 ∧ F2 (Wp.int.R h') wu13 u13 ∧ S6 p1 (T2 vs) u12 u13 = some X11) (Exists.intro (fun _ _ => 0) ?_))
  refine And.intro (Exists.intro S0 ⟨0, wu6, u6, rfl, rfl, (Sub.refl _), (c64 (by decide) (by decide)), fu6, hLX11⟩) ?_
  rintro v_0 wu13 m15 k14 ⟨u12, zzu13, u13, evX11, eoX11, sX11, iu12, fu13, hM1⟩
  cases evX11
  cases eoX11
  replace hM1 : S6 p1 m15 u12 u13 = some X11 := hM1
  obtain _ | m15 := m15
  ·cases (show (none : Option _) = some X11 from hM1)
  rw [Z8] at hM1
  refine And.intro (fun hc16 => ?_) (fun hc16 => ?_)
  ·have hc16 : ((decide (u12 < ((p1.length : Nat) : Int)))) = true := hc16
   rw [if_pos hc16] at hM1
   obtain ⟨x17, gx17, hM1⟩ := j0 hM1
   obtain ⟨bx17, csx17, ex17, rx17⟩ := Sl.getI (r := Wp.int.toRp) (Q4.mono (sX4.trans sX11) rp1) gx17 (by decide)
   refine And.intro bx17 ?_
   obtain ⟨rfl, ix17⟩ := rx17
   refine Exists.intro _ (And.intro ex17 ?_)
   obtain ⟨x18, gx18, hM1⟩ := j0 hM1
   obtain ⟨bx18, csx18, ex18, rx18⟩ := J4 fu13 gx18
   refine And.intro bx18 ?_
   obtain ⟨rfl, ix18⟩ := rx18
   refine Exists.intro _ (And.intro ex18 ?_)
   refine And.intro rfl (And.intro (by first | exact trivial | exact And.intro rfl trivial | exact And.intro rfl (And.intro rfl trivial) | exact And.intro rfl (And.intro rfl (And.intro rfl trivial)) | exact And.intro rfl (And.intro rfl (And.intro rfl (And.intro rfl trivial)))) (And.intro (by first | exact trivial | exact And.intro rfl trivial | exact And.intro rfl (And.intro rfl trivial) | exact And.intro rfl (And.intro rfl (And.intro rfl trivial)) | exact And.intro rfl (And.intro rfl (And.intro rfl (And.intro rfl trivial)))) (Exists.intro m15 (And.intro ⟨(IntKind.i64.wrap (u12 + 1)), (wu13.set x17.toNat [.int .i64 u12]), (u13.set x17.toNat u12), rfl, rfl, sX11, (K0 _), (F2.set (p := Wp.int.R k14) (a := [.int .i64 u12]) (b := u12) ⟨rfl, iu12⟩ x17.toNat fu13), hM1⟩ (Nat.lt_succ_self _)))))
  ·have hc16 : ((decide (u12 < ((p1.length : Nat) : Int)))) = false := hc16
   rw [if_neg (Q1 hc16)] at hM1
   have hE := Option.some.inj hM1; subst hE
   try dsimp only [z1, D1] at hM0
   obtain ⟨X19, hLX19, hM0⟩ := j0 hM0
   refine Exists.intro { vars := [44], boxes := [2], owns := [1], fuel := true, nilsB := [(2, 2, 116, 3, 24)] } (Exists.intro (fun vs os h' => ∃ (u20 : Int) (u21 : Int) (u22 : Int) (wu23 : List (List Value)) (u23 : List C0), vs.tail = [.int .i64 u20, .int .i64 u21, .int .i64 u22] ∧ os = [wu23] ∧ Sub k14 h' ∧ J0 u20 ∧ J0 u21 ∧ J0 u22 ∧ F2 (M0.R h') wu23 u23 ∧ B5 p0_2 u13 (T2 vs) u20 u21 u22 u23 = some X19) (Exists.intro (fun _ _ => 0) ?_))
   refine And.intro (Exists.intro S0 ⟨0, p0_0, ((p1.length : Nat) : Int), [], ([] : B0), rfl, rfl, (Sub.refl _), (c64 (by decide) (by decide)), ip0_0, (U0b lp1), (show F2 (M0.R k14) [] [] from trivial), hLX19⟩) ?_
   rintro v_0 v_1 v_2 wu23 m25 k24 ⟨u20, u21, u22, zzu23, u23, evX19, eoX19, sX19, iu20, iu21, iu22, fu23, hM1⟩
   cases evX19
   cases eoX19
   replace hM1 : B5 p0_2 u13 m25 u20 u21 u22 u23 = some X19 := hM1
   obtain _ | m25 := m25
   ·cases (show (none : Option _) = some X19 from hM1)
   rw [Y8] at hM1
   refine And.intro (fun hc26 => ?_) (fun hc26 => ?_)
   ·have hc26 : ((decide (u20 < ((p0_2.length : Nat) : Int)))) = true := hc26
    rw [if_pos hc26] at hM1
    obtain ⟨x27, gx27, hM1⟩ := j0 hM1
    obtain ⟨bx27, csx27, ex27, rx27⟩ := Sl.getI (r := M0.toRp) (I0.mono ((sX4.trans sX11).trans sX19) rp0_2) gx27 (by decide)
    refine And.intro bx27 ?_
    obtain ⟨x27_0, x27_1, x27_2, rfl, rfl, ix27_0, ix27_1, ix27_2⟩ := Z0 rx27
    dsimp only at hM1
    refine Exists.intro _ (And.intro ex27 ?_)
    obtain ⟨x28, gx28, hM1⟩ := j0 hM1
    obtain ⟨bx28, csx28, ex28, rx28⟩ := J4 (F2.up (r := Wp.int.toRp) sX19 fu13) gx28
    refine And.intro bx28 ?_
    obtain ⟨rfl, ix28⟩ := rx28
    refine Exists.intro _ (And.intro ex28 ?_)
    obtain ⟨x29, gx29, hM1⟩ := j0 hM1
    obtain ⟨csx29, ex29, rx29⟩ := u04 (F2.up (r := Wp.int.toRp) sX19 fu13) gx29 (W0b k24)
    refine And.intro (fun q => (ex29 q).1) ?_
    obtain ⟨rfl, ix29⟩ := rx29
    refine Exists.intro _ (And.intro (fun q => (ex29 q).2) ?_)
    refine And.intro (fun hc30 => ?_) (fun hc30 => ?_)
    ·have hc30 : ((bif (decide (x28 ≥ 0)) then (decide (x29 ≥ 0)) else false)) = true := hc30
     rw [if_pos hc30] at hM1
     refine Or.inr (Or.inr (Or.inl (And.intro (And.intro (by kernel_rfl) (by kernel_rfl)) ?_)))
     obtain ⟨x31, gx31, hM1⟩ := j0 hM1
     obtain ⟨bx31, csx31, ex31, rx31⟩ := J4 (F2.up (r := Wp.int.toRp) sX19 fu13) gx31
     obtain ⟨rfl, ix31⟩ := rx31
     refine Or.inl ?_
     apply Exists.intro
     refine And.intro ?_ ?_
     ·intro k32 s33
      exact And.intro bx31 (And.intro rfl (And.intro rfl rfl))
     refine Or.inl (Exists.intro (.val (.int .i64 x31)) (And.intro ?_ ?_))
     ·intro k34 s35
      exact Exists.intro _ (And.intro ex31 (And.intro rfl (And.intro rfl rfl)))
     obtain ⟨x36, gx36, hM1⟩ := j0 hM1
     obtain ⟨bx36, csx36, ex36, rx36⟩ := J4 (F2.up (r := Wp.int.toRp) sX19 fu13) gx36
     obtain ⟨rfl, ix36⟩ := rx36
     refine Or.inl ?_
     apply Exists.intro
     refine And.intro ?_ ?_
     ·intro k37 s38
      exact And.intro bx36 (And.intro rfl (And.intro rfl rfl))
     refine Or.inl (Exists.intro (.val (.int .i64 x36)) (And.intro ?_ ?_))
     ·intro k39 s40
      exact Exists.intro _ (And.intro ex36 (And.intro rfl (And.intro rfl rfl)))
     refine Or.inl (Exists.intro (.agg [.val (.int .i64 x31), .val (.int .i64 x27_1), .val (.int .i64 x36)]) (And.intro ?_ ?_))
     ·intro k41 s42
      exact And.intro rfl (And.intro rfl rfl)
     refine Or.inr ?_
     refine Or.inr ?_
     refine Or.inr ?_
     refine Exists.intro 0 (And.intro (And.intro rfl rfl) ?_)
     refine And.intro trivial (And.intro (by first | exact trivial | exact rfl) ?_)
     obtain ⟨q43, gq43, hM1⟩ := j0 hM1
     refine And.intro (j3 gq43 (by first | rw [F2.length fu23, F2.length (show F2 (M0.R k24) ([[.int .i64 x31, .int .i64 x27_1, .int .i64 x36]] : List (List Value)) [(x31, x27_1, x36)] from ⟨(I1 ix31 ix27_1 ix36), trivial⟩)] | exact congrArg (· + 1) (F2.length fu23))) ?_
     refine And.intro trivial (And.intro (by first | exact trivial | exact rfl) ?_)
     refine And.intro trivial (And.intro (by first | exact trivial | exact rfl) ?_)
     refine And.intro rfl (And.intro (by first | exact trivial | exact And.intro rfl trivial | exact And.intro rfl (And.intro rfl trivial) | exact And.intro rfl (And.intro rfl (And.intro rfl trivial)) | exact And.intro rfl (And.intro rfl (And.intro rfl (And.intro rfl trivial)))) (And.intro (by first | exact trivial | exact And.intro rfl trivial | exact And.intro rfl (And.intro rfl trivial) | exact And.intro rfl (And.intro rfl (And.intro rfl trivial)) | exact And.intro rfl (And.intro rfl (And.intro rfl (And.intro rfl trivial)))) (Exists.intro m25 (And.intro ⟨(IntKind.i64.wrap (u20 + 1)), u21, u22, (wu23 ++ ([[.int .i64 x31, .int .i64 x27_1, .int .i64 x36]] : List (List Value))), (u23 ++ [(x31, x27_1, x36)]), rfl, rfl, sX19, (K0 _), iu21, iu22, (F2.append fu23 (show F2 (M0.R k24) ([[.int .i64 x31, .int .i64 x27_1, .int .i64 x36]] : List (List Value)) [(x31, x27_1, x36)] from ⟨(I1 ix31 ix27_1 ix36), trivial⟩)), hM1⟩ (Nat.lt_succ_self _)))))
    ·have hc30 : ((bif (decide (x28 ≥ 0)) then (decide (x29 ≥ 0)) else false)) = false := hc30
     rw [if_neg (Q1 hc30)] at hM1
     refine And.intro rfl (And.intro (by first | exact trivial | exact And.intro rfl trivial | exact And.intro rfl (And.intro rfl trivial) | exact And.intro rfl (And.intro rfl (And.intro rfl trivial)) | exact And.intro rfl (And.intro rfl (And.intro rfl (And.intro rfl trivial)))) (And.intro (by first | exact trivial | exact And.intro rfl trivial | exact And.intro rfl (And.intro rfl trivial) | exact And.intro rfl (And.intro rfl (And.intro rfl trivial)) | exact And.intro rfl (And.intro rfl (And.intro rfl (And.intro rfl trivial)))) (Exists.intro m25 (And.intro ⟨(IntKind.i64.wrap (u20 + 1)), u21, u22, wu23, u23, rfl, rfl, sX19, (K0 _), iu21, iu22, fu23, hM1⟩ (Nat.lt_succ_self _)))))
   ·have hc26 : ((decide (u20 < ((p0_2.length : Nat) : Int)))) = false := hc26
    rw [if_neg (Q1 hc26)] at hM1
    have hE := Option.some.inj hM1; subst hE
    try dsimp only [z1, D1] at hM0
    refine Or.inl ?_
    intro v44 k45 f46
    obtain ⟨az47, cz47, rfl, rz47, sz47, lz47⟩ := P0.out (r := M0.toRp) f46 fu23
    obtain ⟨x48, gx48, hM0⟩ := j0 hM0
    refine Tr.mono (z07 _ az47 u23.length cz47 u23 rz47 _  gx48) ?_
    rintro v50 k49 ⟨ax48, nx48, cx48, rfl, wx48⟩
    have sx48 : Sub k45 k49 := wx48.sub
    have rx48 := wx48.r
    obtain ⟨rfl, lx48⟩ := Sl.len rx48
    have hE := Option.some.inj hM0; subst hE
    exact ⟨([.int .i64 u21, .int .i64 u22, .slice ax48 x48.length cx48]), rfl, (New.pair (New.int iu21) (New.pair (New.int iu22) (New.from wx48 (((sX4.trans sX11).trans sX19).trans sz47))))⟩
theorem A07 (h : Hp) (p0 : ByteArray) (ip0 : p0.size ≤ 9223372036854775807) (r : Bool) (hM0 : O7 p0 = some r) :
  Tr Tryz.prog 82 #[.string p0] h fun v h' => v = .bool r ∧ h' = h := by
 unfold O7 at hM0
 refine Tr.forget (B3 (args := [.string p0]) (fn := Tryz.f82) rfl ?_)
 obtain ⟨x1, gx1, hM0⟩ := j0 hM0
 refine Tr.val (P7 _ ((p0.size : Nat) : Int) (U0b ip0) 1 (c64 (by decide) (by decide)) 8 (c64 (by decide) (by decide)) _  gx1) ?_
 refine And.intro (fun hc2 => ?_) (fun hc2 => ?_)
 ·have hc2 : ((!x1)) = true := hc2
  rw [if_pos hc2] at hM0
  have hE := Option.some.inj hM0; subst hE
  exact And.intro rfl (Sub.refl _)
 ·have hc2 : ((!x1)) = false := hc2
  rw [if_neg (Q1 hc2)] at hM0
  obtain ⟨X3, hLX3, hM0⟩ := j0 hM0
  refine Exists.intro { vars := [3], boxes := [], owns := [], fuel := true } (Exists.intro (fun vs os h' => ∃ (u4 : Int), vs.tail = [.int .i64 u4] ∧ os = [] ∧ Sub h h' ∧ J0 u4 ∧ U5 p0 (T2 vs) u4 = some X3) (Exists.intro (fun _ _ => 0) ?_))
  refine And.intro (Exists.intro S0 ⟨0, rfl, rfl, (Sub.refl _), (c64 (by decide) (by decide)), hLX3⟩) ?_
  rintro v_0 m6 k5 ⟨u4, evX3, eoX3, sX3, iu4, hM1⟩
  cases evX3
  cases eoX3
  replace hM1 : U5 p0 m6 u4 = some X3 := hM1
  obtain _ | m6 := m6
  ·cases (show (none : Option _) = some X3 from hM1)
  rw [p8] at hM1
  refine And.intro (fun hc7 => ?_) (fun hc7 => ?_)
  ·have hc7 : ((decide (u4 < ((p0.size : Nat) : Int)))) = true := hc7
   rw [if_pos hc7] at hM1
   obtain ⟨x8, gx8, hM1⟩ := j0 hM1
   refine Exists.intro _ (And.intro (a00 gx8) ?_)
   obtain ⟨x9, gx9, hM1⟩ := j0 hM1
   refine Exists.intro x9 (And.intro (fun q => a00 (n3 gx9 q)) ?_)
   obtain ⟨x10, gx10, hM1⟩ := j0 hM1
   refine Exists.intro _ (And.intro (a00 gx10) ?_)
   obtain ⟨x11, gx11, hM1⟩ := j0 hM1
   refine Exists.intro x11 (And.intro (fun q => a00 (n3 gx11 q)) ?_)
   refine And.intro (fun hc12 => ?_) (fun hc12 => ?_)
   ·have hc12 : ((bif (!(bif (decide (((x8.toNat : Nat) : Int) ≥ 97)) then (decide (((x9.toNat : Nat) : Int) ≤ 122)) else false)) then (bif (decide (u4 = 0)) then true else (!(bif (decide (((x10.toNat : Nat) : Int) ≥ 48)) then (decide (((x11.toNat : Nat) : Int) ≤ 57)) else false))) else false)) = true := hc12
    rw [if_pos hc12] at hM1
    have hE := Option.some.inj hM1; subst hE
    try dsimp only [N4, O4] at hM0
    have hE := Option.some.inj hM0; subst hE
    exact And.intro rfl sX3
   ·have hc12 : ((bif (!(bif (decide (((x8.toNat : Nat) : Int) ≥ 97)) then (decide (((x9.toNat : Nat) : Int) ≤ 122)) else false)) then (bif (decide (u4 = 0)) then true else (!(bif (decide (((x10.toNat : Nat) : Int) ≥ 48)) then (decide (((x11.toNat : Nat) : Int) ≤ 57)) else false))) else false)) = false := hc12
    rw [if_neg (Q1 hc12)] at hM1
    refine And.intro rfl (And.intro (by first | exact trivial | exact And.intro rfl trivial | exact And.intro rfl (And.intro rfl trivial) | exact And.intro rfl (And.intro rfl (And.intro rfl trivial)) | exact And.intro rfl (And.intro rfl (And.intro rfl (And.intro rfl trivial)))) (And.intro (by first | exact trivial | exact And.intro rfl trivial | exact And.intro rfl (And.intro rfl trivial) | exact And.intro rfl (And.intro rfl (And.intro rfl trivial)) | exact And.intro rfl (And.intro rfl (And.intro rfl (And.intro rfl trivial)))) (Exists.intro m6 (And.intro ⟨(IntKind.i64.wrap (u4 + 1)), rfl, rfl, sX3, (K0 _), hM1⟩ (Nat.lt_succ_self _)))))
  ·have hc7 : ((decide (u4 < ((p0.size : Nat) : Int)))) = false := hc7
   rw [if_neg (Q1 hc7)] at hM1
   have hE := Option.some.inj hM1; subst hE
   try dsimp only [z1, D1] at hM0
   have hE := Option.some.inj hM0; subst hE
   exact And.intro rfl sX3
end Go.Proofs.YtfdlgbfeceodeaaGreat
namespace Go.Proofs.YtfdlgbfeceodeaaGreat
open Go.H
set_option linter.unusedVariables false
set_option linter.unusedSimpArgs false
set_option maxRecDepth 10000
theorem S05 (h : Hp) (ap0 : Option Addr) (np0 cp0 : Nat) (p0 : D0) (rp0 : Q4.R h [.slice ap0 np0 cp0] p0) (r : D0) (hM0 : H6 p0 = some r) :
  Tr Tryz.prog 164 #[.slice ap0 np0 cp0] h fun v h' => ∃ (g0 : Nat) (n0 c0 : Nat), v = .slice (some ⟨g0, 0, none⟩) n0 c0 ∧ New Q4 h h' [.slice (some ⟨g0, 0, none⟩) n0 c0] r := by
 obtain ⟨rfl, lp0⟩ := Sl.len rp0
 unfold H6 at hM0
 refine B3 (args := [.slice ap0 p0.length cp0]) (fn := Tryz.f164) rfl ?_
 obtain ⟨vsy1, ey1, fy1⟩ := Sl.rows (r := Wp.int.toRp) rp0
 refine Exists.intro vsy1 (And.intro ey1 ?_)
 obtain ⟨q2, gq2, hM0⟩ := j0 hM0
 refine And.intro (j3 gq2 (by first | rw [F2.length (show F2 (Wp.int.R h) ([] : List (List Value)) ([] : D0) from trivial), F2.length fy1] | exact congrArg (· + 1) (F2.length (show F2 (Wp.int.R h) ([] : List (List Value)) ([] : D0) from trivial)))) ?_
 intro v3 k4 f5
 obtain ⟨gz6, cz6, rfl, rz6, sz6, lz6⟩ := P0.outS (r := Wp.int.toRp) f5 (F2.append (show F2 (Wp.int.R h) ([] : List (List Value)) ([] : D0) from trivial) fy1)
 have hE := Option.some.inj hM0; subst hE
 exact ⟨gz6, ((([] : D0) ++ p0)).length, cz6, rfl, (P0.newPlain (r := Wp.int) f5 (F2.append (show F2 (Wp.int.R h) ([] : List (List Value)) ([] : D0) from trivial) fy1) (V0b _))⟩
theorem K04 (h : Hp) (csp0 : List Value) (p0 : l0) (rp0 : A2.R h csp0 p0) (p1 : Int) (ip1 : J0 p1) (r : D0 × R08) (hM0 : W7 p0 p1 = some r) :
  Tr Tryz.prog 212 #[.agg csp0.toArray, .int .i64 p1] h fun v h' => ∃ (a0 : Option Addr) (n0 c0 : Nat) (a1 : Option Addr) (n1 c1 : Nat), v = .tuple #[.slice a0 n0 c0, .slice a1 n1 c1] ∧ Q4.R h' [.slice a0 n0 c0] r.1 ∧ s0g.R h' [.slice a1 n1 c1] r.2 ∧ Sub h h' := by
 obtain ⟨p0_0, p0_1, ap0_2, np0_2, cp0_2, p0_2, rfl, rfl, ip0_0, ip0_1, rp0_2⟩ := H0 rp0
 obtain ⟨rfl, lp0_2⟩ := Sl.len rp0_2
 unfold W7 at hM0
 dsimp only at hM0
 refine B3 (args := [.agg #[.int .i64 p0_0, .int .i64 p0_1, .slice ap0_2 p0_2.length cp0_2], .int .i64 p1]) (fn := Tryz.f212) rfl ?_
 obtain ⟨q1, gq1, hM0⟩ := j0 hM0
 refine And.intro (P4 gq1) ?_
 obtain ⟨x2, gx2, hM0⟩ := j0 hM0
 obtain ⟨bx2, csx2, ex2, rx2⟩ := J4 (F2.rep (p := Wp.opt.R h) (a := [.slice none 0 0]) (b := none) (Y0f h) (p0_1.toNat)) gx2
 refine And.intro bx2 ?_
 obtain ⟨ax2, nx2, cx2, rfl, ox2, qx2⟩ := rx2
 obtain ⟨rfl, lx2⟩ := Sl.len qx2
 intro v3 k4 f5
 obtain ⟨gz6, cz6, rfl, rz6, sz6, lz6⟩ := P0.outS (r := Wp.int.toRp) f5 (show F2 (Wp.int.R h) ([] : List (List Value)) ([] : D0) from trivial)
 refine Exists.intro _ (And.intro ex2 ?_)
 obtain ⟨X7, hLX7, hM0⟩ := j0 hM0
 refine Exists.intro { vars := [8], boxes := [], owns := [0, 2], fuel := true, kept := [0] } (Exists.intro (fun vs os h' => ∃ (u8 : Int) (wu9 : List (List Value)) (u9 : List (Option D0)) (wu10 : List (List Value)) (u10 : List Int), vs.tail = [.int .i64 u8] ∧ os = [wu9, wu10] ∧ Sub k4 h' ∧ J0 u8 ∧ F2 (Wp.opt.R h') wu9 u9 ∧ F2 (Wp.int.R h') wu10 u10 ∧ d4 p0_0 p0_1 p0_2 (T2 vs) u8 u9 u10 = some X7) (Exists.intro (fun _ _ => 0) ?_))
 refine And.intro (Exists.intro S0 ⟨0, ((List.replicate p0_1.toNat ([.slice none 0 0] : List Value)).set p1.toNat [.slice (some ⟨gz6, 0, none⟩) (([] : D0)).length cz6]), ((List.replicate p0_1.toNat (none : Option D0)).set p1.toNat (some ([] : D0))), ([[.int .i64 p1]] : List (List Value)), [p1], rfl, rfl, (Sub.refl _), (c64 (by decide) (by decide)), (F2.set (p := Wp.opt.R k4) (a := [.slice (some ⟨gz6, 0, none⟩) (([] : D0)).length cz6]) (b := some ([] : D0)) (Z0f rz6) p1.toNat (F2.up (r := Wp.opt.toRp) sz6 (F2.rep (p := Wp.opt.R h) (a := [.slice none 0 0]) (b := none) (Y0f h) (p0_1.toNat)))), (show F2 (Wp.int.R k4) ([[.int .i64 p1]] : List (List Value)) [p1] from ⟨⟨rfl, ip1⟩, trivial⟩), hLX7⟩) ?_
 rintro v_0 wu9 wu10 m12 k11 ⟨u8, zzu9, u9, zzu10, u10, evX7, eoX7, sX7, iu8, fu9, fu10, hM1⟩
 cases evX7
 cases eoX7
 replace hM1 : d4 p0_0 p0_1 p0_2 m12 u8 u9 u10 = some X7 := hM1
 obtain _ | m12 := m12
 ·cases (show (none : Option _) = some X7 from hM1)
 rw [O8] at hM1
 obtain ⟨m13, gm13, hM1⟩ := j0 hM1
 obtain rfl : wu10.length = m13 := (F2.length fu10).trans (Option.some.inj gm13)
 obtain ⟨q14, gq14, hM1⟩ := j0 hM1
 refine And.intro (fun hc15 => ?_) (fun hc15 => ?_)
 ·have hc15 : ((decide (u8 < ((wu10.length : Nat) : Int)))) = true := hc15
  rw [if_pos hc15] at hM1
  obtain ⟨x16, gx16, hM1⟩ := j0 hM1
  obtain ⟨bx16, csx16, ex16, rx16⟩ := J4 fu10 gx16
  refine And.intro bx16 ?_
  obtain ⟨rfl, ix16⟩ := rx16
  refine Exists.intro _ (And.intro ex16 ?_)
  obtain ⟨x17, gx17, hM1⟩ := j0 hM1
  refine Tr.mono (n07 _ p0_0 ip0_0 _  gx17) ?_
  rintro v19 k18 ⟨ax17, nx17, cx17, rfl, rx17, sx17⟩
  obtain ⟨rfl, lx17⟩ := Sl.len rx17
  obtain ⟨X20, hLX20, hM1⟩ := j0 hM1
  refine Exists.intro { vars := [36], boxes := [], owns := [0, 2], fuel := true, kept := [0] } (Exists.intro (fun vs os h' => ∃ (u21 : Int) (wu22 : List (List Value)) (u22 : List (Option D0)) (wu23 : List (List Value)) (u23 : List Int), vs.tail = [.int .i64 u21] ∧ os = [wu22, wu23] ∧ Sub k18 h' ∧ J0 u21 ∧ F2 (Wp.opt.R h') wu22 u22 ∧ F2 (Wp.int.R h') wu23 u23 ∧ M2 x17 p0_0 p0_1 p0_2 x16 (T2 vs) u21 u22 u23 = some X20) (Exists.intro (fun _ _ => 0) ?_))
  refine And.intro (Exists.intro S0 ⟨0, wu9, u9, wu10, u10, rfl, rfl, (Sub.refl _), (c64 (by decide) (by decide)), (F2.up (r := Wp.opt.toRp) sx17 fu9), (F2.up (r := Wp.int.toRp) sx17 fu10), hLX20⟩) ?_
  rintro v_0 wu22 wu23 m25 k24 ⟨u21, zzu22, u22, zzu23, u23, evX20, eoX20, sX20, iu21, fu22, fu23, hM2⟩
  cases evX20
  cases eoX20
  replace hM2 : M2 x17 p0_0 p0_1 p0_2 x16 m25 u21 u22 u23 = some X20 := hM2
  obtain _ | m25 := m25
  ·cases (show (none : Option _) = some X20 from hM2)
  rw [U6] at hM2
  refine And.intro (fun hc26 => ?_) (fun hc26 => ?_)
  ·have hc26 : ((decide (u21 < ((x17.length : Nat) : Int)))) = true := hc26
   rw [if_pos hc26] at hM2
   obtain ⟨x27, gx27, hM2⟩ := j0 hM2
   obtain ⟨bx27, csx27, ex27, rx27⟩ := Sl.getI (r := Wp.int.toRp) (Q4.mono sX20 rx17) gx27 (by decide)
   refine And.intro bx27 ?_
   obtain ⟨rfl, ix27⟩ := rx27
   refine Exists.intro _ (And.intro ex27 ?_)
   obtain ⟨x28, gx28, hM2⟩ := j0 hM2
   refine Tr.val (I04 _ [.int .i64 p0_0, .int .i64 p0_1, .slice ap0_2 p0_2.length cp0_2] (p0_0, p0_1, p0_2) (z0 ip0_0 ip0_1 (I0.mono (((sz6.trans sX7).trans sx17).trans sX20) rp0_2)) x16 ix16 x27 ix27 _  gx28) ?_
   obtain ⟨q29, gq29, hM2⟩ := j0 hM2
   have ix28 : J0 x28 := P4 gq29
   obtain ⟨x30, gx30, hM2⟩ := j0 hM2
   obtain ⟨csx30, ex30, rx30⟩ := u04 fu22 gx30 (X0g k24)
   refine And.intro (fun q => (ex30 q).1) ?_
   obtain ⟨ax30, nx30, cx30, rfl, ox30, qx30⟩ := rx30
   obtain ⟨rfl, lx30⟩ := Sl.len qx30
   refine Exists.intro _ (And.intro (fun q => (ex30 q).2) ?_)
   refine Exists.intro (x30.isNone) (And.intro (fun _ => by rw [← ox30]; exact W0g _ _ _ rfl _ _ _) ?_)
   refine And.intro (fun hc31 => ?_) (fun hc31 => ?_)
   ·have hc31 : ((bif (decide (x28 ≥ 0)) then x30.isNone else false)) = true := hc31
    rw [if_pos hc31] at hM2
    obtain ⟨x32, gx32, hM2⟩ := j0 hM2
    obtain ⟨bx32, csx32, ex32, rx32⟩ := J4 fu22 gx32
    refine And.intro bx32 ?_
    obtain ⟨ax32, nx32, cx32, rfl, ox32, qx32⟩ := rx32
    obtain ⟨rfl, lx32⟩ := Sl.len qx32
    refine Exists.intro _ (And.intro ex32 ?_)
    obtain ⟨x33, gx33, hM2⟩ := j0 hM2
    refine Tr.mono (S05 _ ax32 (x32.getD []).length cx32 (x32.getD []) qx32 _  gx33) ?_
    rintro v35 k34 ⟨gx33, nx33, cx33, rfl, wx33⟩
    have sx33 : Sub k24 k34 := wx33.sub
    have rx33 := wx33.r
    obtain ⟨rfl, lx33⟩ := Sl.len rx33
    obtain ⟨q36, gq36, hM2⟩ := j0 hM2
    obtain ⟨vsz37, rxz37, lnz37, apz37⟩ := New.app wx33 (Sub.refl _)
    refine Exists.intro vsz37 (And.intro rxz37 (And.intro (j3 gq36 (by first | rw [lnz37, F2.length (show F2 (Wp.int.R k34) ([[.int .i64 x27]] : List (List Value)) [x27] from ⟨⟨rfl, ix27⟩, trivial⟩)] | (rw [lnz37]; rfl))) ?_))
    intro vz37 kz37 happz37
    obtain ⟨wz37, gz37, oz37, nz37, cz37, rfl⟩ := apz37 _ _ _ _ _ (F3.ofPlain (V0b _) (show F2 (Wp.int.R k34) ([[.int .i64 x27]] : List (List Value)) [x27] from ⟨⟨rfl, ix27⟩, trivial⟩)) G5.ofPlain happz37
    have rz37 := wz37.r
    obtain ⟨ez37, lz37⟩ := Sl.len rz37
    subst ez37
    obtain ⟨x38, gx38, hM2⟩ := j0 hM2
    obtain ⟨bx38, csx38, ex38, rx38⟩ := J4 (F2.up (r := Wp.opt.toRp) wz37.sub fu22) gx38
    refine And.intro bx38 ?_
    obtain ⟨ax38, nx38, cx38, rfl, ox38, qx38⟩ := rx38
    obtain ⟨rfl, lx38⟩ := Sl.len qx38
    refine Exists.intro _ (And.intro ex38 ?_)
    obtain ⟨q39, gq39, hM2⟩ := j0 hM2
    refine And.intro (j3 gq39 (by first | rw [F2.length (F2.up (r := Wp.int.toRp) wz37.sub fu23), F2.length (show F2 (Wp.int.R kz37) ([[.int .i64 x28]] : List (List Value)) [x28] from ⟨⟨rfl, ix28⟩, trivial⟩)] | exact congrArg (· + 1) (F2.length (F2.up (r := Wp.int.toRp) wz37.sub fu23)))) ?_
    refine And.intro rfl (And.intro (by first | exact trivial | exact And.intro rfl trivial | exact And.intro rfl (And.intro rfl trivial) | exact And.intro rfl (And.intro rfl (And.intro rfl trivial)) | exact And.intro rfl (And.intro rfl (And.intro rfl (And.intro rfl trivial)))) (And.intro (by first | exact trivial | exact And.intro rfl trivial | exact And.intro rfl (And.intro rfl trivial) | exact And.intro rfl (And.intro rfl (And.intro rfl trivial)) | exact And.intro rfl (And.intro rfl (And.intro rfl (And.intro rfl trivial)))) (Exists.intro m25 (And.intro ⟨(IntKind.i64.wrap (u21 + 1)), (wu22.set x28.toNat [.slice (some ⟨gz37, oz37, none⟩) (x33 ++ [x27]).length cz37]), (u22.set x28.toNat (some (x33 ++ [x27]))), (wu23 ++ ([[.int .i64 x28]] : List (List Value))), (u23 ++ [x28]), rfl, rfl, (sX20.trans wz37.sub), (K0 _), (F2.set (p := Wp.opt.R kz37) (a := [.slice (some ⟨gz37, oz37, none⟩) (x33 ++ [x27]).length cz37]) (b := some (x33 ++ [x27])) (Z0f rz37) x28.toNat (F2.up (r := Wp.opt.toRp) wz37.sub fu22)), (F2.append (F2.up (r := Wp.int.toRp) wz37.sub fu23) (show F2 (Wp.int.R kz37) ([[.int .i64 x28]] : List (List Value)) [x28] from ⟨⟨rfl, ix28⟩, trivial⟩)), hM2⟩ (Nat.lt_succ_self _)))))
   ·have hc31 : ((bif (decide (x28 ≥ 0)) then x30.isNone else false)) = false := hc31
    rw [if_neg (Q1 hc31)] at hM2
    refine And.intro rfl (And.intro (by first | exact trivial | exact And.intro rfl trivial | exact And.intro rfl (And.intro rfl trivial) | exact And.intro rfl (And.intro rfl (And.intro rfl trivial)) | exact And.intro rfl (And.intro rfl (And.intro rfl (And.intro rfl trivial)))) (And.intro (by first | exact trivial | exact And.intro rfl trivial | exact And.intro rfl (And.intro rfl trivial) | exact And.intro rfl (And.intro rfl (And.intro rfl trivial)) | exact And.intro rfl (And.intro rfl (And.intro rfl (And.intro rfl trivial)))) (Exists.intro m25 (And.intro ⟨(IntKind.i64.wrap (u21 + 1)), wu22, u22, wu23, u23, rfl, rfl, sX20, (K0 _), fu22, fu23, hM2⟩ (Nat.lt_succ_self _)))))
  ·have hc26 : ((decide (u21 < ((x17.length : Nat) : Int)))) = false := hc26
   rw [if_neg (Q1 hc26)] at hM2
   have hE := Option.some.inj hM2; subst hE
   try dsimp only [z1, D1] at hM1
   refine And.intro rfl (And.intro (by first | exact trivial | exact And.intro rfl trivial | exact And.intro rfl (And.intro rfl trivial) | exact And.intro rfl (And.intro rfl (And.intro rfl trivial)) | exact And.intro rfl (And.intro rfl (And.intro rfl (And.intro rfl trivial)))) (And.intro (by first | exact trivial | exact And.intro rfl trivial | exact And.intro rfl (And.intro rfl trivial) | exact And.intro rfl (And.intro rfl (And.intro rfl trivial)) | exact And.intro rfl (And.intro rfl (And.intro rfl (And.intro rfl trivial)))) (Exists.intro m12 (And.intro ⟨(IntKind.i64.wrap (u8 + 1)), wu22, u22, wu23, u23, rfl, rfl, ((sX7.trans sx17).trans sX20), (K0 _), fu22, fu23, hM1⟩ (Nat.lt_succ_self _)))))
 ·have hc15 : ((decide (u8 < ((wu10.length : Nat) : Int)))) = false := hc15
  rw [if_neg (Q1 hc15)] at hM1
  have hE := Option.some.inj hM1; subst hE
  try dsimp only [z1, D1] at hM0
  intro v45 k46 f47
  obtain ⟨az48, cz48, rfl, rz48, sz48, lz48⟩ := P0.out (r := Wp.int.toRp) f47 fu10
  intro v49 k50 f51
  obtain ⟨az52, cz52, rfl, rz52, sz52, lz52⟩ := P0.out (r := Q4.toRp) f51 (F2.ofOpt (F2.up (r := Wp.opt.toRp) sz48 fu9))
  have hE := Option.some.inj hM0; subst hE
  exact ⟨az48, u10.length, cz48, az52, (List.map (fun o : Option D0 => o.getD ([] : D0)) u9).length, cz52, rfl, (Q4.mono sz52 rz48), rz52, (((sz6.trans sX7).trans sz48).trans sz52)⟩
theorem l02 (h : Hp) (csp0 : List Value) (p0 : l0) (rp0 : A2.R h csp0 p0) (r : D0) (hM0 : l5 p0 = some r) :
  Tr Tryz.prog 197 #[.agg csp0.toArray] h fun v h' => ∃ (a0 : Option Addr) (n0 c0 : Nat), v = .slice a0 n0 c0 ∧ Q4.R h' [.slice a0 n0 c0] r ∧ Sub h h' := by
 obtain ⟨p0_0, p0_1, ap0_2, np0_2, cp0_2, p0_2, rfl, rfl, ip0_0, ip0_1, rp0_2⟩ := H0 rp0
 obtain ⟨rfl, lp0_2⟩ := Sl.len rp0_2
 unfold l5 at hM0
 dsimp only at hM0
 refine B3 (args := [.agg #[.int .i64 p0_0, .int .i64 p0_1, .slice ap0_2 p0_2.length cp0_2]]) (fn := Tryz.f197) rfl ?_
 obtain ⟨x1, gx1, hM0⟩ := j0 hM0
 refine Tr.val (d00 _ [.int .i64 p0_0, .int .i64 p0_1, .slice ap0_2 p0_2.length cp0_2] (p0_0, p0_1, p0_2) (z0 ip0_0 ip0_1 rp0_2) _  gx1) ?_
 refine And.intro (fun hc2 => ?_) (fun hc2 => ?_)
 ·have hc2 : ((!x1)) = true := hc2
  rw [if_pos hc2] at hM0
  intro v3 k4 f5
  obtain ⟨az6, cz6, rfl, rz6, sz6, lz6⟩ := P0.out (r := Wp.int.toRp) f5 (show F2 (Wp.int.R h) ([] : List (List Value)) ([] : D0) from trivial)
  have hE := Option.some.inj hM0; subst hE
  exact ⟨az6, (([] : D0)).length, cz6, rfl, rz6, sz6⟩
 ·have hc2 : ((!x1)) = false := hc2
  rw [if_neg (Q1 hc2)] at hM0
  obtain ⟨x7, gx7, hM0⟩ := j0 hM0
  refine Tr.mono (K04 _ [.int .i64 p0_0, .int .i64 p0_1, .slice ap0_2 p0_2.length cp0_2] (p0_0, p0_1, p0_2) (z0 ip0_0 ip0_1 rp0_2) 0 (c64 (by decide) (by decide)) _  gx7) ?_
  rintro v9 k8 ⟨ax7_0, nx7_0, cx7_0, ax7_1, nx7_1, cx7_1, rfl, rx7_0, rx7_1, sx7⟩
  obtain ⟨x7_0, x7_1⟩ := x7
  dsimp only at hM0 rx7_0 rx7_1
  obtain ⟨rfl, lx7_0⟩ := Sl.len rx7_0
  obtain ⟨rfl, lx7_1⟩ := Sl.len rx7_1
  have hE := Option.some.inj hM0; subst hE
  exact ⟨ax7_0, x7_0.length, cx7_0, rfl, rx7_0, sx7⟩
theorem m02 (h : Hp) (csp0 : List Value) (p0 : l0) (rp0 : A2.R h csp0 p0) (r : l0) (hM0 : n5 p0 = some r) :
  Tr Tryz.prog 139 #[.agg csp0.toArray] h fun v h' => ∃ (cs0 : List Value), v = .agg cs0.toArray ∧ A2.R h' cs0 r ∧ Sub h h' := by
 obtain ⟨p0_0, p0_1, ap0_2, np0_2, cp0_2, p0_2, rfl, rfl, ip0_0, ip0_1, rp0_2⟩ := H0 rp0
 obtain ⟨rfl, lp0_2⟩ := Sl.len rp0_2
 unfold n5 at hM0
 dsimp only at hM0
 refine B3 (args := [.agg #[.int .i64 p0_0, .int .i64 p0_1, .slice ap0_2 p0_2.length cp0_2]]) (fn := Tryz.f139) rfl ?_
 obtain ⟨x1, gx1, hM0⟩ := j0 hM0
 refine Tr.val (d00 _ [.int .i64 p0_0, .int .i64 p0_1, .slice ap0_2 p0_2.length cp0_2] (p0_0, p0_1, p0_2) (z0 ip0_0 ip0_1 rp0_2) _  gx1) ?_
 refine And.intro (fun hc2 => ?_) (fun hc2 => ?_)
 ·have hc2 : ((!x1)) = true := hc2
  rw [if_pos hc2] at hM0
  obtain ⟨x3, gx3, hM0⟩ := j0 hM0
  refine Tr.mono (K9 _ [.int .i64 p0_0, .int .i64 p0_1, .slice ap0_2 p0_2.length cp0_2] (p0_0, p0_1, p0_2) (z0 ip0_0 ip0_1 rp0_2) _  gx3) ?_
  rintro v5 k4 ⟨csx3, rfl, wx3⟩
  have sx3 : Sub h k4 := wx3.sub
  have rx3 := wx3.r
  obtain ⟨x3_0, x3_1, ax3_2, nx3_2, cx3_2, x3_2, rfl, rfl, ix3_0, ix3_1, rx3_2⟩ := H0 rx3
  obtain ⟨rfl, lx3_2⟩ := Sl.len rx3_2
  try dsimp only at hM0
  have hE := Option.some.inj hM0; subst hE
  exact ⟨([.int .i64 x3_0, .int .i64 x3_1, .slice ax3_2 x3_2.length cx3_2]), rfl, (z0 ix3_0 ix3_1 rx3_2), sx3⟩
 ·have hc2 : ((!x1)) = false := hc2
  rw [if_neg (Q1 hc2)] at hM0
  refine Or.inr (Or.inr (Or.inl (And.intro (And.intro (by kernel_rfl) (by kernel_rfl)) ?_)))
  refine Or.inr ?_
  refine Or.inr ?_
  refine Or.inr ?_
  refine Exists.intro 2 (And.intro (And.intro rfl rfl) ?_)
  obtain ⟨x6, gx6, hM0⟩ := j0 hM0
  refine Tr.mono (l02 _ [.int .i64 p0_0, .int .i64 p0_1, .slice ap0_2 p0_2.length cp0_2] (p0_0, p0_1, p0_2) (z0 ip0_0 ip0_1 rp0_2) _  gx6) ?_
  rintro v8 k7 ⟨ax6, nx6, cx6, rfl, rx6, sx6⟩
  obtain ⟨rfl, lx6⟩ := Sl.len rx6
  refine And.intro (And.intro rfl sx6) (And.intro (by first | exact trivial | exact rfl) ?_)
  obtain ⟨x9, gx9, hM0⟩ := j0 hM0
  refine Tr.mono (J05 _ [.int .i64 p0_0, .int .i64 p0_1, .slice ap0_2 p0_2.length cp0_2] (p0_0, p0_1, p0_2) (z0 ip0_0 ip0_1 (I0.mono sx6 rp0_2)) ax6 x6.length cx6 x6 rx6 _  gx9) ?_
  rintro v11 k10 ⟨csx9, rfl, wx9⟩
  have sx9 : Sub k7 k10 := wx9.sub
  have rx9 := wx9.r
  obtain ⟨x9_0, x9_1, ax9_2, nx9_2, cx9_2, x9_2, rfl, rfl, ix9_0, ix9_1, rx9_2⟩ := H0 rx9
  obtain ⟨rfl, lx9_2⟩ := Sl.len rx9_2
  try dsimp only at hM0
  refine And.intro (And.intro rfl sx9) (And.intro (by first | exact trivial | exact rfl) ?_)
  refine And.intro trivial (And.intro (by first | exact trivial | exact rfl) ?_)
  have hE := Option.some.inj hM0; subst hE
  exact ⟨([.int .i64 x9_0, .int .i64 x9_1, .slice ax9_2 x9_2.length cx9_2]), rfl, (z0 ix9_0 ix9_1 rx9_2), (sx6.trans sx9)⟩
end Go.Proofs.YtfdlgbfeceodeaaGreat
namespace Go.Proofs.YtfdlgbfeceodeaaGreat
open Go.H
set_option linter.unusedVariables false
set_option linter.unusedSimpArgs false
set_option maxRecDepth 10000
theorem t05 (h : Hp) (csp0 : List Value) (p0 : l0) (rp0 : A2.R h csp0 p0) (r : l0 × D0) (hM0 : w7 p0 = some r) :
  Tr Tryz.prog 137 #[.agg csp0.toArray] h fun v h' => ∃ (cs0 : List Value) (a1 : Option Addr) (n1 c1 : Nat), v = .tuple #[.agg cs0.toArray, .slice a1 n1 c1] ∧ A2.R h' cs0 r.1 ∧ Q4.R h' [.slice a1 n1 c1] r.2 ∧ Sub h h' := by
 obtain ⟨p0_0, p0_1, ap0_2, np0_2, cp0_2, p0_2, rfl, rfl, ip0_0, ip0_1, rp0_2⟩ := H0 rp0
 obtain ⟨rfl, lp0_2⟩ := Sl.len rp0_2
 unfold w7 at hM0
 dsimp only at hM0
 refine B3 (args := [.agg #[.int .i64 p0_0, .int .i64 p0_1, .slice ap0_2 p0_2.length cp0_2]]) (fn := Tryz.f137) rfl ?_
 obtain ⟨x1, gx1, hM0⟩ := j0 hM0
 refine Tr.mono (K9 _ [.int .i64 p0_0, .int .i64 p0_1, .slice ap0_2 p0_2.length cp0_2] (p0_0, p0_1, p0_2) (z0 ip0_0 ip0_1 rp0_2) _  gx1) ?_
 rintro v3 k2 ⟨csx1, rfl, wx1⟩
 have sx1 : Sub h k2 := wx1.sub
 have rx1 := wx1.r
 obtain ⟨x1_0, x1_1, ax1_2, nx1_2, cx1_2, x1_2, rfl, rfl, ix1_0, ix1_1, rx1_2⟩ := H0 rx1
 obtain ⟨rfl, lx1_2⟩ := Sl.len rx1_2
 try dsimp only at hM0
 have we4 := New.sndI (New.sndI (wx1))
 obtain ⟨x5, gx5, hM0⟩ := j0 hM0
 refine Tr.val (T02 _ [.int .i64 p0_0, .int .i64 p0_1, .slice ap0_2 p0_2.length cp0_2] (p0_0, p0_1, p0_2) (z0 ip0_0 ip0_1 (I0.mono sx1 rp0_2)) _  gx5) ?_
 refine And.intro (fun hc6 => ?_) (fun hc6 => ?_)
 ·have hc6 : ((!x5)) = true := hc6
  rw [if_pos hc6] at hM0
  intro v7 k8 f9
  obtain ⟨az10, cz10, rfl, rz10, sz10, lz10⟩ := P0.out (r := Wp.int.toRp) f9 (show F2 (Wp.int.R k2) ([] : List (List Value)) ([] : D0) from trivial)
  have hE := Option.some.inj hM0; subst hE
  exact ⟨([.int .i64 x1_0, .int .i64 x1_1, .slice ax1_2 x1_2.length cx1_2]), az10, (([] : D0)).length, cz10, rfl, (z0 ix1_0 ix1_1 (I0.mono sz10 rx1_2)), rz10, (sx1.trans sz10)⟩
 ·have hc6 : ((!x5)) = false := hc6
  rw [if_neg (Q1 hc6)] at hM0
  obtain ⟨X11, hLX11, hM0⟩ := j0 hM0
  refine Exists.intro { vars := [6], boxes := [], owns := [0], fuel := true } (Exists.intro (fun vs os h' => ∃ (u12 : Int) (wu13 : List (List Value)) (u13 : List Int), vs.tail = [.int .i64 u12] ∧ os = [wu13] ∧ Sub k2 h' ∧ J0 u12 ∧ F2 (Wp.int.R h') wu13 u13 ∧ E4 p0_1 (T2 vs) u12 u13 = some X11) (Exists.intro (fun _ _ => 0) ?_))
  refine And.intro (Exists.intro S0 ⟨0, [], ([] : D0), rfl, rfl, (Sub.refl _), (c64 (by decide) (by decide)), (show F2 (Wp.int.R k2) ([] : List (List Value)) ([] : D0) from trivial), hLX11⟩) ?_
  rintro v_0 wu13 m15 k14 ⟨u12, zzu13, u13, evX11, eoX11, sX11, iu12, fu13, hM1⟩
  cases evX11
  cases eoX11
  replace hM1 : E4 p0_1 m15 u12 u13 = some X11 := hM1
  obtain _ | m15 := m15
  ·cases (show (none : Option _) = some X11 from hM1)
  rw [t7] at hM1
  refine And.intro (fun hc16 => ?_) (fun hc16 => ?_)
  ·have hc16 : ((decide (u12 < p0_1))) = true := hc16
   rw [if_pos hc16] at hM1
   obtain ⟨q17, gq17, hM1⟩ := j0 hM1
   refine And.intro (j3 gq17 (by first | rw [F2.length fu13, F2.length (show F2 (Wp.int.R k14) ([[.int .i64 u12]] : List (List Value)) [u12] from ⟨⟨rfl, iu12⟩, trivial⟩)] | exact congrArg (· + 1) (F2.length fu13))) ?_
   refine And.intro rfl (And.intro (by first | exact trivial | exact And.intro rfl trivial | exact And.intro rfl (And.intro rfl trivial) | exact And.intro rfl (And.intro rfl (And.intro rfl trivial)) | exact And.intro rfl (And.intro rfl (And.intro rfl (And.intro rfl trivial)))) (And.intro (by first | exact trivial | exact And.intro rfl trivial | exact And.intro rfl (And.intro rfl trivial) | exact And.intro rfl (And.intro rfl (And.intro rfl trivial)) | exact And.intro rfl (And.intro rfl (And.intro rfl (And.intro rfl trivial)))) (Exists.intro m15 (And.intro ⟨(IntKind.i64.wrap (u12 + 1)), (wu13 ++ ([[.int .i64 u12]] : List (List Value))), (u13 ++ [u12]), rfl, rfl, sX11, (K0 _), (F2.append fu13 (show F2 (Wp.int.R k14) ([[.int .i64 u12]] : List (List Value)) [u12] from ⟨⟨rfl, iu12⟩, trivial⟩)), hM1⟩ (Nat.lt_succ_self _)))))
  ·have hc16 : ((decide (u12 < p0_1))) = false := hc16
   rw [if_neg (Q1 hc16)] at hM1
   have hE := Option.some.inj hM1; subst hE
   try dsimp only [z1, D1] at hM0
   obtain ⟨X22, hLX22, hM0⟩ := j0 hM0
   refine Exists.intro { vars := [5], boxes := [2], owns := [], fuel := true, pubs := [5] } (Exists.intro (fun vs os h' => ∃ (au23 : Option Addr) (nu23 cu23 : Nat) (u23 : D0) (u24 : Int) (u25 : Int) (au26 : Option Addr) (nu26 cu26 : Nat) (u26 : B0), vs.tail = [.slice au23 nu23 cu23, .int .i64 u24, .int .i64 u25, .slice au26 nu26 cu26] ∧ os = [] ∧ Sub k14 h' ∧ New Q4 k14 h' [.slice au23 nu23 cu23] u23 ∧ J0 u24 ∧ J0 u25 ∧ I0.R h' [.slice au26 nu26 cu26] u26 ∧ D4 (T2 vs) u23 u24 u25 u26 = some X22) (Exists.intro (fun _ _ => 0) ?_))
   intro v18 k19 f20
   obtain ⟨az21, cz21, rfl, rz21, sz21, lz21⟩ := P0.out (r := Wp.int.toRp) f20 fu13
   refine And.intro (Exists.intro S0 ⟨az21, u13.length, cz21, u13, x1_0, x1_1, ax1_2, x1_2.length, cx1_2, x1_2, rfl, rfl, sz21, (P0.newPlain (r := Wp.int) f20 fu13 (V0b _)), ix1_0, ix1_1, (I0.mono (sX11.trans sz21) rx1_2), hLX22⟩) ?_
   rintro v_0 v_1 v_2 v_3 m28 k27 ⟨au23, nu23, cu23, u23, u24, u25, au26, nu26, cu26, u26, evX22, eoX22, sX22, wwu23, iu24, iu25, ru26, hM1⟩
   cases evX22
   cases eoX22
   replace hM1 : D4 m28 u23 u24 u25 u26 = some X22 := hM1
   obtain _ | m28 := m28
   ·cases (show (none : Option _) = some X22 from hM1)
   rw [i9] at hM1
   have ru23 := wwu23.r
   obtain ⟨rfl, lu23⟩ := Sl.len ru23
   obtain ⟨rfl, lu26⟩ := Sl.len ru26
   obtain ⟨x29, gx29, hM1⟩ := j0 hM1
   refine Tr.mono (k03 _ [.int .i64 u24, .int .i64 u25, .slice au26 u26.length cu26] (u24, u25, u26) (z0 iu24 iu25 ru26) 0 (c64 (by decide) (by decide)) _  gx29) ?_
   rintro v31 k30 ⟨ax29, nx29, cx29, rfl, rx29, sx29⟩
   obtain ⟨rfl, lx29⟩ := Sl.len rx29
   obtain ⟨X32, hLX32, hM1⟩ := j0 hM1
   refine Exists.intro { vars := [8, 9], boxes := [], owns := [], fuel := true } (Exists.intro (fun vs os h' => ∃ (u33 : Int) (u34 : Int), vs.tail = [.int .i64 u33, .int .i64 u34] ∧ os = [] ∧ Sub k30 h' ∧ J0 u33 ∧ J0 u34 ∧ L2 u25 u24 u26 x29 (T2 vs) u33 u34 = some X32) (Exists.intro (fun _ _ => 0) ?_))
   refine And.intro (Exists.intro S0 ⟨0, 1, rfl, rfl, (Sub.refl _), (c64 (by decide) (by decide)), (c64 (by decide) (by decide)), hLX32⟩) ?_
   rintro v_0 v_1 m36 k35 ⟨u33, u34, evX32, eoX32, sX32, iu33, iu34, hM2⟩
   cases evX32
   cases eoX32
   replace hM2 : L2 u25 u24 u26 x29 m36 u33 u34 = some X32 := hM2
   obtain _ | m36 := m36
   ·cases (show (none : Option _) = some X32 from hM2)
   rw [N5] at hM2
   refine And.intro (fun hc37 => ?_) (fun hc37 => ?_)
   ·have hc37 : ((bif (decide (u34 < u25)) then (decide (u33 = 0)) else false)) = true := hc37
    rw [if_pos hc37] at hM2
    obtain ⟨x38, gx38, hM2⟩ := j0 hM2
    refine Tr.val (R05 _ [.int .i64 u24, .int .i64 u25, .slice au26 u26.length cu26] (u24, u25, u26) (z0 iu24 iu25 (I0.mono (sx29.trans sX32) ru26)) u34 iu34 _  gx38) ?_
    obtain ⟨q39, gq39, hM2⟩ := j0 hM2
    have ix38 : J0 x38 := P4 gq39
    obtain ⟨x40, gx40, hM2⟩ := j0 hM2
    obtain ⟨csx40, ex40, rx40⟩ := Sl.getG (r := Wp.bool.toRp) ((Wp.slice Wp.bool).mono sX32 rx29) gx40 (by decide) (p0g k35)
    refine And.intro (fun q => (ex40 q).1) ?_
    obtain rfl := rx40
    refine Exists.intro _ (And.intro (fun q => (ex40 q).2) ?_)
    refine And.intro (fun hc41 => ?_) (fun hc41 => ?_)
    ·have hc41 : ((bif (decide (x38 < 2)) then true else (!x40))) = true := hc41
     rw [if_pos hc41] at hM2
     refine And.intro rfl (And.intro (by first | exact trivial | exact And.intro rfl trivial | exact And.intro rfl (And.intro rfl trivial) | exact And.intro rfl (And.intro rfl (And.intro rfl trivial)) | exact And.intro rfl (And.intro rfl (And.intro rfl (And.intro rfl trivial)))) (And.intro (by first | exact trivial | exact And.intro rfl trivial | exact And.intro rfl (And.intro rfl trivial) | exact And.intro rfl (And.intro rfl (And.intro rfl trivial)) | exact And.intro rfl (And.intro rfl (And.intro rfl (And.intro rfl trivial)))) (Exists.intro m36 (And.intro ⟨u34, (IntKind.i64.wrap (u34 + 1)), rfl, rfl, sX32, iu34, (K0 _), hM2⟩ (Nat.lt_succ_self _)))))
    ·have hc41 : ((bif (decide (x38 < 2)) then true else (!x40))) = false := hc41
     rw [if_neg (Q1 hc41)] at hM2
     refine And.intro rfl (And.intro (by first | exact trivial | exact And.intro rfl trivial | exact And.intro rfl (And.intro rfl trivial) | exact And.intro rfl (And.intro rfl (And.intro rfl trivial)) | exact And.intro rfl (And.intro rfl (And.intro rfl (And.intro rfl trivial)))) (And.intro (by first | exact trivial | exact And.intro rfl trivial | exact And.intro rfl (And.intro rfl trivial) | exact And.intro rfl (And.intro rfl (And.intro rfl trivial)) | exact And.intro rfl (And.intro rfl (And.intro rfl (And.intro rfl trivial)))) (Exists.intro m36 (And.intro ⟨u33, (IntKind.i64.wrap (u34 + 1)), rfl, rfl, sX32, iu33, (K0 _), hM2⟩ (Nat.lt_succ_self _)))))
   ·have hc37 : ((bif (decide (u34 < u25)) then (decide (u33 = 0)) else false)) = false := hc37
    rw [if_neg (Q1 hc37)] at hM2
    have hE := Option.some.inj hM2; subst hE
    try dsimp only [z1, D1] at hM1
    refine And.intro (fun hc42 => ?_) (fun hc42 => ?_)
    ·have hc42 : ((decide (u33 = 0))) = true := hc42
     rw [if_pos hc42] at hM1
     have hE := Option.some.inj hM1; subst hE
     try dsimp only [N4, O4] at hM0
     have hE := Option.some.inj hM0; subst hE
     exact ⟨([.int .i64 u24, .int .i64 u25, .slice au26 u26.length cu26]), au23, u23.length, cu23, rfl, (z0 iu24 iu25 (I0.mono (sx29.trans sX32) ru26)), (Q4.mono (sx29.trans sX32) ru23), ((((sx1.trans sX11).trans sX22).trans sx29).trans sX32)⟩
    ·have hc42 : ((decide (u33 = 0))) = false := hc42
     rw [if_neg (Q1 hc42)] at hM1
     obtain ⟨X43, hLX43, hM1⟩ := j0 hM1
     refine Exists.intro { vars := [11], boxes := [], owns := [1], fuel := true } (Exists.intro (fun vs os h' => ∃ (u44 : Int) (wu45 : List (List Value)) (u45 : List Int), vs.tail = [.int .i64 u44] ∧ os = [wu45] ∧ Sub k35 h' ∧ J0 u44 ∧ F2 (Wp.int.R h') wu45 u45 ∧ Z2 u25 u33 (T2 vs) u44 u45 = some X43) (Exists.intro (fun _ _ => 0) ?_))
     refine And.intro (Exists.intro S0 ⟨0, [], ([] : D0), rfl, rfl, (Sub.refl _), (c64 (by decide) (by decide)), (show F2 (Wp.int.R k35) ([] : List (List Value)) ([] : D0) from trivial), hLX43⟩) ?_
     rintro v_0 wu45 m47 k46 ⟨u44, zzu45, u45, evX43, eoX43, sX43, iu44, fu45, hM2⟩
     cases evX43
     cases eoX43
     replace hM2 : Z2 u25 u33 m47 u44 u45 = some X43 := hM2
     obtain _ | m47 := m47
     ·cases (show (none : Option _) = some X43 from hM2)
     rw [r7] at hM2
     refine And.intro (fun hc48 => ?_) (fun hc48 => ?_)
     ·have hc48 : ((decide (u44 < u25))) = true := hc48
      rw [if_pos hc48] at hM2
      refine And.intro (fun hc49 => ?_) (fun hc49 => ?_)
      ·have hc49 : ((!decide (u44 = u33))) = true := hc49
       rw [if_pos hc49] at hM2
       obtain ⟨q50, gq50, hM2⟩ := j0 hM2
       refine And.intro (j3 gq50 (by first | rw [F2.length fu45, F2.length (show F2 (Wp.int.R k46) ([[.int .i64 u44]] : List (List Value)) [u44] from ⟨⟨rfl, iu44⟩, trivial⟩)] | exact congrArg (· + 1) (F2.length fu45))) ?_
       refine And.intro rfl (And.intro (by first | exact trivial | exact And.intro rfl trivial | exact And.intro rfl (And.intro rfl trivial) | exact And.intro rfl (And.intro rfl (And.intro rfl trivial)) | exact And.intro rfl (And.intro rfl (And.intro rfl (And.intro rfl trivial)))) (And.intro (by first | exact trivial | exact And.intro rfl trivial | exact And.intro rfl (And.intro rfl trivial) | exact And.intro rfl (And.intro rfl (And.intro rfl trivial)) | exact And.intro rfl (And.intro rfl (And.intro rfl (And.intro rfl trivial)))) (Exists.intro m47 (And.intro ⟨(IntKind.i64.wrap (u44 + 1)), (wu45 ++ ([[.int .i64 u44]] : List (List Value))), (u45 ++ [u44]), rfl, rfl, sX43, (K0 _), (F2.append fu45 (show F2 (Wp.int.R k46) ([[.int .i64 u44]] : List (List Value)) [u44] from ⟨⟨rfl, iu44⟩, trivial⟩)), hM2⟩ (Nat.lt_succ_self _)))))
      ·have hc49 : ((!decide (u44 = u33))) = false := hc49
       rw [if_neg (Q1 hc49)] at hM2
       refine And.intro rfl (And.intro (by first | exact trivial | exact And.intro rfl trivial | exact And.intro rfl (And.intro rfl trivial) | exact And.intro rfl (And.intro rfl (And.intro rfl trivial)) | exact And.intro rfl (And.intro rfl (And.intro rfl (And.intro rfl trivial)))) (And.intro (by first | exact trivial | exact And.intro rfl trivial | exact And.intro rfl (And.intro rfl trivial) | exact And.intro rfl (And.intro rfl (And.intro rfl trivial)) | exact And.intro rfl (And.intro rfl (And.intro rfl (And.intro rfl trivial)))) (Exists.intro m47 (And.intro ⟨(IntKind.i64.wrap (u44 + 1)), wu45, u45, rfl, rfl, sX43, (K0 _), fu45, hM2⟩ (Nat.lt_succ_self _)))))
     ·have hc48 : ((decide (u44 < u25))) = false := hc48
      rw [if_neg (Q1 hc48)] at hM2
      have hE := Option.some.inj hM2; subst hE
      try dsimp only [z1, D1] at hM1
      refine Or.inl ?_
      intro v51 k52 f53
      obtain ⟨az54, cz54, rfl, rz54, sz54, lz54⟩ := P0.out (r := Wp.int.toRp) f53 fu45
      obtain ⟨x55, gx55, hM1⟩ := j0 hM1
      refine Tr.mono (J05 _ [.int .i64 u24, .int .i64 u25, .slice au26 u26.length cu26] (u24, u25, u26) (z0 iu24 iu25 (I0.mono (((sx29.trans sX32).trans sX43).trans sz54) ru26)) az54 u45.length cz54 u45 rz54 _  gx55) ?_
      rintro v57 k56 ⟨csx55, rfl, wx55⟩
      have sx55 : Sub k52 k56 := wx55.sub
      have rx55 := wx55.r
      obtain ⟨x55_0, x55_1, ax55_2, nx55_2, cx55_2, x55_2, rfl, rfl, ix55_0, ix55_1, rx55_2⟩ := H0 rx55
      obtain ⟨rfl, lx55_2⟩ := Sl.len rx55_2
      try dsimp only at hM1
      have we58 := New.sndI (New.sndI (wx55))
      obtain ⟨x61, gx61, hM1⟩ := j0 hM1
      obtain ⟨x62, gx62, hM1⟩ := j0 hM1
      obtain ⟨q63, gq63, hM1⟩ := j0 hM1
      obtain ⟨qaz64, baz64, eaz64, gz64, oz64, Az64, Cz64, usz64, vsz64, eqz64, qbz64, bbz64, lcz64, mcz64, rxz64, sxz64, luz64, lvz64, apz64⟩ := New.drop wwu23 ((((sx29.trans sX32).trans sX43).trans sz54).trans sx55) gx61 gx62 (P0e lu23 gx61 gx62)
      subst eqz64
      refine Or.inr (Or.inr (Or.inl (And.intro (And.intro (by kernel_rfl) (by kernel_rfl)) ?_)))
      refine Or.inl (Exists.intro (.val (.slice (some ⟨gz64, oz64, none⟩) x61.length cu23)) (And.intro ?_ ?_))
      ·intro hh sb
       obtain ⟨vs, e⟩ := eaz64 hh sb
       exact And.intro baz64 (Exists.intro vs (And.intro e (fun v _ hv => And.intro (congrArg AV.val (qaz64 v hv)) (And.intro rfl rfl))))
      refine Or.inl (Exists.intro (.val (.int .i64 (IntKind.i64.wrap (u33 + 1)))) (And.intro ?_ ?_))
      ·intro k59 s60
       exact And.intro rfl (And.intro rfl rfl)
      refine Or.inl (Exists.intro (.val (.slice Az64 x62.length Cz64)) (And.intro ?_ ?_))
      ·intro hh sb
       obtain ⟨vs, e⟩ := eaz64 hh sb
       exact And.intro bbz64 (Exists.intro vs (And.intro e (fun v _ hv => And.intro (congrArg AV.val (qbz64 v hv)) (And.intro rfl rfl))))
      refine Or.inr ?_
      refine Exists.intro 0 (And.intro (And.intro rfl rfl) ?_)
      refine Exists.intro vsz64 (And.intro sxz64 (Exists.intro usz64 (And.intro rxz64 (And.intro (j3 gq63 (by rw [luz64, lvz64])) ?_))))
      intro vz64 kz64 happz64
      obtain ⟨wz64, ⟨az64, nz64, cz64, rfl⟩, kpz64⟩ := apz64 _ _ happz64
      have rz64 := wz64.r
      obtain ⟨ez64, lz64⟩ := Sl.len rz64
      subst ez64
      refine And.intro trivial (And.intro (by first | exact trivial | exact rfl) ?_)
      have wy65 := kpz64 M0.slice _ _ _ we58 (((sx29.trans sX32).trans sX43).trans sz54)
      refine And.intro rfl (And.intro (by first | exact trivial | exact And.intro rfl trivial | exact And.intro rfl (And.intro rfl trivial) | exact And.intro rfl (And.intro rfl (And.intro rfl trivial)) | exact And.intro rfl (And.intro rfl (And.intro rfl (And.intro rfl trivial)))) (And.intro (by first | exact trivial | exact And.intro rfl trivial | exact And.intro rfl (And.intro rfl trivial) | exact And.intro rfl (And.intro rfl (And.intro rfl trivial)) | exact And.intro rfl (And.intro rfl (And.intro rfl (And.intro rfl trivial)))) (Exists.intro m28 (And.intro ⟨az64, (x61 ++ x62).length, cz64, (x61 ++ x62), x55_0, x55_1, ax55_2, x55_2.length, cx55_2, x55_2, rfl, rfl, wz64.sub, wz64, ix55_0, ix55_1, wy65.r, hM1⟩ (Nat.lt_succ_self _)))))
theorem B07 (h : Hp) (csp0 : List Value) (p0 : l0) (rp0 : A2.R h csp0 p0) (r : Bool) (hM0 : V6 p0 = some r) :
  Tr Tryz.prog 83 #[.agg csp0.toArray] h fun v h' => v = .bool r ∧ h' = h := by
 obtain ⟨p0_0, p0_1, ap0_2, np0_2, cp0_2, p0_2, rfl, rfl, ip0_0, ip0_1, rp0_2⟩ := H0 rp0
 obtain ⟨rfl, lp0_2⟩ := Sl.len rp0_2
 unfold V6 at hM0
 dsimp only at hM0
 refine Tr.forget (B3 (args := [.agg #[.int .i64 p0_0, .int .i64 p0_1, .slice ap0_2 p0_2.length cp0_2]]) (fn := Tryz.f83) rfl ?_)
 obtain ⟨x1, gx1, hM0⟩ := j0 hM0
 refine Tr.val (d00 _ [.int .i64 p0_0, .int .i64 p0_1, .slice ap0_2 p0_2.length cp0_2] (p0_0, p0_1, p0_2) (z0 ip0_0 ip0_1 rp0_2) _  gx1) ?_
 refine And.intro (fun hc2 => ?_) (fun hc2 => ?_)
 ·have hc2 : ((!x1)) = true := hc2
  rw [if_pos hc2] at hM0
  have hE := Option.some.inj hM0; subst hE
  exact And.intro rfl (Sub.refl _)
 ·have hc2 : ((!x1)) = false := hc2
  rw [if_neg (Q1 hc2)] at hM0
  obtain ⟨x3, gx3, hM0⟩ := j0 hM0
  refine Tr.mono (t05 _ [.int .i64 p0_0, .int .i64 p0_1, .slice ap0_2 p0_2.length cp0_2] (p0_0, p0_1, p0_2) (z0 ip0_0 ip0_1 rp0_2) _  gx3) ?_
  rintro v5 k4 ⟨csx3_0, ax3_1, nx3_1, cx3_1, rfl, rx3_0, rx3_1, sx3⟩
  obtain ⟨x3_0, x3_1⟩ := x3
  dsimp only at hM0 rx3_0 rx3_1
  obtain ⟨x3_0_0, x3_0_1, ax3_0_2, nx3_0_2, cx3_0_2, x3_0_2, rfl, rfl, ix3_0_0, ix3_0_1, rx3_0_2⟩ := H0 rx3_0
  obtain ⟨rfl, lx3_0_2⟩ := Sl.len rx3_0_2
  try dsimp only at hM0
  obtain ⟨rfl, lx3_1⟩ := Sl.len rx3_1
  refine Or.inr (Or.inr (Or.inr (And.intro (And.intro (by kernel_rfl) (by kernel_rfl)) ?_)))
  refine Or.inl (Exists.intro (.val (.bool (decide (x3_0_1 = p0_1)))) (And.intro ?_ ?_))
  ·intro k6 s7
   exact And.intro rfl (And.intro rfl rfl)
  obtain ⟨x8, gx8, hM0⟩ := j0 hM0
  obtain ⟨x8_0, x8_1, x8_2⟩ := x8
  try dsimp only at hM0
  refine Or.inr (Exists.intro (fun v hh => ∃ (ax8_2 : Option Addr) (cx8_2 : Nat), v = .agg #[.int .i64 x8_0, .int .i64 x8_1, .slice ax8_2 x8_2.length cx8_2] ∧ J0 x8_0 ∧ J0 x8_1 ∧ I0.R hh [.slice ax8_2 x8_2.length cx8_2] x8_2 ∧ x8_2.length ≤ 9223372036854775807) (And.intro (fun v h1 h2 sb q => by obtain ⟨ax8_2, cx8_2, e, f0, f1, f2, f3⟩ := q; exact ⟨ax8_2, cx8_2, e, f0, f1, I0.mono sb f2, f3⟩) (And.intro ?_ ?_)))
  ·intro k9 s10 hq
   refine Tr.mono (m02 _ [.int .i64 p0_0, .int .i64 p0_1, .slice ap0_2 p0_2.length cp0_2] (p0_0, p0_1, p0_2) (z0 ip0_0 ip0_1 (I0.mono (sx3.trans s10) rp0_2)) _ (n3 gx8 hq)) ?_
   rintro _ kk ⟨csx8, rfl, rx8, sb⟩
   obtain ⟨yx8_0, yx8_1, ayx8_2, nyx8_2, cyx8_2, yx8_2, rfl, ey, iyx8_0, iyx8_1, ryx8_2⟩ := H0 rx8
   cases ey
   obtain ⟨rfl, lyx8_2⟩ := Sl.len ryx8_2
   exact And.intro P0f (And.intro sb ⟨ayx8_2, cyx8_2, rfl, iyx8_0, iyx8_1, ryx8_2, lyx8_2⟩)
  obtain ⟨x11, gx11, hM0⟩ := j0 hM0
  refine Or.inl (Exists.intro (.val (.bool x11)) (And.intro ?_ ?_))
  ·intro k12 s13 hq
   rintro _ ⟨az142, cz142, rfl, iz140, iz141, rz142, lz142⟩
   exact Tr.val (O03 _ [.int .i64 x8_0, .int .i64 x8_1, .slice az142 x8_2.length cz142] (x8_0, x8_1, x8_2) (z0 iz140 iz141 rz142) [.int .i64 p0_0, .int .i64 p0_1, .slice ap0_2 p0_2.length cp0_2] (p0_0, p0_1, p0_2) (z0 ip0_0 ip0_1 (I0.mono (sx3.trans s13) rp0_2)) _ (n3 gx11 hq)) (And.intro rfl (And.intro rfl rfl))
  intro k15 s16
  have hE := Option.some.inj hM0; subst hE
  exact And.intro rfl (sx3.trans s16)
theorem u05 (h : Hp) (csp0 : List Value) (p0 : O0) (rp0 : E1.R h csp0 p0) (r : Bool) (hM0 : z7 p0 = some r) :
  Tr Tryz.prog 74 #[.agg csp0.toArray] h fun v h' => v = .bool r ∧ h' = h := by
 obtain ⟨p0_0, ap0_1, np0_1, cp0_1, p0_1, rfl, rfl, ip0_0, rp0_1⟩ := z2 rp0
 obtain ⟨rfl, lp0_1⟩ := Sl.len rp0_1
 unfold z7 at hM0
 dsimp only at hM0
 refine Tr.forget (B3 (args := [.agg #[.int .i64 p0_0, .slice ap0_1 p0_1.length cp0_1]]) (fn := Tryz.f74) rfl ?_)
 obtain ⟨x1, gx1, hM0⟩ := j0 hM0
 refine Tr.val (P7 _ p0_0 ip0_0 1 (c64 (by decide) (by decide)) 3 (c64 (by decide) (by decide)) _  gx1) ?_
 refine And.intro (fun hc2 => ?_) (fun hc2 => ?_)
 ·have hc2 : ((bif (!x1) then true else (decide (((p0_1.length : Nat) : Int) > 16)))) = true := hc2
  rw [if_pos hc2] at hM0
  have hE := Option.some.inj hM0; subst hE
  exact And.intro rfl (Sub.refl _)
 ·have hc2 : ((bif (!x1) then true else (decide (((p0_1.length : Nat) : Int) > 16)))) = false := hc2
  rw [if_neg (Q1 hc2)] at hM0
  obtain ⟨X3, hLX3, hM0⟩ := j0 hM0
  refine Exists.intro { vars := [18], boxes := [], owns := [], fuel := true } (Exists.intro (fun vs os h' => ∃ (u4 : Int), vs.tail = [.int .i64 u4] ∧ os = [] ∧ Sub h h' ∧ J0 u4 ∧ G4 p0_1 p0_0 (T2 vs) u4 = some X3) (Exists.intro (fun _ _ => 0) ?_))
  refine And.intro (Exists.intro S0 ⟨0, rfl, rfl, (Sub.refl _), (c64 (by decide) (by decide)), hLX3⟩) ?_
  rintro v_0 m6 k5 ⟨u4, evX3, eoX3, sX3, iu4, hM1⟩
  cases evX3
  cases eoX3
  replace hM1 : G4 p0_1 p0_0 m6 u4 = some X3 := hM1
  obtain _ | m6 := m6
  ·cases (show (none : Option _) = some X3 from hM1)
  rw [y7] at hM1
  refine And.intro (fun hc7 => ?_) (fun hc7 => ?_)
  ·have hc7 : ((decide (u4 < ((p0_1.length : Nat) : Int)))) = true := hc7
   rw [if_pos hc7] at hM1
   obtain ⟨x8, gx8, hM1⟩ := j0 hM1
   obtain ⟨bx8, csx8, ex8, rx8⟩ := Sl.getI (r := H1.toRp) (U2.mono sX3 rp0_1) gx8 (by decide)
   refine And.intro bx8 ?_
   obtain ⟨x8_0, x8_1, x8_2, ax8_3, nx8_3, cx8_3, x8_3, rfl, rfl, ix8_0, ix8_1, ix8_2, rx8_3⟩ := J3 rx8
   obtain ⟨rfl, lx8_3⟩ := Sl.len rx8_3
   dsimp only at hM1
   refine Exists.intro _ (And.intro ex8 ?_)
   refine Or.inl (And.intro (And.intro (by kernel_rfl) (by kernel_rfl)) ?_)
   obtain ⟨x9, gx9, hM1⟩ := j0 hM1
   refine Exists.intro (.bool x9) (And.intro (A07 _ x8_0 ix8_0 _  gx9) ?_)
   obtain ⟨x10, gx10, hM1⟩ := j0 hM1
   obtain ⟨csx10, ex10, rx10⟩ := Sl.getG (r := H1.toRp) (U2.mono sX3 rp0_1) gx10 (by decide) (X0b k5)
   refine And.intro (fun q => (ex10 q).1) ?_
   obtain ⟨x10_0, x10_1, x10_2, ax10_3, nx10_3, cx10_3, x10_3, rfl, rfl, ix10_0, ix10_1, ix10_2, rx10_3⟩ := J3 rx10
   obtain ⟨rfl, lx10_3⟩ := Sl.len rx10_3
   dsimp only at hM1
   refine Exists.intro _ (And.intro (fun q => (ex10 q).2) ?_)
   obtain ⟨x11, gx11, hM1⟩ := j0 hM1
   refine Exists.intro (.bool x11) (And.intro (fun q => B07 _ [.int .i64 x8_1, .int .i64 x8_2, .slice ax8_3 x8_3.length cx8_3] (x8_1, x8_2, x8_3) (z0 ix8_1 ix8_2 rx8_3) _  (n3 gx11 q)) ?_)
   refine And.intro (fun hc12 => ?_) (fun hc12 => ?_)
   ·have hc12 : ((bif (bif (bif (!x9) then true else (bif (decide (u4 > 0)) then (!b01 x10_0 x8_0) else false)) then true else (!decide (x8_1 = p0_0))) then true else (!x11))) = true := hc12
    rw [if_pos hc12] at hM1
    have hE := Option.some.inj hM1; subst hE
    try dsimp only [N4, O4] at hM0
    have hE := Option.some.inj hM0; subst hE
    exact And.intro rfl sX3
   ·have hc12 : ((bif (bif (bif (!x9) then true else (bif (decide (u4 > 0)) then (!b01 x10_0 x8_0) else false)) then true else (!decide (x8_1 = p0_0))) then true else (!x11))) = false := hc12
    rw [if_neg (Q1 hc12)] at hM1
    refine And.intro rfl (And.intro (by first | exact trivial | exact And.intro rfl trivial | exact And.intro rfl (And.intro rfl trivial) | exact And.intro rfl (And.intro rfl (And.intro rfl trivial)) | exact And.intro rfl (And.intro rfl (And.intro rfl (And.intro rfl trivial)))) (And.intro (by first | exact trivial | exact And.intro rfl trivial | exact And.intro rfl (And.intro rfl trivial) | exact And.intro rfl (And.intro rfl (And.intro rfl trivial)) | exact And.intro rfl (And.intro rfl (And.intro rfl (And.intro rfl trivial)))) (Exists.intro m6 (And.intro ⟨(IntKind.i64.wrap (u4 + 1)), rfl, rfl, sX3, (K0 _), hM1⟩ (Nat.lt_succ_self _)))))
  ·have hc7 : ((decide (u4 < ((p0_1.length : Nat) : Int)))) = false := hc7
   rw [if_neg (Q1 hc7)] at hM1
   have hE := Option.some.inj hM1; subst hE
   try dsimp only [z1, D1] at hM0
   have hE := Option.some.inj hM0; subst hE
   exact And.intro rfl sX3
end Go.Proofs.YtfdlgbfeceodeaaGreat
namespace Go.Proofs.YtfdlgbfeceodeaaGreat
open Go.H
set_option linter.unusedVariables false
set_option linter.unusedSimpArgs false
set_option maxRecDepth 10000
theorem o07 (h : Hp) (csp0 : List Value) (p0 : O0) (rp0 : E1.R h csp0 p0) (r : O0) (hM0 : s8 p0 = some r) :
  Tr Tryz.prog 70 #[.agg csp0.toArray] h fun v h' => ∃ (cs0 : List Value), v = .agg cs0.toArray ∧ E1.R h' cs0 r ∧ Sub h h' := by
 obtain ⟨p0_0, ap0_1, np0_1, cp0_1, p0_1, rfl, rfl, ip0_0, rp0_1⟩ := z2 rp0
 obtain ⟨rfl, lp0_1⟩ := Sl.len rp0_1
 unfold s8 at hM0
 dsimp only at hM0
 refine B3 (args := [.agg #[.int .i64 p0_0, .slice ap0_1 p0_1.length cp0_1]]) (fn := Tryz.f70) rfl ?_
 obtain ⟨X1, hLX1, hM0⟩ := j0 hM0
 refine Exists.intro { vars := [4], boxes := [2], owns := [0], fuel := true, nilsB := [(2, 1, 92, 4, 56)] } (Exists.intro (fun vs os h' => ∃ (u2 : Int) (u3 : Int) (wu4 : List (List Value)) (u4 : List d5), vs.tail = [.int .i64 u2, .int .i64 u3] ∧ os = [wu4] ∧ Sub h h' ∧ J0 u2 ∧ J0 u3 ∧ F2 (H1.R h') wu4 u4 ∧ z5 p0_1 (T2 vs) u2 u3 u4 = some X1) (Exists.intro (fun _ _ => 0) ?_))
 refine And.intro (Exists.intro S0 ⟨0, p0_0, [], ([] : V0), rfl, rfl, (Sub.refl _), (c64 (by decide) (by decide)), ip0_0, (show F2 (H1.R h) [] [] from trivial), hLX1⟩) ?_
 rintro v_0 v_1 wu4 m6 k5 ⟨u2, u3, zzu4, u4, evX1, eoX1, sX1, iu2, iu3, fu4, hM1⟩
 cases evX1
 cases eoX1
 replace hM1 : z5 p0_1 m6 u2 u3 u4 = some X1 := hM1
 obtain _ | m6 := m6
 ·cases (show (none : Option _) = some X1 from hM1)
 rw [U7] at hM1
 refine And.intro (fun hc7 => ?_) (fun hc7 => ?_)
 ·have hc7 : ((decide (u2 < ((p0_1.length : Nat) : Int)))) = true := hc7
  rw [if_pos hc7] at hM1
  refine Or.inr (Or.inr (Or.inl (And.intro (And.intro (by kernel_rfl) (by kernel_rfl)) ?_)))
  obtain ⟨x8, gx8, hM1⟩ := j0 hM1
  obtain ⟨bx8, csx8, ex8, rx8⟩ := Sl.getI (r := H1.toRp) (U2.mono sX1 rp0_1) gx8 (by decide)
  obtain ⟨x8_0, x8_1, x8_2, ax8_3, nx8_3, cx8_3, x8_3, rfl, rfl, ix8_0, ix8_1, ix8_2, rx8_3⟩ := J3 rx8
  obtain ⟨rfl, lx8_3⟩ := Sl.len rx8_3
  dsimp only at hM1
  refine Or.inl (Exists.intro (.hel (.slice ap0_1 p0_1.length cp0_1) u2 4 0) (And.intro ?_ ?_))
  ·intro k9 s10
   exact And.intro bx8 (And.intro rfl (And.intro rfl rfl))
  refine Or.inl (Exists.intro (.hel (.slice ap0_1 p0_1.length cp0_1) u2 4 0) (And.intro ?_ ?_))
  ·intro hh sb
   exact And.intro rfl (And.intro rfl rfl)
  refine Or.inl (Exists.intro (.val (.string x8_0)) (And.intro ?_ ?_))
  ·intro k11 s12
   exact Exists.intro _ (And.intro (Y7.up s12 ex8) (And.intro rfl (And.intro rfl rfl)))
  obtain ⟨x13, gx13, hM1⟩ := j0 hM1
  obtain ⟨bx13, csx13, ex13, rx13⟩ := Sl.getI (r := H1.toRp) (U2.mono sX1 rp0_1) gx13 (by decide)
  obtain ⟨x13_0, x13_1, x13_2, ax13_3, nx13_3, cx13_3, x13_3, rfl, rfl, ix13_0, ix13_1, ix13_2, rx13_3⟩ := J3 rx13
  obtain ⟨rfl, lx13_3⟩ := Sl.len rx13_3
  dsimp only at hM1
  refine Or.inl (Exists.intro (.hel (.slice ap0_1 p0_1.length cp0_1) u2 4 0) (And.intro ?_ ?_))
  ·intro k14 s15
   exact And.intro bx13 (And.intro rfl (And.intro rfl rfl))
  refine Or.inl (Exists.intro (.hel (.slice ap0_1 p0_1.length cp0_1) u2 4 1) (And.intro ?_ ?_))
  ·intro hh sb
   exact And.intro rfl (And.intro rfl rfl)
  refine Or.inl (Exists.intro (.agg [.val (.int .i64 x13_1), .val (.int .i64 x13_2), .val (.slice ax13_3 x13_3.length cx13_3)]) (And.intro ?_ ?_))
  ·intro k16 s17
   exact Exists.intro _ (And.intro (Y7.up s17 ex13) (And.intro rfl (And.intro rfl rfl)))
  refine Or.inr ?_
  refine Or.inr ?_
  refine Or.inr ?_
  refine Or.inr ?_
  refine Or.inr ?_
  refine Exists.intro 1 (And.intro (And.intro rfl rfl) ?_)
  obtain ⟨x18, gx18, hM1⟩ := j0 hM1
  refine Tr.mono (P8 _ [.int .i64 x13_1, .int .i64 x13_2, .slice ax13_3 x13_3.length cx13_3] (x13_1, x13_2, x13_3) (z0 ix13_1 ix13_2 rx13_3) _  gx18) ?_
  rintro v20 k19 ⟨csx18, rfl, rx18, sx18⟩
  obtain ⟨x18_0, x18_1, ax18_2, nx18_2, cx18_2, x18_2, rfl, rfl, ix18_0, ix18_1, rx18_2⟩ := H0 rx18
  obtain ⟨rfl, lx18_2⟩ := Sl.len rx18_2
  try dsimp only at hM1
  refine And.intro (And.intro rfl sx18) (And.intro (by first | exact trivial | exact rfl) ?_)
  refine And.intro trivial (And.intro (by first | exact trivial | exact rfl) ?_)
  refine And.intro trivial (And.intro (by first | exact trivial | exact rfl) ?_)
  obtain ⟨q21, gq21, hM1⟩ := j0 hM1
  refine And.intro (j3 gq21 (by first | rw [F2.length (F2.up (r := H1.toRp) sx18 fu4), F2.length (show F2 (H1.R k19) ([[.string x8_0, .int .i64 x18_0, .int .i64 x18_1, .slice ax18_2 x18_2.length cx18_2]] : List (List Value)) [(x8_0, (x18_0, x18_1, x18_2))] from ⟨(l6 ix8_0 ix18_0 ix18_1 rx18_2), trivial⟩)] | exact congrArg (· + 1) (F2.length (F2.up (r := H1.toRp) sx18 fu4)))) ?_
  refine And.intro trivial (And.intro (by first | exact trivial | exact rfl) ?_)
  refine And.intro trivial (And.intro (by first | exact trivial | exact rfl) ?_)
  refine And.intro rfl (And.intro (by first | exact trivial | exact And.intro rfl trivial | exact And.intro rfl (And.intro rfl trivial) | exact And.intro rfl (And.intro rfl (And.intro rfl trivial)) | exact And.intro rfl (And.intro rfl (And.intro rfl (And.intro rfl trivial)))) (And.intro (by first | exact trivial | exact And.intro rfl trivial | exact And.intro rfl (And.intro rfl trivial) | exact And.intro rfl (And.intro rfl (And.intro rfl trivial)) | exact And.intro rfl (And.intro rfl (And.intro rfl (And.intro rfl trivial)))) (Exists.intro m6 (And.intro ⟨(IntKind.i64.wrap (u2 + 1)), u3, (wu4 ++ ([[.string x8_0, .int .i64 x18_0, .int .i64 x18_1, .slice ax18_2 x18_2.length cx18_2]] : List (List Value))), (u4 ++ [(x8_0, (x18_0, x18_1, x18_2))]), rfl, rfl, (sX1.trans sx18), (K0 _), iu3, (F2.append (F2.up (r := H1.toRp) sx18 fu4) (show F2 (H1.R k19) ([[.string x8_0, .int .i64 x18_0, .int .i64 x18_1, .slice ax18_2 x18_2.length cx18_2]] : List (List Value)) [(x8_0, (x18_0, x18_1, x18_2))] from ⟨(l6 ix8_0 ix18_0 ix18_1 rx18_2), trivial⟩)), hM1⟩ (Nat.lt_succ_self _)))))
 ·have hc7 : ((decide (u2 < ((p0_1.length : Nat) : Int)))) = false := hc7
  rw [if_neg (Q1 hc7)] at hM1
  have hE := Option.some.inj hM1; subst hE
  try dsimp only [z1, D1] at hM0
  intro v22 k23 f24
  obtain ⟨az25, cz25, rfl, rz25, sz25, lz25⟩ := P0.out (r := H1.toRp) f24 fu4
  have hE := Option.some.inj hM0; subst hE
  exact ⟨([.int .i64 u3, .slice az25 u4.length cz25]), rfl, (Z3 iu3 rz25), (sX1.trans sz25)⟩
theorem v05 (h : Hp) (csp0 : List Value) (p0 : O0) (rp0 : E1.R h csp0 p0) (p1 : ByteArray) (ip1 : p1.size ≤ 9223372036854775807) (r : O0 × Bool) (hM0 : D8 p0 p1 = some r) :
  Tr Tryz.prog 15 #[.agg csp0.toArray, .string p1] h fun v h' => ∃ (cs0 : List Value), v = .tuple #[.agg cs0.toArray, .bool r.2] ∧ E1.R h' cs0 r.1 ∧ Sub h h' := by
 obtain ⟨p0_0, ap0_1, np0_1, cp0_1, p0_1, rfl, rfl, ip0_0, rp0_1⟩ := z2 rp0
 obtain ⟨rfl, lp0_1⟩ := Sl.len rp0_1
 unfold D8 at hM0
 dsimp only at hM0
 refine B3 (args := [.agg #[.int .i64 p0_0, .slice ap0_1 p0_1.length cp0_1], .string p1]) (fn := Tryz.f15) rfl ?_
 obtain ⟨X1, hLX1, hM0⟩ := j0 hM0
 refine Exists.intro { vars := [7], boxes := [2], owns := [0], fuel := true, nilsB := [(2, 1, 92, 4, 56)] } (Exists.intro (fun vs os h' => ∃ (u2 : Int) (u3 : Int) (wu4 : List (List Value)) (u4 : List d5), vs.tail = [.int .i64 u2, .int .i64 u3] ∧ os = [wu4] ∧ Sub h h' ∧ J0 u2 ∧ J0 u3 ∧ F2 (H1.R h') wu4 u4 ∧ D3 p0_1 p1 (T2 vs) u2 u3 u4 = some X1) (Exists.intro (fun _ _ => 0) ?_))
 refine And.intro (Exists.intro S0 ⟨0, p0_0, [], ([] : V0), rfl, rfl, (Sub.refl _), (c64 (by decide) (by decide)), ip0_0, (show F2 (H1.R h) [] [] from trivial), hLX1⟩) ?_
 rintro v_0 v_1 wu4 m6 k5 ⟨u2, u3, zzu4, u4, evX1, eoX1, sX1, iu2, iu3, fu4, hM1⟩
 cases evX1
 cases eoX1
 replace hM1 : D3 p0_1 p1 m6 u2 u3 u4 = some X1 := hM1
 obtain _ | m6 := m6
 ·cases (show (none : Option _) = some X1 from hM1)
 rw [A7] at hM1
 refine And.intro (fun hc7 => ?_) (fun hc7 => ?_)
 ·have hc7 : ((decide (u2 < ((p0_1.length : Nat) : Int)))) = true := hc7
  rw [if_pos hc7] at hM1
  obtain ⟨x8, gx8, hM1⟩ := j0 hM1
  obtain ⟨bx8, csx8, ex8, rx8⟩ := Sl.getI (r := H1.toRp) (U2.mono sX1 rp0_1) gx8 (by decide)
  refine And.intro bx8 ?_
  obtain ⟨x8_0, x8_1, x8_2, ax8_3, nx8_3, cx8_3, x8_3, rfl, rfl, ix8_0, ix8_1, ix8_2, rx8_3⟩ := J3 rx8
  obtain ⟨rfl, lx8_3⟩ := Sl.len rx8_3
  dsimp only at hM1
  refine Exists.intro _ (And.intro ex8 ?_)
  refine And.intro (fun hc9 => ?_) (fun hc9 => ?_)
  ·have hc9 : ((!v01 x8_0 p1)) = true := hc9
   rw [if_pos hc9] at hM1
   refine Or.inr (Or.inr (Or.inl (And.intro (And.intro (by kernel_rfl) (by kernel_rfl)) ?_)))
   obtain ⟨x10, gx10, hM1⟩ := j0 hM1
   obtain ⟨bx10, csx10, ex10, rx10⟩ := Sl.getI (r := H1.toRp) (U2.mono sX1 rp0_1) gx10 (by decide)
   obtain ⟨x10_0, x10_1, x10_2, ax10_3, nx10_3, cx10_3, x10_3, rfl, rfl, ix10_0, ix10_1, ix10_2, rx10_3⟩ := J3 rx10
   obtain ⟨rfl, lx10_3⟩ := Sl.len rx10_3
   dsimp only at hM1
   refine Or.inl (Exists.intro (.hel (.slice ap0_1 p0_1.length cp0_1) u2 4 0) (And.intro ?_ ?_))
   ·intro k11 s12
    exact And.intro bx10 (And.intro rfl (And.intro rfl rfl))
   refine Or.inl (Exists.intro (.hel (.slice ap0_1 p0_1.length cp0_1) u2 4 0) (And.intro ?_ ?_))
   ·intro hh sb
    exact And.intro rfl (And.intro rfl rfl)
   refine Or.inl (Exists.intro (.val (.string x10_0)) (And.intro ?_ ?_))
   ·intro k13 s14
    exact Exists.intro _ (And.intro (Y7.up s14 ex10) (And.intro rfl (And.intro rfl rfl)))
   obtain ⟨x15, gx15, hM1⟩ := j0 hM1
   obtain ⟨bx15, csx15, ex15, rx15⟩ := Sl.getI (r := H1.toRp) (U2.mono sX1 rp0_1) gx15 (by decide)
   obtain ⟨x15_0, x15_1, x15_2, ax15_3, nx15_3, cx15_3, x15_3, rfl, rfl, ix15_0, ix15_1, ix15_2, rx15_3⟩ := J3 rx15
   obtain ⟨rfl, lx15_3⟩ := Sl.len rx15_3
   dsimp only at hM1
   refine Or.inl (Exists.intro (.hel (.slice ap0_1 p0_1.length cp0_1) u2 4 0) (And.intro ?_ ?_))
   ·intro k16 s17
    exact And.intro bx15 (And.intro rfl (And.intro rfl rfl))
   refine Or.inl (Exists.intro (.hel (.slice ap0_1 p0_1.length cp0_1) u2 4 1) (And.intro ?_ ?_))
   ·intro hh sb
    exact And.intro rfl (And.intro rfl rfl)
   refine Or.inl (Exists.intro (.agg [.val (.int .i64 x15_1), .val (.int .i64 x15_2), .val (.slice ax15_3 x15_3.length cx15_3)]) (And.intro ?_ ?_))
   ·intro k18 s19
    exact Exists.intro _ (And.intro (Y7.up s19 ex15) (And.intro rfl (And.intro rfl rfl)))
   refine Or.inr ?_
   refine Or.inr ?_
   refine Or.inr ?_
   refine Or.inr ?_
   refine Or.inr ?_
   refine Exists.intro 1 (And.intro (And.intro rfl rfl) ?_)
   obtain ⟨x20, gx20, hM1⟩ := j0 hM1
   refine Tr.mono (P8 _ [.int .i64 x15_1, .int .i64 x15_2, .slice ax15_3 x15_3.length cx15_3] (x15_1, x15_2, x15_3) (z0 ix15_1 ix15_2 rx15_3) _  gx20) ?_
   rintro v22 k21 ⟨csx20, rfl, rx20, sx20⟩
   obtain ⟨x20_0, x20_1, ax20_2, nx20_2, cx20_2, x20_2, rfl, rfl, ix20_0, ix20_1, rx20_2⟩ := H0 rx20
   obtain ⟨rfl, lx20_2⟩ := Sl.len rx20_2
   try dsimp only at hM1
   refine And.intro (And.intro rfl sx20) (And.intro (by first | exact trivial | exact rfl) ?_)
   refine And.intro trivial (And.intro (by first | exact trivial | exact rfl) ?_)
   refine And.intro trivial (And.intro (by first | exact trivial | exact rfl) ?_)
   obtain ⟨q23, gq23, hM1⟩ := j0 hM1
   refine And.intro (j3 gq23 (by first | rw [F2.length (F2.up (r := H1.toRp) sx20 fu4), F2.length (show F2 (H1.R k21) ([[.string x10_0, .int .i64 x20_0, .int .i64 x20_1, .slice ax20_2 x20_2.length cx20_2]] : List (List Value)) [(x10_0, (x20_0, x20_1, x20_2))] from ⟨(l6 ix10_0 ix20_0 ix20_1 rx20_2), trivial⟩)] | exact congrArg (· + 1) (F2.length (F2.up (r := H1.toRp) sx20 fu4)))) ?_
   refine And.intro trivial (And.intro (by first | exact trivial | exact rfl) ?_)
   refine And.intro trivial (And.intro (by first | exact trivial | exact rfl) ?_)
   refine And.intro rfl (And.intro (by first | exact trivial | exact And.intro rfl trivial | exact And.intro rfl (And.intro rfl trivial) | exact And.intro rfl (And.intro rfl (And.intro rfl trivial)) | exact And.intro rfl (And.intro rfl (And.intro rfl (And.intro rfl trivial)))) (And.intro (by first | exact trivial | exact And.intro rfl trivial | exact And.intro rfl (And.intro rfl trivial) | exact And.intro rfl (And.intro rfl (And.intro rfl trivial)) | exact And.intro rfl (And.intro rfl (And.intro rfl (And.intro rfl trivial)))) (Exists.intro m6 (And.intro ⟨(IntKind.i64.wrap (u2 + 1)), u3, (wu4 ++ ([[.string x10_0, .int .i64 x20_0, .int .i64 x20_1, .slice ax20_2 x20_2.length cx20_2]] : List (List Value))), (u4 ++ [(x10_0, (x20_0, x20_1, x20_2))]), rfl, rfl, (sX1.trans sx20), (K0 _), iu3, (F2.append (F2.up (r := H1.toRp) sx20 fu4) (show F2 (H1.R k21) ([[.string x10_0, .int .i64 x20_0, .int .i64 x20_1, .slice ax20_2 x20_2.length cx20_2]] : List (List Value)) [(x10_0, (x20_0, x20_1, x20_2))] from ⟨(l6 ix10_0 ix20_0 ix20_1 rx20_2), trivial⟩)), hM1⟩ (Nat.lt_succ_self _)))))
  ·have hc9 : ((!v01 x8_0 p1)) = false := hc9
   rw [if_neg (Q1 hc9)] at hM1
   refine And.intro rfl (And.intro (by first | exact trivial | exact And.intro rfl trivial | exact And.intro rfl (And.intro rfl trivial) | exact And.intro rfl (And.intro rfl (And.intro rfl trivial)) | exact And.intro rfl (And.intro rfl (And.intro rfl (And.intro rfl trivial)))) (And.intro (by first | exact trivial | exact And.intro rfl trivial | exact And.intro rfl (And.intro rfl trivial) | exact And.intro rfl (And.intro rfl (And.intro rfl trivial)) | exact And.intro rfl (And.intro rfl (And.intro rfl (And.intro rfl trivial)))) (Exists.intro m6 (And.intro ⟨(IntKind.i64.wrap (u2 + 1)), u3, wu4, u4, rfl, rfl, sX1, (K0 _), iu3, fu4, hM1⟩ (Nat.lt_succ_self _)))))
 ·have hc7 : ((decide (u2 < ((p0_1.length : Nat) : Int)))) = false := hc7
  rw [if_neg (Q1 hc7)] at hM1
  have hE := Option.some.inj hM1; subst hE
  try dsimp only [z1, D1] at hM0
  obtain ⟨x24, gx24, hM0⟩ := j0 hM0
  refine Tr.val (s05 _ [.int .i64 p0_0, .slice ap0_1 p0_1.length cp0_1] (p0_0, p0_1) (Z3 ip0_0 (U2.mono sX1 rp0_1)) _  gx24) ?_
  obtain ⟨m25, gm25, hM0⟩ := j0 hM0
  obtain rfl : wu4.length = m25 := (F2.length fu4).trans (Option.some.inj gm25)
  obtain ⟨q26, gq26, hM0⟩ := j0 hM0
  refine And.intro (fun hc27 => ?_) (fun hc27 => ?_)
  ·have hc27 : ((bif (!x24) then true else (decide (((wu4.length : Nat) : Int) = ((p0_1.length : Nat) : Int))))) = true := hc27
   rw [if_pos hc27] at hM0
   obtain ⟨x28, gx28, hM0⟩ := j0 hM0
   refine Tr.mono (o07 _ [.int .i64 p0_0, .slice ap0_1 p0_1.length cp0_1] (p0_0, p0_1) (Z3 ip0_0 (U2.mono sX1 rp0_1)) _  gx28) ?_
   rintro v30 k29 ⟨csx28, rfl, rx28, sx28⟩
   obtain ⟨x28_0, ax28_1, nx28_1, cx28_1, x28_1, rfl, rfl, ix28_0, rx28_1⟩ := z2 rx28
   obtain ⟨rfl, lx28_1⟩ := Sl.len rx28_1
   try dsimp only at hM0
   have hE := Option.some.inj hM0; subst hE
   exact ⟨([.int .i64 x28_0, .slice ax28_1 x28_1.length cx28_1]), rfl, (Z3 ix28_0 rx28_1), (sX1.trans sx28)⟩
  ·have hc27 : ((bif (!x24) then true else (decide (((wu4.length : Nat) : Int) = ((p0_1.length : Nat) : Int))))) = false := hc27
   rw [if_neg (Q1 hc27)] at hM0
   intro v31 k32 f33
   obtain ⟨az34, cz34, rfl, rz34, sz34, lz34⟩ := P0.out (r := H1.toRp) f33 fu4
   have hE := Option.some.inj hM0; subst hE
   exact ⟨([.int .i64 u3, .slice az34 u4.length cz34]), rfl, (Z3 iu3 rz34), (sX1.trans sz34)⟩
theorem P03 (h : Hp) (csp0 : List Value) (p0 : O0) (rp0 : E1.R h csp0 p0) (r : O0) (hM0 : w6 p0 = some r) :
  Tr Tryz.prog 72 #[.agg csp0.toArray] h fun v h' => ∃ (cs0 : List Value), v = .agg cs0.toArray ∧ New E1 h h' cs0 r := by
 obtain ⟨p0_0, ap0_1, np0_1, cp0_1, p0_1, rfl, rfl, ip0_0, rp0_1⟩ := z2 rp0
 obtain ⟨rfl, lp0_1⟩ := Sl.len rp0_1
 unfold w6 at hM0
 dsimp only at hM0
 refine B3 (args := [.agg #[.int .i64 p0_0, .slice ap0_1 p0_1.length cp0_1]]) (fn := Tryz.f72) rfl ?_
 obtain ⟨X1, hLX1, hM0⟩ := j0 hM0
 refine Exists.intro { vars := [12], boxes := [2], owns := [0], fuel := true, nilsB := [(2, 1, 92, 4, 56)] } (Exists.intro (fun vs os h' => ∃ (u2 : Int) (u3 : Int) (wu4 : List (List Value)) (u4 : List d5), vs.tail = [.int .i64 u2, .int .i64 u3] ∧ os = [wu4] ∧ Sub h h' ∧ J0 u2 ∧ J0 u3 ∧ F2 (H1.R h') wu4 u4 ∧ (∃ Bs, F3 (H1.W h') wu4 u4 Bs ∧ G5 h Bs.flatten) ∧ U3 p0_1 (T2 vs) u2 u3 u4 = some X1) (Exists.intro (fun _ _ => 0) ?_))
 refine And.intro (Exists.intro S0 ⟨0, p0_0, [], ([] : V0), rfl, rfl, (Sub.refl _), (c64 (by decide) (by decide)), ip0_0, (show F2 (H1.R h) [] [] from trivial), ⟨_, (show F3 (H1.W h) [] [] [] from trivial), (G5.nil h)⟩, hLX1⟩) ?_
 rintro v_0 v_1 wu4 m6 k5 ⟨u2, u3, zzu4, u4, evX1, eoX1, sX1, iu2, iu3, fu4, ⟨bbu4, ttu4, ffu4⟩, hM1⟩
 cases evX1
 cases eoX1
 replace hM1 : U3 p0_1 m6 u2 u3 u4 = some X1 := hM1
 obtain _ | m6 := m6
 ·cases (show (none : Option _) = some X1 from hM1)
 rw [E6] at hM1
 refine And.intro (fun hc7 => ?_) (fun hc7 => ?_)
 ·have hc7 : ((decide (u2 < ((p0_1.length : Nat) : Int)))) = true := hc7
  rw [if_pos hc7] at hM1
  obtain ⟨x8, gx8, hM1⟩ := j0 hM1
  obtain ⟨bx8, csx8, ex8, rx8⟩ := Sl.getI (r := H1.toRp) (U2.mono sX1 rp0_1) gx8 (by decide)
  refine And.intro bx8 ?_
  obtain ⟨x8_0, x8_1, x8_2, ax8_3, nx8_3, cx8_3, x8_3, rfl, rfl, ix8_0, ix8_1, ix8_2, rx8_3⟩ := J3 rx8
  obtain ⟨rfl, lx8_3⟩ := Sl.len rx8_3
  dsimp only at hM1
  refine Exists.intro _ (And.intro ex8 ?_)
  refine Or.inr (Or.inr (Or.inl (And.intro (And.intro (by kernel_rfl) (by kernel_rfl)) ?_)))
  refine Or.inr ?_
  refine Or.inr ?_
  refine Or.inr ?_
  refine Or.inr ?_
  refine Or.inr ?_
  refine Exists.intro 1 (And.intro (And.intro rfl rfl) ?_)
  obtain ⟨x9, gx9, hM1⟩ := j0 hM1
  refine Tr.mono (K9 _ [.int .i64 x8_1, .int .i64 x8_2, .slice ax8_3 x8_3.length cx8_3] (x8_1, x8_2, x8_3) (z0 ix8_1 ix8_2 rx8_3) _  gx9) ?_
  rintro v11 k10 ⟨csx9, rfl, wx9⟩
  have sx9 : Sub k5 k10 := wx9.sub
  have rx9 := wx9.r
  obtain ⟨x9_0, x9_1, ax9_2, nx9_2, cx9_2, x9_2, rfl, rfl, ix9_0, ix9_1, rx9_2⟩ := H0 rx9
  obtain ⟨rfl, lx9_2⟩ := Sl.len rx9_2
  try dsimp only at hM1
  have we12 := New.sndI (New.sndI (wx9))
  refine And.intro (And.intro rfl sx9) (And.intro (by first | exact trivial | exact rfl) ?_)
  refine And.intro trivial (And.intro (by first | exact trivial | exact rfl) ?_)
  refine And.intro trivial (And.intro (by first | exact trivial | exact rfl) ?_)
  obtain ⟨q13, gq13, hM1⟩ := j0 hM1
  refine And.intro (j3 gq13 (by first | rw [F2.length (F2.up (r := H1.toRp) sx9 fu4), F2.length (show F2 (H1.R k10) ([[.string x8_0, .int .i64 x9_0, .int .i64 x9_1, .slice ax9_2 x9_2.length cx9_2]] : List (List Value)) [(x8_0, (x9_0, x9_1, x9_2))] from ⟨(l6 ix8_0 ix9_0 ix9_1 rx9_2), trivial⟩)] | exact congrArg (· + 1) (F2.length (F2.up (r := H1.toRp) sx9 fu4)))) ?_
  obtain ⟨Bb14, wb14, fb14, _⟩ := (New.pair (New.str ix8_0) (New.pair (New.int ix9_0) (New.pair (New.int ix9_1) we12)))
  refine And.intro trivial (And.intro (by first | exact trivial | exact rfl) ?_)
  refine And.intro trivial (And.intro (by first | exact trivial | exact rfl) ?_)
  refine And.intro rfl (And.intro (by first | exact trivial | exact And.intro rfl trivial | exact And.intro rfl (And.intro rfl trivial) | exact And.intro rfl (And.intro rfl (And.intro rfl trivial)) | exact And.intro rfl (And.intro rfl (And.intro rfl (And.intro rfl trivial)))) (And.intro (by first | exact trivial | exact And.intro rfl trivial | exact And.intro rfl (And.intro rfl trivial) | exact And.intro rfl (And.intro rfl (And.intro rfl trivial)) | exact And.intro rfl (And.intro rfl (And.intro rfl (And.intro rfl trivial)))) (Exists.intro m6 (And.intro ⟨(IntKind.i64.wrap (u2 + 1)), u3, (wu4 ++ ([[.string x8_0, .int .i64 x9_0, .int .i64 x9_1, .slice ax9_2 x9_2.length cx9_2]] : List (List Value))), (u4 ++ [(x8_0, (x9_0, x9_1, x9_2))]), rfl, rfl, (sX1.trans sx9), (K0 _), iu3, (F2.append (F2.up (r := H1.toRp) sx9 fu4) (show F2 (H1.R k10) ([[.string x8_0, .int .i64 x9_0, .int .i64 x9_1, .slice ax9_2 x9_2.length cx9_2]] : List (List Value)) [(x8_0, (x9_0, x9_1, x9_2))] from ⟨(l6 ix8_0 ix9_0 ix9_1 rx9_2), trivial⟩)), ⟨_, (F3.snoc wb14 (T07 ttu4 sx9)), (J03 ttu4 sX1 ffu4 fb14)⟩, hM1⟩ (Nat.lt_succ_self _)))))
 ·have hc7 : ((decide (u2 < ((p0_1.length : Nat) : Int)))) = false := hc7
  rw [if_neg (Q1 hc7)] at hM1
  have hE := Option.some.inj hM1; subst hE
  try dsimp only [z1, D1] at hM0
  intro v15 k16 f17
  have nz18 : New (Wp.slice H1) h k16 [v15] u4 := (P0.fresh (r := H1) f17 ttu4 sX1 ffu4)
  obtain ⟨az18, cz18, rfl, rz18, sz18, lz18⟩ := P0.out (r := H1.toRp) f17 fu4
  have hE := Option.some.inj hM0; subst hE
  exact ⟨([.int .i64 u3, .slice az18 u4.length cz18]), rfl, (New.pair (New.int iu3) nz18)⟩
theorem l03 (h : Hp) (csp0 : List Value) (p0 : O0) (rp0 : E1.R h csp0 p0) (p1 : ByteArray) (ip1 : p1.size ≤ 9223372036854775807) (r : Int) (hM0 : Y5 p0 p1 = some r) :
  Tr Tryz.prog 73 #[.agg csp0.toArray, .string p1] h fun v h' => v = .int .i64 r ∧ h' = h := by
 obtain ⟨p0_0, ap0_1, np0_1, cp0_1, p0_1, rfl, rfl, ip0_0, rp0_1⟩ := z2 rp0
 obtain ⟨rfl, lp0_1⟩ := Sl.len rp0_1
 unfold Y5 at hM0
 dsimp only at hM0
 refine Tr.forget (B3 (args := [.agg #[.int .i64 p0_0, .slice ap0_1 p0_1.length cp0_1], .string p1]) (fn := Tryz.f73) rfl ?_)
 obtain ⟨X1, hLX1, hM0⟩ := j0 hM0
 refine Exists.intro { vars := [10], boxes := [], owns := [], fuel := true } (Exists.intro (fun vs os h' => ∃ (u2 : Int), vs.tail = [.int .i64 u2] ∧ os = [] ∧ Sub h h' ∧ J0 u2 ∧ O3 p0_1 p1 (T2 vs) u2 = some X1) (Exists.intro (fun _ _ => 0) ?_))
 refine And.intro (Exists.intro S0 ⟨0, rfl, rfl, (Sub.refl _), (c64 (by decide) (by decide)), hLX1⟩) ?_
 rintro v_0 m4 k3 ⟨u2, evX1, eoX1, sX1, iu2, hM1⟩
 cases evX1
 cases eoX1
 replace hM1 : O3 p0_1 p1 m4 u2 = some X1 := hM1
 obtain _ | m4 := m4
 ·cases (show (none : Option _) = some X1 from hM1)
 rw [y6] at hM1
 refine And.intro (fun hc5 => ?_) (fun hc5 => ?_)
 ·have hc5 : ((decide (u2 < ((p0_1.length : Nat) : Int)))) = true := hc5
  rw [if_pos hc5] at hM1
  obtain ⟨x6, gx6, hM1⟩ := j0 hM1
  obtain ⟨bx6, csx6, ex6, rx6⟩ := Sl.getI (r := H1.toRp) (U2.mono sX1 rp0_1) gx6 (by decide)
  refine And.intro bx6 ?_
  obtain ⟨x6_0, x6_1, x6_2, ax6_3, nx6_3, cx6_3, x6_3, rfl, rfl, ix6_0, ix6_1, ix6_2, rx6_3⟩ := J3 rx6
  obtain ⟨rfl, lx6_3⟩ := Sl.len rx6_3
  dsimp only at hM1
  refine Exists.intro _ (And.intro ex6 ?_)
  refine And.intro (fun hc7 => ?_) (fun hc7 => ?_)
  ·have hc7 : ((v01 x6_0 p1)) = true := hc7
   rw [if_pos hc7] at hM1
   have hE := Option.some.inj hM1; subst hE
   try dsimp only [N4, O4] at hM0
   have hE := Option.some.inj hM0; subst hE
   exact And.intro rfl sX1
  ·have hc7 : ((v01 x6_0 p1)) = false := hc7
   rw [if_neg (Q1 hc7)] at hM1
   refine And.intro rfl (And.intro (by first | exact trivial | exact And.intro rfl trivial | exact And.intro rfl (And.intro rfl trivial) | exact And.intro rfl (And.intro rfl (And.intro rfl trivial)) | exact And.intro rfl (And.intro rfl (And.intro rfl (And.intro rfl trivial)))) (And.intro (by first | exact trivial | exact And.intro rfl trivial | exact And.intro rfl (And.intro rfl trivial) | exact And.intro rfl (And.intro rfl (And.intro rfl trivial)) | exact And.intro rfl (And.intro rfl (And.intro rfl (And.intro rfl trivial)))) (Exists.intro m4 (And.intro ⟨(IntKind.i64.wrap (u2 + 1)), rfl, rfl, sX1, (K0 _), hM1⟩ (Nat.lt_succ_self _)))))
 ·have hc5 : ((decide (u2 < ((p0_1.length : Nat) : Int)))) = false := hc5
  rw [if_neg (Q1 hc5)] at hM1
  have hE := Option.some.inj hM1; subst hE
  try dsimp only [z1, D1] at hM0
  have hE := Option.some.inj hM0; subst hE
  exact And.intro rfl sX1
theorem w05 (h : Hp) (csp0 : List Value) (p0 : O0) (rp0 : E1.R h csp0 p0) (p1 : ByteArray) (ip1 : p1.size ≤ 9223372036854775807) (r : O0 × Bool) (hM0 : E8 p0 p1 = some r) :
  Tr Tryz.prog 17 #[.agg csp0.toArray, .string p1] h fun v h' => ∃ (cs0 : List Value), v = .tuple #[.agg cs0.toArray, .bool r.2] ∧ New E1 h h' cs0 r.1 := by
 obtain ⟨p0_0, ap0_1, np0_1, cp0_1, p0_1, rfl, rfl, ip0_0, rp0_1⟩ := z2 rp0
 obtain ⟨rfl, lp0_1⟩ := Sl.len rp0_1
 unfold E8 at hM0
 dsimp only at hM0
 refine B3 (args := [.agg #[.int .i64 p0_0, .slice ap0_1 p0_1.length cp0_1], .string p1]) (fn := Tryz.f17) rfl ?_
 obtain ⟨x1, gx1, hM0⟩ := j0 hM0
 refine Tr.mono (P03 _ [.int .i64 p0_0, .slice ap0_1 p0_1.length cp0_1] (p0_0, p0_1) (Z3 ip0_0 rp0_1) _  gx1) ?_
 rintro v3 k2 ⟨csx1, rfl, wx1⟩
 have sx1 : Sub h k2 := wx1.sub
 have rx1 := wx1.r
 obtain ⟨x1_0, ax1_1, nx1_1, cx1_1, x1_1, rfl, rfl, ix1_0, rx1_1⟩ := z2 rx1
 obtain ⟨rfl, lx1_1⟩ := Sl.len rx1_1
 try dsimp only at hM0
 have we4 := New.sndI (wx1)
 obtain ⟨x5, gx5, hM0⟩ := j0 hM0
 refine Tr.val (l03 _ [.int .i64 p0_0, .slice ap0_1 p0_1.length cp0_1] (p0_0, p0_1) (Z3 ip0_0 (U2.mono sx1 rp0_1)) p1 ip1 _  gx5) ?_
 obtain ⟨q6, gq6, hM0⟩ := j0 hM0
 have ix5 : J0 x5 := P4 gq6
 obtain ⟨x7, gx7, hM0⟩ := j0 hM0
 refine Tr.val (u05 _ [.int .i64 p0_0, .slice ap0_1 p0_1.length cp0_1] (p0_0, p0_1) (Z3 ip0_0 (U2.mono sx1 rp0_1)) _  gx7) ?_
 refine And.intro (fun hc8 => ?_) (fun hc8 => ?_)
 ·have hc8 : ((bif (!x7) then true else (decide (x5 < 0)))) = true := hc8
  rw [if_pos hc8] at hM0
  have hE := Option.some.inj hM0; subst hE
  exact ⟨([.int .i64 x1_0, .slice ax1_1 x1_1.length cx1_1]), rfl, (New.pair (New.int ix1_0) we4)⟩
 ·have hc8 : ((bif (!x7) then true else (decide (x5 < 0)))) = false := hc8
  rw [if_neg (Q1 hc8)] at hM0
  obtain ⟨x11, gx11, hM0⟩ := j0 hM0
  obtain ⟨x12, gx12, hM0⟩ := j0 hM0
  obtain ⟨q13, gq13, hM0⟩ := j0 hM0
  obtain ⟨qaz14, baz14, eaz14, gz14, oz14, Az14, Cz14, usz14, vsz14, eqz14, qbz14, bbz14, lcz14, mcz14, rxz14, sxz14, luz14, lvz14, apz14⟩ := New.drop we4 (Sub.refl _) gx11 gx12 (P0e lx1_1 gx11 gx12)
  subst eqz14
  refine Or.inr (Or.inr (Or.inl (And.intro (And.intro (by kernel_rfl) (by kernel_rfl)) ?_)))
  refine Or.inl (Exists.intro (.val (.slice (some ⟨gz14, oz14, none⟩) x11.length cx1_1)) (And.intro ?_ ?_))
  ·intro hh sb
   obtain ⟨vs, e⟩ := eaz14 hh sb
   exact And.intro baz14 (Exists.intro vs (And.intro e (fun v _ hv => And.intro (congrArg AV.val (qaz14 v hv)) (And.intro rfl rfl))))
  refine Or.inl (Exists.intro (.val (.int .i64 (IntKind.i64.wrap (x5 + 1)))) (And.intro ?_ ?_))
  ·intro k9 s10
   exact And.intro rfl (And.intro rfl rfl)
  refine Or.inl (Exists.intro (.val (.slice Az14 x12.length Cz14)) (And.intro ?_ ?_))
  ·intro hh sb
   obtain ⟨vs, e⟩ := eaz14 hh sb
   exact And.intro bbz14 (Exists.intro vs (And.intro e (fun v _ hv => And.intro (congrArg AV.val (qbz14 v hv)) (And.intro rfl rfl))))
  refine Or.inr ?_
  refine Or.inr ?_
  refine Exists.intro 0 (And.intro (And.intro rfl rfl) ?_)
  refine Exists.intro vsz14 (And.intro sxz14 (Exists.intro usz14 (And.intro rxz14 (And.intro (j3 gq13 (by rw [luz14, lvz14])) ?_))))
  intro vz14 kz14 happz14
  obtain ⟨wz14, ⟨az14, nz14, cz14, rfl⟩, kpz14⟩ := apz14 _ _ happz14
  have rz14 := wz14.r
  obtain ⟨ez14, lz14⟩ := Sl.len rz14
  subst ez14
  refine And.intro trivial (And.intro (by first | exact trivial | exact rfl) ?_)
  refine And.intro trivial (And.intro (by first | exact trivial | exact rfl) ?_)
  have hE := Option.some.inj hM0; subst hE
  exact ⟨([.int .i64 x1_0, .slice az14 (x11 ++ x12).length cz14]), rfl, (New.pair (New.int ix1_0) wz14)⟩
end Go.Proofs.YtfdlgbfeceodeaaGreat
