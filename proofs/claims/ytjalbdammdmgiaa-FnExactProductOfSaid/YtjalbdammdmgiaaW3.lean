/- The walks of batch 3. -/
import Derived.Test.YtjalbdammdmgiaaA3
import Derived.Test.YtjalbdammdmgiaaChecked
import Derived.Test.YtjalbdammdmgiaaW1
namespace Go.Proofs.Ytjalbdammdmgiaa
open Go.H
set_option linter.unusedVariables false
set_option linter.unusedSimpArgs false
set_option maxRecDepth 10000
theorem t_spec_InvertWord (h : Hp) (ap0 : Option Addr) (np0 cp0 : Nat) (p0 : LIntS) (rp0 : wIntS.R h [.slice ap0 np0 cp0] p0) (r : LIntS) (hM0 : M_spec_InvertWord p0 = some r) :
    Tr Try.prog 70 #[.slice ap0 np0 cp0] h fun v h' => ∃ (a0 : Option Addr) (n0 c0 : Nat), v = .slice a0 n0 c0 ∧ wIntS.R h' [.slice a0 n0 c0] r ∧ Sub h h' := by
  obtain ⟨rfl, lp0⟩ := Sl.len rp0
  unfold M_spec_InvertWord at hM0
  refine walk (args := [.slice ap0 p0.length cp0]) (fn := Try.f70) rfl ?_
  obtain ⟨X1, hLX1, hM0⟩ := bsome hM0
  refine Exists.intro { vars := [4], boxes := [], owns := [0], fuel := true } (Exists.intro (fun vs os h' => ∃ (u2 : Int) (wu3 : List (List Value)) (u3 : List Int), vs.tail = [.int .i64 u2] ∧ os = [wu3] ∧ Sub h h' ∧ In64 u2 ∧ F2 (Wp.int.R h') wu3 u3 ∧ L_spec_InvertWord_0 p0 (fuelOf vs) u2 u3 = some X1) (Exists.intro (fun _ _ => 0) ?_))
  refine And.intro (Exists.intro FUEL ⟨(IntKind.i64.wrap (((p0.length : Nat) : Int) - 1)), [], ([] : LIntS), rfl, rfl, (Sub.refl _), (wrap64 _), (show F2 (Wp.int.R h) ([] : List (List Value)) ([] : LIntS) from trivial), hLX1⟩) ?_
  rintro v_0 wu3 m5 k4 ⟨u2, zzu3, u3, evX1, eoX1, sX1, iu2, fu3, hM1⟩
  cases evX1
  cases eoX1
  replace hM1 : L_spec_InvertWord_0 p0 m5 u2 u3 = some X1 := hM1
  obtain _ | m5 := m5
  · cases (show (none : Option _) = some X1 from hM1)
  rw [L_spec_InvertWord_0_succ] at hM1
  refine And.intro (fun hc6 => ?_) (fun hc6 => ?_)
  · have hc6 : ((decide (u2 ≥ 0))) = true := hc6
    rw [if_pos hc6] at hM1
    obtain ⟨x7, gx7, hM1⟩ := bsome hM1
    obtain ⟨bx7, csx7, ex7, rx7⟩ := Sl.getI (r := Wp.int.toRp) (wIntS.mono sX1 rp0) gx7 (by decide)
    refine And.intro bx7 ?_
    obtain ⟨rfl, ix7⟩ := rx7
    refine Exists.intro _ (And.intro ex7 ?_)
    obtain ⟨q8, gq8, hM1⟩ := bsome hM1
    refine And.intro (room_of gq8 (by first | rw [F2.length fu3, F2.length (show F2 (Wp.int.R k4) ([[.int .i64 (IntKind.i64.wrap (0 - x7))]] : List (List Value)) [(IntKind.i64.wrap (0 - x7))] from ⟨⟨rfl, (wrap64 _)⟩, trivial⟩)] | exact congrArg (· + 1) (F2.length fu3))) ?_
    refine And.intro rfl (And.intro (by first | exact trivial | exact And.intro rfl trivial | exact And.intro rfl (And.intro rfl trivial) | exact And.intro rfl (And.intro rfl (And.intro rfl trivial)) | exact And.intro rfl (And.intro rfl (And.intro rfl (And.intro rfl trivial)))) (And.intro (by first | exact trivial | exact And.intro rfl trivial | exact And.intro rfl (And.intro rfl trivial) | exact And.intro rfl (And.intro rfl (And.intro rfl trivial)) | exact And.intro rfl (And.intro rfl (And.intro rfl (And.intro rfl trivial)))) (Exists.intro m5 (And.intro ⟨(IntKind.i64.wrap (u2 - 1)), (wu3 ++ ([[.int .i64 (IntKind.i64.wrap (0 - x7))]] : List (List Value))), (u3 ++ [(IntKind.i64.wrap (0 - x7))]), rfl, rfl, sX1, (wrap64 _), (F2.append fu3 (show F2 (Wp.int.R k4) ([[.int .i64 (IntKind.i64.wrap (0 - x7))]] : List (List Value)) [(IntKind.i64.wrap (0 - x7))] from ⟨⟨rfl, (wrap64 _)⟩, trivial⟩)), hM1⟩ (Nat.lt_succ_self _)))))
  · have hc6 : ((decide (u2 ≥ 0))) = false := hc6
    rw [if_neg (bneT hc6)] at hM1
    have hE := Option.some.inj hM1; subst hE
    try dsimp only [outK_inr, outL_inr] at hM0
    intro v9 k10 f11
    obtain ⟨az12, cz12, rfl, rz12, sz12, lz12⟩ := Froze.out (r := Wp.int.toRp) f11 fu3
    have hE := Option.some.inj hM0; subst hE
    exact ⟨az12, u3.length, cz12, rfl, rz12, (sX1.trans sz12)⟩

theorem t_spec_ReduceLetters (h : Hp) (ap0 : Option Addr) (np0 cp0 : Nat) (p0 : LIntS) (rp0 : wIntS.R h [.slice ap0 np0 cp0] p0) (r : LIntS) (hM0 : M_spec_ReduceLetters p0 = some r) :
    Tr Try.prog 118 #[.slice ap0 np0 cp0] h fun v h' => ∃ (a0 : Option Addr) (n0 c0 : Nat), v = .slice a0 n0 c0 ∧ wIntS.R h' [.slice a0 n0 c0] r ∧ Sub h h' := by
  obtain ⟨rfl, lp0⟩ := Sl.len rp0
  unfold M_spec_ReduceLetters at hM0
  refine walk (args := [.slice ap0 p0.length cp0]) (fn := Try.f118) rfl ?_
  obtain ⟨X1, hLX1, hM0⟩ := bsome hM0
  refine Exists.intro { vars := [4], boxes := [], owns := [0], fuel := true } (Exists.intro (fun vs os h' => ∃ (u2 : Int) (wu3 : List (List Value)) (u3 : List Int), vs.tail = [.int .i64 u2] ∧ os = [wu3] ∧ Sub h h' ∧ In64 u2 ∧ F2 (Wp.int.R h') wu3 u3 ∧ L_spec_ReduceLetters_0 p0 (fuelOf vs) u2 u3 = some X1) (Exists.intro (fun _ _ => 0) ?_))
  refine And.intro (Exists.intro FUEL ⟨0, [], ([] : LIntS), rfl, rfl, (Sub.refl _), (c64 (by decide) (by decide)), (show F2 (Wp.int.R h) ([] : List (List Value)) ([] : LIntS) from trivial), hLX1⟩) ?_
  rintro v_0 wu3 m5 k4 ⟨u2, zzu3, u3, evX1, eoX1, sX1, iu2, fu3, hM1⟩
  cases evX1
  cases eoX1
  replace hM1 : L_spec_ReduceLetters_0 p0 m5 u2 u3 = some X1 := hM1
  obtain _ | m5 := m5
  · cases (show (none : Option _) = some X1 from hM1)
  rw [L_spec_ReduceLetters_0_succ] at hM1
  refine And.intro (fun hc6 => ?_) (fun hc6 => ?_)
  · have hc6 : ((decide (u2 < ((p0.length : Nat) : Int)))) = true := hc6
    rw [if_pos hc6] at hM1
    obtain ⟨m7, gm7, hM1⟩ := bsome hM1
    obtain rfl : wu3.length = m7 := (F2.length fu3).trans (Option.some.inj gm7)
    obtain ⟨q8, gq8, hM1⟩ := bsome hM1
    refine Or.inl (And.intro (And.intro (by kernel_rfl) (by kernel_rfl)) ?_)
    obtain ⟨x9, gx9, hM1⟩ := bsome hM1
    obtain ⟨csx9, ex9, rx9⟩ := Sl.getG (r := Wp.int.toRp) (wIntS.mono sX1 rp0) gx9 (by decide) (dfInt k4)
    refine And.intro (fun q => (ex9 q).1) ?_
    obtain ⟨rfl, ix9⟩ := rx9
    refine Exists.intro _ (And.intro (fun q => (ex9 q).2) ?_)
    obtain ⟨x10, gx10, hM1⟩ := bsome hM1
    obtain ⟨csx10, ex10, rx10⟩ := oel_getG fu3 gx10 (dfInt k4)
    refine And.intro (fun q => (ex10 q).1) ?_
    obtain ⟨rfl, ix10⟩ := rx10
    refine Exists.intro _ (And.intro (fun q => (ex10 q).2) ?_)
    obtain ⟨x11, gx11, hM1⟩ := bsome hM1
    obtain ⟨csx11, ex11, rx11⟩ := Sl.getG (r := Wp.int.toRp) (wIntS.mono sX1 rp0) gx11 (by decide) (dfInt k4)
    refine And.intro (fun q => (ex11 q).1) ?_
    obtain ⟨rfl, ix11⟩ := rx11
    refine Exists.intro _ (And.intro (fun q => (ex11 q).2) ?_)
    obtain ⟨x12, gx12, hM1⟩ := bsome hM1
    obtain ⟨csx12, ex12, rx12⟩ := oel_getG fu3 gx12 (dfInt k4)
    refine And.intro (fun q => (ex12 q).1) ?_
    obtain ⟨rfl, ix12⟩ := rx12
    refine Exists.intro _ (And.intro (fun q => (ex12 q).2) ?_)
    obtain ⟨x13, gx13, hM1⟩ := bsome hM1
    obtain ⟨csx13, ex13, rx13⟩ := Sl.getG (r := Wp.int.toRp) (wIntS.mono sX1 rp0) gx13 (by decide) (dfInt k4)
    refine And.intro (fun q => (ex13 q).1) ?_
    obtain ⟨rfl, ix13⟩ := rx13
    refine Exists.intro _ (And.intro (fun q => (ex13 q).2) ?_)
    refine And.intro (fun hc14 => ?_) (fun hc14 => ?_)
    · have hc14 : ((bif (bif (bif (decide (((wu3.length : Nat) : Int) > 0)) then (!decide (x9 = 0)) else false) then (decide (x10 = (IntKind.i64.wrap (0 - x11)))) else false) then (!decide (x12 = x13)) else false)) = true := hc14
      rw [if_pos hc14] at hM1
      obtain ⟨q15, gq15, hM1⟩ := bsome hM1
      refine And.intro (by have := grd_some gq15; have := F2.length fu3; omega) ?_
      refine And.intro rfl (And.intro (by first | exact trivial | exact And.intro rfl trivial | exact And.intro rfl (And.intro rfl trivial) | exact And.intro rfl (And.intro rfl (And.intro rfl trivial)) | exact And.intro rfl (And.intro rfl (And.intro rfl (And.intro rfl trivial)))) (And.intro (by first | exact trivial | exact And.intro rfl trivial | exact And.intro rfl (And.intro rfl trivial) | exact And.intro rfl (And.intro rfl (And.intro rfl trivial)) | exact And.intro rfl (And.intro rfl (And.intro rfl (And.intro rfl trivial)))) (Exists.intro m5 (And.intro ⟨(IntKind.i64.wrap (u2 + 1)), (wu3.take (IntKind.i64.wrap (((wu3.length : Nat) : Int) - 1)).toNat), (u3.take (IntKind.i64.wrap (((wu3.length : Nat) : Int) - 1)).toNat), rfl, rfl, sX1, (wrap64 _), (F2.take (IntKind.i64.wrap (((wu3.length : Nat) : Int) - 1)).toNat fu3), hM1⟩ (Nat.lt_succ_self _)))))
    · have hc14 : ((bif (bif (bif (decide (((wu3.length : Nat) : Int) > 0)) then (!decide (x9 = 0)) else false) then (decide (x10 = (IntKind.i64.wrap (0 - x11)))) else false) then (!decide (x12 = x13)) else false)) = false := hc14
      rw [if_neg (bneT hc14)] at hM1
      obtain ⟨x16, gx16, hM1⟩ := bsome hM1
      obtain ⟨bx16, csx16, ex16, rx16⟩ := Sl.getI (r := Wp.int.toRp) (wIntS.mono sX1 rp0) gx16 (by decide)
      refine And.intro bx16 ?_
      obtain ⟨rfl, ix16⟩ := rx16
      refine Exists.intro _ (And.intro ex16 ?_)
      obtain ⟨q17, gq17, hM1⟩ := bsome hM1
      refine And.intro (room_of gq17 (by first | rw [F2.length fu3, F2.length (show F2 (Wp.int.R k4) ([[.int .i64 x16]] : List (List Value)) [x16] from ⟨⟨rfl, ix16⟩, trivial⟩)] | exact congrArg (· + 1) (F2.length fu3))) ?_
      refine And.intro rfl (And.intro (by first | exact trivial | exact And.intro rfl trivial | exact And.intro rfl (And.intro rfl trivial) | exact And.intro rfl (And.intro rfl (And.intro rfl trivial)) | exact And.intro rfl (And.intro rfl (And.intro rfl (And.intro rfl trivial)))) (And.intro (by first | exact trivial | exact And.intro rfl trivial | exact And.intro rfl (And.intro rfl trivial) | exact And.intro rfl (And.intro rfl (And.intro rfl trivial)) | exact And.intro rfl (And.intro rfl (And.intro rfl (And.intro rfl trivial)))) (Exists.intro m5 (And.intro ⟨(IntKind.i64.wrap (u2 + 1)), (wu3 ++ ([[.int .i64 x16]] : List (List Value))), (u3 ++ [x16]), rfl, rfl, sX1, (wrap64 _), (F2.append fu3 (show F2 (Wp.int.R k4) ([[.int .i64 x16]] : List (List Value)) [x16] from ⟨⟨rfl, ix16⟩, trivial⟩)), hM1⟩ (Nat.lt_succ_self _)))))
  · have hc6 : ((decide (u2 < ((p0.length : Nat) : Int)))) = false := hc6
    rw [if_neg (bneT hc6)] at hM1
    have hE := Option.some.inj hM1; subst hE
    try dsimp only [outK_inr, outL_inr] at hM0
    obtain ⟨q18, gq18, hM0⟩ := bsome hM0
    refine And.intro (room_of gq18 (by first | rw [F2.length (show F2 (Wp.int.R k4) ([] : List (List Value)) ([] : LIntS) from trivial), F2.length fu3] | exact congrArg (· + 0) (F2.length (show F2 (Wp.int.R k4) ([] : List (List Value)) ([] : LIntS) from trivial)))) ?_
    intro v19 k20 f21
    obtain ⟨az22, cz22, rfl, rz22, sz22, lz22⟩ := Froze.out (r := Wp.int.toRp) f21 (F2.append (show F2 (Wp.int.R k4) ([] : List (List Value)) ([] : LIntS) from trivial) fu3)
    have hE := Option.some.inj hM0; subst hE
    exact ⟨az22, ((([] : LIntS) ++ u3)).length, cz22, rfl, rz22, (sX1.trans sz22)⟩

theorem t_spec_MultiplyWords (h : Hp) (ap0 : Option Addr) (np0 cp0 : Nat) (p0 : LIntS) (rp0 : wIntS.R h [.slice ap0 np0 cp0] p0) (ap1 : Option Addr) (np1 cp1 : Nat) (p1 : LIntS) (rp1 : wIntS.R h [.slice ap1 np1 cp1] p1) (r : LIntS) (hM0 : M_spec_MultiplyWords p0 p1 = some r) :
    Tr Try.prog 71 #[.slice ap0 np0 cp0, .slice ap1 np1 cp1] h fun v h' => ∃ (a0 : Option Addr) (n0 c0 : Nat), v = .slice a0 n0 c0 ∧ wIntS.R h' [.slice a0 n0 c0] r ∧ Sub h h' := by
  obtain ⟨rfl, lp0⟩ := Sl.len rp0
  obtain ⟨rfl, lp1⟩ := Sl.len rp1
  unfold M_spec_MultiplyWords at hM0
  refine walk (args := [.slice ap0 p0.length cp0, .slice ap1 p1.length cp1]) (fn := Try.f71) rfl ?_
  obtain ⟨vsy1, ey1, fy1⟩ := Sl.rows (r := Wp.int.toRp) rp0
  refine Exists.intro vsy1 (And.intro ey1 ?_)
  obtain ⟨q2, gq2, hM0⟩ := bsome hM0
  refine And.intro (room_of gq2 (by first | rw [F2.length (show F2 (Wp.int.R h) ([] : List (List Value)) ([] : LIntS) from trivial), F2.length fy1] | exact congrArg (· + 1) (F2.length (show F2 (Wp.int.R h) ([] : List (List Value)) ([] : LIntS) from trivial)))) ?_
  obtain ⟨vsy3, ey3, fy3⟩ := Sl.rows (r := Wp.int.toRp) rp1
  refine Exists.intro vsy3 (And.intro ey3 ?_)
  obtain ⟨q4, gq4, hM0⟩ := bsome hM0
  refine And.intro (room_of gq4 (by first | rw [F2.length (F2.append (show F2 (Wp.int.R h) ([] : List (List Value)) ([] : LIntS) from trivial) fy1), F2.length fy3] | exact congrArg (· + 1) (F2.length (F2.append (show F2 (Wp.int.R h) ([] : List (List Value)) ([] : LIntS) from trivial) fy1)))) ?_
  refine Or.inl ?_
  intro v5 k6 f7
  obtain ⟨az8, cz8, rfl, rz8, sz8, lz8⟩ := Froze.out (r := Wp.int.toRp) f7 (F2.append (F2.append (show F2 (Wp.int.R h) ([] : List (List Value)) ([] : LIntS) from trivial) fy1) fy3)
  obtain ⟨x9, gx9, hM0⟩ := bsome hM0
  refine Tr.mono (t_spec_ReduceLetters _ az8 (((([] : LIntS) ++ p0) ++ p1)).length cz8 ((([] : LIntS) ++ p0) ++ p1) rz8 _  gx9) ?_
  rintro v11 k10 ⟨ax9, nx9, cx9, rfl, rx9, sx9⟩
  obtain ⟨rfl, lx9⟩ := Sl.len rx9
  have hE := Option.some.inj hM0; subst hE
  exact ⟨ax9, x9.length, cx9, rfl, rx9, (sz8.trans sx9)⟩

theorem t_spec_ConjugateWord (h : Hp) (ap0 : Option Addr) (np0 cp0 : Nat) (p0 : LIntS) (rp0 : wIntS.R h [.slice ap0 np0 cp0] p0) (ap1 : Option Addr) (np1 cp1 : Nat) (p1 : LIntS) (rp1 : wIntS.R h [.slice ap1 np1 cp1] p1) (r : LIntS) (hM0 : M_spec_ConjugateWord p0 p1 = some r) :
    Tr Try.prog 72 #[.slice ap0 np0 cp0, .slice ap1 np1 cp1] h fun v h' => ∃ (a0 : Option Addr) (n0 c0 : Nat), v = .slice a0 n0 c0 ∧ wIntS.R h' [.slice a0 n0 c0] r ∧ Sub h h' := by
  obtain ⟨rfl, lp0⟩ := Sl.len rp0
  obtain ⟨rfl, lp1⟩ := Sl.len rp1
  unfold M_spec_ConjugateWord at hM0
  refine walk (args := [.slice ap0 p0.length cp0, .slice ap1 p1.length cp1]) (fn := Try.f72) rfl ?_
  obtain ⟨x1, gx1, hM0⟩ := bsome hM0
  refine Tr.mono (t_spec_InvertWord _ ap1 p1.length cp1 p1 rp1 _  gx1) ?_
  rintro v3 k2 ⟨ax1, nx1, cx1, rfl, rx1, sx1⟩
  obtain ⟨rfl, lx1⟩ := Sl.len rx1
  obtain ⟨x4, gx4, hM0⟩ := bsome hM0
  refine Tr.mono (t_spec_MultiplyWords _ ax1 x1.length cx1 x1 rx1 ap0 p0.length cp0 p0 (wIntS.mono sx1 rp0) _  gx4) ?_
  rintro v6 k5 ⟨ax4, nx4, cx4, rfl, rx4, sx4⟩
  obtain ⟨rfl, lx4⟩ := Sl.len rx4
  obtain ⟨x7, gx7, hM0⟩ := bsome hM0
  refine Tr.mono (t_spec_MultiplyWords _ ax4 x4.length cx4 x4 rx4 ap1 p1.length cp1 p1 (wIntS.mono (sx1.trans sx4) rp1) _  gx7) ?_
  rintro v9 k8 ⟨ax7, nx7, cx7, rfl, rx7, sx7⟩
  obtain ⟨rfl, lx7⟩ := Sl.len rx7
  have hE := Option.some.inj hM0; subst hE
  exact ⟨ax7, x7.length, cx7, rfl, rx7, ((sx1.trans sx4).trans sx7)⟩

theorem t_spec_ProductOf (h : Hp) (csp0 : List Value) (p0 : LPresentation) (rp0 : wPresentation.R h csp0 p0) (ap1 : Option Addr) (np1 cp1 : Nat) (p1 : LTermS) (rp1 : wTermS.R h [.slice ap1 np1 cp1] p1) (r : LIntS) (hM0 : M_spec_ProductOf p0 p1 = some r) :
    Tr Try.prog 20 #[.agg csp0.toArray, .slice ap1 np1 cp1] h fun v h' => ∃ (a0 : Option Addr) (n0 c0 : Nat), v = .slice a0 n0 c0 ∧ wIntS.R h' [.slice a0 n0 c0] r ∧ Sub h h' := by
  obtain ⟨p0_0, ap0_1, np0_1, cp0_1, p0_1, rfl, rfl, ip0_0, rp0_1⟩ := openPresentation rp0
  obtain ⟨rfl, lp0_1⟩ := Sl.len rp0_1
  obtain ⟨rfl, lp1⟩ := Sl.len rp1
  unfold M_spec_ProductOf at hM0
  dsimp only at hM0
  refine walk (args := [.agg #[.int .i64 p0_0, .slice ap0_1 p0_1.length cp0_1], .slice ap1 p1.length cp1]) (fn := Try.f20) rfl ?_
  obtain ⟨X5, hLX5, hM0⟩ := bsome hM0
  refine Exists.intro { vars := [5, 6], boxes := [], owns := [], fuel := true, pubs := [5, 9] } (Exists.intro (fun vs os h' => ∃ (au6 : Option Addr) (nu6 cu6 : Nat) (u6 : LIntS) (u7 : Int), vs.tail = [.slice au6 nu6 cu6, .int .i64 u7] ∧ os = [] ∧ Sub h h' ∧ wIntS.R h' [.slice au6 nu6 cu6] u6 ∧ In64 u7 ∧ L_spec_ProductOf_0 p1 p0_0 p0_1 (fuelOf vs) u6 u7 = some X5) (Exists.intro (fun _ _ => 0) ?_))
  intro v1 k2 f3
  obtain ⟨az4, cz4, rfl, rz4, sz4, lz4⟩ := Froze.out (r := Wp.int.toRp) f3 (show F2 (Wp.int.R h) ([] : List (List Value)) ([] : LIntS) from trivial)
  refine And.intro (Exists.intro FUEL ⟨az4, (([] : LIntS)).length, cz4, ([] : LIntS), 0, rfl, rfl, sz4, rz4, (c64 (by decide) (by decide)), hLX5⟩) ?_
  rintro v_0 v_1 m9 k8 ⟨au6, nu6, cu6, u6, u7, evX5, eoX5, sX5, ru6, iu7, hM1⟩
  cases evX5
  cases eoX5
  replace hM1 : L_spec_ProductOf_0 p1 p0_0 p0_1 m9 u6 u7 = some X5 := hM1
  obtain _ | m9 := m9
  · cases (show (none : Option _) = some X5 from hM1)
  rw [L_spec_ProductOf_0_succ] at hM1
  obtain ⟨rfl, lu6⟩ := Sl.len ru6
  obtain ⟨x10, gx10, hM1⟩ := bsome hM1
  refine Exists.intro (.bool x10) (And.intro (fun q => t_spec_IsPresentation _ [.int .i64 p0_0, .slice ap0_1 p0_1.length cp0_1] (p0_0, p0_1) (closePresentation ip0_0 (wIntSS.mono sX5 rp0_1)) _  (chk_some gx10 q)) ?_)
  refine And.intro (fun hc11 => ?_) (fun hc11 => ?_)
  · have hc11 : ((bif (bif (decide (u7 < ((p1.length : Nat) : Int))) then (decide (u7 < 20)) else false) then x10 else false)) = true := hc11
    rw [if_pos hc11] at hM1
    obtain ⟨x12, gx12, hM1⟩ := bsome hM1
    obtain ⟨bx12, csx12, ex12, rx12⟩ := Sl.getI (r := wTerm.toRp) (wTermS.mono sX5 rp1) gx12 (by decide)
    refine And.intro bx12 ?_
    obtain ⟨ax12_0, nx12_0, cx12_0, x12_0, x12_1, x12_2, rfl, rfl, rx12_0, ix12_1, ix12_2⟩ := openTerm rx12
    obtain ⟨rfl, lx12_0⟩ := Sl.len rx12_0
    dsimp only at hM1
    refine Exists.intro _ (And.intro ex12 ?_)
    obtain ⟨x13, gx13, hM1⟩ := bsome hM1
    refine Tr.val (t_spec_l1In _ x12_1 ix12_1 0 (c64 (by decide) (by decide)) (IntKind.i64.wrap (((p0_1.length : Nat) : Int) - 1)) (wrap64 _) _  gx13) ?_
    refine And.intro (fun hc14 => ?_) (fun hc14 => ?_)
    · have hc14 : (x13) = true := hc14
      rw [if_pos hc14] at hM1
      obtain ⟨x15, gx15, hM1⟩ := bsome hM1
      obtain ⟨bx15, csx15, ex15, rx15⟩ := Sl.getI (r := wIntS.toRp) (wIntSS.mono sX5 rp0_1) gx15 (by decide)
      refine And.intro bx15 ?_
      obtain ⟨ax15, nx15, cx15, rfl⟩ := Wp.slice_cell rx15
      obtain ⟨rfl, lx15⟩ := Sl.len rx15
      refine Exists.intro _ (And.intro ex15 ?_)
      refine And.intro (fun hc16 => ?_) (fun hc16 => ?_)
      · have hc16 : ((decide (x12_2 < 0))) = true := hc16
        rw [if_pos hc16] at hM1
        obtain ⟨x17, gx17, hM1⟩ := bsome hM1
        refine Tr.mono (t_spec_InvertWord _ ax15 x15.length cx15 x15 rx15 _  gx17) ?_
        rintro v19 k18 ⟨ax17, nx17, cx17, rfl, rx17, sx17⟩
        obtain ⟨rfl, lx17⟩ := Sl.len rx17
        obtain ⟨x20, gx20, hM1⟩ := bsome hM1
        refine Tr.mono (t_spec_ConjugateWord _ ax17 x17.length cx17 x17 rx17 ax12_0 x12_0.length cx12_0 x12_0 (wIntS.mono sx17 rx12_0) _  gx20) ?_
        rintro v22 k21 ⟨ax20, nx20, cx20, rfl, rx20, sx20⟩
        obtain ⟨rfl, lx20⟩ := Sl.len rx20
        obtain ⟨x23, gx23, hM1⟩ := bsome hM1
        refine Tr.mono (t_spec_MultiplyWords _ au6 u6.length cu6 u6 (wIntS.mono (sx17.trans sx20) ru6) ax20 x20.length cx20 x20 rx20 _  gx23) ?_
        rintro v25 k24 ⟨ax23, nx23, cx23, rfl, rx23, sx23⟩
        obtain ⟨rfl, lx23⟩ := Sl.len rx23
        refine And.intro rfl (And.intro (by first | exact trivial | exact And.intro rfl trivial | exact And.intro rfl (And.intro rfl trivial) | exact And.intro rfl (And.intro rfl (And.intro rfl trivial)) | exact And.intro rfl (And.intro rfl (And.intro rfl (And.intro rfl trivial)))) (And.intro (by first | exact trivial | exact And.intro rfl trivial | exact And.intro rfl (And.intro rfl trivial) | exact And.intro rfl (And.intro rfl (And.intro rfl trivial)) | exact And.intro rfl (And.intro rfl (And.intro rfl (And.intro rfl trivial)))) (Exists.intro m9 (And.intro ⟨ax23, x23.length, cx23, x23, (IntKind.i64.wrap (u7 + 1)), rfl, rfl, (((sX5.trans sx17).trans sx20).trans sx23), rx23, (wrap64 _), hM1⟩ (Nat.lt_succ_self _)))))
      · have hc16 : ((decide (x12_2 < 0))) = false := hc16
        rw [if_neg (bneT hc16)] at hM1
        obtain ⟨x26, gx26, hM1⟩ := bsome hM1
        refine Tr.mono (t_spec_ConjugateWord _ ax15 x15.length cx15 x15 rx15 ax12_0 x12_0.length cx12_0 x12_0 rx12_0 _  gx26) ?_
        rintro v28 k27 ⟨ax26, nx26, cx26, rfl, rx26, sx26⟩
        obtain ⟨rfl, lx26⟩ := Sl.len rx26
        obtain ⟨x29, gx29, hM1⟩ := bsome hM1
        refine Tr.mono (t_spec_MultiplyWords _ au6 u6.length cu6 u6 (wIntS.mono sx26 ru6) ax26 x26.length cx26 x26 rx26 _  gx29) ?_
        rintro v31 k30 ⟨ax29, nx29, cx29, rfl, rx29, sx29⟩
        obtain ⟨rfl, lx29⟩ := Sl.len rx29
        refine And.intro rfl (And.intro (by first | exact trivial | exact And.intro rfl trivial | exact And.intro rfl (And.intro rfl trivial) | exact And.intro rfl (And.intro rfl (And.intro rfl trivial)) | exact And.intro rfl (And.intro rfl (And.intro rfl (And.intro rfl trivial)))) (And.intro (by first | exact trivial | exact And.intro rfl trivial | exact And.intro rfl (And.intro rfl trivial) | exact And.intro rfl (And.intro rfl (And.intro rfl trivial)) | exact And.intro rfl (And.intro rfl (And.intro rfl (And.intro rfl trivial)))) (Exists.intro m9 (And.intro ⟨ax29, x29.length, cx29, x29, (IntKind.i64.wrap (u7 + 1)), rfl, rfl, ((sX5.trans sx26).trans sx29), rx29, (wrap64 _), hM1⟩ (Nat.lt_succ_self _)))))
    · have hc14 : (x13) = false := hc14
      rw [if_neg (bneT hc14)] at hM1
      refine And.intro rfl (And.intro (by first | exact trivial | exact And.intro rfl trivial | exact And.intro rfl (And.intro rfl trivial) | exact And.intro rfl (And.intro rfl (And.intro rfl trivial)) | exact And.intro rfl (And.intro rfl (And.intro rfl (And.intro rfl trivial)))) (And.intro (by first | exact trivial | exact And.intro rfl trivial | exact And.intro rfl (And.intro rfl trivial) | exact And.intro rfl (And.intro rfl (And.intro rfl trivial)) | exact And.intro rfl (And.intro rfl (And.intro rfl (And.intro rfl trivial)))) (Exists.intro m9 (And.intro ⟨au6, u6.length, cu6, u6, (IntKind.i64.wrap (u7 + 1)), rfl, rfl, sX5, ru6, (wrap64 _), hM1⟩ (Nat.lt_succ_self _)))))
  · have hc11 : ((bif (bif (decide (u7 < ((p1.length : Nat) : Int))) then (decide (u7 < 20)) else false) then x10 else false)) = false := hc11
    rw [if_neg (bneT hc11)] at hM1
    have hE := Option.some.inj hM1; subst hE
    try dsimp only [outK_inr, outL_inr] at hM0
    have hE := Option.some.inj hM0; subst hE
    exact ⟨au6, u6.length, cu6, rfl, ru6, sX5⟩

theorem t_impl_InvertWord (h : Hp) (ap0 : Option Addr) (np0 cp0 : Nat) (p0 : LIntS) (rp0 : wIntS.R h [.slice ap0 np0 cp0] p0) (r : LIntS) (hM0 : M_impl_InvertWord p0 = some r) :
    Tr Try.prog 75 #[.slice ap0 np0 cp0] h fun v h' => ∃ (a0 : Option Addr) (n0 c0 : Nat), v = .slice a0 n0 c0 ∧ New wIntS h h' [.slice a0 n0 c0] r := by
  obtain ⟨rfl, lp0⟩ := Sl.len rp0
  unfold M_impl_InvertWord at hM0
  refine walk (args := [.slice ap0 p0.length cp0]) (fn := Try.f75) rfl ?_
  obtain ⟨q1, gq1, hM0⟩ := bsome hM0
  refine And.intro (grd_some gq1) ?_
  obtain ⟨X2, hLX2, hM0⟩ := bsome hM0
  refine Exists.intro { vars := [4], boxes := [], owns := [0], fuel := true } (Exists.intro (fun vs os h' => ∃ (u3 : Int) (wu4 : List (List Value)) (u4 : List Int), vs.tail = [.int .i64 u3] ∧ os = [wu4] ∧ Sub h h' ∧ In64 u3 ∧ F2 (Wp.int.R h') wu4 u4 ∧ L_impl_InvertWord_0 p0 (fuelOf vs) u3 u4 = some X2) (Exists.intro (fun _ _ => 0) ?_))
  refine And.intro (Exists.intro FUEL ⟨(IntKind.i64.wrap (((p0.length : Nat) : Int) - 1)), (List.replicate (0 : Int).toNat [.int .i64 0]), (List.replicate (0 : Int).toNat (0 : Int)), rfl, rfl, (Sub.refl _), (wrap64 _), (F2.rep (p := Wp.int.R h) (a := [.int .i64 0]) (b := 0) ⟨rfl, (c64 (by decide) (by decide))⟩ ((0 : Int).toNat)), hLX2⟩) ?_
  rintro v_0 wu4 m6 k5 ⟨u3, zzu4, u4, evX2, eoX2, sX2, iu3, fu4, hM1⟩
  cases evX2
  cases eoX2
  replace hM1 : L_impl_InvertWord_0 p0 m6 u3 u4 = some X2 := hM1
  obtain _ | m6 := m6
  · cases (show (none : Option _) = some X2 from hM1)
  rw [L_impl_InvertWord_0_succ] at hM1
  refine And.intro (fun hc7 => ?_) (fun hc7 => ?_)
  · have hc7 : ((decide (u3 ≥ 0))) = true := hc7
    rw [if_pos hc7] at hM1
    obtain ⟨x8, gx8, hM1⟩ := bsome hM1
    obtain ⟨bx8, csx8, ex8, rx8⟩ := Sl.getI (r := Wp.int.toRp) (wIntS.mono sX2 rp0) gx8 (by decide)
    refine And.intro bx8 ?_
    obtain ⟨rfl, ix8⟩ := rx8
    refine Exists.intro _ (And.intro ex8 ?_)
    obtain ⟨q9, gq9, hM1⟩ := bsome hM1
    refine And.intro (room_of gq9 (by first | rw [F2.length fu4, F2.length (show F2 (Wp.int.R k5) ([[.int .i64 (IntKind.i64.wrap (0 - x8))]] : List (List Value)) [(IntKind.i64.wrap (0 - x8))] from ⟨⟨rfl, (wrap64 _)⟩, trivial⟩)] | exact congrArg (· + 1) (F2.length fu4))) ?_
    refine And.intro rfl (And.intro (by first | exact trivial | exact And.intro rfl trivial | exact And.intro rfl (And.intro rfl trivial) | exact And.intro rfl (And.intro rfl (And.intro rfl trivial)) | exact And.intro rfl (And.intro rfl (And.intro rfl (And.intro rfl trivial)))) (And.intro (by first | exact trivial | exact And.intro rfl trivial | exact And.intro rfl (And.intro rfl trivial) | exact And.intro rfl (And.intro rfl (And.intro rfl trivial)) | exact And.intro rfl (And.intro rfl (And.intro rfl (And.intro rfl trivial)))) (Exists.intro m6 (And.intro ⟨(IntKind.i64.wrap (u3 - 1)), (wu4 ++ ([[.int .i64 (IntKind.i64.wrap (0 - x8))]] : List (List Value))), (u4 ++ [(IntKind.i64.wrap (0 - x8))]), rfl, rfl, sX2, (wrap64 _), (F2.append fu4 (show F2 (Wp.int.R k5) ([[.int .i64 (IntKind.i64.wrap (0 - x8))]] : List (List Value)) [(IntKind.i64.wrap (0 - x8))] from ⟨⟨rfl, (wrap64 _)⟩, trivial⟩)), hM1⟩ (Nat.lt_succ_self _)))))
  · have hc7 : ((decide (u3 ≥ 0))) = false := hc7
    rw [if_neg (bneT hc7)] at hM1
    have hE := Option.some.inj hM1; subst hE
    try dsimp only [outK_inr, outL_inr] at hM0
    intro v10 k11 f12
    obtain ⟨az13, cz13, rfl, rz13, sz13, lz13⟩ := Froze.out (r := Wp.int.toRp) f12 fu4
    have hE := Option.some.inj hM0; subst hE
    exact ⟨az13, u4.length, cz13, rfl, (New.from (Froze.newPlain (r := Wp.int) f12 fu4 (plInt _)) sX2)⟩

theorem t_impl_product (h : Hp) (ap0 : Option Addr) (np0 cp0 : Nat) (p0 : LIntSS) (rp0 : wIntSS.R h [.slice ap0 np0 cp0] p0) (r : LIntS) (hM0 : M_impl_product p0 = some r) :
    Tr Try.prog 77 #[.slice ap0 np0 cp0] h fun v h' => ∃ (a0 : Option Addr) (n0 c0 : Nat), v = .slice a0 n0 c0 ∧ New wIntS h h' [.slice a0 n0 c0] r := by
  obtain ⟨rfl, lp0⟩ := Sl.len rp0
  unfold M_impl_product at hM0
  refine walk (args := [.slice ap0 p0.length cp0]) (fn := Try.f77) rfl ?_
  obtain ⟨X1, hLX1, hM0⟩ := bsome hM0
  refine Exists.intro { vars := [11], boxes := [], owns := [0], fuel := true } (Exists.intro (fun vs os h' => ∃ (u2 : Int) (wu3 : List (List Value)) (u3 : List Int), vs.tail = [.int .i64 u2] ∧ os = [wu3] ∧ Sub h h' ∧ In64 u2 ∧ F2 (Wp.int.R h') wu3 u3 ∧ L_impl_product_1 p0 (fuelOf vs) u2 u3 = some X1) (Exists.intro (fun _ _ => 0) ?_))
  refine And.intro (Exists.intro FUEL ⟨0, [], ([] : LIntS), rfl, rfl, (Sub.refl _), (c64 (by decide) (by decide)), (show F2 (Wp.int.R h) ([] : List (List Value)) ([] : LIntS) from trivial), hLX1⟩) ?_
  rintro v_0 wu3 m5 k4 ⟨u2, zzu3, u3, evX1, eoX1, sX1, iu2, fu3, hM1⟩
  cases evX1
  cases eoX1
  replace hM1 : L_impl_product_1 p0 m5 u2 u3 = some X1 := hM1
  obtain _ | m5 := m5
  · cases (show (none : Option _) = some X1 from hM1)
  rw [L_impl_product_1_succ] at hM1
  refine And.intro (fun hc6 => ?_) (fun hc6 => ?_)
  · have hc6 : ((decide (u2 < ((p0.length : Nat) : Int)))) = true := hc6
    rw [if_pos hc6] at hM1
    obtain ⟨x7, gx7, hM1⟩ := bsome hM1
    obtain ⟨bx7, csx7, ex7, rx7⟩ := Sl.getI (r := wIntS.toRp) (wIntSS.mono sX1 rp0) gx7 (by decide)
    refine And.intro bx7 ?_
    obtain ⟨ax7, nx7, cx7, rfl⟩ := Wp.slice_cell rx7
    obtain ⟨rfl, lx7⟩ := Sl.len rx7
    refine Exists.intro _ (And.intro ex7 ?_)
    obtain ⟨X8, hLX8, hM1⟩ := bsome hM1
    refine Exists.intro { vars := [17], boxes := [], owns := [0], fuel := true } (Exists.intro (fun vs os h' => ∃ (u9 : Int) (wu10 : List (List Value)) (u10 : List Int), vs.tail = [.int .i64 u9] ∧ os = [wu10] ∧ Sub k4 h' ∧ In64 u9 ∧ F2 (Wp.int.R h') wu10 u10 ∧ L_impl_product_0 x7 (fuelOf vs) u9 u10 = some X8) (Exists.intro (fun _ _ => 0) ?_))
    refine And.intro (Exists.intro FUEL ⟨0, wu3, u3, rfl, rfl, (Sub.refl _), (c64 (by decide) (by decide)), fu3, hLX8⟩) ?_
    rintro v_0 wu10 m12 k11 ⟨u9, zzu10, u10, evX8, eoX8, sX8, iu9, fu10, hM2⟩
    cases evX8
    cases eoX8
    replace hM2 : L_impl_product_0 x7 m12 u9 u10 = some X8 := hM2
    obtain _ | m12 := m12
    · cases (show (none : Option _) = some X8 from hM2)
    rw [L_impl_product_0_succ] at hM2
    refine And.intro (fun hc13 => ?_) (fun hc13 => ?_)
    · have hc13 : ((decide (u9 < ((x7.length : Nat) : Int)))) = true := hc13
      rw [if_pos hc13] at hM2
      obtain ⟨x14, gx14, hM2⟩ := bsome hM2
      obtain ⟨bx14, csx14, ex14, rx14⟩ := Sl.getI (r := Wp.int.toRp) (wIntS.mono sX8 rx7) gx14 (by decide)
      refine And.intro bx14 ?_
      obtain ⟨rfl, ix14⟩ := rx14
      refine Exists.intro _ (And.intro ex14 ?_)
      obtain ⟨m15, gm15, hM2⟩ := bsome hM2
      obtain rfl : wu10.length = m15 := (F2.length fu10).trans (Option.some.inj gm15)
      obtain ⟨q16, gq16, hM2⟩ := bsome hM2
      obtain ⟨m17, gm17, hM2⟩ := bsome hM2
      obtain rfl : wu10.length = m17 := (F2.length fu10).trans (Option.some.inj gm17)
      obtain ⟨q18, gq18, hM2⟩ := bsome hM2
      obtain ⟨x19, gx19, hM2⟩ := bsome hM2
      obtain ⟨csx19, ex19, rx19⟩ := oel_getG fu10 gx19 (dfInt k11)
      refine And.intro (fun q => (ex19 q).1) ?_
      obtain ⟨rfl, ix19⟩ := rx19
      refine Exists.intro _ (And.intro (fun q => (ex19 q).2) ?_)
      obtain ⟨x20, gx20, hM2⟩ := bsome hM2
      refine Exists.intro (.bool x20) (And.intro (fun q => t_impl_areInverse _ x19 ix19 x14 ix14 _  (chk_some gx20 q)) ?_)
      refine And.intro (fun hc21 => ?_) (fun hc21 => ?_)
      · have hc21 : ((bif (decide (((wu10.length : Nat) : Int) > 0)) then x20 else false)) = true := hc21
        rw [if_pos hc21] at hM2
        obtain ⟨m22, gm22, hM2⟩ := bsome hM2
        obtain rfl : wu10.length = m22 := (F2.length fu10).trans (Option.some.inj gm22)
        obtain ⟨q23, gq23, hM2⟩ := bsome hM2
        obtain ⟨q24, gq24, hM2⟩ := bsome hM2
        refine And.intro (by have := grd_some gq24; have := F2.length fu10; omega) ?_
        refine And.intro rfl (And.intro (by first | exact trivial | exact And.intro rfl trivial | exact And.intro rfl (And.intro rfl trivial) | exact And.intro rfl (And.intro rfl (And.intro rfl trivial)) | exact And.intro rfl (And.intro rfl (And.intro rfl (And.intro rfl trivial)))) (And.intro (by first | exact trivial | exact And.intro rfl trivial | exact And.intro rfl (And.intro rfl trivial) | exact And.intro rfl (And.intro rfl (And.intro rfl trivial)) | exact And.intro rfl (And.intro rfl (And.intro rfl (And.intro rfl trivial)))) (Exists.intro m12 (And.intro ⟨(IntKind.i64.wrap (u9 + 1)), (wu10.take (IntKind.i64.wrap (((wu10.length : Nat) : Int) - 1)).toNat), (u10.take (IntKind.i64.wrap (((wu10.length : Nat) : Int) - 1)).toNat), rfl, rfl, sX8, (wrap64 _), (F2.take (IntKind.i64.wrap (((wu10.length : Nat) : Int) - 1)).toNat fu10), hM2⟩ (Nat.lt_succ_self _)))))
      · have hc21 : ((bif (decide (((wu10.length : Nat) : Int) > 0)) then x20 else false)) = false := hc21
        rw [if_neg (bneT hc21)] at hM2
        obtain ⟨q25, gq25, hM2⟩ := bsome hM2
        refine And.intro (room_of gq25 (by first | rw [F2.length fu10, F2.length (show F2 (Wp.int.R k11) ([[.int .i64 x14]] : List (List Value)) [x14] from ⟨⟨rfl, ix14⟩, trivial⟩)] | exact congrArg (· + 1) (F2.length fu10))) ?_
        refine And.intro rfl (And.intro (by first | exact trivial | exact And.intro rfl trivial | exact And.intro rfl (And.intro rfl trivial) | exact And.intro rfl (And.intro rfl (And.intro rfl trivial)) | exact And.intro rfl (And.intro rfl (And.intro rfl (And.intro rfl trivial)))) (And.intro (by first | exact trivial | exact And.intro rfl trivial | exact And.intro rfl (And.intro rfl trivial) | exact And.intro rfl (And.intro rfl (And.intro rfl trivial)) | exact And.intro rfl (And.intro rfl (And.intro rfl (And.intro rfl trivial)))) (Exists.intro m12 (And.intro ⟨(IntKind.i64.wrap (u9 + 1)), (wu10 ++ ([[.int .i64 x14]] : List (List Value))), (u10 ++ [x14]), rfl, rfl, sX8, (wrap64 _), (F2.append fu10 (show F2 (Wp.int.R k11) ([[.int .i64 x14]] : List (List Value)) [x14] from ⟨⟨rfl, ix14⟩, trivial⟩)), hM2⟩ (Nat.lt_succ_self _)))))
    · have hc13 : ((decide (u9 < ((x7.length : Nat) : Int)))) = false := hc13
      rw [if_neg (bneT hc13)] at hM2
      have hE := Option.some.inj hM2; subst hE
      try dsimp only [outK_inr, outL_inr] at hM1
      refine And.intro rfl (And.intro (by first | exact trivial | exact And.intro rfl trivial | exact And.intro rfl (And.intro rfl trivial) | exact And.intro rfl (And.intro rfl (And.intro rfl trivial)) | exact And.intro rfl (And.intro rfl (And.intro rfl (And.intro rfl trivial)))) (And.intro (by first | exact trivial | exact And.intro rfl trivial | exact And.intro rfl (And.intro rfl trivial) | exact And.intro rfl (And.intro rfl (And.intro rfl trivial)) | exact And.intro rfl (And.intro rfl (And.intro rfl (And.intro rfl trivial)))) (Exists.intro m5 (And.intro ⟨(IntKind.i64.wrap (u2 + 1)), wu10, u10, rfl, rfl, (sX1.trans sX8), (wrap64 _), fu10, hM1⟩ (Nat.lt_succ_self _)))))
  · have hc6 : ((decide (u2 < ((p0.length : Nat) : Int)))) = false := hc6
    rw [if_neg (bneT hc6)] at hM1
    have hE := Option.some.inj hM1; subst hE
    try dsimp only [outK_inr, outL_inr] at hM0
    intro v30 k31 f32
    obtain ⟨az33, cz33, rfl, rz33, sz33, lz33⟩ := Froze.out (r := Wp.int.toRp) f32 fu3
    have hE := Option.some.inj hM0; subst hE
    exact ⟨az33, u3.length, cz33, rfl, (New.from (Froze.newPlain (r := Wp.int) f32 fu3 (plInt _)) sX1)⟩

theorem t_impl_ConjugateWord (h : Hp) (ap0 : Option Addr) (np0 cp0 : Nat) (p0 : LIntS) (rp0 : wIntS.R h [.slice ap0 np0 cp0] p0) (ap1 : Option Addr) (np1 cp1 : Nat) (p1 : LIntS) (rp1 : wIntS.R h [.slice ap1 np1 cp1] p1) (r : LIntS) (hM0 : M_impl_ConjugateWord p0 p1 = some r) :
    Tr Try.prog 76 #[.slice ap0 np0 cp0, .slice ap1 np1 cp1] h fun v h' => ∃ (a0 : Option Addr) (n0 c0 : Nat), v = .slice a0 n0 c0 ∧ New wIntS h h' [.slice a0 n0 c0] r := by
  obtain ⟨rfl, lp0⟩ := Sl.len rp0
  obtain ⟨rfl, lp1⟩ := Sl.len rp1
  unfold M_impl_ConjugateWord at hM0
  refine walk (args := [.slice ap0 p0.length cp0, .slice ap1 p1.length cp1]) (fn := Try.f76) rfl ?_
  obtain ⟨x1, gx1, hM0⟩ := bsome hM0
  refine Tr.mono (t_impl_InvertWord _ ap1 p1.length cp1 p1 rp1 _  gx1) ?_
  rintro v3 k2 ⟨ax1, nx1, cx1, rfl, wx1⟩
  have sx1 := wx1.sub
  have rx1 := wx1.r
  obtain ⟨rfl, lx1⟩ := Sl.len rx1
  refine Or.inl ?_
  intro v4 k5 f6
  obtain ⟨az7, cz7, rfl, rz7, sz7, lz7⟩ := Froze.out (r := wIntS.toRp) f6 (show F2 (wIntS.R k2) ([[.slice ax1 x1.length cx1], [.slice ap0 p0.length cp0], [.slice ap1 p1.length cp1]] : List (List Value)) [x1, p0, p1] from ⟨rx1, ⟨(wIntS.mono sx1 rp0), ⟨(wIntS.mono sx1 rp1), trivial⟩⟩⟩)
  obtain ⟨x8, gx8, hM0⟩ := bsome hM0
  refine Tr.mono (t_impl_product _ az7 ([x1, p0, p1]).length cz7 [x1, p0, p1] rz7 _  gx8) ?_
  rintro v10 k9 ⟨ax8, nx8, cx8, rfl, wx8⟩
  have sx8 := wx8.sub
  have rx8 := wx8.r
  obtain ⟨rfl, lx8⟩ := Sl.len rx8
  have hE := Option.some.inj hM0; subst hE
  exact ⟨ax8, x8.length, cx8, rfl, (New.from wx8 (sx1.trans sz7))⟩

theorem t_impl_ProductOf (h : Hp) (csp0 : List Value) (p0 : LPresentation) (rp0 : wPresentation.R h csp0 p0) (ap1 : Option Addr) (np1 cp1 : Nat) (p1 : LTermS) (rp1 : wTermS.R h [.slice ap1 np1 cp1] p1) (r : LIntS) (hM0 : M_impl_ProductOf p0 p1 = some r) :
    Tr Try.prog 22 #[.agg csp0.toArray, .slice ap1 np1 cp1] h fun v h' => ∃ (a0 : Option Addr) (n0 c0 : Nat), v = .slice a0 n0 c0 ∧ New wIntS h h' [.slice a0 n0 c0] r := by
  obtain ⟨p0_0, ap0_1, np0_1, cp0_1, p0_1, rfl, rfl, ip0_0, rp0_1⟩ := openPresentation rp0
  obtain ⟨rfl, lp0_1⟩ := Sl.len rp0_1
  obtain ⟨rfl, lp1⟩ := Sl.len rp1
  unfold M_impl_ProductOf at hM0
  dsimp only at hM0
  refine walk (args := [.agg #[.int .i64 p0_0, .slice ap0_1 p0_1.length cp0_1], .slice ap1 p1.length cp1]) (fn := Try.f22) rfl ?_
  obtain ⟨x1, gx1, hM0⟩ := bsome hM0
  refine Tr.val (t_impl_IsPresentation _ [.int .i64 p0_0, .slice ap0_1 p0_1.length cp0_1] (p0_0, p0_1) (closePresentation ip0_0 rp0_1) _  gx1) ?_
  refine And.intro (fun hc2 => ?_) (fun hc2 => ?_)
  · have hc2 : ((!x1)) = true := hc2
    rw [if_pos hc2] at hM0
    intro v3 k4 f5
    obtain ⟨az6, cz6, rfl, rz6, sz6, lz6⟩ := Froze.out (r := Wp.int.toRp) f5 (show F2 (Wp.int.R h) ([] : List (List Value)) ([] : LIntS) from trivial)
    have hE := Option.some.inj hM0; subst hE
    exact ⟨az6, (([] : LIntS)).length, cz6, rfl, (Froze.newPlain (r := Wp.int) f5 (show F2 (Wp.int.R h) ([] : List (List Value)) ([] : LIntS) from trivial) (plInt _))⟩
  · have hc2 : ((!x1)) = false := hc2
    rw [if_neg (bneT hc2)] at hM0
    obtain ⟨x7, gx7, hM0⟩ := bsome hM0
    obtain ⟨qx7, vsx7, ex7, fx7⟩ := Sl.cutI (r := wTerm.toRp) rp1 gx7
    refine And.intro qx7 (Exists.intro vsx7 (And.intro ex7 ?_))
    intro vx7 hvx7 _
    obtain ⟨ax7, cx7, rfl, rx7⟩ := fx7 vx7 hvx7
    have lx7 := (Sl.len rx7).2
    obtain ⟨X8, hLX8, hM0⟩ := bsome hM0
    refine Exists.intro { vars := [20], boxes := [], owns := [0], fuel := true } (Exists.intro (fun vs os h' => ∃ (u9 : Int) (wu10 : List (List Value)) (u10 : List LIntS), vs.tail = [.int .i64 u9] ∧ os = [wu10] ∧ Sub h h' ∧ In64 u9 ∧ F2 (wIntS.R h') wu10 u10 ∧ L_impl_ProductOf_0 x7 p0_1 (fuelOf vs) u9 u10 = some X8) (Exists.intro (fun _ _ => 0) ?_))
    refine And.intro (Exists.intro FUEL ⟨0, [], ([] : LIntSS), rfl, rfl, (Sub.refl _), (c64 (by decide) (by decide)), (show F2 (wIntS.R h) ([] : List (List Value)) ([] : LIntSS) from trivial), hLX8⟩) ?_
    rintro v_0 wu10 m12 k11 ⟨u9, zzu10, u10, evX8, eoX8, sX8, iu9, fu10, hM1⟩
    cases evX8
    cases eoX8
    replace hM1 : L_impl_ProductOf_0 x7 p0_1 m12 u9 u10 = some X8 := hM1
    obtain _ | m12 := m12
    · cases (show (none : Option _) = some X8 from hM1)
    rw [L_impl_ProductOf_0_succ] at hM1
    refine And.intro (fun hc13 => ?_) (fun hc13 => ?_)
    · have hc13 : ((decide (u9 < ((x7.length : Nat) : Int)))) = true := hc13
      rw [if_pos hc13] at hM1
      obtain ⟨x14, gx14, hM1⟩ := bsome hM1
      obtain ⟨bx14, csx14, ex14, rx14⟩ := Sl.getI (r := wTerm.toRp) (wTermS.mono sX8 rx7) gx14 (by decide)
      refine And.intro bx14 ?_
      obtain ⟨ax14_0, nx14_0, cx14_0, x14_0, x14_1, x14_2, rfl, rfl, rx14_0, ix14_1, ix14_2⟩ := openTerm rx14
      obtain ⟨rfl, lx14_0⟩ := Sl.len rx14_0
      dsimp only at hM1
      refine Exists.intro _ (And.intro ex14 ?_)
      obtain ⟨x15, gx15, hM1⟩ := bsome hM1
      refine Tr.val (t_impl_within _ x14_1 ix14_1 0 (c64 (by decide) (by decide)) (IntKind.i64.wrap (((p0_1.length : Nat) : Int) - 1)) (wrap64 _) _  gx15) ?_
      refine And.intro (fun hc16 => ?_) (fun hc16 => ?_)
      · have hc16 : ((!x15)) = true := hc16
        rw [if_pos hc16] at hM1
        refine And.intro rfl (And.intro (by first | exact trivial | exact And.intro rfl trivial | exact And.intro rfl (And.intro rfl trivial) | exact And.intro rfl (And.intro rfl (And.intro rfl trivial)) | exact And.intro rfl (And.intro rfl (And.intro rfl (And.intro rfl trivial)))) (And.intro (by first | exact trivial | exact And.intro rfl trivial | exact And.intro rfl (And.intro rfl trivial) | exact And.intro rfl (And.intro rfl (And.intro rfl trivial)) | exact And.intro rfl (And.intro rfl (And.intro rfl (And.intro rfl trivial)))) (Exists.intro m12 (And.intro ⟨(IntKind.i64.wrap (u9 + 1)), wu10, u10, rfl, rfl, sX8, (wrap64 _), fu10, hM1⟩ (Nat.lt_succ_self _)))))
      · have hc16 : ((!x15)) = false := hc16
        rw [if_neg (bneT hc16)] at hM1
        obtain ⟨x17, gx17, hM1⟩ := bsome hM1
        obtain ⟨bx17, csx17, ex17, rx17⟩ := Sl.getI (r := wIntS.toRp) (wIntSS.mono sX8 rp0_1) gx17 (by decide)
        refine And.intro bx17 ?_
        obtain ⟨ax17, nx17, cx17, rfl⟩ := Wp.slice_cell rx17
        obtain ⟨rfl, lx17⟩ := Sl.len rx17
        refine Exists.intro _ (And.intro ex17 ?_)
        refine And.intro (fun hc18 => ?_) (fun hc18 => ?_)
        · have hc18 : ((decide (x14_2 < 0))) = true := hc18
          rw [if_pos hc18] at hM1
          obtain ⟨x19, gx19, hM1⟩ := bsome hM1
          refine Tr.mono (t_impl_InvertWord _ ax17 x17.length cx17 x17 rx17 _  gx19) ?_
          rintro v21 k20 ⟨ax19, nx19, cx19, rfl, wx19⟩
          have sx19 := wx19.sub
          have rx19 := wx19.r
          obtain ⟨rfl, lx19⟩ := Sl.len rx19
          obtain ⟨x22, gx22, hM1⟩ := bsome hM1
          refine Tr.mono (t_impl_ConjugateWord _ ax19 x19.length cx19 x19 rx19 ax14_0 x14_0.length cx14_0 x14_0 (wIntS.mono sx19 rx14_0) _  gx22) ?_
          rintro v24 k23 ⟨ax22, nx22, cx22, rfl, wx22⟩
          have sx22 := wx22.sub
          have rx22 := wx22.r
          obtain ⟨rfl, lx22⟩ := Sl.len rx22
          obtain ⟨q25, gq25, hM1⟩ := bsome hM1
          refine And.intro (room_of gq25 (by first | rw [F2.length (F2.up (r := wIntS.toRp) (sx19.trans sx22) fu10), F2.length (show F2 (wIntS.R k23) ([[.slice ax22 x22.length cx22]] : List (List Value)) [x22] from ⟨rx22, trivial⟩)] | exact congrArg (· + 1) (F2.length (F2.up (r := wIntS.toRp) (sx19.trans sx22) fu10)))) ?_
          refine And.intro rfl (And.intro (by first | exact trivial | exact And.intro rfl trivial | exact And.intro rfl (And.intro rfl trivial) | exact And.intro rfl (And.intro rfl (And.intro rfl trivial)) | exact And.intro rfl (And.intro rfl (And.intro rfl (And.intro rfl trivial)))) (And.intro (by first | exact trivial | exact And.intro rfl trivial | exact And.intro rfl (And.intro rfl trivial) | exact And.intro rfl (And.intro rfl (And.intro rfl trivial)) | exact And.intro rfl (And.intro rfl (And.intro rfl (And.intro rfl trivial)))) (Exists.intro m12 (And.intro ⟨(IntKind.i64.wrap (u9 + 1)), (wu10 ++ ([[.slice ax22 x22.length cx22]] : List (List Value))), (u10 ++ [x22]), rfl, rfl, ((sX8.trans sx19).trans sx22), (wrap64 _), (F2.append (F2.up (r := wIntS.toRp) (sx19.trans sx22) fu10) (show F2 (wIntS.R k23) ([[.slice ax22 x22.length cx22]] : List (List Value)) [x22] from ⟨rx22, trivial⟩)), hM1⟩ (Nat.lt_succ_self _)))))
        · have hc18 : ((decide (x14_2 < 0))) = false := hc18
          rw [if_neg (bneT hc18)] at hM1
          obtain ⟨x26, gx26, hM1⟩ := bsome hM1
          refine Tr.mono (t_impl_ConjugateWord _ ax17 x17.length cx17 x17 rx17 ax14_0 x14_0.length cx14_0 x14_0 rx14_0 _  gx26) ?_
          rintro v28 k27 ⟨ax26, nx26, cx26, rfl, wx26⟩
          have sx26 := wx26.sub
          have rx26 := wx26.r
          obtain ⟨rfl, lx26⟩ := Sl.len rx26
          obtain ⟨q29, gq29, hM1⟩ := bsome hM1
          refine And.intro (room_of gq29 (by first | rw [F2.length (F2.up (r := wIntS.toRp) sx26 fu10), F2.length (show F2 (wIntS.R k27) ([[.slice ax26 x26.length cx26]] : List (List Value)) [x26] from ⟨rx26, trivial⟩)] | exact congrArg (· + 1) (F2.length (F2.up (r := wIntS.toRp) sx26 fu10)))) ?_
          refine And.intro rfl (And.intro (by first | exact trivial | exact And.intro rfl trivial | exact And.intro rfl (And.intro rfl trivial) | exact And.intro rfl (And.intro rfl (And.intro rfl trivial)) | exact And.intro rfl (And.intro rfl (And.intro rfl (And.intro rfl trivial)))) (And.intro (by first | exact trivial | exact And.intro rfl trivial | exact And.intro rfl (And.intro rfl trivial) | exact And.intro rfl (And.intro rfl (And.intro rfl trivial)) | exact And.intro rfl (And.intro rfl (And.intro rfl (And.intro rfl trivial)))) (Exists.intro m12 (And.intro ⟨(IntKind.i64.wrap (u9 + 1)), (wu10 ++ ([[.slice ax26 x26.length cx26]] : List (List Value))), (u10 ++ [x26]), rfl, rfl, (sX8.trans sx26), (wrap64 _), (F2.append (F2.up (r := wIntS.toRp) sx26 fu10) (show F2 (wIntS.R k27) ([[.slice ax26 x26.length cx26]] : List (List Value)) [x26] from ⟨rx26, trivial⟩)), hM1⟩ (Nat.lt_succ_self _)))))
    · have hc13 : ((decide (u9 < ((x7.length : Nat) : Int)))) = false := hc13
      rw [if_neg (bneT hc13)] at hM1
      have hE := Option.some.inj hM1; subst hE
      try dsimp only [outK_inr, outL_inr] at hM0
      refine Or.inl ?_
      intro v30 k31 f32
      obtain ⟨az33, cz33, rfl, rz33, sz33, lz33⟩ := Froze.out (r := wIntS.toRp) f32 fu10
      obtain ⟨x34, gx34, hM0⟩ := bsome hM0
      refine Tr.mono (t_impl_product _ az33 u10.length cz33 u10 rz33 _  gx34) ?_
      rintro v36 k35 ⟨ax34, nx34, cx34, rfl, wx34⟩
      have sx34 := wx34.sub
      have rx34 := wx34.r
      obtain ⟨rfl, lx34⟩ := Sl.len rx34
      have hE := Option.some.inj hM0; subst hE
      exact ⟨ax34, x34.length, cx34, rfl, (New.from wx34 (sX8.trans sz33))⟩

end Go.Proofs.Ytjalbdammdmgiaa
