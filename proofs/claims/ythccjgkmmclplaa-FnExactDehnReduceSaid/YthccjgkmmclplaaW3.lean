/- The walks of batch 3. -/
import Derived.Test.YthccjgkmmclplaaA3
import Derived.Test.YthccjgkmmclplaaChecked
import Derived.Test.YthccjgkmmclplaaH35
import Derived.Test.YthccjgkmmclplaaW1
namespace Go.Proofs.Ythccjgkmmclplaa
open Go.H
set_option linter.unusedVariables false
set_option linter.unusedSimpArgs false
set_option maxRecDepth 10000
theorem t_spec_InvertWord (h : Hp) (ap0 : Option Addr) (np0 cp0 : Nat) (p0 : LIntS) (rp0 : wIntS.R h [.slice ap0 np0 cp0] p0) (r : LIntS) (hM0 : M_spec_InvertWord p0 = some r) :
    Tr Try.prog 45 #[.slice ap0 np0 cp0] h fun v h' => ∃ (a0 : Option Addr) (n0 c0 : Nat), v = .slice a0 n0 c0 ∧ wIntS.R h' [.slice a0 n0 c0] r ∧ Sub h h' := by
  obtain ⟨rfl, lp0⟩ := Sl.len rp0
  unfold M_spec_InvertWord at hM0
  refine walk (args := [.slice ap0 p0.length cp0]) (fn := Try.f45) rfl ?_
  obtain ⟨X1, hLX1, hM0⟩ := bsome hM0
  refine Exists.intro { vars := [4], boxes := [], owns := [0], fuel := true } (Exists.intro (fun vs os h' => ∃ (u2 : Int) (wu3 : List (List Value)) (u3 : List Int), vs.tail = [.int .i64 u2] ∧ os = [wu3] ∧ Sub h h' ∧ In64 u2 ∧ F2 (Wp.int.R h') wu3 u3 ∧ L_spec_InvertWord_0 p0 (fuelOf vs) u2 u3 = some X1) (Exists.intro (fun _ _ => 0) ?_))
  refine And.intro (Exists.intro FUEL ⟨(IntKind.i64.wrap (((p0.length : Nat) : Int) - 1)), [], ([] : LIntS), rfl, rfl, (Sub.refl _), (wrap64 _), (show F2 (Wp.int.R h) ([] : List (List Value)) ([] : LIntS) from trivial), hLX1⟩) ?_
  rintro v_0 wu3 m5 k4 ⟨u2, zzu3, u3, evX1, eoX1, sX1, iu2, fu3, hM1⟩
  cases evX1
  cases eoX1
  replace hM1 : L_spec_InvertWord_0 p0 m5 u2 u3 = some X1 := hM1
  obtain _ | m5 := m5
  · cases (show (none : Option _) = some X1 from hM1)
  rw [L_spec_InvertWord_0_succ] at hM1
  refine And.intro (fun hc6 => ?_) (fun hc6 => ?_)
  · have hc6 : ((decide (u2 ≥ 0))) = true := hc6
    rw [if_pos hc6] at hM1
    obtain ⟨x7, gx7, hM1⟩ := bsome hM1
    obtain ⟨bx7, csx7, ex7, rx7⟩ := Sl.getI (r := Wp.int.toRp) (wIntS.mono sX1 rp0) gx7 (by decide)
    refine And.intro bx7 ?_
    obtain ⟨rfl, ix7⟩ := rx7
    refine Exists.intro _ (And.intro ex7 ?_)
    obtain ⟨q8, gq8, hM1⟩ := bsome hM1
    refine And.intro (room_of gq8 (by first | rw [F2.length fu3, F2.length (show F2 (Wp.int.R k4) ([[.int .i64 (IntKind.i64.wrap (0 - x7))]] : List (List Value)) [(IntKind.i64.wrap (0 - x7))] from ⟨⟨rfl, (wrap64 _)⟩, trivial⟩)] | exact congrArg (· + 1) (F2.length fu3))) ?_
    refine And.intro rfl (And.intro (by first | exact trivial | exact And.intro rfl trivial | exact And.intro rfl (And.intro rfl trivial) | exact And.intro rfl (And.intro rfl (And.intro rfl trivial)) | exact And.intro rfl (And.intro rfl (And.intro rfl (And.intro rfl trivial)))) (And.intro (by first | exact trivial | exact And.intro rfl trivial | exact And.intro rfl (And.intro rfl trivial) | exact And.intro rfl (And.intro rfl (And.intro rfl trivial)) | exact And.intro rfl (And.intro rfl (And.intro rfl (And.intro rfl trivial)))) (Exists.intro m5 (And.intro ⟨(IntKind.i64.wrap (u2 - 1)), (wu3 ++ ([[.int .i64 (IntKind.i64.wrap (0 - x7))]] : List (List Value))), (u3 ++ [(IntKind.i64.wrap (0 - x7))]), rfl, rfl, sX1, (wrap64 _), (F2.append fu3 (show F2 (Wp.int.R k4) ([[.int .i64 (IntKind.i64.wrap (0 - x7))]] : List (List Value)) [(IntKind.i64.wrap (0 - x7))] from ⟨⟨rfl, (wrap64 _)⟩, trivial⟩)), hM1⟩ (Nat.lt_succ_self _)))))
  · have hc6 : ((decide (u2 ≥ 0))) = false := hc6
    rw [if_neg (bneT hc6)] at hM1
    have hE := Option.some.inj hM1; subst hE
    try dsimp only [outK_inr, outL_inr] at hM0
    intro v9 k10 f11
    obtain ⟨az12, cz12, rfl, rz12, sz12, lz12⟩ := Froze.out (r := Wp.int.toRp) f11 fu3
    have hE := Option.some.inj hM0; subst hE
    exact ⟨az12, u3.length, cz12, rfl, rz12, (sX1.trans sz12)⟩

theorem t_spec_ReduceLetters (h : Hp) (ap0 : Option Addr) (np0 cp0 : Nat) (p0 : LIntS) (rp0 : wIntS.R h [.slice ap0 np0 cp0] p0) (r : LIntS) (hM0 : M_spec_ReduceLetters p0 = some r) :
    Tr Try.prog 71 #[.slice ap0 np0 cp0] h fun v h' => ∃ (a0 : Option Addr) (n0 c0 : Nat), v = .slice a0 n0 c0 ∧ wIntS.R h' [.slice a0 n0 c0] r ∧ Sub h h' := by
  obtain ⟨rfl, lp0⟩ := Sl.len rp0
  unfold M_spec_ReduceLetters at hM0
  refine walk (args := [.slice ap0 p0.length cp0]) (fn := Try.f71) rfl ?_
  obtain ⟨X1, hLX1, hM0⟩ := bsome hM0
  refine Exists.intro { vars := [4], boxes := [], owns := [0], fuel := true } (Exists.intro (fun vs os h' => ∃ (u2 : Int) (wu3 : List (List Value)) (u3 : List Int), vs.tail = [.int .i64 u2] ∧ os = [wu3] ∧ Sub h h' ∧ In64 u2 ∧ F2 (Wp.int.R h') wu3 u3 ∧ L_spec_ReduceLetters_0 p0 (fuelOf vs) u2 u3 = some X1) (Exists.intro (fun _ _ => 0) ?_))
  refine And.intro (Exists.intro FUEL ⟨0, [], ([] : LIntS), rfl, rfl, (Sub.refl _), (c64 (by decide) (by decide)), (show F2 (Wp.int.R h) ([] : List (List Value)) ([] : LIntS) from trivial), hLX1⟩) ?_
  rintro v_0 wu3 m5 k4 ⟨u2, zzu3, u3, evX1, eoX1, sX1, iu2, fu3, hM1⟩
  cases evX1
  cases eoX1
  replace hM1 : L_spec_ReduceLetters_0 p0 m5 u2 u3 = some X1 := hM1
  obtain _ | m5 := m5
  · cases (show (none : Option _) = some X1 from hM1)
  rw [L_spec_ReduceLetters_0_succ] at hM1
  refine And.intro (fun hc6 => ?_) (fun hc6 => ?_)
  · have hc6 : ((decide (u2 < ((p0.length : Nat) : Int)))) = true := hc6
    rw [if_pos hc6] at hM1
    obtain ⟨m7, gm7, hM1⟩ := bsome hM1
    obtain rfl : wu3.length = m7 := (F2.length fu3).trans (Option.some.inj gm7)
    obtain ⟨q8, gq8, hM1⟩ := bsome hM1
    refine Or.inl (And.intro (And.intro (by kernel_rfl) (by kernel_rfl)) ?_)
    obtain ⟨x9, gx9, hM1⟩ := bsome hM1
    obtain ⟨csx9, ex9, rx9⟩ := Sl.getG (r := Wp.int.toRp) (wIntS.mono sX1 rp0) gx9 (by decide) (dfInt k4)
    refine And.intro (fun q => (ex9 q).1) ?_
    obtain ⟨rfl, ix9⟩ := rx9
    refine Exists.intro _ (And.intro (fun q => (ex9 q).2) ?_)
    obtain ⟨x10, gx10, hM1⟩ := bsome hM1
    obtain ⟨csx10, ex10, rx10⟩ := oel_getG fu3 gx10 (dfInt k4)
    refine And.intro (fun q => (ex10 q).1) ?_
    obtain ⟨rfl, ix10⟩ := rx10
    refine Exists.intro _ (And.intro (fun q => (ex10 q).2) ?_)
    obtain ⟨x11, gx11, hM1⟩ := bsome hM1
    obtain ⟨csx11, ex11, rx11⟩ := Sl.getG (r := Wp.int.toRp) (wIntS.mono sX1 rp0) gx11 (by decide) (dfInt k4)
    refine And.intro (fun q => (ex11 q).1) ?_
    obtain ⟨rfl, ix11⟩ := rx11
    refine Exists.intro _ (And.intro (fun q => (ex11 q).2) ?_)
    obtain ⟨x12, gx12, hM1⟩ := bsome hM1
    obtain ⟨csx12, ex12, rx12⟩ := oel_getG fu3 gx12 (dfInt k4)
    refine And.intro (fun q => (ex12 q).1) ?_
    obtain ⟨rfl, ix12⟩ := rx12
    refine Exists.intro _ (And.intro (fun q => (ex12 q).2) ?_)
    obtain ⟨x13, gx13, hM1⟩ := bsome hM1
    obtain ⟨csx13, ex13, rx13⟩ := Sl.getG (r := Wp.int.toRp) (wIntS.mono sX1 rp0) gx13 (by decide) (dfInt k4)
    refine And.intro (fun q => (ex13 q).1) ?_
    obtain ⟨rfl, ix13⟩ := rx13
    refine Exists.intro _ (And.intro (fun q => (ex13 q).2) ?_)
    refine And.intro (fun hc14 => ?_) (fun hc14 => ?_)
    · have hc14 : ((bif (bif (bif (decide (((wu3.length : Nat) : Int) > 0)) then (!decide (x9 = 0)) else false) then (decide (x10 = (IntKind.i64.wrap (0 - x11)))) else false) then (!decide (x12 = x13)) else false)) = true := hc14
      rw [if_pos hc14] at hM1
      obtain ⟨q15, gq15, hM1⟩ := bsome hM1
      refine And.intro (by have := grd_some gq15; have := F2.length fu3; omega) ?_
      refine And.intro rfl (And.intro (by first | exact trivial | exact And.intro rfl trivial | exact And.intro rfl (And.intro rfl trivial) | exact And.intro rfl (And.intro rfl (And.intro rfl trivial)) | exact And.intro rfl (And.intro rfl (And.intro rfl (And.intro rfl trivial)))) (And.intro (by first | exact trivial | exact And.intro rfl trivial | exact And.intro rfl (And.intro rfl trivial) | exact And.intro rfl (And.intro rfl (And.intro rfl trivial)) | exact And.intro rfl (And.intro rfl (And.intro rfl (And.intro rfl trivial)))) (Exists.intro m5 (And.intro ⟨(IntKind.i64.wrap (u2 + 1)), (wu3.take (IntKind.i64.wrap (((wu3.length : Nat) : Int) - 1)).toNat), (u3.take (IntKind.i64.wrap (((wu3.length : Nat) : Int) - 1)).toNat), rfl, rfl, sX1, (wrap64 _), (F2.take (IntKind.i64.wrap (((wu3.length : Nat) : Int) - 1)).toNat fu3), hM1⟩ (Nat.lt_succ_self _)))))
    · have hc14 : ((bif (bif (bif (decide (((wu3.length : Nat) : Int) > 0)) then (!decide (x9 = 0)) else false) then (decide (x10 = (IntKind.i64.wrap (0 - x11)))) else false) then (!decide (x12 = x13)) else false)) = false := hc14
      rw [if_neg (bneT hc14)] at hM1
      obtain ⟨x16, gx16, hM1⟩ := bsome hM1
      obtain ⟨bx16, csx16, ex16, rx16⟩ := Sl.getI (r := Wp.int.toRp) (wIntS.mono sX1 rp0) gx16 (by decide)
      refine And.intro bx16 ?_
      obtain ⟨rfl, ix16⟩ := rx16
      refine Exists.intro _ (And.intro ex16 ?_)
      obtain ⟨q17, gq17, hM1⟩ := bsome hM1
      refine And.intro (room_of gq17 (by first | rw [F2.length fu3, F2.length (show F2 (Wp.int.R k4) ([[.int .i64 x16]] : List (List Value)) [x16] from ⟨⟨rfl, ix16⟩, trivial⟩)] | exact congrArg (· + 1) (F2.length fu3))) ?_
      refine And.intro rfl (And.intro (by first | exact trivial | exact And.intro rfl trivial | exact And.intro rfl (And.intro rfl trivial) | exact And.intro rfl (And.intro rfl (And.intro rfl trivial)) | exact And.intro rfl (And.intro rfl (And.intro rfl (And.intro rfl trivial)))) (And.intro (by first | exact trivial | exact And.intro rfl trivial | exact And.intro rfl (And.intro rfl trivial) | exact And.intro rfl (And.intro rfl (And.intro rfl trivial)) | exact And.intro rfl (And.intro rfl (And.intro rfl (And.intro rfl trivial)))) (Exists.intro m5 (And.intro ⟨(IntKind.i64.wrap (u2 + 1)), (wu3 ++ ([[.int .i64 x16]] : List (List Value))), (u3 ++ [x16]), rfl, rfl, sX1, (wrap64 _), (F2.append fu3 (show F2 (Wp.int.R k4) ([[.int .i64 x16]] : List (List Value)) [x16] from ⟨⟨rfl, ix16⟩, trivial⟩)), hM1⟩ (Nat.lt_succ_self _)))))
  · have hc6 : ((decide (u2 < ((p0.length : Nat) : Int)))) = false := hc6
    rw [if_neg (bneT hc6)] at hM1
    have hE := Option.some.inj hM1; subst hE
    try dsimp only [outK_inr, outL_inr] at hM0
    obtain ⟨q18, gq18, hM0⟩ := bsome hM0
    refine And.intro (room_of gq18 (by first | rw [F2.length (show F2 (Wp.int.R k4) ([] : List (List Value)) ([] : LIntS) from trivial), F2.length fu3] | exact congrArg (· + 0) (F2.length (show F2 (Wp.int.R k4) ([] : List (List Value)) ([] : LIntS) from trivial)))) ?_
    intro v19 k20 f21
    obtain ⟨az22, cz22, rfl, rz22, sz22, lz22⟩ := Froze.out (r := Wp.int.toRp) f21 (F2.append (show F2 (Wp.int.R k4) ([] : List (List Value)) ([] : LIntS) from trivial) fu3)
    have hE := Option.some.inj hM0; subst hE
    exact ⟨az22, ((([] : LIntS) ++ u3)).length, cz22, rfl, rz22, (sX1.trans sz22)⟩

theorem t_spec_MultiplyWords (h : Hp) (ap0 : Option Addr) (np0 cp0 : Nat) (p0 : LIntS) (rp0 : wIntS.R h [.slice ap0 np0 cp0] p0) (ap1 : Option Addr) (np1 cp1 : Nat) (p1 : LIntS) (rp1 : wIntS.R h [.slice ap1 np1 cp1] p1) (r : LIntS) (hM0 : M_spec_MultiplyWords p0 p1 = some r) :
    Tr Try.prog 72 #[.slice ap0 np0 cp0, .slice ap1 np1 cp1] h fun v h' => ∃ (a0 : Option Addr) (n0 c0 : Nat), v = .slice a0 n0 c0 ∧ wIntS.R h' [.slice a0 n0 c0] r ∧ Sub h h' := by
  obtain ⟨rfl, lp0⟩ := Sl.len rp0
  obtain ⟨rfl, lp1⟩ := Sl.len rp1
  unfold M_spec_MultiplyWords at hM0
  refine walk (args := [.slice ap0 p0.length cp0, .slice ap1 p1.length cp1]) (fn := Try.f72) rfl ?_
  obtain ⟨vsy1, ey1, fy1⟩ := Sl.rows (r := Wp.int.toRp) rp0
  refine Exists.intro vsy1 (And.intro ey1 ?_)
  obtain ⟨q2, gq2, hM0⟩ := bsome hM0
  refine And.intro (room_of gq2 (by first | rw [F2.length (show F2 (Wp.int.R h) ([] : List (List Value)) ([] : LIntS) from trivial), F2.length fy1] | exact congrArg (· + 1) (F2.length (show F2 (Wp.int.R h) ([] : List (List Value)) ([] : LIntS) from trivial)))) ?_
  obtain ⟨vsy3, ey3, fy3⟩ := Sl.rows (r := Wp.int.toRp) rp1
  refine Exists.intro vsy3 (And.intro ey3 ?_)
  obtain ⟨q4, gq4, hM0⟩ := bsome hM0
  refine And.intro (room_of gq4 (by first | rw [F2.length (F2.append (show F2 (Wp.int.R h) ([] : List (List Value)) ([] : LIntS) from trivial) fy1), F2.length fy3] | exact congrArg (· + 1) (F2.length (F2.append (show F2 (Wp.int.R h) ([] : List (List Value)) ([] : LIntS) from trivial) fy1)))) ?_
  refine Or.inl ?_
  intro v5 k6 f7
  obtain ⟨az8, cz8, rfl, rz8, sz8, lz8⟩ := Froze.out (r := Wp.int.toRp) f7 (F2.append (F2.append (show F2 (Wp.int.R h) ([] : List (List Value)) ([] : LIntS) from trivial) fy1) fy3)
  obtain ⟨x9, gx9, hM0⟩ := bsome hM0
  refine Tr.mono (t_spec_ReduceLetters _ az8 (((([] : LIntS) ++ p0) ++ p1)).length cz8 ((([] : LIntS) ++ p0) ++ p1) rz8 _  gx9) ?_
  rintro v11 k10 ⟨ax9, nx9, cx9, rfl, rx9, sx9⟩
  obtain ⟨rfl, lx9⟩ := Sl.len rx9
  have hE := Option.some.inj hM0; subst hE
  exact ⟨ax9, x9.length, cx9, rfl, rx9, (sz8.trans sx9)⟩

theorem t_impl_InvertWord (h : Hp) (ap0 : Option Addr) (np0 cp0 : Nat) (p0 : LIntS) (rp0 : wIntS.R h [.slice ap0 np0 cp0] p0) (r : LIntS) (hM0 : M_impl_InvertWord p0 = some r) :
    Tr Try.prog 47 #[.slice ap0 np0 cp0] h fun v h' => ∃ (a0 : Option Addr) (n0 c0 : Nat), v = .slice a0 n0 c0 ∧ New wIntS h h' [.slice a0 n0 c0] r := by
  obtain ⟨rfl, lp0⟩ := Sl.len rp0
  unfold M_impl_InvertWord at hM0
  refine walk (args := [.slice ap0 p0.length cp0]) (fn := Try.f47) rfl ?_
  obtain ⟨q1, gq1, hM0⟩ := bsome hM0
  refine And.intro (grd_some gq1) ?_
  obtain ⟨X2, hLX2, hM0⟩ := bsome hM0
  refine Exists.intro { vars := [4], boxes := [], owns := [0], fuel := true } (Exists.intro (fun vs os h' => ∃ (u3 : Int) (wu4 : List (List Value)) (u4 : List Int), vs.tail = [.int .i64 u3] ∧ os = [wu4] ∧ Sub h h' ∧ In64 u3 ∧ F2 (Wp.int.R h') wu4 u4 ∧ L_impl_InvertWord_0 p0 (fuelOf vs) u3 u4 = some X2) (Exists.intro (fun _ _ => 0) ?_))
  refine And.intro (Exists.intro FUEL ⟨(IntKind.i64.wrap (((p0.length : Nat) : Int) - 1)), (List.replicate (0 : Int).toNat [.int .i64 0]), (List.replicate (0 : Int).toNat (0 : Int)), rfl, rfl, (Sub.refl _), (wrap64 _), (F2.rep (p := Wp.int.R h) (a := [.int .i64 0]) (b := 0) ⟨rfl, (c64 (by decide) (by decide))⟩ ((0 : Int).toNat)), hLX2⟩) ?_
  rintro v_0 wu4 m6 k5 ⟨u3, zzu4, u4, evX2, eoX2, sX2, iu3, fu4, hM1⟩
  cases evX2
  cases eoX2
  replace hM1 : L_impl_InvertWord_0 p0 m6 u3 u4 = some X2 := hM1
  obtain _ | m6 := m6
  · cases (show (none : Option _) = some X2 from hM1)
  rw [L_impl_InvertWord_0_succ] at hM1
  refine And.intro (fun hc7 => ?_) (fun hc7 => ?_)
  · have hc7 : ((decide (u3 ≥ 0))) = true := hc7
    rw [if_pos hc7] at hM1
    obtain ⟨x8, gx8, hM1⟩ := bsome hM1
    obtain ⟨bx8, csx8, ex8, rx8⟩ := Sl.getI (r := Wp.int.toRp) (wIntS.mono sX2 rp0) gx8 (by decide)
    refine And.intro bx8 ?_
    obtain ⟨rfl, ix8⟩ := rx8
    refine Exists.intro _ (And.intro ex8 ?_)
    obtain ⟨q9, gq9, hM1⟩ := bsome hM1
    refine And.intro (room_of gq9 (by first | rw [F2.length fu4, F2.length (show F2 (Wp.int.R k5) ([[.int .i64 (IntKind.i64.wrap (0 - x8))]] : List (List Value)) [(IntKind.i64.wrap (0 - x8))] from ⟨⟨rfl, (wrap64 _)⟩, trivial⟩)] | exact congrArg (· + 1) (F2.length fu4))) ?_
    refine And.intro rfl (And.intro (by first | exact trivial | exact And.intro rfl trivial | exact And.intro rfl (And.intro rfl trivial) | exact And.intro rfl (And.intro rfl (And.intro rfl trivial)) | exact And.intro rfl (And.intro rfl (And.intro rfl (And.intro rfl trivial)))) (And.intro (by first | exact trivial | exact And.intro rfl trivial | exact And.intro rfl (And.intro rfl trivial) | exact And.intro rfl (And.intro rfl (And.intro rfl trivial)) | exact And.intro rfl (And.intro rfl (And.intro rfl (And.intro rfl trivial)))) (Exists.intro m6 (And.intro ⟨(IntKind.i64.wrap (u3 - 1)), (wu4 ++ ([[.int .i64 (IntKind.i64.wrap (0 - x8))]] : List (List Value))), (u4 ++ [(IntKind.i64.wrap (0 - x8))]), rfl, rfl, sX2, (wrap64 _), (F2.append fu4 (show F2 (Wp.int.R k5) ([[.int .i64 (IntKind.i64.wrap (0 - x8))]] : List (List Value)) [(IntKind.i64.wrap (0 - x8))] from ⟨⟨rfl, (wrap64 _)⟩, trivial⟩)), hM1⟩ (Nat.lt_succ_self _)))))
  · have hc7 : ((decide (u3 ≥ 0))) = false := hc7
    rw [if_neg (bneT hc7)] at hM1
    have hE := Option.some.inj hM1; subst hE
    try dsimp only [outK_inr, outL_inr] at hM0
    intro v10 k11 f12
    obtain ⟨az13, cz13, rfl, rz13, sz13, lz13⟩ := Froze.out (r := Wp.int.toRp) f12 fu4
    have hE := Option.some.inj hM0; subst hE
    exact ⟨az13, u4.length, cz13, rfl, (New.from (Froze.newPlain (r := Wp.int) f12 fu4 (plInt _)) sX2)⟩

theorem t_impl_product (h : Hp) (ap0 : Option Addr) (np0 cp0 : Nat) (p0 : LIntSS) (rp0 : wIntSS.R h [.slice ap0 np0 cp0] p0) (r : LIntS) (hM0 : M_impl_product p0 = some r) :
    Tr Try.prog 101 #[.slice ap0 np0 cp0] h fun v h' => ∃ (a0 : Option Addr) (n0 c0 : Nat), v = .slice a0 n0 c0 ∧ New wIntS h h' [.slice a0 n0 c0] r := by
  obtain ⟨rfl, lp0⟩ := Sl.len rp0
  unfold M_impl_product at hM0
  refine walk (args := [.slice ap0 p0.length cp0]) (fn := Try.f101) rfl ?_
  obtain ⟨X1, hLX1, hM0⟩ := bsome hM0
  refine Exists.intro { vars := [11], boxes := [], owns := [0], fuel := true } (Exists.intro (fun vs os h' => ∃ (u2 : Int) (wu3 : List (List Value)) (u3 : List Int), vs.tail = [.int .i64 u2] ∧ os = [wu3] ∧ Sub h h' ∧ In64 u2 ∧ F2 (Wp.int.R h') wu3 u3 ∧ L_impl_product_1 p0 (fuelOf vs) u2 u3 = some X1) (Exists.intro (fun _ _ => 0) ?_))
  refine And.intro (Exists.intro FUEL ⟨0, [], ([] : LIntS), rfl, rfl, (Sub.refl _), (c64 (by decide) (by decide)), (show F2 (Wp.int.R h) ([] : List (List Value)) ([] : LIntS) from trivial), hLX1⟩) ?_
  rintro v_0 wu3 m5 k4 ⟨u2, zzu3, u3, evX1, eoX1, sX1, iu2, fu3, hM1⟩
  cases evX1
  cases eoX1
  replace hM1 : L_impl_product_1 p0 m5 u2 u3 = some X1 := hM1
  obtain _ | m5 := m5
  · cases (show (none : Option _) = some X1 from hM1)
  rw [L_impl_product_1_succ] at hM1
  refine And.intro (fun hc6 => ?_) (fun hc6 => ?_)
  · have hc6 : ((decide (u2 < ((p0.length : Nat) : Int)))) = true := hc6
    rw [if_pos hc6] at hM1
    obtain ⟨x7, gx7, hM1⟩ := bsome hM1
    obtain ⟨bx7, csx7, ex7, rx7⟩ := Sl.getI (r := wIntS.toRp) (wIntSS.mono sX1 rp0) gx7 (by decide)
    refine And.intro bx7 ?_
    obtain ⟨ax7, nx7, cx7, rfl⟩ := Wp.slice_cell rx7
    obtain ⟨rfl, lx7⟩ := Sl.len rx7
    refine Exists.intro _ (And.intro ex7 ?_)
    obtain ⟨X8, hLX8, hM1⟩ := bsome hM1
    refine Exists.intro { vars := [17], boxes := [], owns := [0], fuel := true } (Exists.intro (fun vs os h' => ∃ (u9 : Int) (wu10 : List (List Value)) (u10 : List Int), vs.tail = [.int .i64 u9] ∧ os = [wu10] ∧ Sub k4 h' ∧ In64 u9 ∧ F2 (Wp.int.R h') wu10 u10 ∧ L_impl_product_0 x7 (fuelOf vs) u9 u10 = some X8) (Exists.intro (fun _ _ => 0) ?_))
    refine And.intro (Exists.intro FUEL ⟨0, wu3, u3, rfl, rfl, (Sub.refl _), (c64 (by decide) (by decide)), fu3, hLX8⟩) ?_
    rintro v_0 wu10 m12 k11 ⟨u9, zzu10, u10, evX8, eoX8, sX8, iu9, fu10, hM2⟩
    cases evX8
    cases eoX8
    replace hM2 : L_impl_product_0 x7 m12 u9 u10 = some X8 := hM2
    obtain _ | m12 := m12
    · cases (show (none : Option _) = some X8 from hM2)
    rw [L_impl_product_0_succ] at hM2
    refine And.intro (fun hc13 => ?_) (fun hc13 => ?_)
    · have hc13 : ((decide (u9 < ((x7.length : Nat) : Int)))) = true := hc13
      rw [if_pos hc13] at hM2
      obtain ⟨x14, gx14, hM2⟩ := bsome hM2
      obtain ⟨bx14, csx14, ex14, rx14⟩ := Sl.getI (r := Wp.int.toRp) (wIntS.mono sX8 rx7) gx14 (by decide)
      refine And.intro bx14 ?_
      obtain ⟨rfl, ix14⟩ := rx14
      refine Exists.intro _ (And.intro ex14 ?_)
      obtain ⟨m15, gm15, hM2⟩ := bsome hM2
      obtain rfl : wu10.length = m15 := (F2.length fu10).trans (Option.some.inj gm15)
      obtain ⟨q16, gq16, hM2⟩ := bsome hM2
      obtain ⟨m17, gm17, hM2⟩ := bsome hM2
      obtain rfl : wu10.length = m17 := (F2.length fu10).trans (Option.some.inj gm17)
      obtain ⟨q18, gq18, hM2⟩ := bsome hM2
      obtain ⟨x19, gx19, hM2⟩ := bsome hM2
      obtain ⟨csx19, ex19, rx19⟩ := oel_getG fu10 gx19 (dfInt k11)
      refine And.intro (fun q => (ex19 q).1) ?_
      obtain ⟨rfl, ix19⟩ := rx19
      refine Exists.intro _ (And.intro (fun q => (ex19 q).2) ?_)
      obtain ⟨x20, gx20, hM2⟩ := bsome hM2
      refine Exists.intro (.bool x20) (And.intro (fun q => t_impl_areInverse _ x19 ix19 x14 ix14 _  (chk_some gx20 q)) ?_)
      refine And.intro (fun hc21 => ?_) (fun hc21 => ?_)
      · have hc21 : ((bif (decide (((wu10.length : Nat) : Int) > 0)) then x20 else false)) = true := hc21
        rw [if_pos hc21] at hM2
        obtain ⟨m22, gm22, hM2⟩ := bsome hM2
        obtain rfl : wu10.length = m22 := (F2.length fu10).trans (Option.some.inj gm22)
        obtain ⟨q23, gq23, hM2⟩ := bsome hM2
        obtain ⟨q24, gq24, hM2⟩ := bsome hM2
        refine And.intro (by have := grd_some gq24; have := F2.length fu10; omega) ?_
        refine And.intro rfl (And.intro (by first | exact trivial | exact And.intro rfl trivial | exact And.intro rfl (And.intro rfl trivial) | exact And.intro rfl (And.intro rfl (And.intro rfl trivial)) | exact And.intro rfl (And.intro rfl (And.intro rfl (And.intro rfl trivial)))) (And.intro (by first | exact trivial | exact And.intro rfl trivial | exact And.intro rfl (And.intro rfl trivial) | exact And.intro rfl (And.intro rfl (And.intro rfl trivial)) | exact And.intro rfl (And.intro rfl (And.intro rfl (And.intro rfl trivial)))) (Exists.intro m12 (And.intro ⟨(IntKind.i64.wrap (u9 + 1)), (wu10.take (IntKind.i64.wrap (((wu10.length : Nat) : Int) - 1)).toNat), (u10.take (IntKind.i64.wrap (((wu10.length : Nat) : Int) - 1)).toNat), rfl, rfl, sX8, (wrap64 _), (F2.take (IntKind.i64.wrap (((wu10.length : Nat) : Int) - 1)).toNat fu10), hM2⟩ (Nat.lt_succ_self _)))))
      · have hc21 : ((bif (decide (((wu10.length : Nat) : Int) > 0)) then x20 else false)) = false := hc21
        rw [if_neg (bneT hc21)] at hM2
        obtain ⟨q25, gq25, hM2⟩ := bsome hM2
        refine And.intro (room_of gq25 (by first | rw [F2.length fu10, F2.length (show F2 (Wp.int.R k11) ([[.int .i64 x14]] : List (List Value)) [x14] from ⟨⟨rfl, ix14⟩, trivial⟩)] | exact congrArg (· + 1) (F2.length fu10))) ?_
        refine And.intro rfl (And.intro (by first | exact trivial | exact And.intro rfl trivial | exact And.intro rfl (And.intro rfl trivial) | exact And.intro rfl (And.intro rfl (And.intro rfl trivial)) | exact And.intro rfl (And.intro rfl (And.intro rfl (And.intro rfl trivial)))) (And.intro (by first | exact trivial | exact And.intro rfl trivial | exact And.intro rfl (And.intro rfl trivial) | exact And.intro rfl (And.intro rfl (And.intro rfl trivial)) | exact And.intro rfl (And.intro rfl (And.intro rfl (And.intro rfl trivial)))) (Exists.intro m12 (And.intro ⟨(IntKind.i64.wrap (u9 + 1)), (wu10 ++ ([[.int .i64 x14]] : List (List Value))), (u10 ++ [x14]), rfl, rfl, sX8, (wrap64 _), (F2.append fu10 (show F2 (Wp.int.R k11) ([[.int .i64 x14]] : List (List Value)) [x14] from ⟨⟨rfl, ix14⟩, trivial⟩)), hM2⟩ (Nat.lt_succ_self _)))))
    · have hc13 : ((decide (u9 < ((x7.length : Nat) : Int)))) = false := hc13
      rw [if_neg (bneT hc13)] at hM2
      have hE := Option.some.inj hM2; subst hE
      try dsimp only [outK_inr, outL_inr] at hM1
      refine And.intro rfl (And.intro (by first | exact trivial | exact And.intro rfl trivial | exact And.intro rfl (And.intro rfl trivial) | exact And.intro rfl (And.intro rfl (And.intro rfl trivial)) | exact And.intro rfl (And.intro rfl (And.intro rfl (And.intro rfl trivial)))) (And.intro (by first | exact trivial | exact And.intro rfl trivial | exact And.intro rfl (And.intro rfl trivial) | exact And.intro rfl (And.intro rfl (And.intro rfl trivial)) | exact And.intro rfl (And.intro rfl (And.intro rfl (And.intro rfl trivial)))) (Exists.intro m5 (And.intro ⟨(IntKind.i64.wrap (u2 + 1)), wu10, u10, rfl, rfl, (sX1.trans sX8), (wrap64 _), fu10, hM1⟩ (Nat.lt_succ_self _)))))
  · have hc6 : ((decide (u2 < ((p0.length : Nat) : Int)))) = false := hc6
    rw [if_neg (bneT hc6)] at hM1
    have hE := Option.some.inj hM1; subst hE
    try dsimp only [outK_inr, outL_inr] at hM0
    intro v30 k31 f32
    obtain ⟨az33, cz33, rfl, rz33, sz33, lz33⟩ := Froze.out (r := Wp.int.toRp) f32 fu3
    have hE := Option.some.inj hM0; subst hE
    exact ⟨az33, u3.length, cz33, rfl, (New.from (Froze.newPlain (r := Wp.int) f32 fu3 (plInt _)) sX1)⟩

end Go.Proofs.Ythccjgkmmclplaa
