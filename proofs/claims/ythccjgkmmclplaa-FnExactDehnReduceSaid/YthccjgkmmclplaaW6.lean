/- The walks of batch 6. -/
import Derived.Test.YthccjgkmmclplaaA6
import Derived.Test.YthccjgkmmclplaaChecked
import Derived.Test.YthccjgkmmclplaaH35
import Derived.Test.YthccjgkmmclplaaW1
import Derived.Test.YthccjgkmmclplaaW3
import Derived.Test.YthccjgkmmclplaaW5
namespace Go.Proofs.Ythccjgkmmclplaa
open Go.H
set_option linter.unusedVariables false
set_option linter.unusedSimpArgs false
set_option maxRecDepth 10000
theorem t_spec_RotateWord (h : Hp) (ap0 : Option Addr) (np0 cp0 : Nat) (p0 : LIntS) (rp0 : wIntS.R h [.slice ap0 np0 cp0] p0) (p1 : Int) (ip1 : In64 p1) (r : LIntS) (hM0 : M_spec_RotateWord p0 p1 = some r) :
    Tr Try.prog 44 #[.slice ap0 np0 cp0, .int .i64 p1] h fun v h' => ∃ (a0 : Option Addr) (n0 c0 : Nat), v = .slice a0 n0 c0 ∧ wIntS.R h' [.slice a0 n0 c0] r ∧ Sub h h' := by
  obtain ⟨rfl, lp0⟩ := Sl.len rp0
  unfold M_spec_RotateWord at hM0
  refine walk (args := [.slice ap0 p0.length cp0, .int .i64 p1]) (fn := Try.f44) rfl ?_
  obtain ⟨X1, hLX1, hM0⟩ := bsome hM0
  refine Exists.intro { vars := [6], boxes := [], owns := [0], fuel := true } (Exists.intro (fun vs os h' => ∃ (u2 : Int) (wu3 : List (List Value)) (u3 : List Int), vs.tail = [.int .i64 u2] ∧ os = [wu3] ∧ Sub h h' ∧ In64 u2 ∧ F2 (Wp.int.R h') wu3 u3 ∧ L_spec_RotateWord_0 p0 p1 (fuelOf vs) u2 u3 = some X1) (Exists.intro (fun _ _ => 0) ?_))
  refine And.intro (Exists.intro FUEL ⟨0, [], ([] : LIntS), rfl, rfl, (Sub.refl _), (c64 (by decide) (by decide)), (show F2 (Wp.int.R h) ([] : List (List Value)) ([] : LIntS) from trivial), hLX1⟩) ?_
  rintro v_0 wu3 m5 k4 ⟨u2, zzu3, u3, evX1, eoX1, sX1, iu2, fu3, hM1⟩
  cases evX1
  cases eoX1
  replace hM1 : L_spec_RotateWord_0 p0 p1 m5 u2 u3 = some X1 := hM1
  obtain _ | m5 := m5
  · cases (show (none : Option _) = some X1 from hM1)
  rw [L_spec_RotateWord_0_succ] at hM1
  refine And.intro (fun hc6 => ?_) (fun hc6 => ?_)
  · have hc6 : ((decide (u2 < ((p0.length : Nat) : Int)))) = true := hc6
    rw [if_pos hc6] at hM1
    obtain ⟨q7, gq7, hM1⟩ := bsome hM1
    refine And.intro (grd_some gq7) ?_
    obtain ⟨q8, gq8, hM1⟩ := bsome hM1
    refine And.intro (grd_some gq8) ?_
    obtain ⟨q9, gq9, hM1⟩ := bsome hM1
    refine And.intro (grd_some gq9) ?_
    obtain ⟨x10, gx10, hM1⟩ := bsome hM1
    obtain ⟨bx10, csx10, ex10, rx10⟩ := Sl.getI (r := Wp.int.toRp) (wIntS.mono sX1 rp0) gx10 (by decide)
    refine And.intro bx10 ?_
    obtain ⟨rfl, ix10⟩ := rx10
    refine Exists.intro _ (And.intro ex10 ?_)
    obtain ⟨q11, gq11, hM1⟩ := bsome hM1
    refine And.intro (room_of gq11 (by first | rw [F2.length fu3, F2.length (show F2 (Wp.int.R k4) ([[.int .i64 x10]] : List (List Value)) [x10] from ⟨⟨rfl, ix10⟩, trivial⟩)] | exact congrArg (· + 1) (F2.length fu3))) ?_
    refine And.intro rfl (And.intro (by first | exact trivial | exact And.intro rfl trivial | exact And.intro rfl (And.intro rfl trivial) | exact And.intro rfl (And.intro rfl (And.intro rfl trivial)) | exact And.intro rfl (And.intro rfl (And.intro rfl (And.intro rfl trivial)))) (And.intro (by first | exact trivial | exact And.intro rfl trivial | exact And.intro rfl (And.intro rfl trivial) | exact And.intro rfl (And.intro rfl (And.intro rfl trivial)) | exact And.intro rfl (And.intro rfl (And.intro rfl (And.intro rfl trivial)))) (Exists.intro m5 (And.intro ⟨(IntKind.i64.wrap (u2 + 1)), (wu3 ++ ([[.int .i64 x10]] : List (List Value))), (u3 ++ [x10]), rfl, rfl, sX1, (wrap64 _), (F2.append fu3 (show F2 (Wp.int.R k4) ([[.int .i64 x10]] : List (List Value)) [x10] from ⟨⟨rfl, ix10⟩, trivial⟩)), hM1⟩ (Nat.lt_succ_self _)))))
  · have hc6 : ((decide (u2 < ((p0.length : Nat) : Int)))) = false := hc6
    rw [if_neg (bneT hc6)] at hM1
    have hE := Option.some.inj hM1; subst hE
    try dsimp only [outK_inr, outL_inr] at hM0
    intro v12 k13 f14
    obtain ⟨az15, cz15, rfl, rz15, sz15, lz15⟩ := Froze.out (r := Wp.int.toRp) f14 fu3
    have hE := Option.some.inj hM0; subst hE
    exact ⟨az15, u3.length, cz15, rfl, rz15, (sX1.trans sz15)⟩

theorem t_spec_l22Put (h : Hp) (ap0 : Option Addr) (np0 cp0 : Nat) (p0 : LIntSS) (rp0 : wIntSS.R h [.slice ap0 np0 cp0] p0) (ap1 : Option Addr) (np1 cp1 : Nat) (p1 : LIntS) (rp1 : wIntS.R h [.slice ap1 np1 cp1] p1) (r : LIntSS) (hM0 : M_spec_l22Put p0 p1 = some r) :
    Tr Try.prog 43 #[.slice ap0 np0 cp0, .slice ap1 np1 cp1] h fun v h' => ∃ (a0 : Option Addr) (n0 c0 : Nat), v = .slice a0 n0 c0 ∧ wIntSS.R h' [.slice a0 n0 c0] r ∧ Sub h h' := by
  obtain ⟨rfl, lp0⟩ := Sl.len rp0
  obtain ⟨rfl, lp1⟩ := Sl.len rp1
  unfold M_spec_l22Put at hM0
  refine walk (args := [.slice ap0 p0.length cp0, .slice ap1 p1.length cp1]) (fn := Try.f43) rfl ?_
  obtain ⟨X1, hLX1, hM0⟩ := bsome hM0
  refine Exists.intro { vars := [6, 7], boxes := [], owns := [0], fuel := true } (Exists.intro (fun vs os h' => ∃ (u2 : Bool) (u3 : Int) (wu4 : List (List Value)) (u4 : List LIntS), vs.tail = [.bool u2, .int .i64 u3] ∧ os = [wu4] ∧ Sub h h' ∧ In64 u3 ∧ F2 (wIntS.R h') wu4 u4 ∧ L_spec_l22Put_0 p0 p1 (fuelOf vs) u2 u3 u4 = some X1) (Exists.intro (fun _ _ => 0) ?_))
  refine And.intro (Exists.intro FUEL ⟨false, 0, [], ([] : LIntSS), rfl, rfl, (Sub.refl _), (c64 (by decide) (by decide)), (show F2 (wIntS.R h) ([] : List (List Value)) ([] : LIntSS) from trivial), hLX1⟩) ?_
  rintro v_0 v_1 wu4 m6 k5 ⟨u2, u3, zzu4, u4, evX1, eoX1, sX1, iu3, fu4, hM1⟩
  cases evX1
  cases eoX1
  replace hM1 : L_spec_l22Put_0 p0 p1 m6 u2 u3 u4 = some X1 := hM1
  obtain _ | m6 := m6
  · cases (show (none : Option _) = some X1 from hM1)
  rw [L_spec_l22Put_0_succ] at hM1
  refine And.intro (fun hc7 => ?_) (fun hc7 => ?_)
  · have hc7 : ((decide (u3 < ((p0.length : Nat) : Int)))) = true := hc7
    rw [if_pos hc7] at hM1
    obtain ⟨x8, gx8, hM1⟩ := bsome hM1
    obtain ⟨bx8, csx8, ex8, rx8⟩ := Sl.getI (r := wIntS.toRp) (wIntSS.mono sX1 rp0) gx8 (by decide)
    refine And.intro bx8 ?_
    obtain ⟨ax8, nx8, cx8, rfl⟩ := Wp.slice_cell rx8
    obtain ⟨rfl, lx8⟩ := Sl.len rx8
    refine Exists.intro _ (And.intro ex8 ?_)
    obtain ⟨x9, gx9, hM1⟩ := bsome hM1
    refine Tr.val (t_spec_CompareWords _ ap1 p1.length cp1 p1 (wIntS.mono sX1 rp1) ax8 x8.length cx8 x8 rx8 _  gx9) ?_
    obtain ⟨q10, gq10, hM1⟩ := bsome hM1
    have ix9 : In64 x9 := grd_some gq10
    refine And.intro (fun hc11 => ?_) (fun hc11 => ?_)
    · have hc11 : ((decide (x9 = 0))) = true := hc11
      rw [if_pos hc11] at hM1
      refine And.intro (fun hc12 => ?_) (fun hc12 => ?_)
      · have hc12 : ((bif (decide (x9 < 0)) then (!true) else false)) = true := hc12
        rw [if_pos hc12] at hM1
        obtain ⟨vsy13, ey13, fy13⟩ := Sl.rows (r := Wp.int.toRp) (wIntS.mono sX1 rp1)
        refine Exists.intro vsy13 (And.intro ey13 ?_)
        obtain ⟨q14, gq14, hM1⟩ := bsome hM1
        refine And.intro (room_of gq14 (by first | rw [F2.length (show F2 (Wp.int.R k5) ([] : List (List Value)) ([] : LIntS) from trivial), F2.length fy13] | exact congrArg (· + 1) (F2.length (show F2 (Wp.int.R k5) ([] : List (List Value)) ([] : LIntS) from trivial)))) ?_
        intro v15 k16 f17
        obtain ⟨az18, cz18, rfl, rz18, sz18, lz18⟩ := Froze.out (r := Wp.int.toRp) f17 (F2.append (show F2 (Wp.int.R k5) ([] : List (List Value)) ([] : LIntS) from trivial) fy13)
        obtain ⟨q19, gq19, hM1⟩ := bsome hM1
        refine And.intro (room_of gq19 (by first | rw [F2.length (F2.up (r := wIntS.toRp) sz18 fu4), F2.length (show F2 (wIntS.R k16) ([[.slice az18 ((([] : LIntS) ++ p1)).length cz18]] : List (List Value)) [(([] : LIntS) ++ p1)] from ⟨rz18, trivial⟩)] | exact congrArg (· + 1) (F2.length (F2.up (r := wIntS.toRp) sz18 fu4)))) ?_
        obtain ⟨x20, gx20, hM1⟩ := bsome hM1
        obtain ⟨bx20, csx20, ex20, rx20⟩ := Sl.getI (r := wIntS.toRp) (wIntSS.mono (sX1.trans sz18) rp0) gx20 (by decide)
        refine And.intro bx20 ?_
        obtain ⟨ax20, nx20, cx20, rfl⟩ := Wp.slice_cell rx20
        obtain ⟨rfl, lx20⟩ := Sl.len rx20
        refine Exists.intro _ (And.intro ex20 ?_)
        obtain ⟨q21, gq21, hM1⟩ := bsome hM1
        refine And.intro (room_of gq21 (by first | rw [F2.length (F2.append (F2.up (r := wIntS.toRp) sz18 fu4) (show F2 (wIntS.R k16) ([[.slice az18 ((([] : LIntS) ++ p1)).length cz18]] : List (List Value)) [(([] : LIntS) ++ p1)] from ⟨rz18, trivial⟩)), F2.length (show F2 (wIntS.R k16) ([[.slice ax20 x20.length cx20]] : List (List Value)) [x20] from ⟨rx20, trivial⟩)] | exact congrArg (· + 1) (F2.length (F2.append (F2.up (r := wIntS.toRp) sz18 fu4) (show F2 (wIntS.R k16) ([[.slice az18 ((([] : LIntS) ++ p1)).length cz18]] : List (List Value)) [(([] : LIntS) ++ p1)] from ⟨rz18, trivial⟩))))) ?_
        refine And.intro rfl (And.intro (by first | exact trivial | exact And.intro rfl trivial | exact And.intro rfl (And.intro rfl trivial) | exact And.intro rfl (And.intro rfl (And.intro rfl trivial)) | exact And.intro rfl (And.intro rfl (And.intro rfl (And.intro rfl trivial)))) (And.intro (by first | exact trivial | exact And.intro rfl trivial | exact And.intro rfl (And.intro rfl trivial) | exact And.intro rfl (And.intro rfl (And.intro rfl trivial)) | exact And.intro rfl (And.intro rfl (And.intro rfl (And.intro rfl trivial)))) (Exists.intro m6 (And.intro ⟨true, (IntKind.i64.wrap (u3 + 1)), ((wu4 ++ ([[.slice az18 ((([] : LIntS) ++ p1)).length cz18]] : List (List Value))) ++ ([[.slice ax20 x20.length cx20]] : List (List Value))), ((u4 ++ [(([] : LIntS) ++ p1)]) ++ [x20]), rfl, rfl, (sX1.trans sz18), (wrap64 _), (F2.append (F2.append (F2.up (r := wIntS.toRp) sz18 fu4) (show F2 (wIntS.R k16) ([[.slice az18 ((([] : LIntS) ++ p1)).length cz18]] : List (List Value)) [(([] : LIntS) ++ p1)] from ⟨rz18, trivial⟩)) (show F2 (wIntS.R k16) ([[.slice ax20 x20.length cx20]] : List (List Value)) [x20] from ⟨rx20, trivial⟩)), hM1⟩ (Nat.lt_succ_self _)))))
      · have hc12 : ((bif (decide (x9 < 0)) then (!true) else false)) = false := hc12
        rw [if_neg (bneT hc12)] at hM1
        obtain ⟨x22, gx22, hM1⟩ := bsome hM1
        obtain ⟨bx22, csx22, ex22, rx22⟩ := Sl.getI (r := wIntS.toRp) (wIntSS.mono sX1 rp0) gx22 (by decide)
        refine And.intro bx22 ?_
        obtain ⟨ax22, nx22, cx22, rfl⟩ := Wp.slice_cell rx22
        obtain ⟨rfl, lx22⟩ := Sl.len rx22
        refine Exists.intro _ (And.intro ex22 ?_)
        obtain ⟨q23, gq23, hM1⟩ := bsome hM1
        refine And.intro (room_of gq23 (by first | rw [F2.length fu4, F2.length (show F2 (wIntS.R k5) ([[.slice ax22 x22.length cx22]] : List (List Value)) [x22] from ⟨rx22, trivial⟩)] | exact congrArg (· + 1) (F2.length fu4))) ?_
        refine And.intro rfl (And.intro (by first | exact trivial | exact And.intro rfl trivial | exact And.intro rfl (And.intro rfl trivial) | exact And.intro rfl (And.intro rfl (And.intro rfl trivial)) | exact And.intro rfl (And.intro rfl (And.intro rfl (And.intro rfl trivial)))) (And.intro (by first | exact trivial | exact And.intro rfl trivial | exact And.intro rfl (And.intro rfl trivial) | exact And.intro rfl (And.intro rfl (And.intro rfl trivial)) | exact And.intro rfl (And.intro rfl (And.intro rfl (And.intro rfl trivial)))) (Exists.intro m6 (And.intro ⟨true, (IntKind.i64.wrap (u3 + 1)), (wu4 ++ ([[.slice ax22 x22.length cx22]] : List (List Value))), (u4 ++ [x22]), rfl, rfl, sX1, (wrap64 _), (F2.append fu4 (show F2 (wIntS.R k5) ([[.slice ax22 x22.length cx22]] : List (List Value)) [x22] from ⟨rx22, trivial⟩)), hM1⟩ (Nat.lt_succ_self _)))))
    · have hc11 : ((decide (x9 = 0))) = false := hc11
      rw [if_neg (bneT hc11)] at hM1
      refine And.intro (fun hc24 => ?_) (fun hc24 => ?_)
      · have hc24 : ((bif (decide (x9 < 0)) then (!u2) else false)) = true := hc24
        rw [if_pos hc24] at hM1
        obtain ⟨vsy25, ey25, fy25⟩ := Sl.rows (r := Wp.int.toRp) (wIntS.mono sX1 rp1)
        refine Exists.intro vsy25 (And.intro ey25 ?_)
        obtain ⟨q26, gq26, hM1⟩ := bsome hM1
        refine And.intro (room_of gq26 (by first | rw [F2.length (show F2 (Wp.int.R k5) ([] : List (List Value)) ([] : LIntS) from trivial), F2.length fy25] | exact congrArg (· + 1) (F2.length (show F2 (Wp.int.R k5) ([] : List (List Value)) ([] : LIntS) from trivial)))) ?_
        intro v27 k28 f29
        obtain ⟨az30, cz30, rfl, rz30, sz30, lz30⟩ := Froze.out (r := Wp.int.toRp) f29 (F2.append (show F2 (Wp.int.R k5) ([] : List (List Value)) ([] : LIntS) from trivial) fy25)
        obtain ⟨q31, gq31, hM1⟩ := bsome hM1
        refine And.intro (room_of gq31 (by first | rw [F2.length (F2.up (r := wIntS.toRp) sz30 fu4), F2.length (show F2 (wIntS.R k28) ([[.slice az30 ((([] : LIntS) ++ p1)).length cz30]] : List (List Value)) [(([] : LIntS) ++ p1)] from ⟨rz30, trivial⟩)] | exact congrArg (· + 1) (F2.length (F2.up (r := wIntS.toRp) sz30 fu4)))) ?_
        obtain ⟨x32, gx32, hM1⟩ := bsome hM1
        obtain ⟨bx32, csx32, ex32, rx32⟩ := Sl.getI (r := wIntS.toRp) (wIntSS.mono (sX1.trans sz30) rp0) gx32 (by decide)
        refine And.intro bx32 ?_
        obtain ⟨ax32, nx32, cx32, rfl⟩ := Wp.slice_cell rx32
        obtain ⟨rfl, lx32⟩ := Sl.len rx32
        refine Exists.intro _ (And.intro ex32 ?_)
        obtain ⟨q33, gq33, hM1⟩ := bsome hM1
        refine And.intro (room_of gq33 (by first | rw [F2.length (F2.append (F2.up (r := wIntS.toRp) sz30 fu4) (show F2 (wIntS.R k28) ([[.slice az30 ((([] : LIntS) ++ p1)).length cz30]] : List (List Value)) [(([] : LIntS) ++ p1)] from ⟨rz30, trivial⟩)), F2.length (show F2 (wIntS.R k28) ([[.slice ax32 x32.length cx32]] : List (List Value)) [x32] from ⟨rx32, trivial⟩)] | exact congrArg (· + 1) (F2.length (F2.append (F2.up (r := wIntS.toRp) sz30 fu4) (show F2 (wIntS.R k28) ([[.slice az30 ((([] : LIntS) ++ p1)).length cz30]] : List (List Value)) [(([] : LIntS) ++ p1)] from ⟨rz30, trivial⟩))))) ?_
        refine And.intro rfl (And.intro (by first | exact trivial | exact And.intro rfl trivial | exact And.intro rfl (And.intro rfl trivial) | exact And.intro rfl (And.intro rfl (And.intro rfl trivial)) | exact And.intro rfl (And.intro rfl (And.intro rfl (And.intro rfl trivial)))) (And.intro (by first | exact trivial | exact And.intro rfl trivial | exact And.intro rfl (And.intro rfl trivial) | exact And.intro rfl (And.intro rfl (And.intro rfl trivial)) | exact And.intro rfl (And.intro rfl (And.intro rfl (And.intro rfl trivial)))) (Exists.intro m6 (And.intro ⟨true, (IntKind.i64.wrap (u3 + 1)), ((wu4 ++ ([[.slice az30 ((([] : LIntS) ++ p1)).length cz30]] : List (List Value))) ++ ([[.slice ax32 x32.length cx32]] : List (List Value))), ((u4 ++ [(([] : LIntS) ++ p1)]) ++ [x32]), rfl, rfl, (sX1.trans sz30), (wrap64 _), (F2.append (F2.append (F2.up (r := wIntS.toRp) sz30 fu4) (show F2 (wIntS.R k28) ([[.slice az30 ((([] : LIntS) ++ p1)).length cz30]] : List (List Value)) [(([] : LIntS) ++ p1)] from ⟨rz30, trivial⟩)) (show F2 (wIntS.R k28) ([[.slice ax32 x32.length cx32]] : List (List Value)) [x32] from ⟨rx32, trivial⟩)), hM1⟩ (Nat.lt_succ_self _)))))
      · have hc24 : ((bif (decide (x9 < 0)) then (!u2) else false)) = false := hc24
        rw [if_neg (bneT hc24)] at hM1
        obtain ⟨x34, gx34, hM1⟩ := bsome hM1
        obtain ⟨bx34, csx34, ex34, rx34⟩ := Sl.getI (r := wIntS.toRp) (wIntSS.mono sX1 rp0) gx34 (by decide)
        refine And.intro bx34 ?_
        obtain ⟨ax34, nx34, cx34, rfl⟩ := Wp.slice_cell rx34
        obtain ⟨rfl, lx34⟩ := Sl.len rx34
        refine Exists.intro _ (And.intro ex34 ?_)
        obtain ⟨q35, gq35, hM1⟩ := bsome hM1
        refine And.intro (room_of gq35 (by first | rw [F2.length fu4, F2.length (show F2 (wIntS.R k5) ([[.slice ax34 x34.length cx34]] : List (List Value)) [x34] from ⟨rx34, trivial⟩)] | exact congrArg (· + 1) (F2.length fu4))) ?_
        refine And.intro rfl (And.intro (by first | exact trivial | exact And.intro rfl trivial | exact And.intro rfl (And.intro rfl trivial) | exact And.intro rfl (And.intro rfl (And.intro rfl trivial)) | exact And.intro rfl (And.intro rfl (And.intro rfl (And.intro rfl trivial)))) (And.intro (by first | exact trivial | exact And.intro rfl trivial | exact And.intro rfl (And.intro rfl trivial) | exact And.intro rfl (And.intro rfl (And.intro rfl trivial)) | exact And.intro rfl (And.intro rfl (And.intro rfl (And.intro rfl trivial)))) (Exists.intro m6 (And.intro ⟨u2, (IntKind.i64.wrap (u3 + 1)), (wu4 ++ ([[.slice ax34 x34.length cx34]] : List (List Value))), (u4 ++ [x34]), rfl, rfl, sX1, (wrap64 _), (F2.append fu4 (show F2 (wIntS.R k5) ([[.slice ax34 x34.length cx34]] : List (List Value)) [x34] from ⟨rx34, trivial⟩)), hM1⟩ (Nat.lt_succ_self _)))))
  · have hc7 : ((decide (u3 < ((p0.length : Nat) : Int)))) = false := hc7
    rw [if_neg (bneT hc7)] at hM1
    have hE := Option.some.inj hM1; subst hE
    try dsimp only [outK_inr, outL_inr] at hM0
    refine And.intro (fun hc36 => ?_) (fun hc36 => ?_)
    · have hc36 : ((!u2)) = true := hc36
      rw [if_pos hc36] at hM0
      obtain ⟨vsy37, ey37, fy37⟩ := Sl.rows (r := Wp.int.toRp) (wIntS.mono sX1 rp1)
      refine Exists.intro vsy37 (And.intro ey37 ?_)
      obtain ⟨q38, gq38, hM0⟩ := bsome hM0
      refine And.intro (room_of gq38 (by first | rw [F2.length (show F2 (Wp.int.R k5) ([] : List (List Value)) ([] : LIntS) from trivial), F2.length fy37] | exact congrArg (· + 1) (F2.length (show F2 (Wp.int.R k5) ([] : List (List Value)) ([] : LIntS) from trivial)))) ?_
      intro v39 k40 f41
      obtain ⟨az42, cz42, rfl, rz42, sz42, lz42⟩ := Froze.out (r := Wp.int.toRp) f41 (F2.append (show F2 (Wp.int.R k5) ([] : List (List Value)) ([] : LIntS) from trivial) fy37)
      obtain ⟨q43, gq43, hM0⟩ := bsome hM0
      refine And.intro (room_of gq43 (by first | rw [F2.length (F2.up (r := wIntS.toRp) sz42 fu4), F2.length (show F2 (wIntS.R k40) ([[.slice az42 ((([] : LIntS) ++ p1)).length cz42]] : List (List Value)) [(([] : LIntS) ++ p1)] from ⟨rz42, trivial⟩)] | exact congrArg (· + 1) (F2.length (F2.up (r := wIntS.toRp) sz42 fu4)))) ?_
      intro v44 k45 f46
      obtain ⟨az47, cz47, rfl, rz47, sz47, lz47⟩ := Froze.out (r := wIntS.toRp) f46 (F2.append (F2.up (r := wIntS.toRp) sz42 fu4) (show F2 (wIntS.R k40) ([[.slice az42 ((([] : LIntS) ++ p1)).length cz42]] : List (List Value)) [(([] : LIntS) ++ p1)] from ⟨rz42, trivial⟩))
      have hE := Option.some.inj hM0; subst hE
      exact ⟨az47, ((u4 ++ [(([] : LIntS) ++ p1)])).length, cz47, rfl, rz47, ((sX1.trans sz42).trans sz47)⟩
    · have hc36 : ((!u2)) = false := hc36
      rw [if_neg (bneT hc36)] at hM0
      intro v48 k49 f50
      obtain ⟨az51, cz51, rfl, rz51, sz51, lz51⟩ := Froze.out (r := wIntS.toRp) f50 fu4
      have hE := Option.some.inj hM0; subst hE
      exact ⟨az51, u4.length, cz51, rfl, rz51, (sX1.trans sz51)⟩

theorem t_spec_SymmetrizedSet (h : Hp) (csp0 : List Value) (p0 : LPresentation) (rp0 : wPresentation.R h csp0 p0) (r : LIntSS) (hM0 : M_spec_SymmetrizedSet p0 = some r) :
    Tr Try.prog 15 #[.agg csp0.toArray] h fun v h' => ∃ (a0 : Option Addr) (n0 c0 : Nat), v = .slice a0 n0 c0 ∧ wIntSS.R h' [.slice a0 n0 c0] r ∧ Sub h h' := by
  obtain ⟨p0_0, ap0_1, np0_1, cp0_1, p0_1, rfl, rfl, ip0_0, rp0_1⟩ := openPresentation rp0
  obtain ⟨rfl, lp0_1⟩ := Sl.len rp0_1
  unfold M_spec_SymmetrizedSet at hM0
  dsimp only at hM0
  refine walk (args := [.agg #[.int .i64 p0_0, .slice ap0_1 p0_1.length cp0_1]]) (fn := Try.f15) rfl ?_
  obtain ⟨X5, hLX5, hM0⟩ := bsome hM0
  refine Exists.intro { vars := [3, 4], boxes := [], owns := [], fuel := true, pubs := [3, 7] } (Exists.intro (fun vs os h' => ∃ (au6 : Option Addr) (nu6 cu6 : Nat) (u6 : LIntSS) (u7 : Int), vs.tail = [.slice au6 nu6 cu6, .int .i64 u7] ∧ os = [] ∧ Sub h h' ∧ wIntSS.R h' [.slice au6 nu6 cu6] u6 ∧ In64 u7 ∧ L_spec_SymmetrizedSet_1 p0_1 p0_0 (fuelOf vs) u6 u7 = some X5) (Exists.intro (fun _ _ => 0) ?_))
  intro v1 k2 f3
  obtain ⟨az4, cz4, rfl, rz4, sz4, lz4⟩ := Froze.out (r := wIntS.toRp) f3 (show F2 (wIntS.R h) ([] : List (List Value)) ([] : LIntSS) from trivial)
  refine And.intro (Exists.intro FUEL ⟨az4, (([] : LIntSS)).length, cz4, ([] : LIntSS), 0, rfl, rfl, sz4, rz4, (c64 (by decide) (by decide)), hLX5⟩) ?_
  rintro v_0 v_1 m9 k8 ⟨au6, nu6, cu6, u6, u7, evX5, eoX5, sX5, ru6, iu7, hM1⟩
  cases evX5
  cases eoX5
  replace hM1 : L_spec_SymmetrizedSet_1 p0_1 p0_0 m9 u6 u7 = some X5 := hM1
  obtain _ | m9 := m9
  · cases (show (none : Option _) = some X5 from hM1)
  rw [L_spec_SymmetrizedSet_1_succ] at hM1
  obtain ⟨rfl, lu6⟩ := Sl.len ru6
  obtain ⟨x10, gx10, hM1⟩ := bsome hM1
  refine Exists.intro (.bool x10) (And.intro (fun q => t_spec_IsPresentation _ [.int .i64 p0_0, .slice ap0_1 p0_1.length cp0_1] (p0_0, p0_1) (closePresentation ip0_0 (wIntSS.mono sX5 rp0_1)) _  (chk_some gx10 q)) ?_)
  refine And.intro (fun hc11 => ?_) (fun hc11 => ?_)
  · have hc11 : ((bif (decide (u7 < ((p0_1.length : Nat) : Int))) then x10 else false)) = true := hc11
    rw [if_pos hc11] at hM1
    obtain ⟨x12, gx12, hM1⟩ := bsome hM1
    obtain ⟨bx12, csx12, ex12, rx12⟩ := Sl.getI (r := wIntS.toRp) (wIntSS.mono sX5 rp0_1) gx12 (by decide)
    refine And.intro bx12 ?_
    obtain ⟨ax12, nx12, cx12, rfl⟩ := Wp.slice_cell rx12
    obtain ⟨rfl, lx12⟩ := Sl.len rx12
    refine Exists.intro _ (And.intro ex12 ?_)
    obtain ⟨X13, hLX13, hM1⟩ := bsome hM1
    refine Exists.intro { vars := [3, 6], boxes := [], owns := [], fuel := true } (Exists.intro (fun vs os h' => ∃ (au14 : Option Addr) (nu14 cu14 : Nat) (u14 : LIntSS) (u15 : Int), vs.tail = [.slice au14 nu14 cu14, .int .i64 u15] ∧ os = [] ∧ Sub k8 h' ∧ wIntSS.R h' [.slice au14 nu14 cu14] u14 ∧ In64 u15 ∧ L_spec_SymmetrizedSet_0 x12 (fuelOf vs) u14 u15 = some X13) (Exists.intro (fun _ _ => 0) ?_))
    refine And.intro (Exists.intro FUEL ⟨au6, u6.length, cu6, u6, 0, rfl, rfl, (Sub.refl _), ru6, (c64 (by decide) (by decide)), hLX13⟩) ?_
    rintro v_0 v_1 m17 k16 ⟨au14, nu14, cu14, u14, u15, evX13, eoX13, sX13, ru14, iu15, hM2⟩
    cases evX13
    cases eoX13
    replace hM2 : L_spec_SymmetrizedSet_0 x12 m17 u14 u15 = some X13 := hM2
    obtain _ | m17 := m17
    · cases (show (none : Option _) = some X13 from hM2)
    rw [L_spec_SymmetrizedSet_0_succ] at hM2
    obtain ⟨rfl, lu14⟩ := Sl.len ru14
    refine And.intro (fun hc18 => ?_) (fun hc18 => ?_)
    · have hc18 : ((decide (u15 < ((x12.length : Nat) : Int)))) = true := hc18
      rw [if_pos hc18] at hM2
      obtain ⟨x19, gx19, hM2⟩ := bsome hM2
      refine Tr.mono (t_spec_RotateWord _ ax12 x12.length cx12 x12 (wIntS.mono sX13 rx12) u15 iu15 _  gx19) ?_
      rintro v21 k20 ⟨ax19, nx19, cx19, rfl, rx19, sx19⟩
      obtain ⟨rfl, lx19⟩ := Sl.len rx19
      obtain ⟨x22, gx22, hM2⟩ := bsome hM2
      refine Tr.mono (t_spec_l22Put _ au14 u14.length cu14 u14 (wIntSS.mono sx19 ru14) ax19 x19.length cx19 x19 rx19 _  gx22) ?_
      rintro v24 k23 ⟨ax22, nx22, cx22, rfl, rx22, sx22⟩
      obtain ⟨rfl, lx22⟩ := Sl.len rx22
      obtain ⟨x25, gx25, hM2⟩ := bsome hM2
      refine Tr.mono (t_spec_RotateWord _ ax12 x12.length cx12 x12 (wIntS.mono ((sX13.trans sx19).trans sx22) rx12) u15 iu15 _  gx25) ?_
      rintro v27 k26 ⟨ax25, nx25, cx25, rfl, rx25, sx25⟩
      obtain ⟨rfl, lx25⟩ := Sl.len rx25
      obtain ⟨x28, gx28, hM2⟩ := bsome hM2
      refine Tr.mono (t_spec_InvertWord _ ax25 x25.length cx25 x25 rx25 _  gx28) ?_
      rintro v30 k29 ⟨ax28, nx28, cx28, rfl, rx28, sx28⟩
      obtain ⟨rfl, lx28⟩ := Sl.len rx28
      obtain ⟨x31, gx31, hM2⟩ := bsome hM2
      refine Tr.mono (t_spec_l22Put _ ax22 x22.length cx22 x22 (wIntSS.mono (sx25.trans sx28) rx22) ax28 x28.length cx28 x28 rx28 _  gx31) ?_
      rintro v33 k32 ⟨ax31, nx31, cx31, rfl, rx31, sx31⟩
      obtain ⟨rfl, lx31⟩ := Sl.len rx31
      refine And.intro rfl (And.intro (by first | exact trivial | exact And.intro rfl trivial | exact And.intro rfl (And.intro rfl trivial) | exact And.intro rfl (And.intro rfl (And.intro rfl trivial)) | exact And.intro rfl (And.intro rfl (And.intro rfl (And.intro rfl trivial)))) (And.intro (by first | exact trivial | exact And.intro rfl trivial | exact And.intro rfl (And.intro rfl trivial) | exact And.intro rfl (And.intro rfl (And.intro rfl trivial)) | exact And.intro rfl (And.intro rfl (And.intro rfl (And.intro rfl trivial)))) (Exists.intro m17 (And.intro ⟨ax31, x31.length, cx31, x31, (IntKind.i64.wrap (u15 + 1)), rfl, rfl, (((((sX13.trans sx19).trans sx22).trans sx25).trans sx28).trans sx31), rx31, (wrap64 _), hM2⟩ (Nat.lt_succ_self _)))))
    · have hc18 : ((decide (u15 < ((x12.length : Nat) : Int)))) = false := hc18
      rw [if_neg (bneT hc18)] at hM2
      have hE := Option.some.inj hM2; subst hE
      try dsimp only [outK_inr, outL_inr] at hM1
      refine And.intro rfl (And.intro (by first | exact trivial | exact And.intro rfl trivial | exact And.intro rfl (And.intro rfl trivial) | exact And.intro rfl (And.intro rfl (And.intro rfl trivial)) | exact And.intro rfl (And.intro rfl (And.intro rfl (And.intro rfl trivial)))) (And.intro (by first | exact trivial | exact And.intro rfl trivial | exact And.intro rfl (And.intro rfl trivial) | exact And.intro rfl (And.intro rfl (And.intro rfl trivial)) | exact And.intro rfl (And.intro rfl (And.intro rfl (And.intro rfl trivial)))) (Exists.intro m9 (And.intro ⟨au14, u14.length, cu14, u14, (IntKind.i64.wrap (u7 + 1)), rfl, rfl, (sX5.trans sX13), ru14, (wrap64 _), hM1⟩ (Nat.lt_succ_self _)))))
  · have hc11 : ((bif (decide (u7 < ((p0_1.length : Nat) : Int))) then x10 else false)) = false := hc11
    rw [if_neg (bneT hc11)] at hM1
    have hE := Option.some.inj hM1; subst hE
    try dsimp only [outK_inr, outL_inr] at hM0
    have hE := Option.some.inj hM0; subst hE
    exact ⟨au6, u6.length, cu6, rfl, ru6, sX5⟩

theorem t_spec_l30Common (h : Hp) (ap0 : Option Addr) (np0 cp0 : Nat) (p0 : LIntS) (rp0 : wIntS.R h [.slice ap0 np0 cp0] p0) (ap1 : Option Addr) (np1 cp1 : Nat) (p1 : LIntS) (rp1 : wIntS.R h [.slice ap1 np1 cp1] p1) (r : Int) (hM0 : M_spec_l30Common p0 p1 = some r) :
    Tr Try.prog 39 #[.slice ap0 np0 cp0, .slice ap1 np1 cp1] h fun v h' => v = .int .i64 r ∧ h' = h := by
  obtain ⟨rfl, lp0⟩ := Sl.len rp0
  obtain ⟨rfl, lp1⟩ := Sl.len rp1
  unfold M_spec_l30Common at hM0
  refine Tr.forget (walk (args := [.slice ap0 p0.length cp0, .slice ap1 p1.length cp1]) (fn := Try.f39) rfl ?_)
  obtain ⟨X1, hLX1, hM0⟩ := bsome hM0
  refine Exists.intro { vars := [5], boxes := [], owns := [], fuel := true } (Exists.intro (fun vs os h' => ∃ (u2 : Int), vs.tail = [.int .i64 u2] ∧ os = [] ∧ Sub h h' ∧ In64 u2 ∧ L_spec_l30Common_0 p0 p1 (fuelOf vs) u2 = some X1) (Exists.intro (fun _ _ => 0) ?_))
  refine And.intro (Exists.intro FUEL ⟨0, rfl, rfl, (Sub.refl _), (c64 (by decide) (by decide)), hLX1⟩) ?_
  rintro v_0 m4 k3 ⟨u2, evX1, eoX1, sX1, iu2, hM1⟩
  cases evX1
  cases eoX1
  replace hM1 : L_spec_l30Common_0 p0 p1 m4 u2 = some X1 := hM1
  obtain _ | m4 := m4
  · cases (show (none : Option _) = some X1 from hM1)
  rw [L_spec_l30Common_0_succ] at hM1
  refine Or.inl (And.intro (And.intro (by kernel_rfl) (by kernel_rfl)) ?_)
  obtain ⟨x5, gx5, hM1⟩ := bsome hM1
  obtain ⟨csx5, ex5, rx5⟩ := Sl.getG (r := Wp.int.toRp) (wIntS.mono sX1 rp0) gx5 (by decide) (dfInt k3)
  refine And.intro (fun q => (ex5 q).1) ?_
  obtain ⟨rfl, ix5⟩ := rx5
  refine Exists.intro _ (And.intro (fun q => (ex5 q).2) ?_)
  obtain ⟨x6, gx6, hM1⟩ := bsome hM1
  obtain ⟨csx6, ex6, rx6⟩ := Sl.getG (r := Wp.int.toRp) (wIntS.mono sX1 rp1) gx6 (by decide) (dfInt k3)
  refine And.intro (fun q => (ex6 q).1) ?_
  obtain ⟨rfl, ix6⟩ := rx6
  refine Exists.intro _ (And.intro (fun q => (ex6 q).2) ?_)
  refine And.intro (fun hc7 => ?_) (fun hc7 => ?_)
  · have hc7 : ((bif (bif (decide (u2 < ((p0.length : Nat) : Int))) then (decide (u2 < ((p1.length : Nat) : Int))) else false) then (decide (x5 = x6)) else false)) = true := hc7
    rw [if_pos hc7] at hM1
    refine And.intro rfl (And.intro (by first | exact trivial | exact And.intro rfl trivial | exact And.intro rfl (And.intro rfl trivial) | exact And.intro rfl (And.intro rfl (And.intro rfl trivial)) | exact And.intro rfl (And.intro rfl (And.intro rfl (And.intro rfl trivial)))) (And.intro (by first | exact trivial | exact And.intro rfl trivial | exact And.intro rfl (And.intro rfl trivial) | exact And.intro rfl (And.intro rfl (And.intro rfl trivial)) | exact And.intro rfl (And.intro rfl (And.intro rfl (And.intro rfl trivial)))) (Exists.intro m4 (And.intro ⟨(IntKind.i64.wrap (u2 + 1)), rfl, rfl, sX1, (wrap64 _), hM1⟩ (Nat.lt_succ_self _)))))
  · have hc7 : ((bif (bif (decide (u2 < ((p0.length : Nat) : Int))) then (decide (u2 < ((p1.length : Nat) : Int))) else false) then (decide (x5 = x6)) else false)) = false := hc7
    rw [if_neg (bneT hc7)] at hM1
    have hE := Option.some.inj hM1; subst hE
    try dsimp only [outK_inr, outL_inr] at hM0
    have hE := Option.some.inj hM0; subst hE
    exact And.intro rfl sX1

theorem t_spec_LongestPiece (h : Hp) (csp0 : List Value) (p0 : LPresentation) (rp0 : wPresentation.R h csp0 p0) (r : Int) (hM0 : M_spec_LongestPiece p0 = some r) :
    Tr Try.prog 11 #[.agg csp0.toArray] h fun v h' => v = .int .i64 r ∧ h' = h := by
  obtain ⟨p0_0, ap0_1, np0_1, cp0_1, p0_1, rfl, rfl, ip0_0, rp0_1⟩ := openPresentation rp0
  obtain ⟨rfl, lp0_1⟩ := Sl.len rp0_1
  unfold M_spec_LongestPiece at hM0
  dsimp only at hM0
  refine Tr.forget (walk (args := [.agg #[.int .i64 p0_0, .slice ap0_1 p0_1.length cp0_1]]) (fn := Try.f11) rfl ?_)
  obtain ⟨x1, gx1, hM0⟩ := bsome hM0
  refine Tr.mono (t_spec_SymmetrizedSet _ [.int .i64 p0_0, .slice ap0_1 p0_1.length cp0_1] (p0_0, p0_1) (closePresentation ip0_0 rp0_1) _  gx1) ?_
  rintro v3 k2 ⟨ax1, nx1, cx1, rfl, rx1, sx1⟩
  obtain ⟨rfl, lx1⟩ := Sl.len rx1
  obtain ⟨X4, hLX4, hM0⟩ := bsome hM0
  refine Exists.intro { vars := [4, 5], boxes := [], owns := [], fuel := true } (Exists.intro (fun vs os h' => ∃ (u5 : Int) (u6 : Int), vs.tail = [.int .i64 u5, .int .i64 u6] ∧ os = [] ∧ Sub k2 h' ∧ In64 u5 ∧ In64 u6 ∧ L_spec_LongestPiece_1 x1 (fuelOf vs) u5 u6 = some X4) (Exists.intro (fun _ _ => 0) ?_))
  refine And.intro (Exists.intro FUEL ⟨0, 0, rfl, rfl, (Sub.refl _), (c64 (by decide) (by decide)), (c64 (by decide) (by decide)), hLX4⟩) ?_
  rintro v_0 v_1 m8 k7 ⟨u5, u6, evX4, eoX4, sX4, iu5, iu6, hM1⟩
  cases evX4
  cases eoX4
  replace hM1 : L_spec_LongestPiece_1 x1 m8 u5 u6 = some X4 := hM1
  obtain _ | m8 := m8
  · cases (show (none : Option _) = some X4 from hM1)
  rw [L_spec_LongestPiece_1_succ] at hM1
  refine And.intro (fun hc9 => ?_) (fun hc9 => ?_)
  · have hc9 : ((decide (u6 < ((x1.length : Nat) : Int)))) = true := hc9
    rw [if_pos hc9] at hM1
    obtain ⟨X10, hLX10, hM1⟩ := bsome hM1
    refine Exists.intro { vars := [4, 6], boxes := [], owns := [], fuel := true } (Exists.intro (fun vs os h' => ∃ (u11 : Int) (u12 : Int), vs.tail = [.int .i64 u11, .int .i64 u12] ∧ os = [] ∧ Sub k7 h' ∧ In64 u11 ∧ In64 u12 ∧ L_spec_LongestPiece_0 u6 x1 (fuelOf vs) u11 u12 = some X10) (Exists.intro (fun _ _ => 0) ?_))
    refine And.intro (Exists.intro FUEL ⟨u5, 0, rfl, rfl, (Sub.refl _), iu5, (c64 (by decide) (by decide)), hLX10⟩) ?_
    rintro v_0 v_1 m14 k13 ⟨u11, u12, evX10, eoX10, sX10, iu11, iu12, hM2⟩
    cases evX10
    cases eoX10
    replace hM2 : L_spec_LongestPiece_0 u6 x1 m14 u11 u12 = some X10 := hM2
    obtain _ | m14 := m14
    · cases (show (none : Option _) = some X10 from hM2)
    rw [L_spec_LongestPiece_0_succ] at hM2
    refine And.intro (fun hc15 => ?_) (fun hc15 => ?_)
    · have hc15 : ((decide (u12 < u6))) = true := hc15
      rw [if_pos hc15] at hM2
      refine Or.inl (And.intro (And.intro (by kernel_rfl) (by kernel_rfl)) ?_)
      obtain ⟨x16, gx16, hM2⟩ := bsome hM2
      obtain ⟨bx16, csx16, ex16, rx16⟩ := Sl.getI (r := wIntS.toRp) (wIntSS.mono (sX4.trans sX10) rx1) gx16 (by decide)
      refine And.intro bx16 ?_
      obtain ⟨ax16, nx16, cx16, rfl⟩ := Wp.slice_cell rx16
      obtain ⟨rfl, lx16⟩ := Sl.len rx16
      refine Exists.intro _ (And.intro ex16 ?_)
      obtain ⟨x17, gx17, hM2⟩ := bsome hM2
      obtain ⟨bx17, csx17, ex17, rx17⟩ := Sl.getI (r := wIntS.toRp) (wIntSS.mono (sX4.trans sX10) rx1) gx17 (by decide)
      refine And.intro bx17 ?_
      obtain ⟨ax17, nx17, cx17, rfl⟩ := Wp.slice_cell rx17
      obtain ⟨rfl, lx17⟩ := Sl.len rx17
      refine Exists.intro _ (And.intro ex17 ?_)
      obtain ⟨x18, gx18, hM2⟩ := bsome hM2
      refine Exists.intro (.int .i64 x18) (And.intro (t_spec_l30Common _ ax16 x16.length cx16 x16 rx16 ax17 x17.length cx17 x17 rx17 _  gx18) ?_)
      obtain ⟨q19, gq19, hM2⟩ := bsome hM2
      have ix18 : In64 x18 := grd_some gq19
      refine And.intro rfl (And.intro (by first | exact trivial | exact And.intro rfl trivial | exact And.intro rfl (And.intro rfl trivial) | exact And.intro rfl (And.intro rfl (And.intro rfl trivial)) | exact And.intro rfl (And.intro rfl (And.intro rfl (And.intro rfl trivial)))) (And.intro (by first | exact trivial | exact And.intro rfl trivial | exact And.intro rfl (And.intro rfl trivial) | exact And.intro rfl (And.intro rfl (And.intro rfl trivial)) | exact And.intro rfl (And.intro rfl (And.intro rfl (And.intro rfl trivial)))) (Exists.intro m14 (And.intro ⟨(if x18 > u11 then x18 else u11), (IntKind.i64.wrap (u12 + 1)), rfl, rfl, sX10, (ite64 ix18 iu11), (wrap64 _), hM2⟩ (Nat.lt_succ_self _)))))
    · have hc15 : ((decide (u12 < u6))) = false := hc15
      rw [if_neg (bneT hc15)] at hM2
      have hE := Option.some.inj hM2; subst hE
      try dsimp only [outK_inr, outL_inr] at hM1
      refine And.intro rfl (And.intro (by first | exact trivial | exact And.intro rfl trivial | exact And.intro rfl (And.intro rfl trivial) | exact And.intro rfl (And.intro rfl (And.intro rfl trivial)) | exact And.intro rfl (And.intro rfl (And.intro rfl (And.intro rfl trivial)))) (And.intro (by first | exact trivial | exact And.intro rfl trivial | exact And.intro rfl (And.intro rfl trivial) | exact And.intro rfl (And.intro rfl (And.intro rfl trivial)) | exact And.intro rfl (And.intro rfl (And.intro rfl (And.intro rfl trivial)))) (Exists.intro m8 (And.intro ⟨u11, (IntKind.i64.wrap (u6 + 1)), rfl, rfl, (sX4.trans sX10), iu11, (wrap64 _), hM1⟩ (Nat.lt_succ_self _)))))
  · have hc9 : ((decide (u6 < ((x1.length : Nat) : Int)))) = false := hc9
    rw [if_neg (bneT hc9)] at hM1
    have hE := Option.some.inj hM1; subst hE
    try dsimp only [outK_inr, outL_inr] at hM0
    have hE := Option.some.inj hM0; subst hE
    exact And.intro rfl (sx1.trans sX4)

theorem t_spec_IsSixth (h : Hp) (csp0 : List Value) (p0 : LPresentation) (rp0 : wPresentation.R h csp0 p0) (r : Bool) (hM0 : M_spec_IsSixth p0 = some r) :
    Tr Try.prog 21 #[.agg csp0.toArray] h fun v h' => v = .bool r ∧ h' = h := by
  obtain ⟨p0_0, ap0_1, np0_1, cp0_1, p0_1, rfl, rfl, ip0_0, rp0_1⟩ := openPresentation rp0
  obtain ⟨rfl, lp0_1⟩ := Sl.len rp0_1
  unfold M_spec_IsSixth at hM0
  dsimp only at hM0
  refine Tr.forget (walk (args := [.agg #[.int .i64 p0_0, .slice ap0_1 p0_1.length cp0_1]]) (fn := Try.f21) rfl ?_)
  obtain ⟨x1, gx1, hM0⟩ := bsome hM0
  refine Tr.mono (t_spec_SymmetrizedSet _ [.int .i64 p0_0, .slice ap0_1 p0_1.length cp0_1] (p0_0, p0_1) (closePresentation ip0_0 rp0_1) _  gx1) ?_
  rintro v3 k2 ⟨ax1, nx1, cx1, rfl, rx1, sx1⟩
  obtain ⟨rfl, lx1⟩ := Sl.len rx1
  obtain ⟨X4, hLX4, hM0⟩ := bsome hM0
  refine Exists.intro { vars := [4], boxes := [], owns := [], fuel := true } (Exists.intro (fun vs os h' => ∃ (u5 : Int), vs.tail = [.int .i64 u5] ∧ os = [] ∧ Sub k2 h' ∧ In64 u5 ∧ L_spec_IsSixth_1 x1 (fuelOf vs) u5 = some X4) (Exists.intro (fun _ _ => 0) ?_))
  refine And.intro (Exists.intro FUEL ⟨0, rfl, rfl, (Sub.refl _), (c64 (by decide) (by decide)), hLX4⟩) ?_
  rintro v_0 m7 k6 ⟨u5, evX4, eoX4, sX4, iu5, hM1⟩
  cases evX4
  cases eoX4
  replace hM1 : L_spec_IsSixth_1 x1 m7 u5 = some X4 := hM1
  obtain _ | m7 := m7
  · cases (show (none : Option _) = some X4 from hM1)
  rw [L_spec_IsSixth_1_succ] at hM1
  refine And.intro (fun hc8 => ?_) (fun hc8 => ?_)
  · have hc8 : ((decide (u5 < ((x1.length : Nat) : Int)))) = true := hc8
    rw [if_pos hc8] at hM1
    obtain ⟨X9, hLX9, hM1⟩ := bsome hM1
    refine Exists.intro { vars := [5], boxes := [], owns := [], fuel := true } (Exists.intro (fun vs os h' => ∃ (u10 : Int), vs.tail = [.int .i64 u10] ∧ os = [] ∧ Sub k6 h' ∧ In64 u10 ∧ L_spec_IsSixth_0 x1 u5 (fuelOf vs) u10 = some X9) (Exists.intro (fun _ _ => 0) ?_))
    refine And.intro (Exists.intro FUEL ⟨0, rfl, rfl, (Sub.refl _), (c64 (by decide) (by decide)), hLX9⟩) ?_
    rintro v_0 m12 k11 ⟨u10, evX9, eoX9, sX9, iu10, hM2⟩
    cases evX9
    cases eoX9
    replace hM2 : L_spec_IsSixth_0 x1 u5 m12 u10 = some X9 := hM2
    obtain _ | m12 := m12
    · cases (show (none : Option _) = some X9 from hM2)
    rw [L_spec_IsSixth_0_succ] at hM2
    refine And.intro (fun hc13 => ?_) (fun hc13 => ?_)
    · have hc13 : ((decide (u10 < ((x1.length : Nat) : Int)))) = true := hc13
      rw [if_pos hc13] at hM2
      refine Or.inl (And.intro (And.intro (by kernel_rfl) (by kernel_rfl)) ?_)
      obtain ⟨x14, gx14, hM2⟩ := bsome hM2
      obtain ⟨csx14, ex14, rx14⟩ := Sl.getG (r := wIntS.toRp) (wIntSS.mono (sX4.trans sX9) rx1) gx14 (by decide) (dfSl Wp.int k11)
      refine And.intro (fun q => (ex14 q).1) ?_
      obtain ⟨ax14, nx14, cx14, rfl⟩ := Wp.slice_cell rx14
      obtain ⟨rfl, lx14⟩ := Sl.len rx14
      refine Exists.intro _ (And.intro (fun q => (ex14 q).2) ?_)
      obtain ⟨x15, gx15, hM2⟩ := bsome hM2
      obtain ⟨csx15, ex15, rx15⟩ := Sl.getG (r := wIntS.toRp) (wIntSS.mono (sX4.trans sX9) rx1) gx15 (by decide) (dfSl Wp.int k11)
      refine And.intro (fun q => (ex15 q).1) ?_
      obtain ⟨ax15, nx15, cx15, rfl⟩ := Wp.slice_cell rx15
      obtain ⟨rfl, lx15⟩ := Sl.len rx15
      refine Exists.intro _ (And.intro (fun q => (ex15 q).2) ?_)
      obtain ⟨x16, gx16, hM2⟩ := bsome hM2
      refine Exists.intro (.int .i64 x16) (And.intro (fun q => t_spec_l30Common _ ax14 x14.length cx14 x14 rx14 ax15 x15.length cx15 x15 rx15 _  (chk_some gx16 q)) ?_)
      obtain ⟨q17, gq17, hM2⟩ := bsome hM2
      have ix16 : In64 x16 := grd_some gq17
      obtain ⟨x18, gx18, hM2⟩ := bsome hM2
      obtain ⟨csx18, ex18, rx18⟩ := Sl.getG (r := wIntS.toRp) (wIntSS.mono (sX4.trans sX9) rx1) gx18 (by decide) (dfSl Wp.int k11)
      refine And.intro (fun q => (ex18 q).1) ?_
      obtain ⟨ax18, nx18, cx18, rfl⟩ := Wp.slice_cell rx18
      obtain ⟨rfl, lx18⟩ := Sl.len rx18
      refine Exists.intro _ (And.intro (fun q => (ex18 q).2) ?_)
      refine And.intro (fun hc19 => ?_) (fun hc19 => ?_)
      · have hc19 : ((bif (!decide (u5 = u10)) then (decide ((IntKind.i64.wrap (6 * x16)) ≥ ((x18.length : Nat) : Int))) else false)) = true := hc19
        rw [if_pos hc19] at hM2
        have hE := Option.some.inj hM2; subst hE
        try dsimp only [outK_inl, outL_inl] at hM1
        have hE := Option.some.inj hM1; subst hE
        try dsimp only [outK_inl, outL_inl] at hM0
        have hE := Option.some.inj hM0; subst hE
        exact And.intro rfl ((sx1.trans sX4).trans sX9)
      · have hc19 : ((bif (!decide (u5 = u10)) then (decide ((IntKind.i64.wrap (6 * x16)) ≥ ((x18.length : Nat) : Int))) else false)) = false := hc19
        rw [if_neg (bneT hc19)] at hM2
        refine And.intro rfl (And.intro (by first | exact trivial | exact And.intro rfl trivial | exact And.intro rfl (And.intro rfl trivial) | exact And.intro rfl (And.intro rfl (And.intro rfl trivial)) | exact And.intro rfl (And.intro rfl (And.intro rfl (And.intro rfl trivial)))) (And.intro (by first | exact trivial | exact And.intro rfl trivial | exact And.intro rfl (And.intro rfl trivial) | exact And.intro rfl (And.intro rfl (And.intro rfl trivial)) | exact And.intro rfl (And.intro rfl (And.intro rfl (And.intro rfl trivial)))) (Exists.intro m12 (And.intro ⟨(IntKind.i64.wrap (u10 + 1)), rfl, rfl, sX9, (wrap64 _), hM2⟩ (Nat.lt_succ_self _)))))
    · have hc13 : ((decide (u10 < ((x1.length : Nat) : Int)))) = false := hc13
      rw [if_neg (bneT hc13)] at hM2
      have hE := Option.some.inj hM2; subst hE
      try dsimp only [outK_inr, outL_inr] at hM1
      refine And.intro rfl (And.intro (by first | exact trivial | exact And.intro rfl trivial | exact And.intro rfl (And.intro rfl trivial) | exact And.intro rfl (And.intro rfl (And.intro rfl trivial)) | exact And.intro rfl (And.intro rfl (And.intro rfl (And.intro rfl trivial)))) (And.intro (by first | exact trivial | exact And.intro rfl trivial | exact And.intro rfl (And.intro rfl trivial) | exact And.intro rfl (And.intro rfl (And.intro rfl trivial)) | exact And.intro rfl (And.intro rfl (And.intro rfl (And.intro rfl trivial)))) (Exists.intro m7 (And.intro ⟨(IntKind.i64.wrap (u5 + 1)), rfl, rfl, (sX4.trans sX9), (wrap64 _), hM1⟩ (Nat.lt_succ_self _)))))
  · have hc8 : ((decide (u5 < ((x1.length : Nat) : Int)))) = false := hc8
    rw [if_neg (bneT hc8)] at hM1
    have hE := Option.some.inj hM1; subst hE
    try dsimp only [outK_inr, outL_inr] at hM0
    obtain ⟨x23, gx23, hM0⟩ := bsome hM0
    refine Tr.val (t_spec_IsPresentation _ [.int .i64 p0_0, .slice ap0_1 p0_1.length cp0_1] (p0_0, p0_1) (closePresentation ip0_0 (wIntSS.mono (sx1.trans sX4) rp0_1)) _  gx23) ?_
    have hE := Option.some.inj hM0; subst hE
    exact And.intro rfl (sx1.trans sX4)

theorem t_impl_RotateWord (h : Hp) (ap0 : Option Addr) (np0 cp0 : Nat) (p0 : LIntS) (rp0 : wIntS.R h [.slice ap0 np0 cp0] p0) (p1 : Int) (ip1 : In64 p1) (r : LIntS) (hM0 : M_impl_RotateWord p0 p1 = some r) :
    Tr Try.prog 48 #[.slice ap0 np0 cp0, .int .i64 p1] h fun v h' => ∃ (a0 : Option Addr) (n0 c0 : Nat), v = .slice a0 n0 c0 ∧ New wIntS h h' [.slice a0 n0 c0] r := by
  obtain ⟨rfl, lp0⟩ := Sl.len rp0
  unfold M_impl_RotateWord at hM0
  refine walk (args := [.slice ap0 p0.length cp0, .int .i64 p1]) (fn := Try.f48) rfl ?_
  refine And.intro (fun hc1 => ?_) (fun hc1 => ?_)
  · have hc1 : ((decide (((p0.length : Nat) : Int) = 0))) = true := hc1
    rw [if_pos hc1] at hM0
    intro v2 k3 f4
    obtain ⟨az5, cz5, rfl, rz5, sz5, lz5⟩ := Froze.out (r := Wp.int.toRp) f4 (show F2 (Wp.int.R h) ([] : List (List Value)) ([] : LIntS) from trivial)
    have hE := Option.some.inj hM0; subst hE
    exact ⟨az5, (([] : LIntS)).length, cz5, rfl, (Froze.newPlain (r := Wp.int) f4 (show F2 (Wp.int.R h) ([] : List (List Value)) ([] : LIntS) from trivial) (plInt _))⟩
  · have hc1 : ((decide (((p0.length : Nat) : Int) = 0))) = false := hc1
    rw [if_neg (bneT hc1)] at hM0
    obtain ⟨q6, gq6, hM0⟩ := bsome hM0
    refine And.intro (grd_some gq6) ?_
    obtain ⟨q7, gq7, hM0⟩ := bsome hM0
    refine And.intro (grd_some gq7) ?_
    refine Or.inr (Or.inr (Or.inl (And.intro (And.intro (by kernel_rfl) (by kernel_rfl)) ?_)))
    refine Or.inr ?_
    refine Or.inr ?_
    obtain ⟨x8, gx8, hM0⟩ := bsome hM0
    obtain ⟨ax8, cx8, qx8, rx8, bx8, ex8⟩ := Sl.cutX (r := Wp.int.toRp) rp0 gx8
    have lx8 := (Sl.len rx8).2
    refine Or.inl (Exists.intro (.val (.slice ax8 x8.length cx8)) (And.intro ?_ ?_))
    · intro hh sb
      obtain ⟨vs, e⟩ := ex8 hh sb
      exact And.intro bx8 (Exists.intro vs (And.intro e (fun v _ hv => And.intro (congrArg AV.val (qx8 v hv)) (And.intro rfl rfl))))
    refine Or.inr ?_
    refine Or.inr ?_
    refine Exists.intro 2 (And.intro (And.intro rfl rfl) ?_)
    obtain ⟨x9, gx9, hM0⟩ := bsome hM0
    obtain ⟨qx9, vsx9, ex9, fx9⟩ := Sl.cutI (r := Wp.int.toRp) rp0 gx9
    refine And.intro qx9 (Exists.intro vsx9 (And.intro ex9 ?_))
    intro vx9 hvx9 _
    obtain ⟨ax9, cx9, rfl, rx9⟩ := fx9 vx9 hvx9
    have lx9 := (Sl.len rx9).2
    refine And.intro (And.intro rfl (Sub.refl _)) (And.intro (by first | exact trivial | exact rfl) ?_)
    obtain ⟨x10, gx10, hM0⟩ := bsome hM0
    refine Tr.mono (t_impl_copyInts _ ax9 x9.length cx9 x9 rx9 _  gx10) ?_
    rintro v12 k11 ⟨gx10, nx10, cx10, rfl, wx10⟩
    have sx10 : Sub h k11 := wx10.sub
    have rx10 := wx10.r
    obtain ⟨rfl, lx10⟩ := Sl.len rx10
    refine And.intro (And.intro rfl sx10) (And.intro (by first | exact trivial | exact rfl) ?_)
    obtain ⟨vsy13, ey13, fy13⟩ := Sl.rows (r := Wp.int.toRp) (wIntS.mono sx10 rx8)
    refine Exists.intro vsy13 (And.intro ey13 ?_)
    obtain ⟨q14, gq14, hM0⟩ := bsome hM0
    obtain ⟨vsz15, rxz15, lnz15, apz15⟩ := New.app wx10 (Sub.refl _)
    refine Exists.intro vsz15 (And.intro rxz15 (And.intro (room_of gq14 (by rw [lnz15, F2.length fy13])) ?_))
    intro vz15 kz15 happz15
    obtain ⟨wz15, gz15, oz15, nz15, cz15, rfl⟩ := apz15 _ _ _ _ _ (F3.ofPlain (plInt _) fy13) Fresh.ofPlain happz15
    have rz15 := wz15.r
    obtain ⟨ez15, lz15⟩ := Sl.len rz15
    subst ez15
    refine And.intro trivial (And.intro (by first | exact trivial | exact rfl) ?_)
    refine And.intro trivial (And.intro (by first | exact trivial | exact rfl) ?_)
    have hE := Option.some.inj hM0; subst hE
    exact ⟨(some ⟨gz15, oz15, none⟩), (x10 ++ x8).length, cz15, rfl, wz15⟩

theorem t_impl_common (h : Hp) (ap0 : Option Addr) (np0 cp0 : Nat) (p0 : LIntS) (rp0 : wIntS.R h [.slice ap0 np0 cp0] p0) (ap1 : Option Addr) (np1 cp1 : Nat) (p1 : LIntS) (rp1 : wIntS.R h [.slice ap1 np1 cp1] p1) (r : Int) (hM0 : M_impl_common p0 p1 = some r) :
    Tr Try.prog 41 #[.slice ap0 np0 cp0, .slice ap1 np1 cp1] h fun v h' => v = .int .i64 r ∧ h' = h := by
  obtain ⟨rfl, lp0⟩ := Sl.len rp0
  obtain ⟨rfl, lp1⟩ := Sl.len rp1
  unfold M_impl_common at hM0
  refine Tr.forget (walk (args := [.slice ap0 p0.length cp0, .slice ap1 p1.length cp1]) (fn := Try.f41) rfl ?_)
  obtain ⟨X1, hLX1, hM0⟩ := bsome hM0
  refine Exists.intro { vars := [5], boxes := [], owns := [], fuel := true } (Exists.intro (fun vs os h' => ∃ (u2 : Int), vs.tail = [.int .i64 u2] ∧ os = [] ∧ Sub h h' ∧ In64 u2 ∧ L_impl_common_0 p0 p1 (fuelOf vs) u2 = some X1) (Exists.intro (fun _ _ => 0) ?_))
  refine And.intro (Exists.intro FUEL ⟨0, rfl, rfl, (Sub.refl _), (c64 (by decide) (by decide)), hLX1⟩) ?_
  rintro v_0 m4 k3 ⟨u2, evX1, eoX1, sX1, iu2, hM1⟩
  cases evX1
  cases eoX1
  replace hM1 : L_impl_common_0 p0 p1 m4 u2 = some X1 := hM1
  obtain _ | m4 := m4
  · cases (show (none : Option _) = some X1 from hM1)
  rw [L_impl_common_0_succ] at hM1
  refine Or.inl (And.intro (And.intro (by kernel_rfl) (by kernel_rfl)) ?_)
  obtain ⟨x5, gx5, hM1⟩ := bsome hM1
  obtain ⟨csx5, ex5, rx5⟩ := Sl.getG (r := Wp.int.toRp) (wIntS.mono sX1 rp0) gx5 (by decide) (dfInt k3)
  refine And.intro (fun q => (ex5 q).1) ?_
  obtain ⟨rfl, ix5⟩ := rx5
  refine Exists.intro _ (And.intro (fun q => (ex5 q).2) ?_)
  obtain ⟨x6, gx6, hM1⟩ := bsome hM1
  obtain ⟨csx6, ex6, rx6⟩ := Sl.getG (r := Wp.int.toRp) (wIntS.mono sX1 rp1) gx6 (by decide) (dfInt k3)
  refine And.intro (fun q => (ex6 q).1) ?_
  obtain ⟨rfl, ix6⟩ := rx6
  refine Exists.intro _ (And.intro (fun q => (ex6 q).2) ?_)
  refine And.intro (fun hc7 => ?_) (fun hc7 => ?_)
  · have hc7 : ((bif (bif (decide (u2 < ((p0.length : Nat) : Int))) then (decide (u2 < ((p1.length : Nat) : Int))) else false) then (decide (x5 = x6)) else false)) = true := hc7
    rw [if_pos hc7] at hM1
    refine And.intro rfl (And.intro (by first | exact trivial | exact And.intro rfl trivial | exact And.intro rfl (And.intro rfl trivial) | exact And.intro rfl (And.intro rfl (And.intro rfl trivial)) | exact And.intro rfl (And.intro rfl (And.intro rfl (And.intro rfl trivial)))) (And.intro (by first | exact trivial | exact And.intro rfl trivial | exact And.intro rfl (And.intro rfl trivial) | exact And.intro rfl (And.intro rfl (And.intro rfl trivial)) | exact And.intro rfl (And.intro rfl (And.intro rfl (And.intro rfl trivial)))) (Exists.intro m4 (And.intro ⟨(IntKind.i64.wrap (u2 + 1)), rfl, rfl, sX1, (wrap64 _), hM1⟩ (Nat.lt_succ_self _)))))
  · have hc7 : ((bif (bif (decide (u2 < ((p0.length : Nat) : Int))) then (decide (u2 < ((p1.length : Nat) : Int))) else false) then (decide (x5 = x6)) else false)) = false := hc7
    rw [if_neg (bneT hc7)] at hM1
    have hE := Option.some.inj hM1; subst hE
    try dsimp only [outK_inr, outL_inr] at hM0
    have hE := Option.some.inj hM0; subst hE
    exact And.intro rfl sX1

theorem t_impl_ReduceLetters (h : Hp) (ap0 : Option Addr) (np0 cp0 : Nat) (p0 : LIntS) (rp0 : wIntS.R h [.slice ap0 np0 cp0] p0) (r : LIntS) (hM0 : M_impl_ReduceLetters p0 = some r) :
    Tr Try.prog 74 #[.slice ap0 np0 cp0] h fun v h' => ∃ (a0 : Option Addr) (n0 c0 : Nat), v = .slice a0 n0 c0 ∧ New wIntS h h' [.slice a0 n0 c0] r := by
  obtain ⟨rfl, lp0⟩ := Sl.len rp0
  unfold M_impl_ReduceLetters at hM0
  refine walk (args := [.slice ap0 p0.length cp0]) (fn := Try.f74) rfl ?_
  refine Or.inl ?_
  intro v1 k2 f3
  obtain ⟨az4, cz4, rfl, rz4, sz4, lz4⟩ := Froze.out (r := wIntS.toRp) f3 (show F2 (wIntS.R h) ([[.slice ap0 p0.length cp0]] : List (List Value)) [p0] from ⟨rp0, trivial⟩)
  obtain ⟨x5, gx5, hM0⟩ := bsome hM0
  refine Tr.mono (t_impl_product _ az4 ([p0]).length cz4 [p0] rz4 _  gx5) ?_
  rintro v7 k6 ⟨ax5, nx5, cx5, rfl, wx5⟩
  have sx5 : Sub k2 k6 := wx5.sub
  have rx5 := wx5.r
  obtain ⟨rfl, lx5⟩ := Sl.len rx5
  have hE := Option.some.inj hM0; subst hE
  exact ⟨ax5, x5.length, cx5, rfl, (New.from wx5 sz4)⟩

theorem t_impl_dehn (h0 : Hp) (h : Hp) (ap0 : Option Addr) (np0 cp0 : Nat) (p0 : LIntSS) (rp0 : wIntSS.R h [.slice ap0 np0 cp0] p0) (ap1 : Option Addr) (np1 cp1 : Nat) (p1 : LIntS) (rp1 : wIntS.R h [.slice ap1 np1 cp1] p1) (wwp1 : New wIntS h0 h [.slice ap1 np1 cp1] p1) (r : LIntS × Bool) (hM0 : M_impl_dehn p0 p1 = some r) :
    Tr Try.prog 73 #[.slice ap0 np0 cp0, .slice ap1 np1 cp1] h fun v h' => ∃ (a0 : Option Addr) (n0 c0 : Nat), v = .tuple #[.slice a0 n0 c0, .bool r.2] ∧ New wIntS h0 h' [.slice a0 n0 c0] r.1 ∧ Sub h h' := by
  obtain ⟨rfl, lp0⟩ := Sl.len rp0
  obtain ⟨rfl, lp1⟩ := Sl.len rp1
  unfold M_impl_dehn at hM0
  refine walk (args := [.slice ap0 p0.length cp0, .slice ap1 p1.length cp1]) (fn := Try.f73) rfl ?_
  obtain ⟨X1, hLX1, hM0⟩ := bsome hM0
  refine Exists.intro { vars := [12], boxes := [], owns := [], fuel := true } (Exists.intro (fun vs os h' => ∃ (u2 : Int), vs.tail = [.int .i64 u2] ∧ os = [] ∧ Sub h h' ∧ In64 u2 ∧ L_impl_dehn_1 p1 p0 (fuelOf vs) u2 = some X1) (Exists.intro (fun _ _ => 0) ?_))
  refine And.intro (Exists.intro FUEL ⟨0, rfl, rfl, (Sub.refl _), (c64 (by decide) (by decide)), hLX1⟩) ?_
  rintro v_0 m4 k3 ⟨u2, evX1, eoX1, sX1, iu2, hM1⟩
  cases evX1
  cases eoX1
  replace hM1 : L_impl_dehn_1 p1 p0 m4 u2 = some X1 := hM1
  obtain _ | m4 := m4
  · cases (show (none : Option _) = some X1 from hM1)
  rw [L_impl_dehn_1_succ] at hM1
  refine And.intro (fun hc5 => ?_) (fun hc5 => ?_)
  · have hc5 : ((decide (u2 < ((p1.length : Nat) : Int)))) = true := hc5
    rw [if_pos hc5] at hM1
    obtain ⟨X6, hLX6, hM1⟩ := bsome hM1
    refine Exists.intro { vars := [17], boxes := [], owns := [], fuel := true } (Exists.intro (fun vs os h' => ∃ (u7 : Int), vs.tail = [.int .i64 u7] ∧ os = [] ∧ Sub k3 h' ∧ In64 u7 ∧ L_impl_dehn_0 p0 p1 u2 (fuelOf vs) u7 = some X6) (Exists.intro (fun _ _ => 0) ?_))
    refine And.intro (Exists.intro FUEL ⟨0, rfl, rfl, (Sub.refl _), (c64 (by decide) (by decide)), hLX6⟩) ?_
    rintro v_0 m9 k8 ⟨u7, evX6, eoX6, sX6, iu7, hM2⟩
    cases evX6
    cases eoX6
    replace hM2 : L_impl_dehn_0 p0 p1 u2 m9 u7 = some X6 := hM2
    obtain _ | m9 := m9
    · cases (show (none : Option _) = some X6 from hM2)
    rw [L_impl_dehn_0_succ] at hM2
    refine And.intro (fun hc10 => ?_) (fun hc10 => ?_)
    · have hc10 : ((decide (u7 < ((p0.length : Nat) : Int)))) = true := hc10
      rw [if_pos hc10] at hM2
      obtain ⟨x11, gx11, hM2⟩ := bsome hM2
      obtain ⟨bx11, csx11, ex11, rx11⟩ := Sl.getI (r := wIntS.toRp) (wIntSS.mono (sX1.trans sX6) rp0) gx11 (by decide)
      refine And.intro bx11 ?_
      obtain ⟨ax11, nx11, cx11, rfl⟩ := Wp.slice_cell rx11
      obtain ⟨rfl, lx11⟩ := Sl.len rx11
      refine Exists.intro _ (And.intro ex11 ?_)
      obtain ⟨x12, gx12, hM2⟩ := bsome hM2
      obtain ⟨qx12, vsx12, ex12, fx12⟩ := Sl.cutI (r := Wp.int.toRp) (wIntS.mono (sX1.trans sX6) rp1) gx12
      refine And.intro qx12 (Exists.intro vsx12 (And.intro ex12 ?_))
      intro vx12 hvx12 _
      obtain ⟨ax12, cx12, rfl, rx12⟩ := fx12 vx12 hvx12
      have lx12 := (Sl.len rx12).2
      obtain ⟨x13, gx13, hM2⟩ := bsome hM2
      refine Tr.val (t_impl_common _ ax12 x12.length cx12 x12 rx12 ax11 x11.length cx11 x11 rx11 _  gx13) ?_
      obtain ⟨q14, gq14, hM2⟩ := bsome hM2
      have ix13 : In64 x13 := grd_some gq14
      refine And.intro (fun hc15 => ?_) (fun hc15 => ?_)
      · have hc15 : ((decide ((IntKind.i64.wrap (2 * x13)) > ((x11.length : Nat) : Int)))) = true := hc15
        rw [if_pos hc15] at hM2
        refine Or.inr (Or.inr (Or.inr (And.intro (And.intro (by kernel_rfl) (by kernel_rfl)) ?_)))
        obtain ⟨x16, gx16, hM2⟩ := bsome hM2
        refine Or.inr (Exists.intro (fun v hh => ∃ (a : Option Addr) (c : Nat), v = .slice a x16.length c ∧ wIntS.R hh [.slice a x16.length c] x16 ∧ x16.length ≤ 9223372036854775807) (And.intro (fun v h1 h2 sb q => by obtain ⟨a, c, e, r, l⟩ := q; exact ⟨a, c, e, wIntS.mono sb r, l⟩) (And.intro ?_ ?_)))
        · intro k17 s18
          obtain ⟨qx16, vsx16, ex16, fx16⟩ := Sl.cutI (r := Wp.int.toRp) (wIntS.mono ((sX1.trans sX6).trans s18) rp1) gx16
          refine And.intro qx16 (Exists.intro vsx16 (And.intro ex16 ?_))
          intro v hv _
          obtain ⟨a, c, rfl, r⟩ := fx16 v hv
          exact And.intro tail0 (And.intro (Sub.refl _) ⟨a, c, rfl, r, (Sl.len r).2⟩)
        obtain ⟨x19, gx19, hM2⟩ := bsome hM2
        refine Or.inr (Exists.intro (fun v hh => ∃ (a : Option Addr) (c : Nat), v = .slice a x19.length c ∧ wIntS.R hh [.slice a x19.length c] x19 ∧ x19.length ≤ 9223372036854775807) (And.intro (fun v h1 h2 sb q => by obtain ⟨a, c, e, r, l⟩ := q; exact ⟨a, c, e, wIntS.mono sb r, l⟩) (And.intro ?_ ?_)))
        · intro k20 s21
          obtain ⟨qx19, vsx19, ex19, fx19⟩ := Sl.cutI (r := Wp.int.toRp) (wIntS.mono s21 rx11) gx19
          refine And.intro qx19 (Exists.intro vsx19 (And.intro ex19 ?_))
          intro v hv _
          obtain ⟨a, c, rfl, r⟩ := fx19 v hv
          exact And.intro tail0 (And.intro (Sub.refl _) ⟨a, c, rfl, r, (Sl.len r).2⟩)
        obtain ⟨x22, gx22, hM2⟩ := bsome hM2
        refine Or.inr (Exists.intro (fun v hh => ∃ (a : Option Addr) (c : Nat), v = .slice a x22.length c ∧ New wIntS k8 hh [.slice a x22.length c] x22 ∧ x22.length ≤ 9223372036854775807) (And.intro (fun v h1 h2 sb q => by obtain ⟨a, c, e, r, l⟩ := q; exact ⟨a, c, e, New.mono r sb, l⟩) (And.intro ?_ ?_)))
        · intro k23 s24
          rintro _ ⟨az25, cz25, rfl, rz25, lz25⟩
          refine Tr.mono (t_impl_InvertWord _ az25 x19.length cz25 x19 rz25 _ gx22) ?_
          rintro _ kk ⟨ax22, nx22, cx22, rfl, wx22⟩
          have sb := wx22.sub
          have rx22 := wx22.r
          obtain ⟨rfl, lx22⟩ := Sl.len rx22
          exact And.intro tail0 (And.intro sb ⟨ax22, cx22, rfl, (New.from wx22 s24), lx22⟩)
        refine Or.inl (Exists.intro (.val (.int .i64 (IntKind.i64.wrap (u2 + x13)))) (And.intro ?_ ?_))
        · intro k26 s27
          exact And.intro rfl (And.intro rfl rfl)
        obtain ⟨x28, gx28, hM2⟩ := bsome hM2
        refine Or.inr (Exists.intro (fun v hh => ∃ (a : Option Addr) (c : Nat), v = .slice a x28.length c ∧ wIntS.R hh [.slice a x28.length c] x28 ∧ x28.length ≤ 9223372036854775807) (And.intro (fun v h1 h2 sb q => by obtain ⟨a, c, e, r, l⟩ := q; exact ⟨a, c, e, wIntS.mono sb r, l⟩) (And.intro ?_ ?_)))
        · intro k29 s30
          obtain ⟨qx28, vsx28, ex28, fx28⟩ := Sl.cutI (r := Wp.int.toRp) (wIntS.mono ((sX1.trans sX6).trans s30) rp1) gx28
          refine And.intro qx28 (Exists.intro vsx28 (And.intro ex28 ?_))
          intro v hv _
          obtain ⟨a, c, rfl, r⟩ := fx28 v hv
          exact And.intro tail0 (And.intro (Sub.refl _) ⟨a, c, rfl, r, (Sl.len r).2⟩)
        obtain ⟨x31, gx31, hM2⟩ := bsome hM2
        refine Or.inr (Exists.intro (fun v hh => ∃ (a : Option Addr) (c : Nat), v = .slice a x31.length c ∧ wIntSS.R hh [.slice a x31.length c] x31 ∧ x31.length ≤ 9223372036854775807) (And.intro (fun v h1 h2 sb q => by obtain ⟨a, c, e, r, l⟩ := q; exact ⟨a, c, e, wIntSS.mono sb r, l⟩) (And.intro ?_ ?_)))
        · intro k32 s33
          rintro _ ⟨az34, cz34, rfl, rz34, lz34⟩
          rintro _ ⟨az35, cz35, rfl, rz35, lz35⟩
          rintro _ ⟨az36, cz36, rfl, rz36, lz36⟩
          have ex31 : [x16, x22, x28] = x31 := Option.some.inj gx31
          intro v k hf
          obtain ⟨a, c, rfl, r, sb, l⟩ := Froze.out (r := wIntS.toRp) (xs := x31) hf (show F2 (wIntS.R k32) [[.slice az34 x16.length cz34], [.slice az35 x22.length cz35], [.slice az36 x28.length cz36]] x31 from ex31 ▸ (show F2 (wIntS.R k32) [[.slice az34 x16.length cz34], [.slice az35 x22.length cz35], [.slice az36 x28.length cz36]] [x16, x22, x28] from ⟨rz34, ⟨rz35.r, ⟨rz36, trivial⟩⟩⟩))
          exact And.intro ⟨rfl, rfl, rfl, [_], rfl⟩ (And.intro sb ⟨a, c, rfl, r, l⟩)
        obtain ⟨x37, gx37, hM2⟩ := bsome hM2
        refine Or.inr (Exists.intro (fun v hh => ∃ (a : Option Addr) (c : Nat), v = .slice a x37.length c ∧ New wIntS k8 hh [.slice a x37.length c] x37 ∧ x37.length ≤ 9223372036854775807) (And.intro (fun v h1 h2 sb q => by obtain ⟨a, c, e, r, l⟩ := q; exact ⟨a, c, e, New.mono r sb, l⟩) (And.intro ?_ ?_)))
        · intro k38 s39
          rintro _ ⟨az40, cz40, rfl, rz40, lz40⟩
          refine Tr.mono (t_impl_product _ az40 x31.length cz40 x31 rz40 _ gx37) ?_
          rintro _ kk ⟨ax37, nx37, cx37, rfl, wx37⟩
          have sb := wx37.sub
          have rx37 := wx37.r
          obtain ⟨rfl, lx37⟩ := Sl.len rx37
          exact And.intro tail0 (And.intro sb ⟨ax37, cx37, rfl, (New.from wx37 s39), lx37⟩)
        refine Or.inr (Exists.intro (fun v hh => ∃ (a : Option Addr) (c : Nat), v = .slice a x37.length c ∧ New wIntS k8 hh [.slice a x37.length c] x37 ∧ x37.length ≤ 9223372036854775807) (And.intro (fun v h1 h2 sb q => by obtain ⟨a, c, e, r, l⟩ := q; exact ⟨a, c, e, New.mono r sb, l⟩) (And.intro ?_ ?_)))
        · intro k41 s42
          rintro _ ⟨az43, cz43, rfl, rz43, lz43⟩
          exact And.intro tail0 (And.intro (Sub.refl _) ⟨az43, cz43, rfl, rz43, lz43⟩)
        intro k44 s45
        rintro _ ⟨az46, cz46, rfl, rz46, lz46⟩
        rintro _ ⟨az47, cz47, rfl, rz47, lz47⟩
        rintro _ ⟨az48, cz48, rfl, rz48, lz48⟩
        rintro _ ⟨az49, cz49, rfl, rz49, lz49⟩
        rintro _ ⟨az50, cz50, rfl, rz50, lz50⟩
        rintro _ ⟨az51, cz51, rfl, rz51, lz51⟩
        rintro _ ⟨az52, cz52, rfl, rz52, lz52⟩
        have hE := Option.some.inj hM2; subst hE
        try dsimp only [outK_inl, outL_inl] at hM1
        have hE := Option.some.inj hM1; subst hE
        try dsimp only [outK_inl, outL_inl] at hM0
        have hE := Option.some.inj hM0; subst hE
        exact ⟨az46, x37.length, cz46, rfl, (New.from rz46 ((wwp1.sub.trans sX1).trans sX6)), ((sX1.trans sX6).trans s45)⟩
      · have hc15 : ((decide ((IntKind.i64.wrap (2 * x13)) > ((x11.length : Nat) : Int)))) = false := hc15
        rw [if_neg (bneT hc15)] at hM2
        refine And.intro rfl (And.intro (by first | exact trivial | exact And.intro rfl trivial | exact And.intro rfl (And.intro rfl trivial) | exact And.intro rfl (And.intro rfl (And.intro rfl trivial)) | exact And.intro rfl (And.intro rfl (And.intro rfl (And.intro rfl trivial)))) (And.intro (by first | exact trivial | exact And.intro rfl trivial | exact And.intro rfl (And.intro rfl trivial) | exact And.intro rfl (And.intro rfl (And.intro rfl trivial)) | exact And.intro rfl (And.intro rfl (And.intro rfl (And.intro rfl trivial)))) (Exists.intro m9 (And.intro ⟨(IntKind.i64.wrap (u7 + 1)), rfl, rfl, sX6, (wrap64 _), hM2⟩ (Nat.lt_succ_self _)))))
    · have hc10 : ((decide (u7 < ((p0.length : Nat) : Int)))) = false := hc10
      rw [if_neg (bneT hc10)] at hM2
      have hE := Option.some.inj hM2; subst hE
      try dsimp only [outK_inr, outL_inr] at hM1
      refine And.intro rfl (And.intro (by first | exact trivial | exact And.intro rfl trivial | exact And.intro rfl (And.intro rfl trivial) | exact And.intro rfl (And.intro rfl (And.intro rfl trivial)) | exact And.intro rfl (And.intro rfl (And.intro rfl (And.intro rfl trivial)))) (And.intro (by first | exact trivial | exact And.intro rfl trivial | exact And.intro rfl (And.intro rfl trivial) | exact And.intro rfl (And.intro rfl (And.intro rfl trivial)) | exact And.intro rfl (And.intro rfl (And.intro rfl (And.intro rfl trivial)))) (Exists.intro m4 (And.intro ⟨(IntKind.i64.wrap (u2 + 1)), rfl, rfl, (sX1.trans sX6), (wrap64 _), hM1⟩ (Nat.lt_succ_self _)))))
  · have hc5 : ((decide (u2 < ((p1.length : Nat) : Int)))) = false := hc5
    rw [if_neg (bneT hc5)] at hM1
    have hE := Option.some.inj hM1; subst hE
    try dsimp only [outK_inr, outL_inr] at hM0
    have hE := Option.some.inj hM0; subst hE
    exact ⟨ap1, p1.length, cp1, rfl, (New.mono wwp1 sX1), sX1⟩

end Go.Proofs.Ythccjgkmmclplaa
