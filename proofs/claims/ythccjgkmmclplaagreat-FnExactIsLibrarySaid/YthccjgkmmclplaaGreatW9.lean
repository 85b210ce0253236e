/- The walks of batch 9. -/
import Derived.Test.YthccjgkmmclplaaGreatA9
import Derived.Test.YthccjgkmmclplaaGreatChecked
import Derived.Test.YthccjgkmmclplaaGreatH35
import Derived.Test.YthccjgkmmclplaaGreatW1
import Derived.Test.YthccjgkmmclplaaGreatW4g
import Derived.Test.YthccjgkmmclplaaGreatSI
namespace Go.Proofs.YthccjgkmmclplaaGreat
open Go.H
set_option linter.unusedVariables false
set_option linter.unusedSimpArgs false
set_option maxRecDepth 10000
theorem t_spec_l4Add (h : Hp) (ap0 : Option Addr) (np0 cp0 : Nat) (p0 : LIntS) (rp0 : wIntS.R h [.slice ap0 np0 cp0] p0) (p1 : Int) (ip1 : In64 p1) (r : LIntS) (hM0 : M_spec_l4Add p0 p1 = some r) :
    Tr Tryz.prog 159 #[.slice ap0 np0 cp0, .int .i64 p1] h fun v h' => ∃ (a0 : Option Addr) (n0 c0 : Nat), v = .slice a0 n0 c0 ∧ wIntS.R h' [.slice a0 n0 c0] r ∧ Sub h h' := by
  obtain ⟨rfl, lp0⟩ := Sl.len rp0
  unfold M_spec_l4Add at hM0
  refine walk (args := [.slice ap0 p0.length cp0, .int .i64 p1]) (fn := Tryz.f159) rfl ?_
  obtain ⟨X1, hLX1, hM0⟩ := bsome hM0
  refine Exists.intro { vars := [6, 7], boxes := [], owns := [0], fuel := true } (Exists.intro (fun vs os h' => ∃ (u2 : Bool) (u3 : Int) (wu4 : List (List Value)) (u4 : List Int), vs.tail = [.bool u2, .int .i64 u3] ∧ os = [wu4] ∧ Sub h h' ∧ In64 u3 ∧ F2 (Wp.int.R h') wu4 u4 ∧ L_spec_l4Add_0 p0 p1 (fuelOf vs) u2 u3 u4 = some X1) (Exists.intro (fun _ _ => 0) ?_))
  refine And.intro (Exists.intro FUEL ⟨false, 0, [], ([] : LIntS), rfl, rfl, (Sub.refl _), (c64 (by decide) (by decide)), (show F2 (Wp.int.R h) ([] : List (List Value)) ([] : LIntS) from trivial), hLX1⟩) ?_
  rintro v_0 v_1 wu4 m6 k5 ⟨u2, u3, zzu4, u4, evX1, eoX1, sX1, iu3, fu4, hM1⟩
  cases evX1
  cases eoX1
  replace hM1 : L_spec_l4Add_0 p0 p1 m6 u2 u3 u4 = some X1 := hM1
  obtain _ | m6 := m6
  · cases (show (none : Option _) = some X1 from hM1)
  rw [L_spec_l4Add_0_succ] at hM1
  refine And.intro (fun hc7 => ?_) (fun hc7 => ?_)
  · have hc7 : ((decide (u3 < ((p0.length : Nat) : Int)))) = true := hc7
    rw [if_pos hc7] at hM1
    obtain ⟨x8, gx8, hM1⟩ := bsome hM1
    obtain ⟨bx8, csx8, ex8, rx8⟩ := Sl.getI (r := Wp.int.toRp) (wIntS.mono sX1 rp0) gx8 (by decide)
    refine And.intro bx8 ?_
    obtain ⟨rfl, ix8⟩ := rx8
    refine Exists.intro _ (And.intro ex8 ?_)
    refine And.intro (fun hc9 => ?_) (fun hc9 => ?_)
    · have hc9 : ((decide (x8 = p1))) = true := hc9
      rw [if_pos hc9] at hM1
      obtain ⟨x10, gx10, hM1⟩ := bsome hM1
      obtain ⟨bx10, csx10, ex10, rx10⟩ := Sl.getI (r := Wp.int.toRp) (wIntS.mono sX1 rp0) gx10 (by decide)
      refine And.intro bx10 ?_
      obtain ⟨rfl, ix10⟩ := rx10
      refine Exists.intro _ (And.intro ex10 ?_)
      refine And.intro (fun hc11 => ?_) (fun hc11 => ?_)
      · have hc11 : ((bif (decide (x10 > p1)) then (!true) else false)) = true := hc11
        rw [if_pos hc11] at hM1
        obtain ⟨q12, gq12, hM1⟩ := bsome hM1
        refine And.intro (room_of gq12 (by first | rw [F2.length fu4, F2.length (show F2 (Wp.int.R k5) ([[.int .i64 p1]] : List (List Value)) [p1] from ⟨⟨rfl, ip1⟩, trivial⟩)] | exact congrArg (· + 1) (F2.length fu4))) ?_
        obtain ⟨x13, gx13, hM1⟩ := bsome hM1
        obtain ⟨bx13, csx13, ex13, rx13⟩ := Sl.getI (r := Wp.int.toRp) (wIntS.mono sX1 rp0) gx13 (by decide)
        refine And.intro bx13 ?_
        obtain ⟨rfl, ix13⟩ := rx13
        refine Exists.intro _ (And.intro ex13 ?_)
        obtain ⟨q14, gq14, hM1⟩ := bsome hM1
        refine And.intro (room_of gq14 (by first | rw [F2.length (F2.append fu4 (show F2 (Wp.int.R k5) ([[.int .i64 p1]] : List (List Value)) [p1] from ⟨⟨rfl, ip1⟩, trivial⟩)), F2.length (show F2 (Wp.int.R k5) ([[.int .i64 x13]] : List (List Value)) [x13] from ⟨⟨rfl, ix13⟩, trivial⟩)] | exact congrArg (· + 1) (F2.length (F2.append fu4 (show F2 (Wp.int.R k5) ([[.int .i64 p1]] : List (List Value)) [p1] from ⟨⟨rfl, ip1⟩, trivial⟩))))) ?_
        refine And.intro rfl (And.intro (by first | exact trivial | exact And.intro rfl trivial | exact And.intro rfl (And.intro rfl trivial) | exact And.intro rfl (And.intro rfl (And.intro rfl trivial)) | exact And.intro rfl (And.intro rfl (And.intro rfl (And.intro rfl trivial)))) (And.intro (by first | exact trivial | exact And.intro rfl trivial | exact And.intro rfl (And.intro rfl trivial) | exact And.intro rfl (And.intro rfl (And.intro rfl trivial)) | exact And.intro rfl (And.intro rfl (And.intro rfl (And.intro rfl trivial)))) (Exists.intro m6 (And.intro ⟨true, (IntKind.i64.wrap (u3 + 1)), ((wu4 ++ ([[.int .i64 p1]] : List (List Value))) ++ ([[.int .i64 x13]] : List (List Value))), ((u4 ++ [p1]) ++ [x13]), rfl, rfl, sX1, (wrap64 _), (F2.append (F2.append fu4 (show F2 (Wp.int.R k5) ([[.int .i64 p1]] : List (List Value)) [p1] from ⟨⟨rfl, ip1⟩, trivial⟩)) (show F2 (Wp.int.R k5) ([[.int .i64 x13]] : List (List Value)) [x13] from ⟨⟨rfl, ix13⟩, trivial⟩)), hM1⟩ (Nat.lt_succ_self _)))))
      · have hc11 : ((bif (decide (x10 > p1)) then (!true) else false)) = false := hc11
        rw [if_neg (bneT hc11)] at hM1
        obtain ⟨x15, gx15, hM1⟩ := bsome hM1
        obtain ⟨bx15, csx15, ex15, rx15⟩ := Sl.getI (r := Wp.int.toRp) (wIntS.mono sX1 rp0) gx15 (by decide)
        refine And.intro bx15 ?_
        obtain ⟨rfl, ix15⟩ := rx15
        refine Exists.intro _ (And.intro ex15 ?_)
        obtain ⟨q16, gq16, hM1⟩ := bsome hM1
        refine And.intro (room_of gq16 (by first | rw [F2.length fu4, F2.length (show F2 (Wp.int.R k5) ([[.int .i64 x15]] : List (List Value)) [x15] from ⟨⟨rfl, ix15⟩, trivial⟩)] | exact congrArg (· + 1) (F2.length fu4))) ?_
        refine And.intro rfl (And.intro (by first | exact trivial | exact And.intro rfl trivial | exact And.intro rfl (And.intro rfl trivial) | exact And.intro rfl (And.intro rfl (And.intro rfl trivial)) | exact And.intro rfl (And.intro rfl (And.intro rfl (And.intro rfl trivial)))) (And.intro (by first | exact trivial | exact And.intro rfl trivial | exact And.intro rfl (And.intro rfl trivial) | exact And.intro rfl (And.intro rfl (And.intro rfl trivial)) | exact And.intro rfl (And.intro rfl (And.intro rfl (And.intro rfl trivial)))) (Exists.intro m6 (And.intro ⟨true, (IntKind.i64.wrap (u3 + 1)), (wu4 ++ ([[.int .i64 x15]] : List (List Value))), (u4 ++ [x15]), rfl, rfl, sX1, (wrap64 _), (F2.append fu4 (show F2 (Wp.int.R k5) ([[.int .i64 x15]] : List (List Value)) [x15] from ⟨⟨rfl, ix15⟩, trivial⟩)), hM1⟩ (Nat.lt_succ_self _)))))
    · have hc9 : ((decide (x8 = p1))) = false := hc9
      rw [if_neg (bneT hc9)] at hM1
      obtain ⟨x17, gx17, hM1⟩ := bsome hM1
      obtain ⟨bx17, csx17, ex17, rx17⟩ := Sl.getI (r := Wp.int.toRp) (wIntS.mono sX1 rp0) gx17 (by decide)
      refine And.intro bx17 ?_
      obtain ⟨rfl, ix17⟩ := rx17
      refine Exists.intro _ (And.intro ex17 ?_)
      refine And.intro (fun hc18 => ?_) (fun hc18 => ?_)
      · have hc18 : ((bif (decide (x17 > p1)) then (!u2) else false)) = true := hc18
        rw [if_pos hc18] at hM1
        obtain ⟨q19, gq19, hM1⟩ := bsome hM1
        refine And.intro (room_of gq19 (by first | rw [F2.length fu4, F2.length (show F2 (Wp.int.R k5) ([[.int .i64 p1]] : List (List Value)) [p1] from ⟨⟨rfl, ip1⟩, trivial⟩)] | exact congrArg (· + 1) (F2.length fu4))) ?_
        obtain ⟨x20, gx20, hM1⟩ := bsome hM1
        obtain ⟨bx20, csx20, ex20, rx20⟩ := Sl.getI (r := Wp.int.toRp) (wIntS.mono sX1 rp0) gx20 (by decide)
        refine And.intro bx20 ?_
        obtain ⟨rfl, ix20⟩ := rx20
        refine Exists.intro _ (And.intro ex20 ?_)
        obtain ⟨q21, gq21, hM1⟩ := bsome hM1
        refine And.intro (room_of gq21 (by first | rw [F2.length (F2.append fu4 (show F2 (Wp.int.R k5) ([[.int .i64 p1]] : List (List Value)) [p1] from ⟨⟨rfl, ip1⟩, trivial⟩)), F2.length (show F2 (Wp.int.R k5) ([[.int .i64 x20]] : List (List Value)) [x20] from ⟨⟨rfl, ix20⟩, trivial⟩)] | exact congrArg (· + 1) (F2.length (F2.append fu4 (show F2 (Wp.int.R k5) ([[.int .i64 p1]] : List (List Value)) [p1] from ⟨⟨rfl, ip1⟩, trivial⟩))))) ?_
        refine And.intro rfl (And.intro (by first | exact trivial | exact And.intro rfl trivial | exact And.intro rfl (And.intro rfl trivial) | exact And.intro rfl (And.intro rfl (And.intro rfl trivial)) | exact And.intro rfl (And.intro rfl (And.intro rfl (And.intro rfl trivial)))) (And.intro (by first | exact trivial | exact And.intro rfl trivial | exact And.intro rfl (And.intro rfl trivial) | exact And.intro rfl (And.intro rfl (And.intro rfl trivial)) | exact And.intro rfl (And.intro rfl (And.intro rfl (And.intro rfl trivial)))) (Exists.intro m6 (And.intro ⟨true, (IntKind.i64.wrap (u3 + 1)), ((wu4 ++ ([[.int .i64 p1]] : List (List Value))) ++ ([[.int .i64 x20]] : List (List Value))), ((u4 ++ [p1]) ++ [x20]), rfl, rfl, sX1, (wrap64 _), (F2.append (F2.append fu4 (show F2 (Wp.int.R k5) ([[.int .i64 p1]] : List (List Value)) [p1] from ⟨⟨rfl, ip1⟩, trivial⟩)) (show F2 (Wp.int.R k5) ([[.int .i64 x20]] : List (List Value)) [x20] from ⟨⟨rfl, ix20⟩, trivial⟩)), hM1⟩ (Nat.lt_succ_self _)))))
      · have hc18 : ((bif (decide (x17 > p1)) then (!u2) else false)) = false := hc18
        rw [if_neg (bneT hc18)] at hM1
        obtain ⟨x22, gx22, hM1⟩ := bsome hM1
        obtain ⟨bx22, csx22, ex22, rx22⟩ := Sl.getI (r := Wp.int.toRp) (wIntS.mono sX1 rp0) gx22 (by decide)
        refine And.intro bx22 ?_
        obtain ⟨rfl, ix22⟩ := rx22
        refine Exists.intro _ (And.intro ex22 ?_)
        obtain ⟨q23, gq23, hM1⟩ := bsome hM1
        refine And.intro (room_of gq23 (by first | rw [F2.length fu4, F2.length (show F2 (Wp.int.R k5) ([[.int .i64 x22]] : List (List Value)) [x22] from ⟨⟨rfl, ix22⟩, trivial⟩)] | exact congrArg (· + 1) (F2.length fu4))) ?_
        refine And.intro rfl (And.intro (by first | exact trivial | exact And.intro rfl trivial | exact And.intro rfl (And.intro rfl trivial) | exact And.intro rfl (And.intro rfl (And.intro rfl trivial)) | exact And.intro rfl (And.intro rfl (And.intro rfl (And.intro rfl trivial)))) (And.intro (by first | exact trivial | exact And.intro rfl trivial | exact And.intro rfl (And.intro rfl trivial) | exact And.intro rfl (And.intro rfl (And.intro rfl trivial)) | exact And.intro rfl (And.intro rfl (And.intro rfl (And.intro rfl trivial)))) (Exists.intro m6 (And.intro ⟨u2, (IntKind.i64.wrap (u3 + 1)), (wu4 ++ ([[.int .i64 x22]] : List (List Value))), (u4 ++ [x22]), rfl, rfl, sX1, (wrap64 _), (F2.append fu4 (show F2 (Wp.int.R k5) ([[.int .i64 x22]] : List (List Value)) [x22] from ⟨⟨rfl, ix22⟩, trivial⟩)), hM1⟩ (Nat.lt_succ_self _)))))
  · have hc7 : ((decide (u3 < ((p0.length : Nat) : Int)))) = false := hc7
    rw [if_neg (bneT hc7)] at hM1
    have hE := Option.some.inj hM1; subst hE
    try dsimp only [outK_inr, outL_inr] at hM0
    refine And.intro (fun hc24 => ?_) (fun hc24 => ?_)
    · have hc24 : ((!u2)) = true := hc24
      rw [if_pos hc24] at hM0
      obtain ⟨q25, gq25, hM0⟩ := bsome hM0
      refine And.intro (room_of gq25 (by first | rw [F2.length fu4, F2.length (show F2 (Wp.int.R k5) ([[.int .i64 p1]] : List (List Value)) [p1] from ⟨⟨rfl, ip1⟩, trivial⟩)] | exact congrArg (· + 1) (F2.length fu4))) ?_
      intro v26 k27 f28
      obtain ⟨az29, cz29, rfl, rz29, sz29, lz29⟩ := Froze.out (r := Wp.int.toRp) f28 (F2.append fu4 (show F2 (Wp.int.R k5) ([[.int .i64 p1]] : List (List Value)) [p1] from ⟨⟨rfl, ip1⟩, trivial⟩))
      have hE := Option.some.inj hM0; subst hE
      exact ⟨az29, ((u4 ++ [p1])).length, cz29, rfl, rz29, (sX1.trans sz29)⟩
    · have hc24 : ((!u2)) = false := hc24
      rw [if_neg (bneT hc24)] at hM0
      intro v30 k31 f32
      obtain ⟨az33, cz33, rfl, rz33, sz33, lz33⟩ := Froze.out (r := Wp.int.toRp) f32 fu4
      have hE := Option.some.inj hM0; subst hE
      exact ⟨az33, u4.length, cz33, rfl, rz33, (sX1.trans sz33)⟩

theorem t_spec_l4Has (h : Hp) (ap0 : Option Addr) (np0 cp0 : Nat) (p0 : LIntS) (rp0 : wIntS.R h [.slice ap0 np0 cp0] p0) (p1 : Int) (ip1 : In64 p1) (r : Bool) (hM0 : M_spec_l4Has p0 p1 = some r) :
    Tr Tryz.prog 91 #[.slice ap0 np0 cp0, .int .i64 p1] h fun v h' => v = .bool r ∧ h' = h := by
  obtain ⟨rfl, lp0⟩ := Sl.len rp0
  unfold M_spec_l4Has at hM0
  refine Tr.forget (walk (args := [.slice ap0 p0.length cp0, .int .i64 p1]) (fn := Tryz.f91) rfl ?_)
  obtain ⟨X1, hLX1, hM0⟩ := bsome hM0
  refine Exists.intro { vars := [5], boxes := [], owns := [], fuel := true } (Exists.intro (fun vs os h' => ∃ (u2 : Int), vs.tail = [.int .i64 u2] ∧ os = [] ∧ Sub h h' ∧ In64 u2 ∧ L_spec_l4Has_0 p0 p1 (fuelOf vs) u2 = some X1) (Exists.intro (fun _ _ => 0) ?_))
  refine And.intro (Exists.intro FUEL ⟨0, rfl, rfl, (Sub.refl _), (c64 (by decide) (by decide)), hLX1⟩) ?_
  rintro v_0 m4 k3 ⟨u2, evX1, eoX1, sX1, iu2, hM1⟩
  cases evX1
  cases eoX1
  replace hM1 : L_spec_l4Has_0 p0 p1 m4 u2 = some X1 := hM1
  obtain _ | m4 := m4
  · cases (show (none : Option _) = some X1 from hM1)
  rw [L_spec_l4Has_0_succ] at hM1
  refine And.intro (fun hc5 => ?_) (fun hc5 => ?_)
  · have hc5 : ((decide (u2 < ((p0.length : Nat) : Int)))) = true := hc5
    rw [if_pos hc5] at hM1
    obtain ⟨x6, gx6, hM1⟩ := bsome hM1
    obtain ⟨bx6, csx6, ex6, rx6⟩ := Sl.getI (r := Wp.int.toRp) (wIntS.mono sX1 rp0) gx6 (by decide)
    refine And.intro bx6 ?_
    obtain ⟨rfl, ix6⟩ := rx6
    refine Exists.intro _ (And.intro ex6 ?_)
    refine And.intro (fun hc7 => ?_) (fun hc7 => ?_)
    · have hc7 : ((decide (x6 = p1))) = true := hc7
      rw [if_pos hc7] at hM1
      have hE := Option.some.inj hM1; subst hE
      try dsimp only [outK_inl, outL_inl] at hM0
      have hE := Option.some.inj hM0; subst hE
      exact And.intro rfl sX1
    · have hc7 : ((decide (x6 = p1))) = false := hc7
      rw [if_neg (bneT hc7)] at hM1
      refine And.intro rfl (And.intro (by first | exact trivial | exact And.intro rfl trivial | exact And.intro rfl (And.intro rfl trivial) | exact And.intro rfl (And.intro rfl (And.intro rfl trivial)) | exact And.intro rfl (And.intro rfl (And.intro rfl (And.intro rfl trivial)))) (And.intro (by first | exact trivial | exact And.intro rfl trivial | exact And.intro rfl (And.intro rfl trivial) | exact And.intro rfl (And.intro rfl (And.intro rfl trivial)) | exact And.intro rfl (And.intro rfl (And.intro rfl (And.intro rfl trivial)))) (Exists.intro m4 (And.intro ⟨(IntKind.i64.wrap (u2 + 1)), rfl, rfl, sX1, (wrap64 _), hM1⟩ (Nat.lt_succ_self _)))))
  · have hc5 : ((decide (u2 < ((p0.length : Nat) : Int)))) = false := hc5
    rw [if_neg (bneT hc5)] at hM1
    have hE := Option.some.inj hM1; subst hE
    try dsimp only [outK_inr, outL_inr] at hM0
    have hE := Option.some.inj hM0; subst hE
    exact And.intro rfl sX1

theorem t_spec_StepsFrom (h : Hp) (csp0 : List Value) (p0 : LGraph) (rp0 : wGraph.R h csp0 p0) (p1 : Int) (ip1 : In64 p1) (p2 : Int) (ip2 : In64 p2) (r : LIntS) (hM0 : M_spec_StepsFrom p0 p1 p2 = some r) :
    Tr Tryz.prog 142 #[.agg csp0.toArray, .int .i64 p1, .int .i64 p2] h fun v h' => ∃ (a0 : Option Addr) (n0 c0 : Nat), v = .slice a0 n0 c0 ∧ wIntS.R h' [.slice a0 n0 c0] r ∧ Sub h h' := by
  obtain ⟨p0_0, p0_1, ap0_2, np0_2, cp0_2, p0_2, rfl, rfl, ip0_0, ip0_1, rp0_2⟩ := openGraph rp0
  obtain ⟨rfl, lp0_2⟩ := Sl.len rp0_2
  unfold M_spec_StepsFrom at hM0
  dsimp only at hM0
  refine walk (args := [.agg #[.int .i64 p0_0, .int .i64 p0_1, .slice ap0_2 p0_2.length cp0_2], .int .i64 p1, .int .i64 p2]) (fn := Tryz.f142) rfl ?_
  obtain ⟨X5, hLX5, hM0⟩ := bsome hM0
  refine Exists.intro { vars := [7, 8], boxes := [], owns := [], fuel := true, pubs := [7, 10] } (Exists.intro (fun vs os h' => ∃ (au6 : Option Addr) (nu6 cu6 : Nat) (u6 : LIntS) (u7 : Int), vs.tail = [.slice au6 nu6 cu6, .int .i64 u7] ∧ os = [] ∧ Sub h h' ∧ wIntS.R h' [.slice au6 nu6 cu6] u6 ∧ In64 u7 ∧ L_spec_StepsFrom_0 p0_2 p2 p1 (fuelOf vs) u6 u7 = some X5) (Exists.intro (fun _ _ => 0) ?_))
  intro v1 k2 f3
  obtain ⟨az4, cz4, rfl, rz4, sz4, lz4⟩ := Froze.out (r := Wp.int.toRp) f3 (show F2 (Wp.int.R h) ([] : List (List Value)) ([] : LIntS) from trivial)
  refine And.intro (Exists.intro FUEL ⟨az4, (([] : LIntS)).length, cz4, ([] : LIntS), 0, rfl, rfl, sz4, rz4, (c64 (by decide) (by decide)), hLX5⟩) ?_
  rintro v_0 v_1 m9 k8 ⟨au6, nu6, cu6, u6, u7, evX5, eoX5, sX5, ru6, iu7, hM1⟩
  cases evX5
  cases eoX5
  replace hM1 : L_spec_StepsFrom_0 p0_2 p2 p1 m9 u6 u7 = some X5 := hM1
  obtain _ | m9 := m9
  · cases (show (none : Option _) = some X5 from hM1)
  rw [L_spec_StepsFrom_0_succ] at hM1
  obtain ⟨rfl, lu6⟩ := Sl.len ru6
  refine And.intro (fun hc10 => ?_) (fun hc10 => ?_)
  · have hc10 : ((decide (u7 < ((p0_2.length : Nat) : Int)))) = true := hc10
    rw [if_pos hc10] at hM1
    obtain ⟨x11, gx11, hM1⟩ := bsome hM1
    obtain ⟨bx11, csx11, ex11, rx11⟩ := Sl.getI (r := wEdge.toRp) (wEdgeS.mono sX5 rp0_2) gx11 (by decide)
    refine And.intro bx11 ?_
    obtain ⟨x11_0, x11_1, x11_2, rfl, rfl, ix11_0, ix11_1, ix11_2⟩ := openEdge rx11
    dsimp only at hM1
    refine Exists.intro _ (And.intro ex11 ?_)
    refine And.intro (fun hc12 => ?_) (fun hc12 => ?_)
    · have hc12 : ((bif (bif (decide (p2 > 0)) then (decide (x11_1 = p2)) else false) then (decide (x11_0 = p1)) else false)) = true := hc12
      rw [if_pos hc12] at hM1
      obtain ⟨x13, gx13, hM1⟩ := bsome hM1
      refine Tr.mono (t_spec_l4Add _ au6 u6.length cu6 u6 ru6 x11_2 ix11_2 _  gx13) ?_
      rintro v15 k14 ⟨ax13, nx13, cx13, rfl, rx13, sx13⟩
      obtain ⟨rfl, lx13⟩ := Sl.len rx13
      refine And.intro (fun hc16 => ?_) (fun hc16 => ?_)
      · have hc16 : ((bif (bif (decide (p2 < 0)) then (decide (x11_1 = (IntKind.i64.wrap (0 - p2)))) else false) then (decide (x11_2 = p1)) else false)) = true := hc16
        rw [if_pos hc16] at hM1
        obtain ⟨x17, gx17, hM1⟩ := bsome hM1
        refine Tr.mono (t_spec_l4Add _ ax13 x13.length cx13 x13 rx13 x11_0 ix11_0 _  gx17) ?_
        rintro v19 k18 ⟨ax17, nx17, cx17, rfl, rx17, sx17⟩
        obtain ⟨rfl, lx17⟩ := Sl.len rx17
        refine And.intro rfl (And.intro (by first | exact trivial | exact And.intro rfl trivial | exact And.intro rfl (And.intro rfl trivial) | exact And.intro rfl (And.intro rfl (And.intro rfl trivial)) | exact And.intro rfl (And.intro rfl (And.intro rfl (And.intro rfl trivial)))) (And.intro (by first | exact trivial | exact And.intro rfl trivial | exact And.intro rfl (And.intro rfl trivial) | exact And.intro rfl (And.intro rfl (And.intro rfl trivial)) | exact And.intro rfl (And.intro rfl (And.intro rfl (And.intro rfl trivial)))) (Exists.intro m9 (And.intro ⟨ax17, x17.length, cx17, x17, (IntKind.i64.wrap (u7 + 1)), rfl, rfl, ((sX5.trans sx13).trans sx17), rx17, (wrap64 _), hM1⟩ (Nat.lt_succ_self _)))))
      · have hc16 : ((bif (bif (decide (p2 < 0)) then (decide (x11_1 = (IntKind.i64.wrap (0 - p2)))) else false) then (decide (x11_2 = p1)) else false)) = false := hc16
        rw [if_neg (bneT hc16)] at hM1
        refine And.intro rfl (And.intro (by first | exact trivial | exact And.intro rfl trivial | exact And.intro rfl (And.intro rfl trivial) | exact And.intro rfl (And.intro rfl (And.intro rfl trivial)) | exact And.intro rfl (And.intro rfl (And.intro rfl (And.intro rfl trivial)))) (And.intro (by first | exact trivial | exact And.intro rfl trivial | exact And.intro rfl (And.intro rfl trivial) | exact And.intro rfl (And.intro rfl (And.intro rfl trivial)) | exact And.intro rfl (And.intro rfl (And.intro rfl (And.intro rfl trivial)))) (Exists.intro m9 (And.intro ⟨ax13, x13.length, cx13, x13, (IntKind.i64.wrap (u7 + 1)), rfl, rfl, (sX5.trans sx13), rx13, (wrap64 _), hM1⟩ (Nat.lt_succ_self _)))))
    · have hc12 : ((bif (bif (decide (p2 > 0)) then (decide (x11_1 = p2)) else false) then (decide (x11_0 = p1)) else false)) = false := hc12
      rw [if_neg (bneT hc12)] at hM1
      refine And.intro (fun hc20 => ?_) (fun hc20 => ?_)
      · have hc20 : ((bif (bif (decide (p2 < 0)) then (decide (x11_1 = (IntKind.i64.wrap (0 - p2)))) else false) then (decide (x11_2 = p1)) else false)) = true := hc20
        rw [if_pos hc20] at hM1
        obtain ⟨x21, gx21, hM1⟩ := bsome hM1
        refine Tr.mono (t_spec_l4Add _ au6 u6.length cu6 u6 ru6 x11_0 ix11_0 _  gx21) ?_
        rintro v23 k22 ⟨ax21, nx21, cx21, rfl, rx21, sx21⟩
        obtain ⟨rfl, lx21⟩ := Sl.len rx21
        refine And.intro rfl (And.intro (by first | exact trivial | exact And.intro rfl trivial | exact And.intro rfl (And.intro rfl trivial) | exact And.intro rfl (And.intro rfl (And.intro rfl trivial)) | exact And.intro rfl (And.intro rfl (And.intro rfl (And.intro rfl trivial)))) (And.intro (by first | exact trivial | exact And.intro rfl trivial | exact And.intro rfl (And.intro rfl trivial) | exact And.intro rfl (And.intro rfl (And.intro rfl trivial)) | exact And.intro rfl (And.intro rfl (And.intro rfl (And.intro rfl trivial)))) (Exists.intro m9 (And.intro ⟨ax21, x21.length, cx21, x21, (IntKind.i64.wrap (u7 + 1)), rfl, rfl, (sX5.trans sx21), rx21, (wrap64 _), hM1⟩ (Nat.lt_succ_self _)))))
      · have hc20 : ((bif (bif (decide (p2 < 0)) then (decide (x11_1 = (IntKind.i64.wrap (0 - p2)))) else false) then (decide (x11_2 = p1)) else false)) = false := hc20
        rw [if_neg (bneT hc20)] at hM1
        refine And.intro rfl (And.intro (by first | exact trivial | exact And.intro rfl trivial | exact And.intro rfl (And.intro rfl trivial) | exact And.intro rfl (And.intro rfl (And.intro rfl trivial)) | exact And.intro rfl (And.intro rfl (And.intro rfl (And.intro rfl trivial)))) (And.intro (by first | exact trivial | exact And.intro rfl trivial | exact And.intro rfl (And.intro rfl trivial) | exact And.intro rfl (And.intro rfl (And.intro rfl trivial)) | exact And.intro rfl (And.intro rfl (And.intro rfl (And.intro rfl trivial)))) (Exists.intro m9 (And.intro ⟨au6, u6.length, cu6, u6, (IntKind.i64.wrap (u7 + 1)), rfl, rfl, sX5, ru6, (wrap64 _), hM1⟩ (Nat.lt_succ_self _)))))
  · have hc10 : ((decide (u7 < ((p0_2.length : Nat) : Int)))) = false := hc10
    rw [if_neg (bneT hc10)] at hM1
    have hE := Option.some.inj hM1; subst hE
    try dsimp only [outK_inr, outL_inr] at hM0
    have hE := Option.some.inj hM0; subst hE
    exact ⟨au6, u6.length, cu6, rfl, ru6, sX5⟩

theorem t_spec_NextVertex (h : Hp) (csp0 : List Value) (p0 : LGraph) (rp0 : wGraph.R h csp0 p0) (p1 : Int) (ip1 : In64 p1) (p2 : Int) (ip2 : In64 p2) (r : Int) (hM0 : M_spec_NextVertex p0 p1 p2 = some r) :
    Tr Tryz.prog 111 #[.agg csp0.toArray, .int .i64 p1, .int .i64 p2] h fun v h' => v = .int .i64 r ∧ h' = h := by
  obtain ⟨p0_0, p0_1, ap0_2, np0_2, cp0_2, p0_2, rfl, rfl, ip0_0, ip0_1, rp0_2⟩ := openGraph rp0
  obtain ⟨rfl, lp0_2⟩ := Sl.len rp0_2
  unfold M_spec_NextVertex at hM0
  dsimp only at hM0
  refine Tr.forget (walk (args := [.agg #[.int .i64 p0_0, .int .i64 p0_1, .slice ap0_2 p0_2.length cp0_2], .int .i64 p1, .int .i64 p2]) (fn := Tryz.f111) rfl ?_)
  obtain ⟨x1, gx1, hM0⟩ := bsome hM0
  refine Tr.mono (t_spec_StepsFrom _ [.int .i64 p0_0, .int .i64 p0_1, .slice ap0_2 p0_2.length cp0_2] (p0_0, p0_1, p0_2) (closeGraph ip0_0 ip0_1 rp0_2) p1 ip1 p2 ip2 _  gx1) ?_
  rintro v3 k2 ⟨ax1, nx1, cx1, rfl, rx1, sx1⟩
  obtain ⟨rfl, lx1⟩ := Sl.len rx1
  refine And.intro (fun hc4 => ?_) (fun hc4 => ?_)
  · have hc4 : ((decide (((x1.length : Nat) : Int) = 0))) = true := hc4
    rw [if_pos hc4] at hM0
    have hE := Option.some.inj hM0; subst hE
    exact And.intro rfl sx1
  · have hc4 : ((decide (((x1.length : Nat) : Int) = 0))) = false := hc4
    rw [if_neg (bneT hc4)] at hM0
    obtain ⟨x5, gx5, hM0⟩ := bsome hM0
    obtain ⟨bx5, csx5, ex5, rx5⟩ := Sl.getI (r := Wp.int.toRp) rx1 gx5 (by decide)
    refine And.intro bx5 ?_
    obtain ⟨rfl, ix5⟩ := rx5
    refine Exists.intro _ (And.intro ex5 ?_)
    have hE := Option.some.inj hM0; subst hE
    exact And.intro rfl sx1

theorem t_spec_IsFolded (h : Hp) (csp0 : List Value) (p0 : LGraph) (rp0 : wGraph.R h csp0 p0) (r : Bool) (hM0 : M_spec_IsFolded p0 = some r) :
    Tr Tryz.prog 65 #[.agg csp0.toArray] h fun v h' => v = .bool r ∧ h' = h := by
  obtain ⟨p0_0, p0_1, ap0_2, np0_2, cp0_2, p0_2, rfl, rfl, ip0_0, ip0_1, rp0_2⟩ := openGraph rp0
  obtain ⟨rfl, lp0_2⟩ := Sl.len rp0_2
  unfold M_spec_IsFolded at hM0
  dsimp only at hM0
  refine Tr.forget (walk (args := [.agg #[.int .i64 p0_0, .int .i64 p0_1, .slice ap0_2 p0_2.length cp0_2]]) (fn := Tryz.f65) rfl ?_)
  obtain ⟨X1, hLX1, hM0⟩ := bsome hM0
  refine Exists.intro { vars := [3], boxes := [], owns := [], fuel := true } (Exists.intro (fun vs os h' => ∃ (u2 : Int), vs.tail = [.int .i64 u2] ∧ os = [] ∧ Sub h h' ∧ In64 u2 ∧ L_spec_IsFolded_1 p0_2 p0_0 p0_1 (fuelOf vs) u2 = some X1) (Exists.intro (fun _ _ => 0) ?_))
  refine And.intro (Exists.intro FUEL ⟨0, rfl, rfl, (Sub.refl _), (c64 (by decide) (by decide)), hLX1⟩) ?_
  rintro v_0 m4 k3 ⟨u2, evX1, eoX1, sX1, iu2, hM1⟩
  cases evX1
  cases eoX1
  replace hM1 : L_spec_IsFolded_1 p0_2 p0_0 p0_1 m4 u2 = some X1 := hM1
  obtain _ | m4 := m4
  · cases (show (none : Option _) = some X1 from hM1)
  rw [L_spec_IsFolded_1_succ] at hM1
  obtain ⟨x5, gx5, hM1⟩ := bsome hM1
  refine Exists.intro (.bool x5) (And.intro (fun q => t_spec_IsGraph _ [.int .i64 p0_0, .int .i64 p0_1, .slice ap0_2 p0_2.length cp0_2] (p0_0, p0_1, p0_2) (closeGraph ip0_0 ip0_1 (wEdgeS.mono sX1 rp0_2)) _  (chk_some gx5 q)) ?_)
  refine And.intro (fun hc6 => ?_) (fun hc6 => ?_)
  · have hc6 : ((bif (decide (u2 < ((p0_2.length : Nat) : Int))) then x5 else false)) = true := hc6
    rw [if_pos hc6] at hM1
    obtain ⟨X7, hLX7, hM1⟩ := bsome hM1
    refine Exists.intro { vars := [4], boxes := [], owns := [], fuel := true } (Exists.intro (fun vs os h' => ∃ (u8 : Int), vs.tail = [.int .i64 u8] ∧ os = [] ∧ Sub k3 h' ∧ In64 u8 ∧ L_spec_IsFolded_0 u2 p0_2 (fuelOf vs) u8 = some X7) (Exists.intro (fun _ _ => 0) ?_))
    refine And.intro (Exists.intro FUEL ⟨0, rfl, rfl, (Sub.refl _), (c64 (by decide) (by decide)), hLX7⟩) ?_
    rintro v_0 m10 k9 ⟨u8, evX7, eoX7, sX7, iu8, hM2⟩
    cases evX7
    cases eoX7
    replace hM2 : L_spec_IsFolded_0 u2 p0_2 m10 u8 = some X7 := hM2
    obtain _ | m10 := m10
    · cases (show (none : Option _) = some X7 from hM2)
    rw [L_spec_IsFolded_0_succ] at hM2
    refine And.intro (fun hc11 => ?_) (fun hc11 => ?_)
    · have hc11 : ((decide (u8 < u2))) = true := hc11
      rw [if_pos hc11] at hM2
      obtain ⟨x12, gx12, hM2⟩ := bsome hM2
      obtain ⟨bx12, csx12, ex12, rx12⟩ := Sl.getI (r := wEdge.toRp) (wEdgeS.mono (sX1.trans sX7) rp0_2) gx12 (by decide)
      refine And.intro bx12 ?_
      obtain ⟨x12_0, x12_1, x12_2, rfl, rfl, ix12_0, ix12_1, ix12_2⟩ := openEdge rx12
      dsimp only at hM2
      refine Exists.intro _ (And.intro ex12 ?_)
      obtain ⟨x13, gx13, hM2⟩ := bsome hM2
      obtain ⟨bx13, csx13, ex13, rx13⟩ := Sl.getI (r := wEdge.toRp) (wEdgeS.mono (sX1.trans sX7) rp0_2) gx13 (by decide)
      refine And.intro bx13 ?_
      obtain ⟨x13_0, x13_1, x13_2, rfl, rfl, ix13_0, ix13_1, ix13_2⟩ := openEdge rx13
      dsimp only at hM2
      refine Exists.intro _ (And.intro ex13 ?_)
      refine And.intro (fun hc14 => ?_) (fun hc14 => ?_)
      · have hc14 : ((bif (decide (x12_1 = x13_1)) then (bif (decide (x12_0 = x13_0)) then true else (decide (x12_2 = x13_2))) else false)) = true := hc14
        rw [if_pos hc14] at hM2
        have hE := Option.some.inj hM2; subst hE
        try dsimp only [outK_inl, outL_inl] at hM1
        have hE := Option.some.inj hM1; subst hE
        try dsimp only [outK_inl, outL_inl] at hM0
        have hE := Option.some.inj hM0; subst hE
        exact And.intro rfl (sX1.trans sX7)
      · have hc14 : ((bif (decide (x12_1 = x13_1)) then (bif (decide (x12_0 = x13_0)) then true else (decide (x12_2 = x13_2))) else false)) = false := hc14
        rw [if_neg (bneT hc14)] at hM2
        refine And.intro rfl (And.intro (by first | exact trivial | exact And.intro rfl trivial | exact And.intro rfl (And.intro rfl trivial) | exact And.intro rfl (And.intro rfl (And.intro rfl trivial)) | exact And.intro rfl (And.intro rfl (And.intro rfl (And.intro rfl trivial)))) (And.intro (by first | exact trivial | exact And.intro rfl trivial | exact And.intro rfl (And.intro rfl trivial) | exact And.intro rfl (And.intro rfl (And.intro rfl trivial)) | exact And.intro rfl (And.intro rfl (And.intro rfl (And.intro rfl trivial)))) (Exists.intro m10 (And.intro ⟨(IntKind.i64.wrap (u8 + 1)), rfl, rfl, sX7, (wrap64 _), hM2⟩ (Nat.lt_succ_self _)))))
    · have hc11 : ((decide (u8 < u2))) = false := hc11
      rw [if_neg (bneT hc11)] at hM2
      have hE := Option.some.inj hM2; subst hE
      try dsimp only [outK_inr, outL_inr] at hM1
      refine And.intro rfl (And.intro (by first | exact trivial | exact And.intro rfl trivial | exact And.intro rfl (And.intro rfl trivial) | exact And.intro rfl (And.intro rfl (And.intro rfl trivial)) | exact And.intro rfl (And.intro rfl (And.intro rfl (And.intro rfl trivial)))) (And.intro (by first | exact trivial | exact And.intro rfl trivial | exact And.intro rfl (And.intro rfl trivial) | exact And.intro rfl (And.intro rfl (And.intro rfl trivial)) | exact And.intro rfl (And.intro rfl (And.intro rfl (And.intro rfl trivial)))) (Exists.intro m4 (And.intro ⟨(IntKind.i64.wrap (u2 + 1)), rfl, rfl, (sX1.trans sX7), (wrap64 _), hM1⟩ (Nat.lt_succ_self _)))))
  · have hc6 : ((bif (decide (u2 < ((p0_2.length : Nat) : Int))) then x5 else false)) = false := hc6
    rw [if_neg (bneT hc6)] at hM1
    have hE := Option.some.inj hM1; subst hE
    try dsimp only [outK_inr, outL_inr] at hM0
    obtain ⟨x18, gx18, hM0⟩ := bsome hM0
    refine Tr.val (t_spec_IsGraph _ [.int .i64 p0_0, .int .i64 p0_1, .slice ap0_2 p0_2.length cp0_2] (p0_0, p0_1, p0_2) (closeGraph ip0_0 ip0_1 (wEdgeS.mono sX1 rp0_2)) _  gx18) ?_
    have hE := Option.some.inj hM0; subst hE
    exact And.intro rfl sX1

theorem t_spec_WalkWord (h : Hp) (csp0 : List Value) (p0 : LGraph) (rp0 : wGraph.R h csp0 p0) (p1 : Int) (ip1 : In64 p1) (ap2 : Option Addr) (np2 cp2 : Nat) (p2 : LIntS) (rp2 : wIntS.R h [.slice ap2 np2 cp2] p2) (r : Int × Bool) (hM0 : M_spec_WalkWord p0 p1 p2 = some r) :
    Tr Tryz.prog 107 #[.agg csp0.toArray, .int .i64 p1, .slice ap2 np2 cp2] h fun v h' => v = .tuple #[.int .i64 r.1, .bool r.2] ∧ h' = h := by
  obtain ⟨p0_0, p0_1, ap0_2, np0_2, cp0_2, p0_2, rfl, rfl, ip0_0, ip0_1, rp0_2⟩ := openGraph rp0
  obtain ⟨rfl, lp0_2⟩ := Sl.len rp0_2
  obtain ⟨rfl, lp2⟩ := Sl.len rp2
  unfold M_spec_WalkWord at hM0
  dsimp only at hM0
  refine Tr.forget (walk (args := [.agg #[.int .i64 p0_0, .int .i64 p0_1, .slice ap0_2 p0_2.length cp0_2], .int .i64 p1, .slice ap2 p2.length cp2]) (fn := Tryz.f107) rfl ?_)
  obtain ⟨x1, gx1, hM0⟩ := bsome hM0
  refine Tr.val (t_spec_IsFolded _ [.int .i64 p0_0, .int .i64 p0_1, .slice ap0_2 p0_2.length cp0_2] (p0_0, p0_1, p0_2) (closeGraph ip0_0 ip0_1 rp0_2) _  gx1) ?_
  obtain ⟨x2, gx2, hM0⟩ := bsome hM0
  refine Exists.intro (.bool x2) (And.intro (fun q => t_spec_l1In _ p1 ip1 0 (c64 (by decide) (by decide)) (IntKind.i64.wrap (p0_1 - 1)) (wrap64 _) _  (chk_some gx2 q)) ?_)
  refine And.intro (fun hc3 => ?_) (fun hc3 => ?_)
  · have hc3 : ((bif (!x1) then true else (!x2))) = true := hc3
    rw [if_pos hc3] at hM0
    have hE := Option.some.inj hM0; subst hE
    exact And.intro rfl (Sub.refl _)
  · have hc3 : ((bif (!x1) then true else (!x2))) = false := hc3
    rw [if_neg (bneT hc3)] at hM0
    obtain ⟨X4, hLX4, hM0⟩ := bsome hM0
    refine Exists.intro { vars := [1, 8], boxes := [], owns := [], fuel := true } (Exists.intro (fun vs os h' => ∃ (u5 : Int) (u6 : Int), vs.tail = [.int .i64 u5, .int .i64 u6] ∧ os = [] ∧ Sub h h' ∧ In64 u5 ∧ In64 u6 ∧ L_spec_WalkWord_0 p2 p0_0 p0_1 p0_2 (fuelOf vs) u5 u6 = some X4) (Exists.intro (fun _ _ => 0) ?_))
    refine And.intro (Exists.intro FUEL ⟨p1, 0, rfl, rfl, (Sub.refl _), ip1, (c64 (by decide) (by decide)), hLX4⟩) ?_
    rintro v_0 v_1 m8 k7 ⟨u5, u6, evX4, eoX4, sX4, iu5, iu6, hM1⟩
    cases evX4
    cases eoX4
    replace hM1 : L_spec_WalkWord_0 p2 p0_0 p0_1 p0_2 m8 u5 u6 = some X4 := hM1
    obtain _ | m8 := m8
    · cases (show (none : Option _) = some X4 from hM1)
    rw [L_spec_WalkWord_0_succ] at hM1
    refine And.intro (fun hc9 => ?_) (fun hc9 => ?_)
    · have hc9 : ((decide (u6 < ((p2.length : Nat) : Int)))) = true := hc9
      rw [if_pos hc9] at hM1
      refine Or.inl (And.intro (And.intro (by kernel_rfl) (by kernel_rfl)) ?_)
      obtain ⟨x10, gx10, hM1⟩ := bsome hM1
      obtain ⟨bx10, csx10, ex10, rx10⟩ := Sl.getI (r := Wp.int.toRp) (wIntS.mono sX4 rp2) gx10 (by decide)
      refine And.intro bx10 ?_
      obtain ⟨rfl, ix10⟩ := rx10
      refine Exists.intro _ (And.intro ex10 ?_)
      obtain ⟨x11, gx11, hM1⟩ := bsome hM1
      refine Exists.intro (.int .i64 x11) (And.intro (t_spec_NextVertex _ [.int .i64 p0_0, .int .i64 p0_1, .slice ap0_2 p0_2.length cp0_2] (p0_0, p0_1, p0_2) (closeGraph ip0_0 ip0_1 (wEdgeS.mono sX4 rp0_2)) u5 iu5 x10 ix10 _  gx11) ?_)
      obtain ⟨q12, gq12, hM1⟩ := bsome hM1
      have ix11 : In64 x11 := grd_some gq12
      refine And.intro (fun hc13 => ?_) (fun hc13 => ?_)
      · have hc13 : ((decide (x11 < 0))) = true := hc13
        rw [if_pos hc13] at hM1
        have hE := Option.some.inj hM1; subst hE
        try dsimp only [outK_inl, outL_inl] at hM0
        have hE := Option.some.inj hM0; subst hE
        exact And.intro rfl sX4
      · have hc13 : ((decide (x11 < 0))) = false := hc13
        rw [if_neg (bneT hc13)] at hM1
        refine And.intro rfl (And.intro (by first | exact trivial | exact And.intro rfl trivial | exact And.intro rfl (And.intro rfl trivial) | exact And.intro rfl (And.intro rfl (And.intro rfl trivial)) | exact And.intro rfl (And.intro rfl (And.intro rfl (And.intro rfl trivial)))) (And.intro (by first | exact trivial | exact And.intro rfl trivial | exact And.intro rfl (And.intro rfl trivial) | exact And.intro rfl (And.intro rfl (And.intro rfl trivial)) | exact And.intro rfl (And.intro rfl (And.intro rfl (And.intro rfl trivial)))) (Exists.intro m8 (And.intro ⟨x11, (IntKind.i64.wrap (u6 + 1)), rfl, rfl, sX4, ix11, (wrap64 _), hM1⟩ (Nat.lt_succ_self _)))))
    · have hc9 : ((decide (u6 < ((p2.length : Nat) : Int)))) = false := hc9
      rw [if_neg (bneT hc9)] at hM1
      have hE := Option.some.inj hM1; subst hE
      try dsimp only [outK_inr, outL_inr] at hM0
      have hE := Option.some.inj hM0; subst hE
      exact And.intro rfl sX4

theorem t_impl_StepsFrom (h : Hp) (csp0 : List Value) (p0 : LGraph) (rp0 : wGraph.R h csp0 p0) (p1 : Int) (ip1 : In64 p1) (p2 : Int) (ip2 : In64 p2) (r : LIntS) (hM0 : M_impl_StepsFrom p0 p1 p2 = some r) :
    Tr Tryz.prog 147 #[.agg csp0.toArray, .int .i64 p1, .int .i64 p2] h fun v h' => ∃ (a0 : Option Addr) (n0 c0 : Nat), v = .slice a0 n0 c0 ∧ New wIntS h h' [.slice a0 n0 c0] r := by
  obtain ⟨p0_0, p0_1, ap0_2, np0_2, cp0_2, p0_2, rfl, rfl, ip0_0, ip0_1, rp0_2⟩ := openGraph rp0
  obtain ⟨rfl, lp0_2⟩ := Sl.len rp0_2
  unfold M_impl_StepsFrom at hM0
  dsimp only at hM0
  refine walk (args := [.agg #[.int .i64 p0_0, .int .i64 p0_1, .slice ap0_2 p0_2.length cp0_2], .int .i64 p1, .int .i64 p2]) (fn := Tryz.f147) rfl ?_
  obtain ⟨X1, hLX1, hM0⟩ := bsome hM0
  refine Exists.intro { vars := [14], boxes := [], owns := [0], fuel := true } (Exists.intro (fun vs os h' => ∃ (u2 : Int) (wu3 : List (List Value)) (u3 : List Int), vs.tail = [.int .i64 u2] ∧ os = [wu3] ∧ Sub h h' ∧ In64 u2 ∧ F2 (Wp.int.R h') wu3 u3 ∧ L_impl_StepsFrom_0 p0_2 p2 p1 (fuelOf vs) u2 u3 = some X1) (Exists.intro (fun _ _ => 0) ?_))
  refine And.intro (Exists.intro FUEL ⟨0, [], ([] : LIntS), rfl, rfl, (Sub.refl _), (c64 (by decide) (by decide)), (show F2 (Wp.int.R h) ([] : List (List Value)) ([] : LIntS) from trivial), hLX1⟩) ?_
  rintro v_0 wu3 m5 k4 ⟨u2, zzu3, u3, evX1, eoX1, sX1, iu2, fu3, hM1⟩
  cases evX1
  cases eoX1
  replace hM1 : L_impl_StepsFrom_0 p0_2 p2 p1 m5 u2 u3 = some X1 := hM1
  obtain _ | m5 := m5
  · cases (show (none : Option _) = some X1 from hM1)
  rw [L_impl_StepsFrom_0_succ] at hM1
  refine And.intro (fun hc6 => ?_) (fun hc6 => ?_)
  · have hc6 : ((decide (u2 < ((p0_2.length : Nat) : Int)))) = true := hc6
    rw [if_pos hc6] at hM1
    obtain ⟨x7, gx7, hM1⟩ := bsome hM1
    obtain ⟨bx7, csx7, ex7, rx7⟩ := Sl.getI (r := wEdge.toRp) (wEdgeS.mono sX1 rp0_2) gx7 (by decide)
    refine And.intro bx7 ?_
    obtain ⟨x7_0, x7_1, x7_2, rfl, rfl, ix7_0, ix7_1, ix7_2⟩ := openEdge rx7
    dsimp only at hM1
    refine Exists.intro _ (And.intro ex7 ?_)
    refine And.intro (fun hc8 => ?_) (fun hc8 => ?_)
    · have hc8 : ((bif (bif (decide (p2 > 0)) then (decide (x7_1 = p2)) else false) then (decide (x7_0 = p1)) else false)) = true := hc8
      rw [if_pos hc8] at hM1
      obtain ⟨q9, gq9, hM1⟩ := bsome hM1
      refine And.intro (room_of gq9 (by first | rw [F2.length fu3, F2.length (show F2 (Wp.int.R k4) ([[.int .i64 x7_2]] : List (List Value)) [x7_2] from ⟨⟨rfl, ix7_2⟩, trivial⟩)] | exact congrArg (· + 1) (F2.length fu3))) ?_
      refine And.intro rfl (And.intro (by first | exact trivial | exact And.intro rfl trivial | exact And.intro rfl (And.intro rfl trivial) | exact And.intro rfl (And.intro rfl (And.intro rfl trivial)) | exact And.intro rfl (And.intro rfl (And.intro rfl (And.intro rfl trivial)))) (And.intro (by first | exact trivial | exact And.intro rfl trivial | exact And.intro rfl (And.intro rfl trivial) | exact And.intro rfl (And.intro rfl (And.intro rfl trivial)) | exact And.intro rfl (And.intro rfl (And.intro rfl (And.intro rfl trivial)))) (Exists.intro m5 (And.intro ⟨(IntKind.i64.wrap (u2 + 1)), (wu3 ++ ([[.int .i64 x7_2]] : List (List Value))), (u3 ++ [x7_2]), rfl, rfl, sX1, (wrap64 _), (F2.append fu3 (show F2 (Wp.int.R k4) ([[.int .i64 x7_2]] : List (List Value)) [x7_2] from ⟨⟨rfl, ix7_2⟩, trivial⟩)), hM1⟩ (Nat.lt_succ_self _)))))
    · have hc8 : ((bif (bif (decide (p2 > 0)) then (decide (x7_1 = p2)) else false) then (decide (x7_0 = p1)) else false)) = false := hc8
      rw [if_neg (bneT hc8)] at hM1
      refine And.intro (fun hc10 => ?_) (fun hc10 => ?_)
      · have hc10 : ((bif (bif (bif (decide (p2 < 0)) then (!decide (p2 = (-9223372036854775808))) else false) then (decide (x7_1 = (IntKind.i64.wrap (0 - p2)))) else false) then (decide (x7_2 = p1)) else false)) = true := hc10
        rw [if_pos hc10] at hM1
        obtain ⟨q11, gq11, hM1⟩ := bsome hM1
        refine And.intro (room_of gq11 (by first | rw [F2.length fu3, F2.length (show F2 (Wp.int.R k4) ([[.int .i64 x7_0]] : List (List Value)) [x7_0] from ⟨⟨rfl, ix7_0⟩, trivial⟩)] | exact congrArg (· + 1) (F2.length fu3))) ?_
        refine And.intro rfl (And.intro (by first | exact trivial | exact And.intro rfl trivial | exact And.intro rfl (And.intro rfl trivial) | exact And.intro rfl (And.intro rfl (And.intro rfl trivial)) | exact And.intro rfl (And.intro rfl (And.intro rfl (And.intro rfl trivial)))) (And.intro (by first | exact trivial | exact And.intro rfl trivial | exact And.intro rfl (And.intro rfl trivial) | exact And.intro rfl (And.intro rfl (And.intro rfl trivial)) | exact And.intro rfl (And.intro rfl (And.intro rfl (And.intro rfl trivial)))) (Exists.intro m5 (And.intro ⟨(IntKind.i64.wrap (u2 + 1)), (wu3 ++ ([[.int .i64 x7_0]] : List (List Value))), (u3 ++ [x7_0]), rfl, rfl, sX1, (wrap64 _), (F2.append fu3 (show F2 (Wp.int.R k4) ([[.int .i64 x7_0]] : List (List Value)) [x7_0] from ⟨⟨rfl, ix7_0⟩, trivial⟩)), hM1⟩ (Nat.lt_succ_self _)))))
      · have hc10 : ((bif (bif (bif (decide (p2 < 0)) then (!decide (p2 = (-9223372036854775808))) else false) then (decide (x7_1 = (IntKind.i64.wrap (0 - p2)))) else false) then (decide (x7_2 = p1)) else false)) = false := hc10
        rw [if_neg (bneT hc10)] at hM1
        refine And.intro rfl (And.intro (by first | exact trivial | exact And.intro rfl trivial | exact And.intro rfl (And.intro rfl trivial) | exact And.intro rfl (And.intro rfl (And.intro rfl trivial)) | exact And.intro rfl (And.intro rfl (And.intro rfl (And.intro rfl trivial)))) (And.intro (by first | exact trivial | exact And.intro rfl trivial | exact And.intro rfl (And.intro rfl trivial) | exact And.intro rfl (And.intro rfl (And.intro rfl trivial)) | exact And.intro rfl (And.intro rfl (And.intro rfl (And.intro rfl trivial)))) (Exists.intro m5 (And.intro ⟨(IntKind.i64.wrap (u2 + 1)), wu3, u3, rfl, rfl, sX1, (wrap64 _), fu3, hM1⟩ (Nat.lt_succ_self _)))))
  · have hc6 : ((decide (u2 < ((p0_2.length : Nat) : Int)))) = false := hc6
    rw [if_neg (bneT hc6)] at hM1
    have hE := Option.some.inj hM1; subst hE
    try dsimp only [outK_inr, outL_inr] at hM0
    refine Or.inl ?_
    intro v12 k13 f14
    obtain ⟨q15, gq15, hM0⟩ := bsome hM0
    refine Tr.mono (t_sortInts _ f14 fu3 (grd_some gq15)) ?_
    rintro _ kz16 ⟨rfl, vsz16, fz16, qz16⟩
    obtain ⟨az16, cz16, rfl, rz16, sz16, lz16⟩ := Froze.out (r := Wp.int.toRp) fz16 qz16
    refine Tr.mono (t_compInts _ fz16 qz16) ?_
    rintro _ kz17 ⟨vsz17, fz17, qz17⟩
    obtain ⟨az17, cz17, rfl, rz17, sz17, lz17⟩ := Froze.out (r := Wp.int.toRp) fz17 qz17
    have hE := Option.some.inj hM0; subst hE
    exact ⟨az17, ((compL eqI (srtL cmpI u3))).length, cz17, rfl, (New.from (Froze.newPlain (r := Wp.int) fz17 qz17 (plInt _)) sX1)⟩

theorem t_impl_NextVertex (h : Hp) (csp0 : List Value) (p0 : LGraph) (rp0 : wGraph.R h csp0 p0) (p1 : Int) (ip1 : In64 p1) (p2 : Int) (ip2 : In64 p2) (r : Int) (hM0 : M_impl_NextVertex p0 p1 p2 = some r) :
    Tr Tryz.prog 122 #[.agg csp0.toArray, .int .i64 p1, .int .i64 p2] h fun v h' => v = .int .i64 r ∧ h' = h := by
  obtain ⟨p0_0, p0_1, ap0_2, np0_2, cp0_2, p0_2, rfl, rfl, ip0_0, ip0_1, rp0_2⟩ := openGraph rp0
  obtain ⟨rfl, lp0_2⟩ := Sl.len rp0_2
  unfold M_impl_NextVertex at hM0
  dsimp only at hM0
  refine Tr.forget (walk (args := [.agg #[.int .i64 p0_0, .int .i64 p0_1, .slice ap0_2 p0_2.length cp0_2], .int .i64 p1, .int .i64 p2]) (fn := Tryz.f122) rfl ?_)
  obtain ⟨x1, gx1, hM0⟩ := bsome hM0
  refine Tr.mono (t_impl_StepsFrom _ [.int .i64 p0_0, .int .i64 p0_1, .slice ap0_2 p0_2.length cp0_2] (p0_0, p0_1, p0_2) (closeGraph ip0_0 ip0_1 rp0_2) p1 ip1 p2 ip2 _  gx1) ?_
  rintro v3 k2 ⟨ax1, nx1, cx1, rfl, wx1⟩
  have sx1 : Sub h k2 := wx1.sub
  have rx1 := wx1.r
  obtain ⟨rfl, lx1⟩ := Sl.len rx1
  refine And.intro (fun hc4 => ?_) (fun hc4 => ?_)
  · have hc4 : ((decide (((x1.length : Nat) : Int) = 0))) = true := hc4
    rw [if_pos hc4] at hM0
    have hE := Option.some.inj hM0; subst hE
    exact And.intro rfl sx1
  · have hc4 : ((decide (((x1.length : Nat) : Int) = 0))) = false := hc4
    rw [if_neg (bneT hc4)] at hM0
    obtain ⟨x5, gx5, hM0⟩ := bsome hM0
    obtain ⟨bx5, csx5, ex5, rx5⟩ := Sl.getI (r := Wp.int.toRp) rx1 gx5 (by decide)
    refine And.intro bx5 ?_
    obtain ⟨rfl, ix5⟩ := rx5
    refine Exists.intro _ (And.intro ex5 ?_)
    have hE := Option.some.inj hM0; subst hE
    exact And.intro rfl sx1

theorem t_impl_IsFolded (h : Hp) (csp0 : List Value) (p0 : LGraph) (rp0 : wGraph.R h csp0 p0) (r : Bool) (hM0 : M_impl_IsFolded p0 = some r) :
    Tr Tryz.prog 74 #[.agg csp0.toArray] h fun v h' => v = .bool r ∧ h' = h := by
  obtain ⟨p0_0, p0_1, ap0_2, np0_2, cp0_2, p0_2, rfl, rfl, ip0_0, ip0_1, rp0_2⟩ := openGraph rp0
  obtain ⟨rfl, lp0_2⟩ := Sl.len rp0_2
  unfold M_impl_IsFolded at hM0
  dsimp only at hM0
  refine Tr.forget (walk (args := [.agg #[.int .i64 p0_0, .int .i64 p0_1, .slice ap0_2 p0_2.length cp0_2]]) (fn := Tryz.f74) rfl ?_)
  obtain ⟨x1, gx1, hM0⟩ := bsome hM0
  refine Tr.val (t_impl_IsGraph _ [.int .i64 p0_0, .int .i64 p0_1, .slice ap0_2 p0_2.length cp0_2] (p0_0, p0_1, p0_2) (closeGraph ip0_0 ip0_1 rp0_2) _  gx1) ?_
  refine And.intro (fun hc2 => ?_) (fun hc2 => ?_)
  · have hc2 : ((!x1)) = true := hc2
    rw [if_pos hc2] at hM0
    have hE := Option.some.inj hM0; subst hE
    exact And.intro rfl (Sub.refl _)
  · have hc2 : ((!x1)) = false := hc2
    rw [if_neg (bneT hc2)] at hM0
    obtain ⟨X3, hLX3, hM0⟩ := bsome hM0
    refine Exists.intro { vars := [13], boxes := [], owns := [], fuel := true } (Exists.intro (fun vs os h' => ∃ (u4 : Int), vs.tail = [.int .i64 u4] ∧ os = [] ∧ Sub h h' ∧ In64 u4 ∧ L_impl_IsFolded_1 p0_2 (fuelOf vs) u4 = some X3) (Exists.intro (fun _ _ => 0) ?_))
    refine And.intro (Exists.intro FUEL ⟨0, rfl, rfl, (Sub.refl _), (c64 (by decide) (by decide)), hLX3⟩) ?_
    rintro v_0 m6 k5 ⟨u4, evX3, eoX3, sX3, iu4, hM1⟩
    cases evX3
    cases eoX3
    replace hM1 : L_impl_IsFolded_1 p0_2 m6 u4 = some X3 := hM1
    obtain _ | m6 := m6
    · cases (show (none : Option _) = some X3 from hM1)
    rw [L_impl_IsFolded_1_succ] at hM1
    refine And.intro (fun hc7 => ?_) (fun hc7 => ?_)
    · have hc7 : ((decide (u4 < ((p0_2.length : Nat) : Int)))) = true := hc7
      rw [if_pos hc7] at hM1
      obtain ⟨x8, gx8, hM1⟩ := bsome hM1
      obtain ⟨bx8, csx8, ex8, rx8⟩ := Sl.getI (r := wEdge.toRp) (wEdgeS.mono sX3 rp0_2) gx8 (by decide)
      refine And.intro bx8 ?_
      obtain ⟨x8_0, x8_1, x8_2, rfl, rfl, ix8_0, ix8_1, ix8_2⟩ := openEdge rx8
      dsimp only at hM1
      refine Exists.intro _ (And.intro ex8 ?_)
      obtain ⟨x9, gx9, hM1⟩ := bsome hM1
      obtain ⟨qx9, vsx9, ex9, fx9⟩ := Sl.cutI (r := wEdge.toRp) (wEdgeS.mono sX3 rp0_2) gx9
      refine And.intro qx9 (Exists.intro vsx9 (And.intro ex9 ?_))
      intro vx9 hvx9 _
      obtain ⟨ax9, cx9, rfl, rx9⟩ := fx9 vx9 hvx9
      have lx9 := (Sl.len rx9).2
      obtain ⟨X10, hLX10, hM1⟩ := bsome hM1
      refine Exists.intro { vars := [24], boxes := [], owns := [], fuel := true } (Exists.intro (fun vs os h' => ∃ (u11 : Int), vs.tail = [.int .i64 u11] ∧ os = [] ∧ Sub k5 h' ∧ In64 u11 ∧ L_impl_IsFolded_0 x9 x8_1 x8_0 x8_2 (fuelOf vs) u11 = some X10) (Exists.intro (fun _ _ => 0) ?_))
      refine And.intro (Exists.intro FUEL ⟨0, rfl, rfl, (Sub.refl _), (c64 (by decide) (by decide)), hLX10⟩) ?_
      rintro v_0 m13 k12 ⟨u11, evX10, eoX10, sX10, iu11, hM2⟩
      cases evX10
      cases eoX10
      replace hM2 : L_impl_IsFolded_0 x9 x8_1 x8_0 x8_2 m13 u11 = some X10 := hM2
      obtain _ | m13 := m13
      · cases (show (none : Option _) = some X10 from hM2)
      rw [L_impl_IsFolded_0_succ] at hM2
      refine And.intro (fun hc14 => ?_) (fun hc14 => ?_)
      · have hc14 : ((decide (u11 < ((x9.length : Nat) : Int)))) = true := hc14
        rw [if_pos hc14] at hM2
        obtain ⟨x15, gx15, hM2⟩ := bsome hM2
        obtain ⟨bx15, csx15, ex15, rx15⟩ := Sl.getI (r := wEdge.toRp) (wEdgeS.mono sX10 rx9) gx15 (by decide)
        refine And.intro bx15 ?_
        obtain ⟨x15_0, x15_1, x15_2, rfl, rfl, ix15_0, ix15_1, ix15_2⟩ := openEdge rx15
        dsimp only at hM2
        refine Exists.intro _ (And.intro ex15 ?_)
        refine And.intro (fun hc16 => ?_) (fun hc16 => ?_)
        · have hc16 : ((bif (decide (x8_1 = x15_1)) then (bif (decide (x8_0 = x15_0)) then true else (decide (x8_2 = x15_2))) else false)) = true := hc16
          rw [if_pos hc16] at hM2
          have hE := Option.some.inj hM2; subst hE
          try dsimp only [outK_inl, outL_inl] at hM1
          have hE := Option.some.inj hM1; subst hE
          try dsimp only [outK_inl, outL_inl] at hM0
          have hE := Option.some.inj hM0; subst hE
          exact And.intro rfl (sX3.trans sX10)
        · have hc16 : ((bif (decide (x8_1 = x15_1)) then (bif (decide (x8_0 = x15_0)) then true else (decide (x8_2 = x15_2))) else false)) = false := hc16
          rw [if_neg (bneT hc16)] at hM2
          refine And.intro rfl (And.intro (by first | exact trivial | exact And.intro rfl trivial | exact And.intro rfl (And.intro rfl trivial) | exact And.intro rfl (And.intro rfl (And.intro rfl trivial)) | exact And.intro rfl (And.intro rfl (And.intro rfl (And.intro rfl trivial)))) (And.intro (by first | exact trivial | exact And.intro rfl trivial | exact And.intro rfl (And.intro rfl trivial) | exact And.intro rfl (And.intro rfl (And.intro rfl trivial)) | exact And.intro rfl (And.intro rfl (And.intro rfl (And.intro rfl trivial)))) (Exists.intro m13 (And.intro ⟨(IntKind.i64.wrap (u11 + 1)), rfl, rfl, sX10, (wrap64 _), hM2⟩ (Nat.lt_succ_self _)))))
      · have hc14 : ((decide (u11 < ((x9.length : Nat) : Int)))) = false := hc14
        rw [if_neg (bneT hc14)] at hM2
        have hE := Option.some.inj hM2; subst hE
        try dsimp only [outK_inr, outL_inr] at hM1
        refine And.intro rfl (And.intro (by first | exact trivial | exact And.intro rfl trivial | exact And.intro rfl (And.intro rfl trivial) | exact And.intro rfl (And.intro rfl (And.intro rfl trivial)) | exact And.intro rfl (And.intro rfl (And.intro rfl (And.intro rfl trivial)))) (And.intro (by first | exact trivial | exact And.intro rfl trivial | exact And.intro rfl (And.intro rfl trivial) | exact And.intro rfl (And.intro rfl (And.intro rfl trivial)) | exact And.intro rfl (And.intro rfl (And.intro rfl (And.intro rfl trivial)))) (Exists.intro m6 (And.intro ⟨(IntKind.i64.wrap (u4 + 1)), rfl, rfl, (sX3.trans sX10), (wrap64 _), hM1⟩ (Nat.lt_succ_self _)))))
    · have hc7 : ((decide (u4 < ((p0_2.length : Nat) : Int)))) = false := hc7
      rw [if_neg (bneT hc7)] at hM1
      have hE := Option.some.inj hM1; subst hE
      try dsimp only [outK_inr, outL_inr] at hM0
      have hE := Option.some.inj hM0; subst hE
      exact And.intro rfl sX3

theorem t_impl_Graph_read (h : Hp) (csp0 : List Value) (p0 : LGraph) (rp0 : wGraph.R h csp0 p0) (p1 : Int) (ip1 : In64 p1) (ap2 : Option Addr) (np2 cp2 : Nat) (p2 : LIntS) (rp2 : wIntS.R h [.slice ap2 np2 cp2] p2) (r : Int × Int) (hM0 : M_impl_Graph_read p0 p1 p2 = some r) :
    Tr Tryz.prog 117 #[.agg csp0.toArray, .int .i64 p1, .slice ap2 np2 cp2] h fun v h' => v = .tuple #[.int .i64 r.1, .int .i64 r.2] ∧ h' = h := by
  obtain ⟨p0_0, p0_1, ap0_2, np0_2, cp0_2, p0_2, rfl, rfl, ip0_0, ip0_1, rp0_2⟩ := openGraph rp0
  obtain ⟨rfl, lp0_2⟩ := Sl.len rp0_2
  obtain ⟨rfl, lp2⟩ := Sl.len rp2
  unfold M_impl_Graph_read at hM0
  dsimp only at hM0
  refine Tr.forget (walk (args := [.agg #[.int .i64 p0_0, .int .i64 p0_1, .slice ap0_2 p0_2.length cp0_2], .int .i64 p1, .slice ap2 p2.length cp2]) (fn := Tryz.f117) rfl ?_)
  obtain ⟨X1, hLX1, hM0⟩ := bsome hM0
  refine Exists.intro { vars := [1, 13], boxes := [], owns := [], fuel := true } (Exists.intro (fun vs os h' => ∃ (u2 : Int) (u3 : Int), vs.tail = [.int .i64 u2, .int .i64 u3] ∧ os = [] ∧ Sub h h' ∧ In64 u2 ∧ In64 u3 ∧ L_impl_Graph_read_0 p2 p0_0 p0_1 p0_2 (fuelOf vs) u2 u3 = some X1) (Exists.intro (fun _ _ => 0) ?_))
  refine And.intro (Exists.intro FUEL ⟨p1, 0, rfl, rfl, (Sub.refl _), ip1, (c64 (by decide) (by decide)), hLX1⟩) ?_
  rintro v_0 v_1 m5 k4 ⟨u2, u3, evX1, eoX1, sX1, iu2, iu3, hM1⟩
  cases evX1
  cases eoX1
  replace hM1 : L_impl_Graph_read_0 p2 p0_0 p0_1 p0_2 m5 u2 u3 = some X1 := hM1
  obtain _ | m5 := m5
  · cases (show (none : Option _) = some X1 from hM1)
  rw [L_impl_Graph_read_0_succ] at hM1
  refine And.intro (fun hc6 => ?_) (fun hc6 => ?_)
  · have hc6 : ((decide (u3 < ((p2.length : Nat) : Int)))) = true := hc6
    rw [if_pos hc6] at hM1
    obtain ⟨x7, gx7, hM1⟩ := bsome hM1
    obtain ⟨bx7, csx7, ex7, rx7⟩ := Sl.getI (r := Wp.int.toRp) (wIntS.mono sX1 rp2) gx7 (by decide)
    refine And.intro bx7 ?_
    obtain ⟨rfl, ix7⟩ := rx7
    refine Exists.intro _ (And.intro ex7 ?_)
    obtain ⟨x8, gx8, hM1⟩ := bsome hM1
    refine Tr.val (t_impl_NextVertex _ [.int .i64 p0_0, .int .i64 p0_1, .slice ap0_2 p0_2.length cp0_2] (p0_0, p0_1, p0_2) (closeGraph ip0_0 ip0_1 (wEdgeS.mono sX1 rp0_2)) u2 iu2 x7 ix7 _  gx8) ?_
    obtain ⟨q9, gq9, hM1⟩ := bsome hM1
    have ix8 : In64 x8 := grd_some gq9
    refine And.intro (fun hc10 => ?_) (fun hc10 => ?_)
    · have hc10 : ((decide (x8 < 0))) = true := hc10
      rw [if_pos hc10] at hM1
      have hE := Option.some.inj hM1; subst hE
      try dsimp only [outK_inl, outL_inl] at hM0
      have hE := Option.some.inj hM0; subst hE
      exact And.intro rfl sX1
    · have hc10 : ((decide (x8 < 0))) = false := hc10
      rw [if_neg (bneT hc10)] at hM1
      refine And.intro rfl (And.intro (by first | exact trivial | exact And.intro rfl trivial | exact And.intro rfl (And.intro rfl trivial) | exact And.intro rfl (And.intro rfl (And.intro rfl trivial)) | exact And.intro rfl (And.intro rfl (And.intro rfl (And.intro rfl trivial)))) (And.intro (by first | exact trivial | exact And.intro rfl trivial | exact And.intro rfl (And.intro rfl trivial) | exact And.intro rfl (And.intro rfl (And.intro rfl trivial)) | exact And.intro rfl (And.intro rfl (And.intro rfl (And.intro rfl trivial)))) (Exists.intro m5 (And.intro ⟨x8, (IntKind.i64.wrap (u3 + 1)), rfl, rfl, sX1, ix8, (wrap64 _), hM1⟩ (Nat.lt_succ_self _)))))
  · have hc6 : ((decide (u3 < ((p2.length : Nat) : Int)))) = false := hc6
    rw [if_neg (bneT hc6)] at hM1
    have hE := Option.some.inj hM1; subst hE
    try dsimp only [outK_inr, outL_inr] at hM0
    have hE := Option.some.inj hM0; subst hE
    exact And.intro rfl sX1

end Go.Proofs.YthccjgkmmclplaaGreat
