/- The walks of batch g1. -/
import Derived.Test.YthccjgkmmclplaaGreatAg1
import Derived.Test.YthccjgkmmclplaaGreatChecked
import Derived.Test.YthccjgkmmclplaaGreatH35
import Derived.Test.YthccjgkmmclplaaGreatW1
import Derived.Test.YthccjgkmmclplaaGreatW4g
import Derived.Test.YthccjgkmmclplaaGreatW9
import Derived.Test.YthccjgkmmclplaaGreatEQ
namespace Go.Proofs.YthccjgkmmclplaaGreat
open Go.H
set_option linter.unusedVariables false
set_option linter.unusedSimpArgs false
set_option maxRecDepth 10000
theorem t_spec_l4Copy (h : Hp) (csp0 : List Value) (p0 : LGraph) (rp0 : wGraph.R h csp0 p0) (r : LGraph) (hM0 : M_spec_l4Copy p0 = some r) :
    Tr Tryz.prog 53 #[.agg csp0.toArray] h fun v h' => ∃ (cs0 : List Value), v = .agg cs0.toArray ∧ wGraph.R h' cs0 r ∧ Sub h h' := by
  obtain ⟨p0_0, p0_1, ap0_2, np0_2, cp0_2, p0_2, rfl, rfl, ip0_0, ip0_1, rp0_2⟩ := openGraph rp0
  obtain ⟨rfl, lp0_2⟩ := Sl.len rp0_2
  unfold M_spec_l4Copy at hM0
  dsimp only at hM0
  refine walk (args := [.agg #[.int .i64 p0_0, .int .i64 p0_1, .slice ap0_2 p0_2.length cp0_2]]) (fn := Tryz.f53) rfl ?_
  refine Or.inr (Or.inr (Or.inl (And.intro (And.intro (by kernel_rfl) (by kernel_rfl)) ?_)))
  refine Or.inr ?_
  refine Or.inr ?_
  refine Or.inr ?_
  refine Or.inr ?_
  refine Exists.intro 0 (And.intro (And.intro rfl rfl) ?_)
  refine And.intro trivial (And.intro (by first | exact trivial | exact rfl) ?_)
  obtain ⟨vsy1, ey1, fy1⟩ := Sl.rows (r := wEdge.toRp) rp0_2
  refine Exists.intro vsy1 (And.intro ey1 ?_)
  obtain ⟨q2, gq2, hM0⟩ := bsome hM0
  refine And.intro (room_of gq2 (by first | rw [F2.length (show F2 (wEdge.R h) ([] : List (List Value)) ([] : LEdgeS) from trivial), F2.length fy1] | exact congrArg (· + 1) (F2.length (show F2 (wEdge.R h) ([] : List (List Value)) ([] : LEdgeS) from trivial)))) ?_
  refine And.intro trivial (And.intro (by first | exact trivial | exact rfl) ?_)
  refine And.intro trivial (And.intro (by first | exact trivial | exact rfl) ?_)
  refine And.intro trivial (And.intro (by first | exact trivial | exact rfl) ?_)
  intro v3 k4 f5
  obtain ⟨az6, cz6, rfl, rz6, sz6, lz6⟩ := Froze.out (r := wEdge.toRp) f5 (F2.append (show F2 (wEdge.R h) ([] : List (List Value)) ([] : LEdgeS) from trivial) fy1)
  have hE := Option.some.inj hM0; subst hE
  exact ⟨([.int .i64 p0_0, .int .i64 p0_1, .slice az6 ((([] : LEdgeS) ++ p0_2)).length cz6]), rfl, (closeGraph ip0_0 ip0_1 rz6), sz6⟩

theorem t_spec_l4Put (h : Hp) (ap0 : Option Addr) (np0 cp0 : Nat) (p0 : LEdgeS) (rp0 : wEdgeS.R h [.slice ap0 np0 cp0] p0) (csp1 : List Value) (p1 : LEdge) (rp1 : wEdge.R h csp1 p1) (r : LEdgeS) (hM0 : M_spec_l4Put p0 p1 = some r) :
    Tr Tryz.prog 93 #[.slice ap0 np0 cp0, .agg csp1.toArray] h fun v h' => ∃ (a0 : Option Addr) (n0 c0 : Nat), v = .slice a0 n0 c0 ∧ wEdgeS.R h' [.slice a0 n0 c0] r ∧ Sub h h' := by
  obtain ⟨rfl, lp0⟩ := Sl.len rp0
  obtain ⟨p1_0, p1_1, p1_2, rfl, rfl, ip1_0, ip1_1, ip1_2⟩ := openEdge rp1
  unfold M_spec_l4Put at hM0
  dsimp only at hM0
  refine walk (args := [.slice ap0 p0.length cp0, .agg #[.int .i64 p1_0, .int .i64 p1_1, .int .i64 p1_2]]) (fn := Tryz.f93) rfl ?_
  obtain ⟨X1, hLX1, hM0⟩ := bsome hM0
  refine Exists.intro { vars := [6, 7], boxes := [], owns := [0], fuel := true } (Exists.intro (fun vs os h' => ∃ (u2 : Bool) (u3 : Int) (wu4 : List (List Value)) (u4 : List LEdge), vs.tail = [.bool u2, .int .i64 u3] ∧ os = [wu4] ∧ Sub h h' ∧ In64 u3 ∧ F2 (wEdge.R h') wu4 u4 ∧ L_spec_l4Put_0 p0 p1_0 p1_1 p1_2 (fuelOf vs) u2 u3 u4 = some X1) (Exists.intro (fun _ _ => 0) ?_))
  refine And.intro (Exists.intro FUEL ⟨false, 0, [], ([] : LEdgeS), rfl, rfl, (Sub.refl _), (c64 (by decide) (by decide)), (show F2 (wEdge.R h) ([] : List (List Value)) ([] : LEdgeS) from trivial), hLX1⟩) ?_
  rintro v_0 v_1 wu4 m6 k5 ⟨u2, u3, zzu4, u4, evX1, eoX1, sX1, iu3, fu4, hM1⟩
  cases evX1
  cases eoX1
  replace hM1 : L_spec_l4Put_0 p0 p1_0 p1_1 p1_2 m6 u2 u3 u4 = some X1 := hM1
  obtain _ | m6 := m6
  · cases (show (none : Option _) = some X1 from hM1)
  rw [L_spec_l4Put_0_succ] at hM1
  refine And.intro (fun hc7 => ?_) (fun hc7 => ?_)
  · have hc7 : ((decide (u3 < ((p0.length : Nat) : Int)))) = true := hc7
    rw [if_pos hc7] at hM1
    refine Or.inl (And.intro (And.intro (by kernel_rfl) (by kernel_rfl)) ?_)
    obtain ⟨x8, gx8, hM1⟩ := bsome hM1
    obtain ⟨bx8, csx8, ex8, rx8⟩ := Sl.getI (r := wEdge.toRp) (wEdgeS.mono sX1 rp0) gx8 (by decide)
    refine And.intro bx8 ?_
    obtain ⟨x8_0, x8_1, x8_2, rfl, rfl, ix8_0, ix8_1, ix8_2⟩ := openEdge rx8
    dsimp only at hM1
    refine Exists.intro _ (And.intro ex8 ?_)
    obtain ⟨x9, gx9, hM1⟩ := bsome hM1
    refine Exists.intro (.int .i64 x9) (And.intro (t_spec_CompareEdges _ [.int .i64 p1_0, .int .i64 p1_1, .int .i64 p1_2] (p1_0, p1_1, p1_2) (closeEdge ip1_0 ip1_1 ip1_2) [.int .i64 x8_0, .int .i64 x8_1, .int .i64 x8_2] (x8_0, x8_1, x8_2) (closeEdge ix8_0 ix8_1 ix8_2) _  gx9) ?_)
    obtain ⟨q10, gq10, hM1⟩ := bsome hM1
    have ix9 : In64 x9 := grd_some gq10
    refine And.intro (fun hc11 => ?_) (fun hc11 => ?_)
    · have hc11 : ((decide (x9 = 0))) = true := hc11
      rw [if_pos hc11] at hM1
      refine And.intro (fun hc12 => ?_) (fun hc12 => ?_)
      · have hc12 : ((bif (decide (x9 < 0)) then (!true) else false)) = true := hc12
        rw [if_pos hc12] at hM1
        obtain ⟨q13, gq13, hM1⟩ := bsome hM1
        refine And.intro (room_of gq13 (by first | rw [F2.length fu4, F2.length (show F2 (wEdge.R k5) ([[.int .i64 p1_0, .int .i64 p1_1, .int .i64 p1_2]] : List (List Value)) [(p1_0, p1_1, p1_2)] from ⟨(closeEdge ip1_0 ip1_1 ip1_2), trivial⟩)] | exact congrArg (· + 1) (F2.length fu4))) ?_
        obtain ⟨x14, gx14, hM1⟩ := bsome hM1
        obtain ⟨bx14, csx14, ex14, rx14⟩ := Sl.getI (r := wEdge.toRp) (wEdgeS.mono sX1 rp0) gx14 (by decide)
        refine And.intro bx14 ?_
        obtain ⟨x14_0, x14_1, x14_2, rfl, rfl, ix14_0, ix14_1, ix14_2⟩ := openEdge rx14
        dsimp only at hM1
        refine Exists.intro _ (And.intro ex14 ?_)
        obtain ⟨q15, gq15, hM1⟩ := bsome hM1
        refine And.intro (room_of gq15 (by first | rw [F2.length (F2.append fu4 (show F2 (wEdge.R k5) ([[.int .i64 p1_0, .int .i64 p1_1, .int .i64 p1_2]] : List (List Value)) [(p1_0, p1_1, p1_2)] from ⟨(closeEdge ip1_0 ip1_1 ip1_2), trivial⟩)), F2.length (show F2 (wEdge.R k5) ([[.int .i64 x14_0, .int .i64 x14_1, .int .i64 x14_2]] : List (List Value)) [(x14_0, x14_1, x14_2)] from ⟨(closeEdge ix14_0 ix14_1 ix14_2), trivial⟩)] | exact congrArg (· + 1) (F2.length (F2.append fu4 (show F2 (wEdge.R k5) ([[.int .i64 p1_0, .int .i64 p1_1, .int .i64 p1_2]] : List (List Value)) [(p1_0, p1_1, p1_2)] from ⟨(closeEdge ip1_0 ip1_1 ip1_2), trivial⟩))))) ?_
        refine And.intro rfl (And.intro (by first | exact trivial | exact And.intro rfl trivial | exact And.intro rfl (And.intro rfl trivial) | exact And.intro rfl (And.intro rfl (And.intro rfl trivial)) | exact And.intro rfl (And.intro rfl (And.intro rfl (And.intro rfl trivial)))) (And.intro (by first | exact trivial | exact And.intro rfl trivial | exact And.intro rfl (And.intro rfl trivial) | exact And.intro rfl (And.intro rfl (And.intro rfl trivial)) | exact And.intro rfl (And.intro rfl (And.intro rfl (And.intro rfl trivial)))) (Exists.intro m6 (And.intro ⟨true, (IntKind.i64.wrap (u3 + 1)), ((wu4 ++ ([[.int .i64 p1_0, .int .i64 p1_1, .int .i64 p1_2]] : List (List Value))) ++ ([[.int .i64 x14_0, .int .i64 x14_1, .int .i64 x14_2]] : List (List Value))), ((u4 ++ [(p1_0, p1_1, p1_2)]) ++ [(x14_0, x14_1, x14_2)]), rfl, rfl, sX1, (wrap64 _), (F2.append (F2.append fu4 (show F2 (wEdge.R k5) ([[.int .i64 p1_0, .int .i64 p1_1, .int .i64 p1_2]] : List (List Value)) [(p1_0, p1_1, p1_2)] from ⟨(closeEdge ip1_0 ip1_1 ip1_2), trivial⟩)) (show F2 (wEdge.R k5) ([[.int .i64 x14_0, .int .i64 x14_1, .int .i64 x14_2]] : List (List Value)) [(x14_0, x14_1, x14_2)] from ⟨(closeEdge ix14_0 ix14_1 ix14_2), trivial⟩)), hM1⟩ (Nat.lt_succ_self _)))))
      · have hc12 : ((bif (decide (x9 < 0)) then (!true) else false)) = false := hc12
        rw [if_neg (bneT hc12)] at hM1
        obtain ⟨x16, gx16, hM1⟩ := bsome hM1
        obtain ⟨bx16, csx16, ex16, rx16⟩ := Sl.getI (r := wEdge.toRp) (wEdgeS.mono sX1 rp0) gx16 (by decide)
        refine And.intro bx16 ?_
        obtain ⟨x16_0, x16_1, x16_2, rfl, rfl, ix16_0, ix16_1, ix16_2⟩ := openEdge rx16
        dsimp only at hM1
        refine Exists.intro _ (And.intro ex16 ?_)
        obtain ⟨q17, gq17, hM1⟩ := bsome hM1
        refine And.intro (room_of gq17 (by first | rw [F2.length fu4, F2.length (show F2 (wEdge.R k5) ([[.int .i64 x16_0, .int .i64 x16_1, .int .i64 x16_2]] : List (List Value)) [(x16_0, x16_1, x16_2)] from ⟨(closeEdge ix16_0 ix16_1 ix16_2), trivial⟩)] | exact congrArg (· + 1) (F2.length fu4))) ?_
        refine And.intro rfl (And.intro (by first | exact trivial | exact And.intro rfl trivial | exact And.intro rfl (And.intro rfl trivial) | exact And.intro rfl (And.intro rfl (And.intro rfl trivial)) | exact And.intro rfl (And.intro rfl (And.intro rfl (And.intro rfl trivial)))) (And.intro (by first | exact trivial | exact And.intro rfl trivial | exact And.intro rfl (And.intro rfl trivial) | exact And.intro rfl (And.intro rfl (And.intro rfl trivial)) | exact And.intro rfl (And.intro rfl (And.intro rfl (And.intro rfl trivial)))) (Exists.intro m6 (And.intro ⟨true, (IntKind.i64.wrap (u3 + 1)), (wu4 ++ ([[.int .i64 x16_0, .int .i64 x16_1, .int .i64 x16_2]] : List (List Value))), (u4 ++ [(x16_0, x16_1, x16_2)]), rfl, rfl, sX1, (wrap64 _), (F2.append fu4 (show F2 (wEdge.R k5) ([[.int .i64 x16_0, .int .i64 x16_1, .int .i64 x16_2]] : List (List Value)) [(x16_0, x16_1, x16_2)] from ⟨(closeEdge ix16_0 ix16_1 ix16_2), trivial⟩)), hM1⟩ (Nat.lt_succ_self _)))))
    · have hc11 : ((decide (x9 = 0))) = false := hc11
      rw [if_neg (bneT hc11)] at hM1
      refine And.intro (fun hc18 => ?_) (fun hc18 => ?_)
      · have hc18 : ((bif (decide (x9 < 0)) then (!u2) else false)) = true := hc18
        rw [if_pos hc18] at hM1
        obtain ⟨q19, gq19, hM1⟩ := bsome hM1
        refine And.intro (room_of gq19 (by first | rw [F2.length fu4, F2.length (show F2 (wEdge.R k5) ([[.int .i64 p1_0, .int .i64 p1_1, .int .i64 p1_2]] : List (List Value)) [(p1_0, p1_1, p1_2)] from ⟨(closeEdge ip1_0 ip1_1 ip1_2), trivial⟩)] | exact congrArg (· + 1) (F2.length fu4))) ?_
        obtain ⟨x20, gx20, hM1⟩ := bsome hM1
        obtain ⟨bx20, csx20, ex20, rx20⟩ := Sl.getI (r := wEdge.toRp) (wEdgeS.mono sX1 rp0) gx20 (by decide)
        refine And.intro bx20 ?_
        obtain ⟨x20_0, x20_1, x20_2, rfl, rfl, ix20_0, ix20_1, ix20_2⟩ := openEdge rx20
        dsimp only at hM1
        refine Exists.intro _ (And.intro ex20 ?_)
        obtain ⟨q21, gq21, hM1⟩ := bsome hM1
        refine And.intro (room_of gq21 (by first | rw [F2.length (F2.append fu4 (show F2 (wEdge.R k5) ([[.int .i64 p1_0, .int .i64 p1_1, .int .i64 p1_2]] : List (List Value)) [(p1_0, p1_1, p1_2)] from ⟨(closeEdge ip1_0 ip1_1 ip1_2), trivial⟩)), F2.length (show F2 (wEdge.R k5) ([[.int .i64 x20_0, .int .i64 x20_1, .int .i64 x20_2]] : List (List Value)) [(x20_0, x20_1, x20_2)] from ⟨(closeEdge ix20_0 ix20_1 ix20_2), trivial⟩)] | exact congrArg (· + 1) (F2.length (F2.append fu4 (show F2 (wEdge.R k5) ([[.int .i64 p1_0, .int .i64 p1_1, .int .i64 p1_2]] : List (List Value)) [(p1_0, p1_1, p1_2)] from ⟨(closeEdge ip1_0 ip1_1 ip1_2), trivial⟩))))) ?_
        refine And.intro rfl (And.intro (by first | exact trivial | exact And.intro rfl trivial | exact And.intro rfl (And.intro rfl trivial) | exact And.intro rfl (And.intro rfl (And.intro rfl trivial)) | exact And.intro rfl (And.intro rfl (And.intro rfl (And.intro rfl trivial)))) (And.intro (by first | exact trivial | exact And.intro rfl trivial | exact And.intro rfl (And.intro rfl trivial) | exact And.intro rfl (And.intro rfl (And.intro rfl trivial)) | exact And.intro rfl (And.intro rfl (And.intro rfl (And.intro rfl trivial)))) (Exists.intro m6 (And.intro ⟨true, (IntKind.i64.wrap (u3 + 1)), ((wu4 ++ ([[.int .i64 p1_0, .int .i64 p1_1, .int .i64 p1_2]] : List (List Value))) ++ ([[.int .i64 x20_0, .int .i64 x20_1, .int .i64 x20_2]] : List (List Value))), ((u4 ++ [(p1_0, p1_1, p1_2)]) ++ [(x20_0, x20_1, x20_2)]), rfl, rfl, sX1, (wrap64 _), (F2.append (F2.append fu4 (show F2 (wEdge.R k5) ([[.int .i64 p1_0, .int .i64 p1_1, .int .i64 p1_2]] : List (List Value)) [(p1_0, p1_1, p1_2)] from ⟨(closeEdge ip1_0 ip1_1 ip1_2), trivial⟩)) (show F2 (wEdge.R k5) ([[.int .i64 x20_0, .int .i64 x20_1, .int .i64 x20_2]] : List (List Value)) [(x20_0, x20_1, x20_2)] from ⟨(closeEdge ix20_0 ix20_1 ix20_2), trivial⟩)), hM1⟩ (Nat.lt_succ_self _)))))
      · have hc18 : ((bif (decide (x9 < 0)) then (!u2) else false)) = false := hc18
        rw [if_neg (bneT hc18)] at hM1
        obtain ⟨x22, gx22, hM1⟩ := bsome hM1
        obtain ⟨bx22, csx22, ex22, rx22⟩ := Sl.getI (r := wEdge.toRp) (wEdgeS.mono sX1 rp0) gx22 (by decide)
        refine And.intro bx22 ?_
        obtain ⟨x22_0, x22_1, x22_2, rfl, rfl, ix22_0, ix22_1, ix22_2⟩ := openEdge rx22
        dsimp only at hM1
        refine Exists.intro _ (And.intro ex22 ?_)
        obtain ⟨q23, gq23, hM1⟩ := bsome hM1
        refine And.intro (room_of gq23 (by first | rw [F2.length fu4, F2.length (show F2 (wEdge.R k5) ([[.int .i64 x22_0, .int .i64 x22_1, .int .i64 x22_2]] : List (List Value)) [(x22_0, x22_1, x22_2)] from ⟨(closeEdge ix22_0 ix22_1 ix22_2), trivial⟩)] | exact congrArg (· + 1) (F2.length fu4))) ?_
        refine And.intro rfl (And.intro (by first | exact trivial | exact And.intro rfl trivial | exact And.intro rfl (And.intro rfl trivial) | exact And.intro rfl (And.intro rfl (And.intro rfl trivial)) | exact And.intro rfl (And.intro rfl (And.intro rfl (And.intro rfl trivial)))) (And.intro (by first | exact trivial | exact And.intro rfl trivial | exact And.intro rfl (And.intro rfl trivial) | exact And.intro rfl (And.intro rfl (And.intro rfl trivial)) | exact And.intro rfl (And.intro rfl (And.intro rfl (And.intro rfl trivial)))) (Exists.intro m6 (And.intro ⟨u2, (IntKind.i64.wrap (u3 + 1)), (wu4 ++ ([[.int .i64 x22_0, .int .i64 x22_1, .int .i64 x22_2]] : List (List Value))), (u4 ++ [(x22_0, x22_1, x22_2)]), rfl, rfl, sX1, (wrap64 _), (F2.append fu4 (show F2 (wEdge.R k5) ([[.int .i64 x22_0, .int .i64 x22_1, .int .i64 x22_2]] : List (List Value)) [(x22_0, x22_1, x22_2)] from ⟨(closeEdge ix22_0 ix22_1 ix22_2), trivial⟩)), hM1⟩ (Nat.lt_succ_self _)))))
  · have hc7 : ((decide (u3 < ((p0.length : Nat) : Int)))) = false := hc7
    rw [if_neg (bneT hc7)] at hM1
    have hE := Option.some.inj hM1; subst hE
    try dsimp only [outK_inr, outL_inr] at hM0
    refine And.intro (fun hc24 => ?_) (fun hc24 => ?_)
    · have hc24 : ((!u2)) = true := hc24
      rw [if_pos hc24] at hM0
      obtain ⟨q25, gq25, hM0⟩ := bsome hM0
      refine And.intro (room_of gq25 (by first | rw [F2.length fu4, F2.length (show F2 (wEdge.R k5) ([[.int .i64 p1_0, .int .i64 p1_1, .int .i64 p1_2]] : List (List Value)) [(p1_0, p1_1, p1_2)] from ⟨(closeEdge ip1_0 ip1_1 ip1_2), trivial⟩)] | exact congrArg (· + 1) (F2.length fu4))) ?_
      intro v26 k27 f28
      obtain ⟨az29, cz29, rfl, rz29, sz29, lz29⟩ := Froze.out (r := wEdge.toRp) f28 (F2.append fu4 (show F2 (wEdge.R k5) ([[.int .i64 p1_0, .int .i64 p1_1, .int .i64 p1_2]] : List (List Value)) [(p1_0, p1_1, p1_2)] from ⟨(closeEdge ip1_0 ip1_1 ip1_2), trivial⟩))
      have hE := Option.some.inj hM0; subst hE
      exact ⟨az29, ((u4 ++ [(p1_0, p1_1, p1_2)])).length, cz29, rfl, rz29, (sX1.trans sz29)⟩
    · have hc24 : ((!u2)) = false := hc24
      rw [if_neg (bneT hc24)] at hM0
      intro v30 k31 f32
      obtain ⟨az33, cz33, rfl, rz33, sz33, lz33⟩ := Froze.out (r := wEdge.toRp) f32 fu4
      have hE := Option.some.inj hM0; subst hE
      exact ⟨az33, u4.length, cz33, rfl, rz33, (sX1.trans sz33)⟩

theorem t_spec_DegreeOf (h : Hp) (csp0 : List Value) (p0 : LGraph) (rp0 : wGraph.R h csp0 p0) (p1 : Int) (ip1 : In64 p1) (r : Int) (hM0 : M_spec_DegreeOf p0 p1 = some r) :
    Tr Tryz.prog 150 #[.agg csp0.toArray, .int .i64 p1] h fun v h' => v = .int .i64 r ∧ h' = h := by
  obtain ⟨p0_0, p0_1, ap0_2, np0_2, cp0_2, p0_2, rfl, rfl, ip0_0, ip0_1, rp0_2⟩ := openGraph rp0
  obtain ⟨rfl, lp0_2⟩ := Sl.len rp0_2
  unfold M_spec_DegreeOf at hM0
  dsimp only at hM0
  refine Tr.forget (walk (args := [.agg #[.int .i64 p0_0, .int .i64 p0_1, .slice ap0_2 p0_2.length cp0_2], .int .i64 p1]) (fn := Tryz.f150) rfl ?_)
  obtain ⟨X1, hLX1, hM0⟩ := bsome hM0
  refine Exists.intro { vars := [5, 6], boxes := [], owns := [], fuel := true } (Exists.intro (fun vs os h' => ∃ (u2 : Int) (u3 : Int), vs.tail = [.int .i64 u2, .int .i64 u3] ∧ os = [] ∧ Sub h h' ∧ In64 u2 ∧ In64 u3 ∧ L_spec_DegreeOf_0 p0_2 p1 (fuelOf vs) u2 u3 = some X1) (Exists.intro (fun _ _ => 0) ?_))
  refine And.intro (Exists.intro FUEL ⟨0, 0, rfl, rfl, (Sub.refl _), (c64 (by decide) (by decide)), (c64 (by decide) (by decide)), hLX1⟩) ?_
  rintro v_0 v_1 m5 k4 ⟨u2, u3, evX1, eoX1, sX1, iu2, iu3, hM1⟩
  cases evX1
  cases eoX1
  replace hM1 : L_spec_DegreeOf_0 p0_2 p1 m5 u2 u3 = some X1 := hM1
  obtain _ | m5 := m5
  · cases (show (none : Option _) = some X1 from hM1)
  rw [L_spec_DegreeOf_0_succ] at hM1
  refine And.intro (fun hc6 => ?_) (fun hc6 => ?_)
  · have hc6 : ((decide (u3 < ((p0_2.length : Nat) : Int)))) = true := hc6
    rw [if_pos hc6] at hM1
    obtain ⟨x7, gx7, hM1⟩ := bsome hM1
    obtain ⟨bx7, csx7, ex7, rx7⟩ := Sl.getI (r := wEdge.toRp) (wEdgeS.mono sX1 rp0_2) gx7 (by decide)
    refine And.intro bx7 ?_
    obtain ⟨x7_0, x7_1, x7_2, rfl, rfl, ix7_0, ix7_1, ix7_2⟩ := openEdge rx7
    dsimp only at hM1
    refine Exists.intro _ (And.intro ex7 ?_)
    refine And.intro (fun hc8 => ?_) (fun hc8 => ?_)
    · have hc8 : ((decide (x7_0 = p1))) = true := hc8
      rw [if_pos hc8] at hM1
      obtain ⟨x9, gx9, hM1⟩ := bsome hM1
      obtain ⟨bx9, csx9, ex9, rx9⟩ := Sl.getI (r := wEdge.toRp) (wEdgeS.mono sX1 rp0_2) gx9 (by decide)
      refine And.intro bx9 ?_
      obtain ⟨x9_0, x9_1, x9_2, rfl, rfl, ix9_0, ix9_1, ix9_2⟩ := openEdge rx9
      dsimp only at hM1
      refine Exists.intro _ (And.intro ex9 ?_)
      refine And.intro (fun hc10 => ?_) (fun hc10 => ?_)
      · have hc10 : ((decide (x9_2 = p1))) = true := hc10
        rw [if_pos hc10] at hM1
        refine And.intro rfl (And.intro (by first | exact trivial | exact And.intro rfl trivial | exact And.intro rfl (And.intro rfl trivial) | exact And.intro rfl (And.intro rfl (And.intro rfl trivial)) | exact And.intro rfl (And.intro rfl (And.intro rfl (And.intro rfl trivial)))) (And.intro (by first | exact trivial | exact And.intro rfl trivial | exact And.intro rfl (And.intro rfl trivial) | exact And.intro rfl (And.intro rfl (And.intro rfl trivial)) | exact And.intro rfl (And.intro rfl (And.intro rfl (And.intro rfl trivial)))) (Exists.intro m5 (And.intro ⟨(IntKind.i64.wrap ((IntKind.i64.wrap (u2 + 1)) + 1)), (IntKind.i64.wrap (u3 + 1)), rfl, rfl, sX1, (wrap64 _), (wrap64 _), hM1⟩ (Nat.lt_succ_self _)))))
      · have hc10 : ((decide (x9_2 = p1))) = false := hc10
        rw [if_neg (bneT hc10)] at hM1
        refine And.intro rfl (And.intro (by first | exact trivial | exact And.intro rfl trivial | exact And.intro rfl (And.intro rfl trivial) | exact And.intro rfl (And.intro rfl (And.intro rfl trivial)) | exact And.intro rfl (And.intro rfl (And.intro rfl (And.intro rfl trivial)))) (And.intro (by first | exact trivial | exact And.intro rfl trivial | exact And.intro rfl (And.intro rfl trivial) | exact And.intro rfl (And.intro rfl (And.intro rfl trivial)) | exact And.intro rfl (And.intro rfl (And.intro rfl (And.intro rfl trivial)))) (Exists.intro m5 (And.intro ⟨(IntKind.i64.wrap (u2 + 1)), (IntKind.i64.wrap (u3 + 1)), rfl, rfl, sX1, (wrap64 _), (wrap64 _), hM1⟩ (Nat.lt_succ_self _)))))
    · have hc8 : ((decide (x7_0 = p1))) = false := hc8
      rw [if_neg (bneT hc8)] at hM1
      obtain ⟨x11, gx11, hM1⟩ := bsome hM1
      obtain ⟨bx11, csx11, ex11, rx11⟩ := Sl.getI (r := wEdge.toRp) (wEdgeS.mono sX1 rp0_2) gx11 (by decide)
      refine And.intro bx11 ?_
      obtain ⟨x11_0, x11_1, x11_2, rfl, rfl, ix11_0, ix11_1, ix11_2⟩ := openEdge rx11
      dsimp only at hM1
      refine Exists.intro _ (And.intro ex11 ?_)
      refine And.intro (fun hc12 => ?_) (fun hc12 => ?_)
      · have hc12 : ((decide (x11_2 = p1))) = true := hc12
        rw [if_pos hc12] at hM1
        refine And.intro rfl (And.intro (by first | exact trivial | exact And.intro rfl trivial | exact And.intro rfl (And.intro rfl trivial) | exact And.intro rfl (And.intro rfl (And.intro rfl trivial)) | exact And.intro rfl (And.intro rfl (And.intro rfl (And.intro rfl trivial)))) (And.intro (by first | exact trivial | exact And.intro rfl trivial | exact And.intro rfl (And.intro rfl trivial) | exact And.intro rfl (And.intro rfl (And.intro rfl trivial)) | exact And.intro rfl (And.intro rfl (And.intro rfl (And.intro rfl trivial)))) (Exists.intro m5 (And.intro ⟨(IntKind.i64.wrap (u2 + 1)), (IntKind.i64.wrap (u3 + 1)), rfl, rfl, sX1, (wrap64 _), (wrap64 _), hM1⟩ (Nat.lt_succ_self _)))))
      · have hc12 : ((decide (x11_2 = p1))) = false := hc12
        rw [if_neg (bneT hc12)] at hM1
        refine And.intro rfl (And.intro (by first | exact trivial | exact And.intro rfl trivial | exact And.intro rfl (And.intro rfl trivial) | exact And.intro rfl (And.intro rfl (And.intro rfl trivial)) | exact And.intro rfl (And.intro rfl (And.intro rfl (And.intro rfl trivial)))) (And.intro (by first | exact trivial | exact And.intro rfl trivial | exact And.intro rfl (And.intro rfl trivial) | exact And.intro rfl (And.intro rfl (And.intro rfl trivial)) | exact And.intro rfl (And.intro rfl (And.intro rfl (And.intro rfl trivial)))) (Exists.intro m5 (And.intro ⟨u2, (IntKind.i64.wrap (u3 + 1)), rfl, rfl, sX1, iu2, (wrap64 _), hM1⟩ (Nat.lt_succ_self _)))))
  · have hc6 : ((decide (u3 < ((p0_2.length : Nat) : Int)))) = false := hc6
    rw [if_neg (bneT hc6)] at hM1
    have hE := Option.some.inj hM1; subst hE
    try dsimp only [outK_inr, outL_inr] at hM0
    have hE := Option.some.inj hM0; subst hE
    exact And.intro rfl sX1

theorem t_spec_EqualGraphs (h : Hp) (csp0 : List Value) (p0 : LGraph) (rp0 : wGraph.R h csp0 p0) (csp1 : List Value) (p1 : LGraph) (rp1 : wGraph.R h csp1 p1) (r : Bool) (hM0 : M_spec_EqualGraphs p0 p1 = some r) :
    Tr Tryz.prog 95 #[.agg csp0.toArray, .agg csp1.toArray] h fun v h' => v = .bool r ∧ h' = h := by
  obtain ⟨p0_0, p0_1, ap0_2, np0_2, cp0_2, p0_2, rfl, rfl, ip0_0, ip0_1, rp0_2⟩ := openGraph rp0
  obtain ⟨rfl, lp0_2⟩ := Sl.len rp0_2
  obtain ⟨p1_0, p1_1, ap1_2, np1_2, cp1_2, p1_2, rfl, rfl, ip1_0, ip1_1, rp1_2⟩ := openGraph rp1
  obtain ⟨rfl, lp1_2⟩ := Sl.len rp1_2
  unfold M_spec_EqualGraphs at hM0
  dsimp only at hM0
  refine Tr.forget (walk (args := [.agg #[.int .i64 p0_0, .int .i64 p0_1, .slice ap0_2 p0_2.length cp0_2], .agg #[.int .i64 p1_0, .int .i64 p1_1, .slice ap1_2 p1_2.length cp1_2]]) (fn := Tryz.f95) rfl ?_)
  refine And.intro (fun hc1 => ?_) (fun hc1 => ?_)
  · have hc1 : ((bif (bif (!decide (p0_0 = p1_0)) then true else (!decide (p0_1 = p1_1))) then true else (!decide (((p0_2.length : Nat) : Int) = ((p1_2.length : Nat) : Int))))) = true := hc1
    rw [if_pos hc1] at hM0
    have hE := Option.some.inj hM0; subst hE
    exact And.intro rfl (Sub.refl _)
  · have hc1 : ((bif (bif (!decide (p0_0 = p1_0)) then true else (!decide (p0_1 = p1_1))) then true else (!decide (((p0_2.length : Nat) : Int) = ((p1_2.length : Nat) : Int))))) = false := hc1
    rw [if_neg (bneT hc1)] at hM0
    obtain ⟨X2, hLX2, hM0⟩ := bsome hM0
    refine Exists.intro { vars := [5], boxes := [], owns := [], fuel := true } (Exists.intro (fun vs os h' => ∃ (u3 : Int), vs.tail = [.int .i64 u3] ∧ os = [] ∧ Sub h h' ∧ In64 u3 ∧ L_spec_EqualGraphs_0 p0_2 p1_2 (fuelOf vs) u3 = some X2) (Exists.intro (fun _ _ => 0) ?_))
    refine And.intro (Exists.intro FUEL ⟨0, rfl, rfl, (Sub.refl _), (c64 (by decide) (by decide)), hLX2⟩) ?_
    rintro v_0 m5 k4 ⟨u3, evX2, eoX2, sX2, iu3, hM1⟩
    cases evX2
    cases eoX2
    replace hM1 : L_spec_EqualGraphs_0 p0_2 p1_2 m5 u3 = some X2 := hM1
    obtain _ | m5 := m5
    · cases (show (none : Option _) = some X2 from hM1)
    rw [L_spec_EqualGraphs_0_succ] at hM1
    refine And.intro (fun hc6 => ?_) (fun hc6 => ?_)
    · have hc6 : ((decide (u3 < ((p0_2.length : Nat) : Int)))) = true := hc6
      rw [if_pos hc6] at hM1
      refine Or.inl (And.intro (And.intro (by kernel_rfl) (by kernel_rfl)) ?_)
      obtain ⟨x7, gx7, hM1⟩ := bsome hM1
      obtain ⟨bx7, csx7, ex7, rx7⟩ := Sl.getI (r := wEdge.toRp) (wEdgeS.mono sX2 rp0_2) gx7 (by decide)
      refine And.intro bx7 ?_
      obtain ⟨x7_0, x7_1, x7_2, rfl, rfl, ix7_0, ix7_1, ix7_2⟩ := openEdge rx7
      dsimp only at hM1
      refine Exists.intro _ (And.intro ex7 ?_)
      obtain ⟨x8, gx8, hM1⟩ := bsome hM1
      obtain ⟨bx8, csx8, ex8, rx8⟩ := Sl.getI (r := wEdge.toRp) (wEdgeS.mono sX2 rp1_2) gx8 (by decide)
      refine And.intro bx8 ?_
      obtain ⟨x8_0, x8_1, x8_2, rfl, rfl, ix8_0, ix8_1, ix8_2⟩ := openEdge rx8
      dsimp only at hM1
      refine Exists.intro _ (And.intro ex8 ?_)
      refine Exists.intro (!eqE (x7_0, x7_1, x7_2) (x8_0, x8_1, x8_2)) (And.intro (edgeNeq _ _ _ rfl _ _ _ _ _ _) ?_)
      refine And.intro (fun hc9 => ?_) (fun hc9 => ?_)
      · have hc9 : ((!eqE (x7_0, x7_1, x7_2) (x8_0, x8_1, x8_2))) = true := hc9
        rw [if_pos hc9] at hM1
        have hE := Option.some.inj hM1; subst hE
        try dsimp only [outK_inl, outL_inl] at hM0
        have hE := Option.some.inj hM0; subst hE
        exact And.intro rfl sX2
      · have hc9 : ((!eqE (x7_0, x7_1, x7_2) (x8_0, x8_1, x8_2))) = false := hc9
        rw [if_neg (bneT hc9)] at hM1
        refine And.intro rfl (And.intro (by first | exact trivial | exact And.intro rfl trivial | exact And.intro rfl (And.intro rfl trivial) | exact And.intro rfl (And.intro rfl (And.intro rfl trivial)) | exact And.intro rfl (And.intro rfl (And.intro rfl (And.intro rfl trivial)))) (And.intro (by first | exact trivial | exact And.intro rfl trivial | exact And.intro rfl (And.intro rfl trivial) | exact And.intro rfl (And.intro rfl (And.intro rfl trivial)) | exact And.intro rfl (And.intro rfl (And.intro rfl (And.intro rfl trivial)))) (Exists.intro m5 (And.intro ⟨(IntKind.i64.wrap (u3 + 1)), rfl, rfl, sX2, (wrap64 _), hM1⟩ (Nat.lt_succ_self _)))))
    · have hc6 : ((decide (u3 < ((p0_2.length : Nat) : Int)))) = false := hc6
      rw [if_neg (bneT hc6)] at hM1
      have hE := Option.some.inj hM1; subst hE
      try dsimp only [outK_inr, outL_inr] at hM0
      have hE := Option.some.inj hM0; subst hE
      exact And.intro rfl sX2

theorem t_spec_ReachedFrom (h : Hp) (csp0 : List Value) (p0 : LGraph) (rp0 : wGraph.R h csp0 p0) (p1 : Int) (ip1 : In64 p1) (r : LIntS) (hM0 : M_spec_ReachedFrom p0 p1 = some r) :
    Tr Tryz.prog 149 #[.agg csp0.toArray, .int .i64 p1] h fun v h' => ∃ (a0 : Option Addr) (n0 c0 : Nat), v = .slice a0 n0 c0 ∧ wIntS.R h' [.slice a0 n0 c0] r ∧ Sub h h' := by
  obtain ⟨p0_0, p0_1, ap0_2, np0_2, cp0_2, p0_2, rfl, rfl, ip0_0, ip0_1, rp0_2⟩ := openGraph rp0
  obtain ⟨rfl, lp0_2⟩ := Sl.len rp0_2
  unfold M_spec_ReachedFrom at hM0
  dsimp only at hM0
  refine walk (args := [.agg #[.int .i64 p0_0, .int .i64 p0_1, .slice ap0_2 p0_2.length cp0_2], .int .i64 p1]) (fn := Tryz.f149) rfl ?_
  obtain ⟨x1, gx1, hM0⟩ := bsome hM0
  refine Tr.val (t_spec_IsGraph _ [.int .i64 p0_0, .int .i64 p0_1, .slice ap0_2 p0_2.length cp0_2] (p0_0, p0_1, p0_2) (closeGraph ip0_0 ip0_1 rp0_2) _  gx1) ?_
  obtain ⟨x2, gx2, hM0⟩ := bsome hM0
  refine Exists.intro (.bool x2) (And.intro (fun q => t_spec_l1In _ p1 ip1 0 (c64 (by decide) (by decide)) (IntKind.i64.wrap (p0_1 - 1)) (wrap64 _) _  (chk_some gx2 q)) ?_)
  refine And.intro (fun hc3 => ?_) (fun hc3 => ?_)
  · have hc3 : ((bif (!x1) then true else (!x2))) = true := hc3
    rw [if_pos hc3] at hM0
    intro v4 k5 f6
    obtain ⟨az7, cz7, rfl, rz7, sz7, lz7⟩ := Froze.out (r := Wp.int.toRp) f6 (show F2 (Wp.int.R h) ([] : List (List Value)) ([] : LIntS) from trivial)
    have hE := Option.some.inj hM0; subst hE
    exact ⟨az7, (([] : LIntS)).length, cz7, rfl, rz7, sz7⟩
  · have hc3 : ((bif (!x1) then true else (!x2))) = false := hc3
    rw [if_neg (bneT hc3)] at hM0
    obtain ⟨X12, hLX12, hM0⟩ := bsome hM0
    refine Exists.intro { vars := [5, 6], boxes := [], owns := [], fuel := true, pubs := [5, 22] } (Exists.intro (fun vs os h' => ∃ (au13 : Option Addr) (nu13 cu13 : Nat) (u13 : LIntS) (u14 : Int), vs.tail = [.slice au13 nu13 cu13, .int .i64 u14] ∧ os = [] ∧ Sub h h' ∧ wIntS.R h' [.slice au13 nu13 cu13] u13 ∧ In64 u14 ∧ L_spec_ReachedFrom_1 p0_2 (fuelOf vs) u13 u14 = some X12) (Exists.intro (fun _ _ => 0) ?_))
    intro v8 k9 f10
    obtain ⟨az11, cz11, rfl, rz11, sz11, lz11⟩ := Froze.out (r := Wp.int.toRp) f10 (show F2 (Wp.int.R h) ([[.int .i64 p1]] : List (List Value)) [p1] from ⟨⟨rfl, ip1⟩, trivial⟩)
    refine And.intro (Exists.intro FUEL ⟨az11, ([p1]).length, cz11, [p1], 0, rfl, rfl, sz11, rz11, (c64 (by decide) (by decide)), hLX12⟩) ?_
    rintro v_0 v_1 m16 k15 ⟨au13, nu13, cu13, u13, u14, evX12, eoX12, sX12, ru13, iu14, hM1⟩
    cases evX12
    cases eoX12
    replace hM1 : L_spec_ReachedFrom_1 p0_2 m16 u13 u14 = some X12 := hM1
    obtain _ | m16 := m16
    · cases (show (none : Option _) = some X12 from hM1)
    rw [L_spec_ReachedFrom_1_succ] at hM1
    obtain ⟨rfl, lu13⟩ := Sl.len ru13
    refine And.intro (fun hc17 => ?_) (fun hc17 => ?_)
    · have hc17 : ((decide (u14 < (IntKind.i64.wrap (((p0_2.length : Nat) : Int) + 1))))) = true := hc17
      rw [if_pos hc17] at hM1
      obtain ⟨X18, hLX18, hM1⟩ := bsome hM1
      refine Exists.intro { vars := [5, 7], boxes := [], owns := [], fuel := true } (Exists.intro (fun vs os h' => ∃ (au19 : Option Addr) (nu19 cu19 : Nat) (u19 : LIntS) (u20 : Int), vs.tail = [.slice au19 nu19 cu19, .int .i64 u20] ∧ os = [] ∧ Sub k15 h' ∧ wIntS.R h' [.slice au19 nu19 cu19] u19 ∧ In64 u20 ∧ L_spec_ReachedFrom_0 p0_2 (fuelOf vs) u19 u20 = some X18) (Exists.intro (fun _ _ => 0) ?_))
      refine And.intro (Exists.intro FUEL ⟨au13, u13.length, cu13, u13, 0, rfl, rfl, (Sub.refl _), ru13, (c64 (by decide) (by decide)), hLX18⟩) ?_
      rintro v_0 v_1 m22 k21 ⟨au19, nu19, cu19, u19, u20, evX18, eoX18, sX18, ru19, iu20, hM2⟩
      cases evX18
      cases eoX18
      replace hM2 : L_spec_ReachedFrom_0 p0_2 m22 u19 u20 = some X18 := hM2
      obtain _ | m22 := m22
      · cases (show (none : Option _) = some X18 from hM2)
      rw [L_spec_ReachedFrom_0_succ] at hM2
      obtain ⟨rfl, lu19⟩ := Sl.len ru19
      refine And.intro (fun hc23 => ?_) (fun hc23 => ?_)
      · have hc23 : ((decide (u20 < ((p0_2.length : Nat) : Int)))) = true := hc23
        rw [if_pos hc23] at hM2
        obtain ⟨x24, gx24, hM2⟩ := bsome hM2
        obtain ⟨bx24, csx24, ex24, rx24⟩ := Sl.getI (r := wEdge.toRp) (wEdgeS.mono (sX12.trans sX18) rp0_2) gx24 (by decide)
        refine And.intro bx24 ?_
        obtain ⟨x24_0, x24_1, x24_2, rfl, rfl, ix24_0, ix24_1, ix24_2⟩ := openEdge rx24
        dsimp only at hM2
        refine Exists.intro _ (And.intro ex24 ?_)
        obtain ⟨x25, gx25, hM2⟩ := bsome hM2
        refine Tr.val (t_spec_l4Has _ au19 u19.length cu19 u19 ru19 x24_0 ix24_0 _  gx25) ?_
        refine And.intro (fun hc26 => ?_) (fun hc26 => ?_)
        · have hc26 : (x25) = true := hc26
          rw [if_pos hc26] at hM2
          obtain ⟨x27, gx27, hM2⟩ := bsome hM2
          refine Tr.mono (t_spec_l4Add _ au19 u19.length cu19 u19 ru19 x24_2 ix24_2 _  gx27) ?_
          rintro v29 k28 ⟨ax27, nx27, cx27, rfl, rx27, sx27⟩
          obtain ⟨rfl, lx27⟩ := Sl.len rx27
          obtain ⟨x30, gx30, hM2⟩ := bsome hM2
          refine Tr.val (t_spec_l4Has _ ax27 x27.length cx27 x27 rx27 x24_2 ix24_2 _  gx30) ?_
          refine And.intro (fun hc31 => ?_) (fun hc31 => ?_)
          · have hc31 : (x30) = true := hc31
            rw [if_pos hc31] at hM2
            obtain ⟨x32, gx32, hM2⟩ := bsome hM2
            refine Tr.mono (t_spec_l4Add _ ax27 x27.length cx27 x27 rx27 x24_0 ix24_0 _  gx32) ?_
            rintro v34 k33 ⟨ax32, nx32, cx32, rfl, rx32, sx32⟩
            obtain ⟨rfl, lx32⟩ := Sl.len rx32
            refine And.intro rfl (And.intro (by first | exact trivial | exact And.intro rfl trivial | exact And.intro rfl (And.intro rfl trivial) | exact And.intro rfl (And.intro rfl (And.intro rfl trivial)) | exact And.intro rfl (And.intro rfl (And.intro rfl (And.intro rfl trivial)))) (And.intro (by first | exact trivial | exact And.intro rfl trivial | exact And.intro rfl (And.intro rfl trivial) | exact And.intro rfl (And.intro rfl (And.intro rfl trivial)) | exact And.intro rfl (And.intro rfl (And.intro rfl (And.intro rfl trivial)))) (Exists.intro m22 (And.intro ⟨ax32, x32.length, cx32, x32, (IntKind.i64.wrap (u20 + 1)), rfl, rfl, ((sX18.trans sx27).trans sx32), rx32, (wrap64 _), hM2⟩ (Nat.lt_succ_self _)))))
          · have hc31 : (x30) = false := hc31
            rw [if_neg (bneT hc31)] at hM2
            refine And.intro rfl (And.intro (by first | exact trivial | exact And.intro rfl trivial | exact And.intro rfl (And.intro rfl trivial) | exact And.intro rfl (And.intro rfl (And.intro rfl trivial)) | exact And.intro rfl (And.intro rfl (And.intro rfl (And.intro rfl trivial)))) (And.intro (by first | exact trivial | exact And.intro rfl trivial | exact And.intro rfl (And.intro rfl trivial) | exact And.intro rfl (And.intro rfl (And.intro rfl trivial)) | exact And.intro rfl (And.intro rfl (And.intro rfl (And.intro rfl trivial)))) (Exists.intro m22 (And.intro ⟨ax27, x27.length, cx27, x27, (IntKind.i64.wrap (u20 + 1)), rfl, rfl, (sX18.trans sx27), rx27, (wrap64 _), hM2⟩ (Nat.lt_succ_self _)))))
        · have hc26 : (x25) = false := hc26
          rw [if_neg (bneT hc26)] at hM2
          obtain ⟨x35, gx35, hM2⟩ := bsome hM2
          refine Tr.val (t_spec_l4Has _ au19 u19.length cu19 u19 ru19 x24_2 ix24_2 _  gx35) ?_
          refine And.intro (fun hc36 => ?_) (fun hc36 => ?_)
          · have hc36 : (x35) = true := hc36
            rw [if_pos hc36] at hM2
            obtain ⟨x37, gx37, hM2⟩ := bsome hM2
            refine Tr.mono (t_spec_l4Add _ au19 u19.length cu19 u19 ru19 x24_0 ix24_0 _  gx37) ?_
            rintro v39 k38 ⟨ax37, nx37, cx37, rfl, rx37, sx37⟩
            obtain ⟨rfl, lx37⟩ := Sl.len rx37
            refine And.intro rfl (And.intro (by first | exact trivial | exact And.intro rfl trivial | exact And.intro rfl (And.intro rfl trivial) | exact And.intro rfl (And.intro rfl (And.intro rfl trivial)) | exact And.intro rfl (And.intro rfl (And.intro rfl (And.intro rfl trivial)))) (And.intro (by first | exact trivial | exact And.intro rfl trivial | exact And.intro rfl (And.intro rfl trivial) | exact And.intro rfl (And.intro rfl (And.intro rfl trivial)) | exact And.intro rfl (And.intro rfl (And.intro rfl (And.intro rfl trivial)))) (Exists.intro m22 (And.intro ⟨ax37, x37.length, cx37, x37, (IntKind.i64.wrap (u20 + 1)), rfl, rfl, (sX18.trans sx37), rx37, (wrap64 _), hM2⟩ (Nat.lt_succ_self _)))))
          · have hc36 : (x35) = false := hc36
            rw [if_neg (bneT hc36)] at hM2
            refine And.intro rfl (And.intro (by first | exact trivial | exact And.intro rfl trivial | exact And.intro rfl (And.intro rfl trivial) | exact And.intro rfl (And.intro rfl (And.intro rfl trivial)) | exact And.intro rfl (And.intro rfl (And.intro rfl (And.intro rfl trivial)))) (And.intro (by first | exact trivial | exact And.intro rfl trivial | exact And.intro rfl (And.intro rfl trivial) | exact And.intro rfl (And.intro rfl (And.intro rfl trivial)) | exact And.intro rfl (And.intro rfl (And.intro rfl (And.intro rfl trivial)))) (Exists.intro m22 (And.intro ⟨au19, u19.length, cu19, u19, (IntKind.i64.wrap (u20 + 1)), rfl, rfl, sX18, ru19, (wrap64 _), hM2⟩ (Nat.lt_succ_self _)))))
      · have hc23 : ((decide (u20 < ((p0_2.length : Nat) : Int)))) = false := hc23
        rw [if_neg (bneT hc23)] at hM2
        have hE := Option.some.inj hM2; subst hE
        try dsimp only [outK_inr, outL_inr] at hM1
        refine And.intro rfl (And.intro (by first | exact trivial | exact And.intro rfl trivial | exact And.intro rfl (And.intro rfl trivial) | exact And.intro rfl (And.intro rfl (And.intro rfl trivial)) | exact And.intro rfl (And.intro rfl (And.intro rfl (And.intro rfl trivial)))) (And.intro (by first | exact trivial | exact And.intro rfl trivial | exact And.intro rfl (And.intro rfl trivial) | exact And.intro rfl (And.intro rfl (And.intro rfl trivial)) | exact And.intro rfl (And.intro rfl (And.intro rfl (And.intro rfl trivial)))) (Exists.intro m16 (And.intro ⟨au19, u19.length, cu19, u19, (IntKind.i64.wrap (u14 + 1)), rfl, rfl, (sX12.trans sX18), ru19, (wrap64 _), hM1⟩ (Nat.lt_succ_self _)))))
    · have hc17 : ((decide (u14 < (IntKind.i64.wrap (((p0_2.length : Nat) : Int) + 1))))) = false := hc17
      rw [if_neg (bneT hc17)] at hM1
      have hE := Option.some.inj hM1; subst hE
      try dsimp only [outK_inr, outL_inr] at hM0
      have hE := Option.some.inj hM0; subst hE
      exact ⟨au13, u13.length, cu13, rfl, ru13, sX12⟩

theorem t_spec_l8Leaf (h : Hp) (csp0 : List Value) (p0 : LGraph) (rp0 : wGraph.R h csp0 p0) (r : Int) (hM0 : M_spec_l8Leaf p0 = some r) :
    Tr Tryz.prog 127 #[.agg csp0.toArray] h fun v h' => v = .int .i64 r ∧ h' = h := by
  obtain ⟨p0_0, p0_1, ap0_2, np0_2, cp0_2, p0_2, rfl, rfl, ip0_0, ip0_1, rp0_2⟩ := openGraph rp0
  obtain ⟨rfl, lp0_2⟩ := Sl.len rp0_2
  unfold M_spec_l8Leaf at hM0
  dsimp only at hM0
  refine Tr.forget (walk (args := [.agg #[.int .i64 p0_0, .int .i64 p0_1, .slice ap0_2 p0_2.length cp0_2]]) (fn := Tryz.f127) rfl ?_)
  obtain ⟨x1, gx1, hM0⟩ := bsome hM0
  refine Tr.mono (t_spec_ReachedFrom _ [.int .i64 p0_0, .int .i64 p0_1, .slice ap0_2 p0_2.length cp0_2] (p0_0, p0_1, p0_2) (closeGraph ip0_0 ip0_1 rp0_2) 0 (c64 (by decide) (by decide)) _  gx1) ?_
  rintro v3 k2 ⟨ax1, nx1, cx1, rfl, rx1, sx1⟩
  obtain ⟨rfl, lx1⟩ := Sl.len rx1
  obtain ⟨X4, hLX4, hM0⟩ := bsome hM0
  refine Exists.intro { vars := [4], boxes := [], owns := [], fuel := true } (Exists.intro (fun vs os h' => ∃ (u5 : Int), vs.tail = [.int .i64 u5] ∧ os = [] ∧ Sub k2 h' ∧ In64 u5 ∧ L_spec_l8Leaf_0 p0_1 p0_0 p0_2 x1 (fuelOf vs) u5 = some X4) (Exists.intro (fun _ _ => 0) ?_))
  refine And.intro (Exists.intro FUEL ⟨1, rfl, rfl, (Sub.refl _), (c64 (by decide) (by decide)), hLX4⟩) ?_
  rintro v_0 m7 k6 ⟨u5, evX4, eoX4, sX4, iu5, hM1⟩
  cases evX4
  cases eoX4
  replace hM1 : L_spec_l8Leaf_0 p0_1 p0_0 p0_2 x1 m7 u5 = some X4 := hM1
  obtain _ | m7 := m7
  · cases (show (none : Option _) = some X4 from hM1)
  rw [L_spec_l8Leaf_0_succ] at hM1
  refine And.intro (fun hc8 => ?_) (fun hc8 => ?_)
  · have hc8 : ((decide (u5 < p0_1))) = true := hc8
    rw [if_pos hc8] at hM1
    obtain ⟨x9, gx9, hM1⟩ := bsome hM1
    refine Tr.val (t_spec_DegreeOf _ [.int .i64 p0_0, .int .i64 p0_1, .slice ap0_2 p0_2.length cp0_2] (p0_0, p0_1, p0_2) (closeGraph ip0_0 ip0_1 (wEdgeS.mono (sx1.trans sX4) rp0_2)) u5 iu5 _  gx9) ?_
    obtain ⟨q10, gq10, hM1⟩ := bsome hM1
    have ix9 : In64 x9 := grd_some gq10
    obtain ⟨x11, gx11, hM1⟩ := bsome hM1
    refine Exists.intro (.bool x11) (And.intro (fun q => t_spec_l4Has _ ax1 x1.length cx1 x1 (wIntS.mono sX4 rx1) u5 iu5 _  (chk_some gx11 q)) ?_)
    refine And.intro (fun hc12 => ?_) (fun hc12 => ?_)
    · have hc12 : ((bif (decide (x9 < 2)) then true else (!x11))) = true := hc12
      rw [if_pos hc12] at hM1
      have hE := Option.some.inj hM1; subst hE
      try dsimp only [outK_inl, outL_inl] at hM0
      have hE := Option.some.inj hM0; subst hE
      exact And.intro rfl (sx1.trans sX4)
    · have hc12 : ((bif (decide (x9 < 2)) then true else (!x11))) = false := hc12
      rw [if_neg (bneT hc12)] at hM1
      refine And.intro rfl (And.intro (by first | exact trivial | exact And.intro rfl trivial | exact And.intro rfl (And.intro rfl trivial) | exact And.intro rfl (And.intro rfl (And.intro rfl trivial)) | exact And.intro rfl (And.intro rfl (And.intro rfl (And.intro rfl trivial)))) (And.intro (by first | exact trivial | exact And.intro rfl trivial | exact And.intro rfl (And.intro rfl trivial) | exact And.intro rfl (And.intro rfl (And.intro rfl trivial)) | exact And.intro rfl (And.intro rfl (And.intro rfl (And.intro rfl trivial)))) (Exists.intro m7 (And.intro ⟨(IntKind.i64.wrap (u5 + 1)), rfl, rfl, sX4, (wrap64 _), hM1⟩ (Nat.lt_succ_self _)))))
  · have hc8 : ((decide (u5 < p0_1))) = false := hc8
    rw [if_neg (bneT hc8)] at hM1
    have hE := Option.some.inj hM1; subst hE
    try dsimp only [outK_inr, outL_inr] at hM0
    have hE := Option.some.inj hM0; subst hE
    exact And.intro rfl (sx1.trans sX4)

theorem t_spec_RenumberGraph (h : Hp) (csp0 : List Value) (p0 : LGraph) (rp0 : wGraph.R h csp0 p0) (ap1 : Option Addr) (np1 cp1 : Nat) (p1 : LIntS) (rp1 : wIntS.R h [.slice ap1 np1 cp1] p1) (r : LGraph × Bool) (hM0 : M_spec_RenumberGraph p0 p1 = some r) :
    Tr Tryz.prog 152 #[.agg csp0.toArray, .slice ap1 np1 cp1] h fun v h' => ∃ (cs0 : List Value), v = .tuple #[.agg cs0.toArray, .bool r.2] ∧ wGraph.R h' cs0 r.1 ∧ Sub h h' := by
  obtain ⟨p0_0, p0_1, ap0_2, np0_2, cp0_2, p0_2, rfl, rfl, ip0_0, ip0_1, rp0_2⟩ := openGraph rp0
  obtain ⟨rfl, lp0_2⟩ := Sl.len rp0_2
  obtain ⟨rfl, lp1⟩ := Sl.len rp1
  unfold M_spec_RenumberGraph at hM0
  dsimp only at hM0
  refine walk (args := [.agg #[.int .i64 p0_0, .int .i64 p0_1, .slice ap0_2 p0_2.length cp0_2], .slice ap1 p1.length cp1]) (fn := Tryz.f152) rfl ?_
  obtain ⟨x1, gx1, hM0⟩ := bsome hM0
  refine Tr.val (t_spec_IsGraph _ [.int .i64 p0_0, .int .i64 p0_1, .slice ap0_2 p0_2.length cp0_2] (p0_0, p0_1, p0_2) (closeGraph ip0_0 ip0_1 rp0_2) _  gx1) ?_
  refine And.intro (fun hc2 => ?_) (fun hc2 => ?_)
  · have hc2 : ((bif (bif (!x1) then true else (decide (((p1.length : Nat) : Int) = 0))) then true else (decide (((p1.length : Nat) : Int) > p0_1)))) = true := hc2
    rw [if_pos hc2] at hM0
    obtain ⟨x3, gx3, hM0⟩ := bsome hM0
    refine Tr.mono (t_spec_l4Copy _ [.int .i64 p0_0, .int .i64 p0_1, .slice ap0_2 p0_2.length cp0_2] (p0_0, p0_1, p0_2) (closeGraph ip0_0 ip0_1 rp0_2) _  gx3) ?_
    rintro v5 k4 ⟨csx3, rfl, rx3, sx3⟩
    obtain ⟨x3_0, x3_1, ax3_2, nx3_2, cx3_2, x3_2, rfl, rfl, ix3_0, ix3_1, rx3_2⟩ := openGraph rx3
    obtain ⟨rfl, lx3_2⟩ := Sl.len rx3_2
    try dsimp only at hM0
    have hE := Option.some.inj hM0; subst hE
    exact ⟨([.int .i64 x3_0, .int .i64 x3_1, .slice ax3_2 x3_2.length cx3_2]), rfl, (closeGraph ix3_0 ix3_1 rx3_2), sx3⟩
  · have hc2 : ((bif (bif (!x1) then true else (decide (((p1.length : Nat) : Int) = 0))) then true else (decide (((p1.length : Nat) : Int) > p0_1)))) = false := hc2
    rw [if_neg (bneT hc2)] at hM0
    obtain ⟨q6, gq6, hM0⟩ := bsome hM0
    refine And.intro (grd_some gq6) ?_
    obtain ⟨X7, hLX7, hM0⟩ := bsome hM0
    refine Exists.intro { vars := [8], boxes := [], owns := [0], fuel := true, kept := [0] } (Exists.intro (fun vs os h' => ∃ (u8 : Int) (wu9 : List (List Value)) (u9 : List Int), vs.tail = [.int .i64 u8] ∧ os = [wu9] ∧ Sub h h' ∧ In64 u8 ∧ F2 (Wp.int.R h') wu9 u9 ∧ L_spec_RenumberGraph_1 p1 p0_1 p0_0 p0_2 (fuelOf vs) u8 u9 = some X7) (Exists.intro (fun _ _ => 0) ?_))
    refine And.intro (Exists.intro FUEL ⟨0, (List.replicate p0_1.toNat ([.int .i64 0] : List Value)), (List.replicate p0_1.toNat (0 : Int)), rfl, rfl, (Sub.refl _), (c64 (by decide) (by decide)), (F2.rep (p := Wp.int.R h) (a := [.int .i64 0]) (b := 0) ⟨rfl, (c64 (by decide) (by decide))⟩ (p0_1.toNat)), hLX7⟩) ?_
    rintro v_0 wu9 m11 k10 ⟨u8, zzu9, u9, evX7, eoX7, sX7, iu8, fu9, hM1⟩
    cases evX7
    cases eoX7
    replace hM1 : L_spec_RenumberGraph_1 p1 p0_1 p0_0 p0_2 m11 u8 u9 = some X7 := hM1
    obtain _ | m11 := m11
    · cases (show (none : Option _) = some X7 from hM1)
    rw [L_spec_RenumberGraph_1_succ] at hM1
    refine And.intro (fun hc12 => ?_) (fun hc12 => ?_)
    · have hc12 : ((decide (u8 < ((p1.length : Nat) : Int)))) = true := hc12
      rw [if_pos hc12] at hM1
      refine Or.inl (And.intro (And.intro (by kernel_rfl) (by kernel_rfl)) ?_)
      obtain ⟨x13, gx13, hM1⟩ := bsome hM1
      obtain ⟨bx13, csx13, ex13, rx13⟩ := Sl.getI (r := Wp.int.toRp) (wIntS.mono sX7 rp1) gx13 (by decide)
      refine And.intro bx13 ?_
      obtain ⟨rfl, ix13⟩ := rx13
      refine Exists.intro _ (And.intro ex13 ?_)
      obtain ⟨x14, gx14, hM1⟩ := bsome hM1
      refine Exists.intro (.bool x14) (And.intro (t_spec_l1In _ x13 ix13 0 (c64 (by decide) (by decide)) (IntKind.i64.wrap (p0_1 - 1)) (wrap64 _) _  gx14) ?_)
      obtain ⟨x15, gx15, hM1⟩ := bsome hM1
      obtain ⟨csx15, ex15, rx15⟩ := Sl.getG (r := Wp.int.toRp) (wIntS.mono sX7 rp1) gx15 (by decide) (dfInt k10)
      refine And.intro (fun q => (ex15 q).1) ?_
      obtain ⟨rfl, ix15⟩ := rx15
      refine Exists.intro _ (And.intro (fun q => (ex15 q).2) ?_)
      obtain ⟨x16, gx16, hM1⟩ := bsome hM1
      obtain ⟨csx16, ex16, rx16⟩ := oel_getG fu9 gx16 (dfInt k10)
      refine And.intro (fun q => (ex16 q).1) ?_
      obtain ⟨rfl, ix16⟩ := rx16
      refine Exists.intro _ (And.intro (fun q => (ex16 q).2) ?_)
      refine And.intro (fun hc17 => ?_) (fun hc17 => ?_)
      · have hc17 : ((bif (!x14) then true else (!decide (x16 = 0)))) = true := hc17
        rw [if_pos hc17] at hM1
        obtain ⟨x18, gx18, hM1⟩ := bsome hM1
        refine Tr.mono (t_spec_l4Copy _ [.int .i64 p0_0, .int .i64 p0_1, .slice ap0_2 p0_2.length cp0_2] (p0_0, p0_1, p0_2) (closeGraph ip0_0 ip0_1 (wEdgeS.mono sX7 rp0_2)) _  gx18) ?_
        rintro v20 k19 ⟨csx18, rfl, rx18, sx18⟩
        obtain ⟨x18_0, x18_1, ax18_2, nx18_2, cx18_2, x18_2, rfl, rfl, ix18_0, ix18_1, rx18_2⟩ := openGraph rx18
        obtain ⟨rfl, lx18_2⟩ := Sl.len rx18_2
        try dsimp only at hM1
        have hE := Option.some.inj hM1; subst hE
        try dsimp only [outK_inl, outL_inl] at hM0
        have hE := Option.some.inj hM0; subst hE
        exact ⟨([.int .i64 x18_0, .int .i64 x18_1, .slice ax18_2 x18_2.length cx18_2]), rfl, (closeGraph ix18_0 ix18_1 rx18_2), (sX7.trans sx18)⟩
      · have hc17 : ((bif (!x14) then true else (!decide (x16 = 0)))) = false := hc17
        rw [if_neg (bneT hc17)] at hM1
        obtain ⟨x21, gx21, hM1⟩ := bsome hM1
        obtain ⟨bx21, csx21, ex21, rx21⟩ := Sl.getI (r := Wp.int.toRp) (wIntS.mono sX7 rp1) gx21 (by decide)
        refine And.intro bx21 ?_
        obtain ⟨rfl, ix21⟩ := rx21
        refine Exists.intro _ (And.intro ex21 ?_)
        obtain ⟨x22, gx22, hM1⟩ := bsome hM1
        obtain ⟨bx22, csx22, ex22, rx22⟩ := oel_get fu9 gx22
        refine And.intro bx22 ?_
        obtain ⟨rfl, ix22⟩ := rx22
        refine Exists.intro _ (And.intro ex22 ?_)
        refine And.intro rfl (And.intro (by first | exact trivial | exact And.intro rfl trivial | exact And.intro rfl (And.intro rfl trivial) | exact And.intro rfl (And.intro rfl (And.intro rfl trivial)) | exact And.intro rfl (And.intro rfl (And.intro rfl (And.intro rfl trivial)))) (And.intro (by first | exact trivial | exact And.intro rfl trivial | exact And.intro rfl (And.intro rfl trivial) | exact And.intro rfl (And.intro rfl (And.intro rfl trivial)) | exact And.intro rfl (And.intro rfl (And.intro rfl (And.intro rfl trivial)))) (Exists.intro m11 (And.intro ⟨(IntKind.i64.wrap (u8 + 1)), (wu9.set x21.toNat [.int .i64 (IntKind.i64.wrap (u8 + 1))]), (u9.set x21.toNat (IntKind.i64.wrap (u8 + 1))), rfl, rfl, sX7, (wrap64 _), (F2.set (p := Wp.int.R k10) (a := [.int .i64 (IntKind.i64.wrap (u8 + 1))]) (b := (IntKind.i64.wrap (u8 + 1))) ⟨rfl, (wrap64 _)⟩ x21.toNat fu9), hM1⟩ (Nat.lt_succ_self _)))))
    · have hc12 : ((decide (u8 < ((p1.length : Nat) : Int)))) = false := hc12
      rw [if_neg (bneT hc12)] at hM1
      have hE := Option.some.inj hM1; subst hE
      try dsimp only [outK_inr, outL_inr] at hM0
      obtain ⟨X23, hLX23, hM0⟩ := bsome hM0
      refine Exists.intro { vars := [9], boxes := [2], owns := [], fuel := true } (Exists.intro (fun vs os h' => ∃ (u24 : Int) (u25 : Int) (u26 : Int) (au27 : Option Addr) (nu27 cu27 : Nat) (u27 : LEdgeS), vs.tail = [.int .i64 u24, .int .i64 u25, .int .i64 u26, .slice au27 nu27 cu27] ∧ os = [] ∧ Sub k10 h' ∧ In64 u24 ∧ In64 u25 ∧ In64 u26 ∧ wEdgeS.R h' [.slice au27 nu27 cu27] u27 ∧ L_spec_RenumberGraph_0 p0_2 u9 (fuelOf vs) u24 u25 u26 u27 = some X23) (Exists.intro (fun _ _ => 0) ?_))
      refine And.intro (Exists.intro FUEL ⟨0, p0_0, ((p1.length : Nat) : Int), none, 0, 0, [], rfl, rfl, (Sub.refl _), (c64 (by decide) (by decide)), ip0_0, (len64 lp1), (nilR wEdge k10), hLX23⟩) ?_
      rintro v_0 v_1 v_2 v_3 m29 k28 ⟨u24, u25, u26, au27, nu27, cu27, u27, evX23, eoX23, sX23, iu24, iu25, iu26, ru27, hM1⟩
      cases evX23
      cases eoX23
      replace hM1 : L_spec_RenumberGraph_0 p0_2 u9 m29 u24 u25 u26 u27 = some X23 := hM1
      obtain _ | m29 := m29
      · cases (show (none : Option _) = some X23 from hM1)
      rw [L_spec_RenumberGraph_0_succ] at hM1
      obtain ⟨rfl, lu27⟩ := Sl.len ru27
      refine And.intro (fun hc30 => ?_) (fun hc30 => ?_)
      · have hc30 : ((decide (u24 < ((p0_2.length : Nat) : Int)))) = true := hc30
        rw [if_pos hc30] at hM1
        obtain ⟨x31, gx31, hM1⟩ := bsome hM1
        obtain ⟨bx31, csx31, ex31, rx31⟩ := Sl.getI (r := wEdge.toRp) (wEdgeS.mono (sX7.trans sX23) rp0_2) gx31 (by decide)
        refine And.intro bx31 ?_
        obtain ⟨x31_0, x31_1, x31_2, rfl, rfl, ix31_0, ix31_1, ix31_2⟩ := openEdge rx31
        dsimp only at hM1
        refine Exists.intro _ (And.intro ex31 ?_)
        obtain ⟨x32, gx32, hM1⟩ := bsome hM1
        obtain ⟨bx32, csx32, ex32, rx32⟩ := oel_get (F2.up (r := Wp.int.toRp) sX23 fu9) gx32
        refine And.intro bx32 ?_
        obtain ⟨rfl, ix32⟩ := rx32
        refine Exists.intro _ (And.intro ex32 ?_)
        obtain ⟨x33, gx33, hM1⟩ := bsome hM1
        obtain ⟨csx33, ex33, rx33⟩ := oel_getG (F2.up (r := Wp.int.toRp) sX23 fu9) gx33 (dfInt k28)
        refine And.intro (fun q => (ex33 q).1) ?_
        obtain ⟨rfl, ix33⟩ := rx33
        refine Exists.intro _ (And.intro (fun q => (ex33 q).2) ?_)
        refine And.intro (fun hc34 => ?_) (fun hc34 => ?_)
        · have hc34 : ((bif (decide (x32 > 0)) then (decide (x33 > 0)) else false)) = true := hc34
          rw [if_pos hc34] at hM1
          refine Or.inr (Or.inr (Or.inl (And.intro (And.intro (by kernel_rfl) (by kernel_rfl)) ?_)))
          obtain ⟨x35, gx35, hM1⟩ := bsome hM1
          obtain ⟨bx35, csx35, ex35, rx35⟩ := oel_get (F2.up (r := Wp.int.toRp) sX23 fu9) gx35
          obtain ⟨rfl, ix35⟩ := rx35
          refine Or.inl ?_
          apply Exists.intro
          refine And.intro ?_ ?_
          · intro k36 s37
            exact And.intro bx35 (And.intro rfl (And.intro rfl rfl))
          refine Or.inl (Exists.intro (.val (.int .i64 x35)) (And.intro ?_ ?_))
          · intro k38 s39
            exact Exists.intro _ (And.intro ex35 (And.intro rfl (And.intro rfl rfl)))
          refine Or.inl (Exists.intro (.val (.int .i64 (IntKind.i64.wrap (x35 - 1)))) (And.intro ?_ ?_))
          · intro k40 s41
            exact And.intro rfl (And.intro rfl rfl)
          obtain ⟨x42, gx42, hM1⟩ := bsome hM1
          obtain ⟨bx42, csx42, ex42, rx42⟩ := oel_get (F2.up (r := Wp.int.toRp) sX23 fu9) gx42
          obtain ⟨rfl, ix42⟩ := rx42
          refine Or.inl ?_
          apply Exists.intro
          refine And.intro ?_ ?_
          · intro k43 s44
            exact And.intro bx42 (And.intro rfl (And.intro rfl rfl))
          refine Or.inl (Exists.intro (.val (.int .i64 x42)) (And.intro ?_ ?_))
          · intro k45 s46
            exact Exists.intro _ (And.intro ex42 (And.intro rfl (And.intro rfl rfl)))
          refine Or.inl (Exists.intro (.val (.int .i64 (IntKind.i64.wrap (x42 - 1)))) (And.intro ?_ ?_))
          · intro k47 s48
            exact And.intro rfl (And.intro rfl rfl)
          refine Or.inl (Exists.intro (.agg [.val (.int .i64 (IntKind.i64.wrap (x35 - 1))), .val (.int .i64 x31_1), .val (.int .i64 (IntKind.i64.wrap (x42 - 1)))]) (And.intro ?_ ?_))
          · intro k49 s50
            exact And.intro rfl (And.intro rfl rfl)
          refine Or.inr ?_
          refine Or.inr ?_
          refine Exists.intro 1 (And.intro (And.intro rfl rfl) ?_)
          obtain ⟨x51, gx51, hM1⟩ := bsome hM1
          refine Tr.mono (t_spec_l4Put _ au27 u27.length cu27 u27 ru27 [.int .i64 (IntKind.i64.wrap (x35 - 1)), .int .i64 x31_1, .int .i64 (IntKind.i64.wrap (x42 - 1))] ((IntKind.i64.wrap (x35 - 1)), x31_1, (IntKind.i64.wrap (x42 - 1))) (closeEdge (wrap64 _) ix31_1 (wrap64 _)) _  gx51) ?_
          rintro v53 k52 ⟨ax51, nx51, cx51, rfl, rx51, sx51⟩
          obtain ⟨rfl, lx51⟩ := Sl.len rx51
          refine And.intro (And.intro rfl sx51) (And.intro (by first | exact trivial | exact rfl) ?_)
          refine And.intro trivial (And.intro (by first | exact trivial | exact rfl) ?_)
          refine And.intro rfl (And.intro (by first | exact trivial | exact And.intro rfl trivial | exact And.intro rfl (And.intro rfl trivial) | exact And.intro rfl (And.intro rfl (And.intro rfl trivial)) | exact And.intro rfl (And.intro rfl (And.intro rfl (And.intro rfl trivial)))) (And.intro (by first | exact trivial | exact And.intro rfl trivial | exact And.intro rfl (And.intro rfl trivial) | exact And.intro rfl (And.intro rfl (And.intro rfl trivial)) | exact And.intro rfl (And.intro rfl (And.intro rfl (And.intro rfl trivial)))) (Exists.intro m29 (And.intro ⟨(IntKind.i64.wrap (u24 + 1)), u25, u26, ax51, x51.length, cx51, x51, rfl, rfl, (sX23.trans sx51), (wrap64 _), iu25, iu26, rx51, hM1⟩ (Nat.lt_succ_self _)))))
        · have hc34 : ((bif (decide (x32 > 0)) then (decide (x33 > 0)) else false)) = false := hc34
          rw [if_neg (bneT hc34)] at hM1
          refine And.intro rfl (And.intro (by first | exact trivial | exact And.intro rfl trivial | exact And.intro rfl (And.intro rfl trivial) | exact And.intro rfl (And.intro rfl (And.intro rfl trivial)) | exact And.intro rfl (And.intro rfl (And.intro rfl (And.intro rfl trivial)))) (And.intro (by first | exact trivial | exact And.intro rfl trivial | exact And.intro rfl (And.intro rfl trivial) | exact And.intro rfl (And.intro rfl (And.intro rfl trivial)) | exact And.intro rfl (And.intro rfl (And.intro rfl (And.intro rfl trivial)))) (Exists.intro m29 (And.intro ⟨(IntKind.i64.wrap (u24 + 1)), u25, u26, au27, u27.length, cu27, u27, rfl, rfl, sX23, (wrap64 _), iu25, iu26, ru27, hM1⟩ (Nat.lt_succ_self _)))))
      · have hc30 : ((decide (u24 < ((p0_2.length : Nat) : Int)))) = false := hc30
        rw [if_neg (bneT hc30)] at hM1
        have hE := Option.some.inj hM1; subst hE
        try dsimp only [outK_inr, outL_inr] at hM0
        have hE := Option.some.inj hM0; subst hE
        exact ⟨([.int .i64 u25, .int .i64 u26, .slice au27 u27.length cu27]), rfl, (closeGraph iu25 iu26 ru27), (sX7.trans sX23)⟩

theorem t_spec_l5Letters (h : Hp) (p0 : Int) (ip0 : In64 p0) (r : LIntS) (hM0 : M_spec_l5Letters p0 = some r) :
    Tr Tryz.prog 110 #[.int .i64 p0] h fun v h' => ∃ (a0 : Option Addr) (n0 c0 : Nat), v = .slice a0 n0 c0 ∧ wIntS.R h' [.slice a0 n0 c0] r ∧ Sub h h' := by
  unfold M_spec_l5Letters at hM0
  refine walk (args := [.int .i64 p0]) (fn := Tryz.f110) rfl ?_
  obtain ⟨X1, hLX1, hM0⟩ := bsome hM0
  refine Exists.intro { vars := [4], boxes := [], owns := [0], fuel := true } (Exists.intro (fun vs os h' => ∃ (u2 : Int) (wu3 : List (List Value)) (u3 : List Int), vs.tail = [.int .i64 u2] ∧ os = [wu3] ∧ Sub h h' ∧ In64 u2 ∧ F2 (Wp.int.R h') wu3 u3 ∧ L_spec_l5Letters_0 p0 (fuelOf vs) u2 u3 = some X1) (Exists.intro (fun _ _ => 0) ?_))
  refine And.intro (Exists.intro FUEL ⟨1, [], ([] : LIntS), rfl, rfl, (Sub.refl _), (c64 (by decide) (by decide)), (show F2 (Wp.int.R h) ([] : List (List Value)) ([] : LIntS) from trivial), hLX1⟩) ?_
  rintro v_0 wu3 m5 k4 ⟨u2, zzu3, u3, evX1, eoX1, sX1, iu2, fu3, hM1⟩
  cases evX1
  cases eoX1
  replace hM1 : L_spec_l5Letters_0 p0 m5 u2 u3 = some X1 := hM1
  obtain _ | m5 := m5
  · cases (show (none : Option _) = some X1 from hM1)
  rw [L_spec_l5Letters_0_succ] at hM1
  refine And.intro (fun hc6 => ?_) (fun hc6 => ?_)
  · have hc6 : ((decide (u2 ≤ p0))) = true := hc6
    rw [if_pos hc6] at hM1
    obtain ⟨q7, gq7, hM1⟩ := bsome hM1
    refine And.intro (room_of gq7 (by first | rw [F2.length fu3, F2.length (show F2 (Wp.int.R k4) ([[.int .i64 u2]] : List (List Value)) [u2] from ⟨⟨rfl, iu2⟩, trivial⟩)] | exact congrArg (· + 1) (F2.length fu3))) ?_
    obtain ⟨q8, gq8, hM1⟩ := bsome hM1
    refine And.intro (room_of gq8 (by first | rw [F2.length (F2.append fu3 (show F2 (Wp.int.R k4) ([[.int .i64 u2]] : List (List Value)) [u2] from ⟨⟨rfl, iu2⟩, trivial⟩)), F2.length (show F2 (Wp.int.R k4) ([[.int .i64 (IntKind.i64.wrap (0 - u2))]] : List (List Value)) [(IntKind.i64.wrap (0 - u2))] from ⟨⟨rfl, (wrap64 _)⟩, trivial⟩)] | exact congrArg (· + 1) (F2.length (F2.append fu3 (show F2 (Wp.int.R k4) ([[.int .i64 u2]] : List (List Value)) [u2] from ⟨⟨rfl, iu2⟩, trivial⟩))))) ?_
    refine And.intro rfl (And.intro (by first | exact trivial | exact And.intro rfl trivial | exact And.intro rfl (And.intro rfl trivial) | exact And.intro rfl (And.intro rfl (And.intro rfl trivial)) | exact And.intro rfl (And.intro rfl (And.intro rfl (And.intro rfl trivial)))) (And.intro (by first | exact trivial | exact And.intro rfl trivial | exact And.intro rfl (And.intro rfl trivial) | exact And.intro rfl (And.intro rfl (And.intro rfl trivial)) | exact And.intro rfl (And.intro rfl (And.intro rfl (And.intro rfl trivial)))) (Exists.intro m5 (And.intro ⟨(IntKind.i64.wrap (u2 + 1)), ((wu3 ++ ([[.int .i64 u2]] : List (List Value))) ++ ([[.int .i64 (IntKind.i64.wrap (0 - u2))]] : List (List Value))), ((u3 ++ [u2]) ++ [(IntKind.i64.wrap (0 - u2))]), rfl, rfl, sX1, (wrap64 _), (F2.append (F2.append fu3 (show F2 (Wp.int.R k4) ([[.int .i64 u2]] : List (List Value)) [u2] from ⟨⟨rfl, iu2⟩, trivial⟩)) (show F2 (Wp.int.R k4) ([[.int .i64 (IntKind.i64.wrap (0 - u2))]] : List (List Value)) [(IntKind.i64.wrap (0 - u2))] from ⟨⟨rfl, (wrap64 _)⟩, trivial⟩)), hM1⟩ (Nat.lt_succ_self _)))))
  · have hc6 : ((decide (u2 ≤ p0))) = false := hc6
    rw [if_neg (bneT hc6)] at hM1
    have hE := Option.some.inj hM1; subst hE
    try dsimp only [outK_inr, outL_inr] at hM0
    intro v9 k10 f11
    obtain ⟨az12, cz12, rfl, rz12, sz12, lz12⟩ := Froze.out (r := Wp.int.toRp) f11 fu3
    have hE := Option.some.inj hM0; subst hE
    exact ⟨az12, u3.length, cz12, rfl, rz12, (sX1.trans sz12)⟩

theorem t_spec_CanonicalOrder (h : Hp) (csp0 : List Value) (p0 : LGraph) (rp0 : wGraph.R h csp0 p0) (r : LIntS) (hM0 : M_spec_CanonicalOrder p0 = some r) :
    Tr Tryz.prog 151 #[.agg csp0.toArray] h fun v h' => ∃ (a0 : Option Addr) (n0 c0 : Nat), v = .slice a0 n0 c0 ∧ wIntS.R h' [.slice a0 n0 c0] r ∧ Sub h h' := by
  obtain ⟨p0_0, p0_1, ap0_2, np0_2, cp0_2, p0_2, rfl, rfl, ip0_0, ip0_1, rp0_2⟩ := openGraph rp0
  obtain ⟨rfl, lp0_2⟩ := Sl.len rp0_2
  unfold M_spec_CanonicalOrder at hM0
  dsimp only at hM0
  refine walk (args := [.agg #[.int .i64 p0_0, .int .i64 p0_1, .slice ap0_2 p0_2.length cp0_2]]) (fn := Tryz.f151) rfl ?_
  obtain ⟨x1, gx1, hM0⟩ := bsome hM0
  refine Tr.val (t_spec_IsFolded _ [.int .i64 p0_0, .int .i64 p0_1, .slice ap0_2 p0_2.length cp0_2] (p0_0, p0_1, p0_2) (closeGraph ip0_0 ip0_1 rp0_2) _  gx1) ?_
  refine And.intro (fun hc2 => ?_) (fun hc2 => ?_)
  · have hc2 : ((!x1)) = true := hc2
    rw [if_pos hc2] at hM0
    intro v3 k4 f5
    obtain ⟨az6, cz6, rfl, rz6, sz6, lz6⟩ := Froze.out (r := Wp.int.toRp) f5 (show F2 (Wp.int.R h) ([] : List (List Value)) ([] : LIntS) from trivial)
    have hE := Option.some.inj hM0; subst hE
    exact ⟨az6, (([] : LIntS)).length, cz6, rfl, rz6, sz6⟩
  · have hc2 : ((!x1)) = false := hc2
    rw [if_neg (bneT hc2)] at hM0
    obtain ⟨x7, gx7, hM0⟩ := bsome hM0
    refine Tr.mono (t_spec_l5Letters _ p0_0 ip0_0 _  gx7) ?_
    rintro v9 k8 ⟨ax7, nx7, cx7, rfl, rx7, sx7⟩
    obtain ⟨rfl, lx7⟩ := Sl.len rx7
    obtain ⟨X10, hLX10, hM0⟩ := bsome hM0
    refine Exists.intro { vars := [5], boxes := [], owns := [0], fuel := true } (Exists.intro (fun vs os h' => ∃ (u11 : Int) (wu12 : List (List Value)) (u12 : List Int), vs.tail = [.int .i64 u11] ∧ os = [wu12] ∧ Sub k8 h' ∧ In64 u11 ∧ F2 (Wp.int.R h') wu12 u12 ∧ L_spec_CanonicalOrder_1 x7 p0_0 p0_1 p0_2 (fuelOf vs) u11 u12 = some X10) (Exists.intro (fun _ _ => 0) ?_))
    refine And.intro (Exists.intro FUEL ⟨0, ([[.int .i64 0]] : List (List Value)), [0], rfl, rfl, (Sub.refl _), (c64 (by decide) (by decide)), (F2.up (r := Wp.int.toRp) sx7 (show F2 (Wp.int.R h) ([[.int .i64 0]] : List (List Value)) [0] from ⟨⟨rfl, (c64 (by decide) (by decide))⟩, trivial⟩)), hLX10⟩) ?_
    rintro v_0 wu12 m14 k13 ⟨u11, zzu12, u12, evX10, eoX10, sX10, iu11, fu12, hM1⟩
    cases evX10
    cases eoX10
    replace hM1 : L_spec_CanonicalOrder_1 x7 p0_0 p0_1 p0_2 m14 u11 u12 = some X10 := hM1
    obtain _ | m14 := m14
    · cases (show (none : Option _) = some X10 from hM1)
    rw [L_spec_CanonicalOrder_1_succ] at hM1
    obtain ⟨m15, gm15, hM1⟩ := bsome hM1
    obtain rfl : wu12.length = m15 := (F2.length fu12).trans (Option.some.inj gm15)
    obtain ⟨q16, gq16, hM1⟩ := bsome hM1
    refine And.intro (fun hc17 => ?_) (fun hc17 => ?_)
    · have hc17 : ((decide (u11 < ((wu12.length : Nat) : Int)))) = true := hc17
      rw [if_pos hc17] at hM1
      obtain ⟨X18, hLX18, hM1⟩ := bsome hM1
      refine Exists.intro { vars := [6], boxes := [], owns := [0], fuel := true } (Exists.intro (fun vs os h' => ∃ (u19 : Int) (wu20 : List (List Value)) (u20 : List Int), vs.tail = [.int .i64 u19] ∧ os = [wu20] ∧ Sub k13 h' ∧ In64 u19 ∧ F2 (Wp.int.R h') wu20 u20 ∧ L_spec_CanonicalOrder_0 x7 u11 p0_0 p0_1 p0_2 (fuelOf vs) u19 u20 = some X18) (Exists.intro (fun _ _ => 0) ?_))
      refine And.intro (Exists.intro FUEL ⟨0, wu12, u12, rfl, rfl, (Sub.refl _), (c64 (by decide) (by decide)), fu12, hLX18⟩) ?_
      rintro v_0 wu20 m22 k21 ⟨u19, zzu20, u20, evX18, eoX18, sX18, iu19, fu20, hM2⟩
      cases evX18
      cases eoX18
      replace hM2 : L_spec_CanonicalOrder_0 x7 u11 p0_0 p0_1 p0_2 m22 u19 u20 = some X18 := hM2
      obtain _ | m22 := m22
      · cases (show (none : Option _) = some X18 from hM2)
      rw [L_spec_CanonicalOrder_0_succ] at hM2
      refine And.intro (fun hc23 => ?_) (fun hc23 => ?_)
      · have hc23 : ((decide (u19 < ((x7.length : Nat) : Int)))) = true := hc23
        rw [if_pos hc23] at hM2
        refine Or.inl (And.intro (And.intro (by kernel_rfl) (by kernel_rfl)) ?_)
        obtain ⟨x24, gx24, hM2⟩ := bsome hM2
        obtain ⟨bx24, csx24, ex24, rx24⟩ := oel_get fu20 gx24
        refine And.intro bx24 ?_
        obtain ⟨rfl, ix24⟩ := rx24
        refine Exists.intro _ (And.intro ex24 ?_)
        obtain ⟨x25, gx25, hM2⟩ := bsome hM2
        obtain ⟨bx25, csx25, ex25, rx25⟩ := Sl.getI (r := Wp.int.toRp) (wIntS.mono (sX10.trans sX18) rx7) gx25 (by decide)
        refine And.intro bx25 ?_
        obtain ⟨rfl, ix25⟩ := rx25
        refine Exists.intro _ (And.intro ex25 ?_)
        obtain ⟨x26, gx26, hM2⟩ := bsome hM2
        refine Exists.intro (.int .i64 x26) (And.intro (t_spec_NextVertex _ [.int .i64 p0_0, .int .i64 p0_1, .slice ap0_2 p0_2.length cp0_2] (p0_0, p0_1, p0_2) (closeGraph ip0_0 ip0_1 (wEdgeS.mono ((sx7.trans sX10).trans sX18) rp0_2)) x24 ix24 x25 ix25 _  gx26) ?_)
        obtain ⟨q27, gq27, hM2⟩ := bsome hM2
        have ix26 : In64 x26 := grd_some gq27
        obtain ⟨x28, gx28, hM2⟩ := bsome hM2
        refine Exists.intro (.bool x28) (And.intro ?_ ?_)
        · intro hq
          intro v29 k30 f31
          obtain ⟨az32, cz32, rfl, rz32, sz32, lz32⟩ := Froze.out (r := Wp.int.toRp) f31 fu20
          exact t_spec_l4Has _ az32 u20.length cz32 u20 rz32 x26 ix26 _ (chk_some gx28 hq)
        refine And.intro (fun hc33 => ?_) (fun hc33 => ?_)
        · have hc33 : ((bif (decide (x26 ≥ 0)) then (!x28) else false)) = true := hc33
          rw [if_pos hc33] at hM2
          obtain ⟨q34, gq34, hM2⟩ := bsome hM2
          refine And.intro (room_of gq34 (by first | rw [F2.length fu20, F2.length (show F2 (Wp.int.R k21) ([[.int .i64 x26]] : List (List Value)) [x26] from ⟨⟨rfl, ix26⟩, trivial⟩)] | exact congrArg (· + 1) (F2.length fu20))) ?_
          refine And.intro rfl (And.intro (by first | exact trivial | exact And.intro rfl trivial | exact And.intro rfl (And.intro rfl trivial) | exact And.intro rfl (And.intro rfl (And.intro rfl trivial)) | exact And.intro rfl (And.intro rfl (And.intro rfl (And.intro rfl trivial)))) (And.intro (by first | exact trivial | exact And.intro rfl trivial | exact And.intro rfl (And.intro rfl trivial) | exact And.intro rfl (And.intro rfl (And.intro rfl trivial)) | exact And.intro rfl (And.intro rfl (And.intro rfl (And.intro rfl trivial)))) (Exists.intro m22 (And.intro ⟨(IntKind.i64.wrap (u19 + 1)), (wu20 ++ ([[.int .i64 x26]] : List (List Value))), (u20 ++ [x26]), rfl, rfl, sX18, (wrap64 _), (F2.append fu20 (show F2 (Wp.int.R k21) ([[.int .i64 x26]] : List (List Value)) [x26] from ⟨⟨rfl, ix26⟩, trivial⟩)), hM2⟩ (Nat.lt_succ_self _)))))
        · have hc33 : ((bif (decide (x26 ≥ 0)) then (!x28) else false)) = false := hc33
          rw [if_neg (bneT hc33)] at hM2
          refine And.intro rfl (And.intro (by first | exact trivial | exact And.intro rfl trivial | exact And.intro rfl (And.intro rfl trivial) | exact And.intro rfl (And.intro rfl (And.intro rfl trivial)) | exact And.intro rfl (And.intro rfl (And.intro rfl (And.intro rfl trivial)))) (And.intro (by first | exact trivial | exact And.intro rfl trivial | exact And.intro rfl (And.intro rfl trivial) | exact And.intro rfl (And.intro rfl (And.intro rfl trivial)) | exact And.intro rfl (And.intro rfl (And.intro rfl (And.intro rfl trivial)))) (Exists.intro m22 (And.intro ⟨(IntKind.i64.wrap (u19 + 1)), wu20, u20, rfl, rfl, sX18, (wrap64 _), fu20, hM2⟩ (Nat.lt_succ_self _)))))
      · have hc23 : ((decide (u19 < ((x7.length : Nat) : Int)))) = false := hc23
        rw [if_neg (bneT hc23)] at hM2
        have hE := Option.some.inj hM2; subst hE
        try dsimp only [outK_inr, outL_inr] at hM1
        refine And.intro rfl (And.intro (by first | exact trivial | exact And.intro rfl trivial | exact And.intro rfl (And.intro rfl trivial) | exact And.intro rfl (And.intro rfl (And.intro rfl trivial)) | exact And.intro rfl (And.intro rfl (And.intro rfl (And.intro rfl trivial)))) (And.intro (by first | exact trivial | exact And.intro rfl trivial | exact And.intro rfl (And.intro rfl trivial) | exact And.intro rfl (And.intro rfl (And.intro rfl trivial)) | exact And.intro rfl (And.intro rfl (And.intro rfl (And.intro rfl trivial)))) (Exists.intro m14 (And.intro ⟨(IntKind.i64.wrap (u11 + 1)), wu20, u20, rfl, rfl, (sX10.trans sX18), (wrap64 _), fu20, hM1⟩ (Nat.lt_succ_self _)))))
    · have hc17 : ((decide (u11 < ((wu12.length : Nat) : Int)))) = false := hc17
      rw [if_neg (bneT hc17)] at hM1
      have hE := Option.some.inj hM1; subst hE
      try dsimp only [outK_inr, outL_inr] at hM0
      intro v39 k40 f41
      obtain ⟨az42, cz42, rfl, rz42, sz42, lz42⟩ := Froze.out (r := Wp.int.toRp) f41 fu12
      have hE := Option.some.inj hM0; subst hE
      exact ⟨az42, u12.length, cz42, rfl, rz42, ((sx7.trans sX10).trans sz42)⟩

theorem t_spec_CanonicalGraph (h : Hp) (csp0 : List Value) (p0 : LGraph) (rp0 : wGraph.R h csp0 p0) (r : LGraph) (hM0 : M_spec_CanonicalGraph p0 = some r) :
    Tr Tryz.prog 128 #[.agg csp0.toArray] h fun v h' => ∃ (cs0 : List Value), v = .agg cs0.toArray ∧ wGraph.R h' cs0 r ∧ Sub h h' := by
  obtain ⟨p0_0, p0_1, ap0_2, np0_2, cp0_2, p0_2, rfl, rfl, ip0_0, ip0_1, rp0_2⟩ := openGraph rp0
  obtain ⟨rfl, lp0_2⟩ := Sl.len rp0_2
  unfold M_spec_CanonicalGraph at hM0
  dsimp only at hM0
  refine walk (args := [.agg #[.int .i64 p0_0, .int .i64 p0_1, .slice ap0_2 p0_2.length cp0_2]]) (fn := Tryz.f128) rfl ?_
  obtain ⟨x1, gx1, hM0⟩ := bsome hM0
  refine Tr.mono (t_spec_CanonicalOrder _ [.int .i64 p0_0, .int .i64 p0_1, .slice ap0_2 p0_2.length cp0_2] (p0_0, p0_1, p0_2) (closeGraph ip0_0 ip0_1 rp0_2) _  gx1) ?_
  rintro v3 k2 ⟨ax1, nx1, cx1, rfl, rx1, sx1⟩
  obtain ⟨rfl, lx1⟩ := Sl.len rx1
  refine And.intro (fun hc4 => ?_) (fun hc4 => ?_)
  · have hc4 : ((decide (((x1.length : Nat) : Int) = 0))) = true := hc4
    rw [if_pos hc4] at hM0
    obtain ⟨x5, gx5, hM0⟩ := bsome hM0
    refine Tr.mono (t_spec_l4Copy _ [.int .i64 p0_0, .int .i64 p0_1, .slice ap0_2 p0_2.length cp0_2] (p0_0, p0_1, p0_2) (closeGraph ip0_0 ip0_1 (wEdgeS.mono sx1 rp0_2)) _  gx5) ?_
    rintro v7 k6 ⟨csx5, rfl, rx5, sx5⟩
    obtain ⟨x5_0, x5_1, ax5_2, nx5_2, cx5_2, x5_2, rfl, rfl, ix5_0, ix5_1, rx5_2⟩ := openGraph rx5
    obtain ⟨rfl, lx5_2⟩ := Sl.len rx5_2
    try dsimp only at hM0
    have hE := Option.some.inj hM0; subst hE
    exact ⟨([.int .i64 x5_0, .int .i64 x5_1, .slice ax5_2 x5_2.length cx5_2]), rfl, (closeGraph ix5_0 ix5_1 rx5_2), (sx1.trans sx5)⟩
  · have hc4 : ((decide (((x1.length : Nat) : Int) = 0))) = false := hc4
    rw [if_neg (bneT hc4)] at hM0
    obtain ⟨x8, gx8, hM0⟩ := bsome hM0
    refine Tr.mono (t_spec_RenumberGraph _ [.int .i64 p0_0, .int .i64 p0_1, .slice ap0_2 p0_2.length cp0_2] (p0_0, p0_1, p0_2) (closeGraph ip0_0 ip0_1 (wEdgeS.mono sx1 rp0_2)) ax1 x1.length cx1 x1 rx1 _  gx8) ?_
    rintro v10 k9 ⟨csx8_0, rfl, rx8_0, sx8⟩
    obtain ⟨x8_0, x8_1⟩ := x8
    dsimp only at hM0 rx8_0
    obtain ⟨x8_0_0, x8_0_1, ax8_0_2, nx8_0_2, cx8_0_2, x8_0_2, rfl, rfl, ix8_0_0, ix8_0_1, rx8_0_2⟩ := openGraph rx8_0
    obtain ⟨rfl, lx8_0_2⟩ := Sl.len rx8_0_2
    try dsimp only at hM0
    have hE := Option.some.inj hM0; subst hE
    exact ⟨([.int .i64 x8_0_0, .int .i64 x8_0_1, .slice ax8_0_2 x8_0_2.length cx8_0_2]), rfl, (closeGraph ix8_0_0 ix8_0_1 rx8_0_2), (sx1.trans sx8)⟩

theorem t_spec_IsCore (h : Hp) (csp0 : List Value) (p0 : LGraph) (rp0 : wGraph.R h csp0 p0) (r : Bool) (hM0 : M_spec_IsCore p0 = some r) :
    Tr Tryz.prog 85 #[.agg csp0.toArray] h fun v h' => v = .bool r ∧ h' = h := by
  obtain ⟨p0_0, p0_1, ap0_2, np0_2, cp0_2, p0_2, rfl, rfl, ip0_0, ip0_1, rp0_2⟩ := openGraph rp0
  obtain ⟨rfl, lp0_2⟩ := Sl.len rp0_2
  unfold M_spec_IsCore at hM0
  dsimp only at hM0
  refine Tr.forget (walk (args := [.agg #[.int .i64 p0_0, .int .i64 p0_1, .slice ap0_2 p0_2.length cp0_2]]) (fn := Tryz.f85) rfl ?_)
  refine Or.inr (Or.inr (Or.inr (And.intro (And.intro (by kernel_rfl) (by kernel_rfl)) ?_)))
  obtain ⟨x1, gx1, hM0⟩ := bsome hM0
  refine Or.inl (Exists.intro (.val (.bool x1)) (And.intro ?_ ?_))
  · intro k2 s3
    exact Tr.val (t_spec_IsFolded _ [.int .i64 p0_0, .int .i64 p0_1, .slice ap0_2 p0_2.length cp0_2] (p0_0, p0_1, p0_2) (closeGraph ip0_0 ip0_1 (wEdgeS.mono s3 rp0_2)) _ gx1) (And.intro rfl (And.intro rfl rfl))
  obtain ⟨x4, gx4, hM0⟩ := bsome hM0
  obtain ⟨q5, gq5, hM0⟩ := bsome hM0
  have ix4 : In64 x4 := grd_some gq5
  refine Or.inl (Exists.intro (.val (.int .i64 x4)) (And.intro ?_ ?_))
  · intro k6 s7 hq
    exact Tr.val (t_spec_l8Leaf _ [.int .i64 p0_0, .int .i64 p0_1, .slice ap0_2 p0_2.length cp0_2] (p0_0, p0_1, p0_2) (closeGraph ip0_0 ip0_1 (wEdgeS.mono s7 rp0_2)) _ (chk_some gx4 hq)) (And.intro rfl (And.intro rfl rfl))
  refine Or.inl (Exists.intro (.val (.bool (decide (x4 < 0)))) (And.intro ?_ ?_))
  · intro k8 s9 hq
    exact And.intro rfl (And.intro rfl rfl)
  obtain ⟨x10, gx10, hM0⟩ := bsome hM0
  obtain ⟨x10_0, x10_1, x10_2⟩ := x10
  try dsimp only at hM0
  refine Or.inr (Exists.intro (fun v hh => ∃ (ax10_2 : Option Addr) (cx10_2 : Nat), v = .agg #[.int .i64 x10_0, .int .i64 x10_1, .slice ax10_2 x10_2.length cx10_2] ∧ In64 x10_0 ∧ In64 x10_1 ∧ wEdgeS.R hh [.slice ax10_2 x10_2.length cx10_2] x10_2 ∧ x10_2.length ≤ 9223372036854775807) (And.intro (fun v h1 h2 sb q => by obtain ⟨ax10_2, cx10_2, e, f0, f1, f2, f3⟩ := q; exact ⟨ax10_2, cx10_2, e, f0, f1, wEdgeS.mono sb f2, f3⟩) (And.intro ?_ ?_)))
  · intro k11 s12 hq
    refine Tr.mono (t_spec_CanonicalGraph _ [.int .i64 p0_0, .int .i64 p0_1, .slice ap0_2 p0_2.length cp0_2] (p0_0, p0_1, p0_2) (closeGraph ip0_0 ip0_1 (wEdgeS.mono s12 rp0_2)) _ (chk_some gx10 hq)) ?_
    rintro _ kk ⟨csx10, rfl, rx10, sb⟩
    obtain ⟨yx10_0, yx10_1, ayx10_2, nyx10_2, cyx10_2, yx10_2, rfl, ey, iyx10_0, iyx10_1, ryx10_2⟩ := openGraph rx10
    cases ey
    obtain ⟨rfl, lyx10_2⟩ := Sl.len ryx10_2
    exact And.intro tail0 (And.intro sb ⟨ayx10_2, cyx10_2, rfl, iyx10_0, iyx10_1, ryx10_2, lyx10_2⟩)
  obtain ⟨x13, gx13, hM0⟩ := bsome hM0
  refine Or.inl (Exists.intro (.val (.bool x13)) (And.intro ?_ ?_))
  · intro k14 s15 hq
    rintro _ ⟨az162, cz162, rfl, iz160, iz161, rz162, lz162⟩
    exact Tr.val (t_spec_EqualGraphs _ [.int .i64 x10_0, .int .i64 x10_1, .slice az162 x10_2.length cz162] (x10_0, x10_1, x10_2) (closeGraph iz160 iz161 rz162) [.int .i64 p0_0, .int .i64 p0_1, .slice ap0_2 p0_2.length cp0_2] (p0_0, p0_1, p0_2) (closeGraph ip0_0 ip0_1 (wEdgeS.mono s15 rp0_2)) _ (chk_some gx13 hq)) (And.intro rfl (And.intro rfl rfl))
  intro k17 s18
  have hE := Option.some.inj hM0; subst hE
  exact And.intro rfl s18

theorem t_spec_IsSubgroup (h : Hp) (csp0 : List Value) (p0 : LGraph) (rp0 : wGraph.R h csp0 p0) (r : Bool) (hM0 : M_spec_IsSubgroup p0 = some r) :
    Tr Tryz.prog 37 #[.agg csp0.toArray] h fun v h' => v = .bool r ∧ h' = h := by
  obtain ⟨p0_0, p0_1, ap0_2, np0_2, cp0_2, p0_2, rfl, rfl, ip0_0, ip0_1, rp0_2⟩ := openGraph rp0
  obtain ⟨rfl, lp0_2⟩ := Sl.len rp0_2
  unfold M_spec_IsSubgroup at hM0
  dsimp only at hM0
  refine Tr.forget (walk (args := [.agg #[.int .i64 p0_0, .int .i64 p0_1, .slice ap0_2 p0_2.length cp0_2]]) (fn := Tryz.f37) rfl ?_)
  obtain ⟨x1, gx1, hM0⟩ := bsome hM0
  refine Tr.val (t_spec_IsCore _ [.int .i64 p0_0, .int .i64 p0_1, .slice ap0_2 p0_2.length cp0_2] (p0_0, p0_1, p0_2) (closeGraph ip0_0 ip0_1 rp0_2) _  gx1) ?_
  have hE := Option.some.inj hM0; subst hE
  exact And.intro rfl (Sub.refl _)

theorem t_spec_IsName (h : Hp) (p0 : ByteArray) (ip0 : p0.size ≤ 9223372036854775807) (r : Bool) (hM0 : M_spec_IsName p0 = some r) :
    Tr Tryz.prog 36 #[.string p0] h fun v h' => v = .bool r ∧ h' = h := by
  unfold M_spec_IsName at hM0
  refine Tr.forget (walk (args := [.string p0]) (fn := Tryz.f36) rfl ?_)
  obtain ⟨X1, hLX1, hM0⟩ := bsome hM0
  refine Exists.intro { vars := [3], boxes := [], owns := [], fuel := true } (Exists.intro (fun vs os h' => ∃ (u2 : Int), vs.tail = [.int .i64 u2] ∧ os = [] ∧ Sub h h' ∧ In64 u2 ∧ L_spec_IsName_0 p0 (fuelOf vs) u2 = some X1) (Exists.intro (fun _ _ => 0) ?_))
  refine And.intro (Exists.intro FUEL ⟨0, rfl, rfl, (Sub.refl _), (c64 (by decide) (by decide)), hLX1⟩) ?_
  rintro v_0 m4 k3 ⟨u2, evX1, eoX1, sX1, iu2, hM1⟩
  cases evX1
  cases eoX1
  replace hM1 : L_spec_IsName_0 p0 m4 u2 = some X1 := hM1
  obtain _ | m4 := m4
  · cases (show (none : Option _) = some X1 from hM1)
  rw [L_spec_IsName_0_succ] at hM1
  refine And.intro (fun hc5 => ?_) (fun hc5 => ?_)
  · have hc5 : ((decide (u2 < ((p0.size : Nat) : Int)))) = true := hc5
    rw [if_pos hc5] at hM1
    obtain ⟨x6, gx6, hM1⟩ := bsome hM1
    refine Exists.intro _ (And.intro (sgi_some gx6) ?_)
    obtain ⟨x7, gx7, hM1⟩ := bsome hM1
    refine Exists.intro x7 (And.intro (fun q => sgi_some (chk_some gx7 q)) ?_)
    obtain ⟨x8, gx8, hM1⟩ := bsome hM1
    refine Exists.intro x8 (And.intro (fun q => sgi_some (chk_some gx8 q)) ?_)
    obtain ⟨x9, gx9, hM1⟩ := bsome hM1
    refine Exists.intro x9 (And.intro (fun q => sgi_some (chk_some gx9 q)) ?_)
    refine And.intro (fun hc10 => ?_) (fun hc10 => ?_)
    · have hc10 : ((bif (bif (decide (((x6.toNat : Nat) : Int) < 97)) then true else (decide (((x7.toNat : Nat) : Int) > 122))) then (bif (bif (decide (((x8.toNat : Nat) : Int) < 48)) then true else (decide (((x9.toNat : Nat) : Int) > 57))) then true else (decide (u2 = 0))) else false)) = true := hc10
      rw [if_pos hc10] at hM1
      have hE := Option.some.inj hM1; subst hE
      try dsimp only [outK_inl, outL_inl] at hM0
      have hE := Option.some.inj hM0; subst hE
      exact And.intro rfl sX1
    · have hc10 : ((bif (bif (decide (((x6.toNat : Nat) : Int) < 97)) then true else (decide (((x7.toNat : Nat) : Int) > 122))) then (bif (bif (decide (((x8.toNat : Nat) : Int) < 48)) then true else (decide (((x9.toNat : Nat) : Int) > 57))) then true else (decide (u2 = 0))) else false)) = false := hc10
      rw [if_neg (bneT hc10)] at hM1
      refine And.intro rfl (And.intro (by first | exact trivial | exact And.intro rfl trivial | exact And.intro rfl (And.intro rfl trivial) | exact And.intro rfl (And.intro rfl (And.intro rfl trivial)) | exact And.intro rfl (And.intro rfl (And.intro rfl (And.intro rfl trivial)))) (And.intro (by first | exact trivial | exact And.intro rfl trivial | exact And.intro rfl (And.intro rfl trivial) | exact And.intro rfl (And.intro rfl (And.intro rfl trivial)) | exact And.intro rfl (And.intro rfl (And.intro rfl (And.intro rfl trivial)))) (Exists.intro m4 (And.intro ⟨(IntKind.i64.wrap (u2 + 1)), rfl, rfl, sX1, (wrap64 _), hM1⟩ (Nat.lt_succ_self _)))))
  · have hc5 : ((decide (u2 < ((p0.size : Nat) : Int)))) = false := hc5
    rw [if_neg (bneT hc5)] at hM1
    have hE := Option.some.inj hM1; subst hE
    try dsimp only [outK_inr, outL_inr] at hM0
    obtain ⟨x11, gx11, hM0⟩ := bsome hM0
    refine Tr.val (t_spec_l1In _ ((p0.size : Nat) : Int) (len64 ip0) 1 (c64 (by decide) (by decide)) 8 (c64 (by decide) (by decide)) _  gx11) ?_
    have hE := Option.some.inj hM0; subst hE
    exact And.intro rfl sX1

theorem t_spec_IsLibrary (h : Hp) (csp0 : List Value) (p0 : LLibrary) (rp0 : wLibrary.R h csp0 p0) (r : Bool) (hM0 : M_spec_IsLibrary p0 = some r) :
    Tr Tryz.prog 9 #[.agg csp0.toArray] h fun v h' => v = .bool r ∧ h' = h := by
  obtain ⟨p0_0, ap0_1, np0_1, cp0_1, p0_1, rfl, rfl, ip0_0, rp0_1⟩ := openLibrary rp0
  obtain ⟨rfl, lp0_1⟩ := Sl.len rp0_1
  unfold M_spec_IsLibrary at hM0
  dsimp only at hM0
  refine Tr.forget (walk (args := [.agg #[.int .i64 p0_0, .slice ap0_1 p0_1.length cp0_1]]) (fn := Tryz.f9) rfl ?_)
  obtain ⟨X1, hLX1, hM0⟩ := bsome hM0
  refine Exists.intro { vars := [3], boxes := [], owns := [], fuel := true } (Exists.intro (fun vs os h' => ∃ (u2 : Int), vs.tail = [.int .i64 u2] ∧ os = [] ∧ Sub h h' ∧ In64 u2 ∧ L_spec_IsLibrary_0 p0_1 p0_0 (fuelOf vs) u2 = some X1) (Exists.intro (fun _ _ => 0) ?_))
  refine And.intro (Exists.intro FUEL ⟨0, rfl, rfl, (Sub.refl _), (c64 (by decide) (by decide)), hLX1⟩) ?_
  rintro v_0 m4 k3 ⟨u2, evX1, eoX1, sX1, iu2, hM1⟩
  cases evX1
  cases eoX1
  replace hM1 : L_spec_IsLibrary_0 p0_1 p0_0 m4 u2 = some X1 := hM1
  obtain _ | m4 := m4
  · cases (show (none : Option _) = some X1 from hM1)
  rw [L_spec_IsLibrary_0_succ] at hM1
  refine And.intro (fun hc5 => ?_) (fun hc5 => ?_)
  · have hc5 : ((decide (u2 < ((p0_1.length : Nat) : Int)))) = true := hc5
    rw [if_pos hc5] at hM1
    obtain ⟨x6, gx6, hM1⟩ := bsome hM1
    obtain ⟨bx6, csx6, ex6, rx6⟩ := Sl.getI (r := wEntry.toRp) (wEntryS.mono sX1 rp0_1) gx6 (by decide)
    refine And.intro bx6 ?_
    obtain ⟨x6_0, x6_1, x6_2, ax6_3, nx6_3, cx6_3, x6_3, rfl, rfl, ix6_0, ix6_1, ix6_2, rx6_3⟩ := openEntry rx6
    obtain ⟨rfl, lx6_3⟩ := Sl.len rx6_3
    dsimp only at hM1
    refine Exists.intro _ (And.intro ex6 ?_)
    refine Or.inl (And.intro (And.intro (by kernel_rfl) (by kernel_rfl)) ?_)
    obtain ⟨x7, gx7, hM1⟩ := bsome hM1
    refine Exists.intro (.bool x7) (And.intro (t_spec_IsName _ x6_0 ix6_0 _  gx7) ?_)
    obtain ⟨x8, gx8, hM1⟩ := bsome hM1
    refine Exists.intro (.bool x8) (And.intro (fun q => t_spec_IsSubgroup _ [.int .i64 x6_1, .int .i64 x6_2, .slice ax6_3 x6_3.length cx6_3] (x6_1, x6_2, x6_3) (closeGraph ix6_1 ix6_2 rx6_3) _  (chk_some gx8 q)) ?_)
    obtain ⟨x9, gx9, hM1⟩ := bsome hM1
    obtain ⟨csx9, ex9, rx9⟩ := Sl.getG (r := wEntry.toRp) (wEntryS.mono sX1 rp0_1) gx9 (by decide) (dfEntry k3)
    refine And.intro (fun q => (ex9 q).1) ?_
    obtain ⟨x9_0, x9_1, x9_2, ax9_3, nx9_3, cx9_3, x9_3, rfl, rfl, ix9_0, ix9_1, ix9_2, rx9_3⟩ := openEntry rx9
    obtain ⟨rfl, lx9_3⟩ := Sl.len rx9_3
    dsimp only at hM1
    refine Exists.intro _ (And.intro (fun q => (ex9 q).2) ?_)
    refine And.intro (fun hc10 => ?_) (fun hc10 => ?_)
    · have hc10 : ((bif (bif (bif (!x7) then true else (!x8)) then true else (!decide (x6_1 = p0_0))) then true else (bif (decide (u2 > 0)) then (!sltB x9_0 x6_0) else false))) = true := hc10
      rw [if_pos hc10] at hM1
      have hE := Option.some.inj hM1; subst hE
      try dsimp only [outK_inl, outL_inl] at hM0
      have hE := Option.some.inj hM0; subst hE
      exact And.intro rfl sX1
    · have hc10 : ((bif (bif (bif (!x7) then true else (!x8)) then true else (!decide (x6_1 = p0_0))) then true else (bif (decide (u2 > 0)) then (!sltB x9_0 x6_0) else false))) = false := hc10
      rw [if_neg (bneT hc10)] at hM1
      refine And.intro rfl (And.intro (by first | exact trivial | exact And.intro rfl trivial | exact And.intro rfl (And.intro rfl trivial) | exact And.intro rfl (And.intro rfl (And.intro rfl trivial)) | exact And.intro rfl (And.intro rfl (And.intro rfl (And.intro rfl trivial)))) (And.intro (by first | exact trivial | exact And.intro rfl trivial | exact And.intro rfl (And.intro rfl trivial) | exact And.intro rfl (And.intro rfl (And.intro rfl trivial)) | exact And.intro rfl (And.intro rfl (And.intro rfl (And.intro rfl trivial)))) (Exists.intro m4 (And.intro ⟨(IntKind.i64.wrap (u2 + 1)), rfl, rfl, sX1, (wrap64 _), hM1⟩ (Nat.lt_succ_self _)))))
  · have hc5 : ((decide (u2 < ((p0_1.length : Nat) : Int)))) = false := hc5
    rw [if_neg (bneT hc5)] at hM1
    have hE := Option.some.inj hM1; subst hE
    try dsimp only [outK_inr, outL_inr] at hM0
    obtain ⟨x11, gx11, hM0⟩ := bsome hM0
    refine Tr.val (t_spec_l1In _ p0_0 ip0_0 1 (c64 (by decide) (by decide)) 3 (c64 (by decide) (by decide)) _  gx11) ?_
    have hE := Option.some.inj hM0; subst hE
    exact And.intro rfl sX1

end Go.Proofs.YthccjgkmmclplaaGreat
