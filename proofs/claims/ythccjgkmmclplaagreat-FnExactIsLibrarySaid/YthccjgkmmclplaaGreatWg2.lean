/- The walks of batch g2. -/
import Derived.Test.YthccjgkmmclplaaGreatAg2
import Derived.Test.YthccjgkmmclplaaGreatChecked
import Derived.Test.YthccjgkmmclplaaGreatH35
import Derived.Test.YthccjgkmmclplaaGreatW1
import Derived.Test.YthccjgkmmclplaaGreatW4g
import Derived.Test.YthccjgkmmclplaaGreatW9
import Derived.Test.YthccjgkmmclplaaGreatSE
import Derived.Test.YthccjgkmmclplaaGreatEQ
namespace Go.Proofs.YthccjgkmmclplaaGreat
open Go.H
set_option linter.unusedVariables false
set_option linter.unusedSimpArgs false
set_option maxRecDepth 10000
theorem t_impl_copyGraph (h : Hp) (csp0 : List Value) (p0 : LGraph) (rp0 : wGraph.R h csp0 p0) (r : LGraph) (hM0 : M_impl_copyGraph p0 = some r) :
    Tr Tryz.prog 61 #[.agg csp0.toArray] h fun v h' => ∃ (cs0 : List Value), v = .agg cs0.toArray ∧ New wGraph h h' cs0 r := by
  obtain ⟨p0_0, p0_1, ap0_2, np0_2, cp0_2, p0_2, rfl, rfl, ip0_0, ip0_1, rp0_2⟩ := openGraph rp0
  obtain ⟨rfl, lp0_2⟩ := Sl.len rp0_2
  unfold M_impl_copyGraph at hM0
  dsimp only at hM0
  refine walk (args := [.agg #[.int .i64 p0_0, .int .i64 p0_1, .slice ap0_2 p0_2.length cp0_2]]) (fn := Tryz.f61) rfl ?_
  refine Or.inr (Or.inr (Or.inl (And.intro (And.intro (by kernel_rfl) (by kernel_rfl)) ?_)))
  refine Or.inr ?_
  refine Or.inr ?_
  refine Or.inr ?_
  refine Or.inr ?_
  refine Exists.intro 0 (And.intro (And.intro rfl rfl) ?_)
  refine And.intro trivial (And.intro (by first | exact trivial | exact rfl) ?_)
  obtain ⟨vsy1, ey1, fy1⟩ := Sl.rows (r := wEdge.toRp) rp0_2
  refine Exists.intro vsy1 (And.intro ey1 ?_)
  obtain ⟨q2, gq2, hM0⟩ := bsome hM0
  refine And.intro (room_of gq2 (by first | rw [F2.length (show F2 (wEdge.R h) ([] : List (List Value)) ([] : LEdgeS) from trivial), F2.length fy1] | exact congrArg (· + 1) (F2.length (show F2 (wEdge.R h) ([] : List (List Value)) ([] : LEdgeS) from trivial)))) ?_
  refine And.intro trivial (And.intro (by first | exact trivial | exact rfl) ?_)
  refine And.intro trivial (And.intro (by first | exact trivial | exact rfl) ?_)
  refine And.intro trivial (And.intro (by first | exact trivial | exact rfl) ?_)
  intro v3 k4 f5
  obtain ⟨az6, cz6, rfl, rz6, sz6, lz6⟩ := Froze.out (r := wEdge.toRp) f5 (F2.append (show F2 (wEdge.R h) ([] : List (List Value)) ([] : LEdgeS) from trivial) fy1)
  have hE := Option.some.inj hM0; subst hE
  exact ⟨([.int .i64 p0_0, .int .i64 p0_1, .slice az6 ((([] : LEdgeS) ++ p0_2)).length cz6]), rfl, (New.pair (New.int ip0_0) (New.pair (New.int ip0_1) (Froze.newPlain (r := wEdge) f5 (F2.append (show F2 (wEdge.R h) ([] : List (List Value)) ([] : LEdgeS) from trivial) fy1) (plEdge _))))⟩

theorem t_impl_DegreeOf (h : Hp) (csp0 : List Value) (p0 : LGraph) (rp0 : wGraph.R h csp0 p0) (p1 : Int) (ip1 : In64 p1) (r : Int) (hM0 : M_impl_DegreeOf p0 p1 = some r) :
    Tr Tryz.prog 130 #[.agg csp0.toArray, .int .i64 p1] h fun v h' => v = .int .i64 r ∧ h' = h := by
  obtain ⟨p0_0, p0_1, ap0_2, np0_2, cp0_2, p0_2, rfl, rfl, ip0_0, ip0_1, rp0_2⟩ := openGraph rp0
  obtain ⟨rfl, lp0_2⟩ := Sl.len rp0_2
  unfold M_impl_DegreeOf at hM0
  dsimp only at hM0
  refine Tr.forget (walk (args := [.agg #[.int .i64 p0_0, .int .i64 p0_1, .slice ap0_2 p0_2.length cp0_2], .int .i64 p1]) (fn := Tryz.f130) rfl ?_)
  obtain ⟨X1, hLX1, hM0⟩ := bsome hM0
  refine Exists.intro { vars := [5, 11], boxes := [], owns := [], fuel := true } (Exists.intro (fun vs os h' => ∃ (u2 : Int) (u3 : Int), vs.tail = [.int .i64 u2, .int .i64 u3] ∧ os = [] ∧ Sub h h' ∧ In64 u2 ∧ In64 u3 ∧ L_impl_DegreeOf_0 p0_2 p1 (fuelOf vs) u2 u3 = some X1) (Exists.intro (fun _ _ => 0) ?_))
  refine And.intro (Exists.intro FUEL ⟨0, 0, rfl, rfl, (Sub.refl _), (c64 (by decide) (by decide)), (c64 (by decide) (by decide)), hLX1⟩) ?_
  rintro v_0 v_1 m5 k4 ⟨u2, u3, evX1, eoX1, sX1, iu2, iu3, hM1⟩
  cases evX1
  cases eoX1
  replace hM1 : L_impl_DegreeOf_0 p0_2 p1 m5 u2 u3 = some X1 := hM1
  obtain _ | m5 := m5
  · cases (show (none : Option _) = some X1 from hM1)
  rw [L_impl_DegreeOf_0_succ] at hM1
  refine And.intro (fun hc6 => ?_) (fun hc6 => ?_)
  · have hc6 : ((decide (u3 < ((p0_2.length : Nat) : Int)))) = true := hc6
    rw [if_pos hc6] at hM1
    obtain ⟨x7, gx7, hM1⟩ := bsome hM1
    obtain ⟨bx7, csx7, ex7, rx7⟩ := Sl.getI (r := wEdge.toRp) (wEdgeS.mono sX1 rp0_2) gx7 (by decide)
    refine And.intro bx7 ?_
    obtain ⟨x7_0, x7_1, x7_2, rfl, rfl, ix7_0, ix7_1, ix7_2⟩ := openEdge rx7
    dsimp only at hM1
    refine Exists.intro _ (And.intro ex7 ?_)
    refine And.intro (fun hc8 => ?_) (fun hc8 => ?_)
    · have hc8 : ((decide (x7_0 = p1))) = true := hc8
      rw [if_pos hc8] at hM1
      refine And.intro (fun hc9 => ?_) (fun hc9 => ?_)
      · have hc9 : ((decide (x7_2 = p1))) = true := hc9
        rw [if_pos hc9] at hM1
        refine And.intro rfl (And.intro (by first | exact trivial | exact And.intro rfl trivial | exact And.intro rfl (And.intro rfl trivial) | exact And.intro rfl (And.intro rfl (And.intro rfl trivial)) | exact And.intro rfl (And.intro rfl (And.intro rfl (And.intro rfl trivial)))) (And.intro (by first | exact trivial | exact And.intro rfl trivial | exact And.intro rfl (And.intro rfl trivial) | exact And.intro rfl (And.intro rfl (And.intro rfl trivial)) | exact And.intro rfl (And.intro rfl (And.intro rfl (And.intro rfl trivial)))) (Exists.intro m5 (And.intro ⟨(IntKind.i64.wrap ((IntKind.i64.wrap (u2 + 1)) + 1)), (IntKind.i64.wrap (u3 + 1)), rfl, rfl, sX1, (wrap64 _), (wrap64 _), hM1⟩ (Nat.lt_succ_self _)))))
      · have hc9 : ((decide (x7_2 = p1))) = false := hc9
        rw [if_neg (bneT hc9)] at hM1
        refine And.intro rfl (And.intro (by first | exact trivial | exact And.intro rfl trivial | exact And.intro rfl (And.intro rfl trivial) | exact And.intro rfl (And.intro rfl (And.intro rfl trivial)) | exact And.intro rfl (And.intro rfl (And.intro rfl (And.intro rfl trivial)))) (And.intro (by first | exact trivial | exact And.intro rfl trivial | exact And.intro rfl (And.intro rfl trivial) | exact And.intro rfl (And.intro rfl (And.intro rfl trivial)) | exact And.intro rfl (And.intro rfl (And.intro rfl (And.intro rfl trivial)))) (Exists.intro m5 (And.intro ⟨(IntKind.i64.wrap (u2 + 1)), (IntKind.i64.wrap (u3 + 1)), rfl, rfl, sX1, (wrap64 _), (wrap64 _), hM1⟩ (Nat.lt_succ_self _)))))
    · have hc8 : ((decide (x7_0 = p1))) = false := hc8
      rw [if_neg (bneT hc8)] at hM1
      refine And.intro (fun hc10 => ?_) (fun hc10 => ?_)
      · have hc10 : ((decide (x7_2 = p1))) = true := hc10
        rw [if_pos hc10] at hM1
        refine And.intro rfl (And.intro (by first | exact trivial | exact And.intro rfl trivial | exact And.intro rfl (And.intro rfl trivial) | exact And.intro rfl (And.intro rfl (And.intro rfl trivial)) | exact And.intro rfl (And.intro rfl (And.intro rfl (And.intro rfl trivial)))) (And.intro (by first | exact trivial | exact And.intro rfl trivial | exact And.intro rfl (And.intro rfl trivial) | exact And.intro rfl (And.intro rfl (And.intro rfl trivial)) | exact And.intro rfl (And.intro rfl (And.intro rfl (And.intro rfl trivial)))) (Exists.intro m5 (And.intro ⟨(IntKind.i64.wrap (u2 + 1)), (IntKind.i64.wrap (u3 + 1)), rfl, rfl, sX1, (wrap64 _), (wrap64 _), hM1⟩ (Nat.lt_succ_self _)))))
      · have hc10 : ((decide (x7_2 = p1))) = false := hc10
        rw [if_neg (bneT hc10)] at hM1
        refine And.intro rfl (And.intro (by first | exact trivial | exact And.intro rfl trivial | exact And.intro rfl (And.intro rfl trivial) | exact And.intro rfl (And.intro rfl (And.intro rfl trivial)) | exact And.intro rfl (And.intro rfl (And.intro rfl (And.intro rfl trivial)))) (And.intro (by first | exact trivial | exact And.intro rfl trivial | exact And.intro rfl (And.intro rfl trivial) | exact And.intro rfl (And.intro rfl (And.intro rfl trivial)) | exact And.intro rfl (And.intro rfl (And.intro rfl (And.intro rfl trivial)))) (Exists.intro m5 (And.intro ⟨u2, (IntKind.i64.wrap (u3 + 1)), rfl, rfl, sX1, iu2, (wrap64 _), hM1⟩ (Nat.lt_succ_self _)))))
  · have hc6 : ((decide (u3 < ((p0_2.length : Nat) : Int)))) = false := hc6
    rw [if_neg (bneT hc6)] at hM1
    have hE := Option.some.inj hM1; subst hE
    try dsimp only [outK_inr, outL_inr] at hM0
    have hE := Option.some.inj hM0; subst hE
    exact And.intro rfl sX1

theorem t_slices_Equal___impl_Edge_impl_Edge_ (h : Hp) (ap0 : Option Addr) (np0 cp0 : Nat) (p0 : LEdgeS) (rp0 : wEdgeS.R h [.slice ap0 np0 cp0] p0) (ap1 : Option Addr) (np1 cp1 : Nat) (p1 : LEdgeS) (rp1 : wEdgeS.R h [.slice ap1 np1 cp1] p1) (r : Bool) (hM0 : M_slices_Equal___impl_Edge_impl_Edge_ p0 p1 = some r) :
    Tr Tryz.prog 132 #[.slice ap0 np0 cp0, .slice ap1 np1 cp1] h fun v h' => v = .bool r ∧ h' = h := by
  obtain ⟨rfl, lp0⟩ := Sl.len rp0
  obtain ⟨rfl, lp1⟩ := Sl.len rp1
  unfold M_slices_Equal___impl_Edge_impl_Edge_ at hM0
  refine Tr.forget (walk (args := [.slice ap0 p0.length cp0, .slice ap1 p1.length cp1]) (fn := Tryz.f132) rfl ?_)
  refine And.intro (fun hc1 => ?_) (fun hc1 => ?_)
  · have hc1 : ((!decide (((p0.length : Nat) : Int) = ((p1.length : Nat) : Int)))) = true := hc1
    rw [if_pos hc1] at hM0
    have hE := Option.some.inj hM0; subst hE
    exact And.intro rfl (Sub.refl _)
  · have hc1 : ((!decide (((p0.length : Nat) : Int) = ((p1.length : Nat) : Int)))) = false := hc1
    rw [if_neg (bneT hc1)] at hM0
    obtain ⟨X2, hLX2, hM0⟩ := bsome hM0
    refine Exists.intro { vars := [13], boxes := [], owns := [], fuel := true } (Exists.intro (fun vs os h' => ∃ (u3 : Int), vs.tail = [.int .i64 u3] ∧ os = [] ∧ Sub h h' ∧ In64 u3 ∧ L_slices_Equal___impl_Edge_impl_Edge__0 p0 p1 (fuelOf vs) u3 = some X2) (Exists.intro (fun _ _ => 0) ?_))
    refine And.intro (Exists.intro FUEL ⟨0, rfl, rfl, (Sub.refl _), (c64 (by decide) (by decide)), hLX2⟩) ?_
    rintro v_0 m5 k4 ⟨u3, evX2, eoX2, sX2, iu3, hM1⟩
    cases evX2
    cases eoX2
    replace hM1 : L_slices_Equal___impl_Edge_impl_Edge__0 p0 p1 m5 u3 = some X2 := hM1
    obtain _ | m5 := m5
    · cases (show (none : Option _) = some X2 from hM1)
    rw [L_slices_Equal___impl_Edge_impl_Edge__0_succ] at hM1
    refine And.intro (fun hc6 => ?_) (fun hc6 => ?_)
    · have hc6 : ((decide (u3 < ((p0.length : Nat) : Int)))) = true := hc6
      rw [if_pos hc6] at hM1
      refine Or.inl (And.intro (And.intro (by kernel_rfl) (by kernel_rfl)) ?_)
      obtain ⟨x7, gx7, hM1⟩ := bsome hM1
      obtain ⟨bx7, csx7, ex7, rx7⟩ := Sl.getI (r := wEdge.toRp) (wEdgeS.mono sX2 rp0) gx7 (by decide)
      refine And.intro bx7 ?_
      obtain ⟨x7_0, x7_1, x7_2, rfl, rfl, ix7_0, ix7_1, ix7_2⟩ := openEdge rx7
      dsimp only at hM1
      refine Exists.intro _ (And.intro ex7 ?_)
      obtain ⟨x8, gx8, hM1⟩ := bsome hM1
      obtain ⟨bx8, csx8, ex8, rx8⟩ := Sl.getI (r := wEdge.toRp) (wEdgeS.mono sX2 rp1) gx8 (by decide)
      refine And.intro bx8 ?_
      obtain ⟨x8_0, x8_1, x8_2, rfl, rfl, ix8_0, ix8_1, ix8_2⟩ := openEdge rx8
      dsimp only at hM1
      refine Exists.intro _ (And.intro ex8 ?_)
      refine Exists.intro (!eqE (x7_0, x7_1, x7_2) (x8_0, x8_1, x8_2)) (And.intro (edgeNeq _ _ _ rfl _ _ _ _ _ _) ?_)
      refine And.intro (fun hc9 => ?_) (fun hc9 => ?_)
      · have hc9 : ((!eqE (x7_0, x7_1, x7_2) (x8_0, x8_1, x8_2))) = true := hc9
        rw [if_pos hc9] at hM1
        have hE := Option.some.inj hM1; subst hE
        try dsimp only [outK_inl, outL_inl] at hM0
        have hE := Option.some.inj hM0; subst hE
        exact And.intro rfl sX2
      · have hc9 : ((!eqE (x7_0, x7_1, x7_2) (x8_0, x8_1, x8_2))) = false := hc9
        rw [if_neg (bneT hc9)] at hM1
        refine And.intro rfl (And.intro (by first | exact trivial | exact And.intro rfl trivial | exact And.intro rfl (And.intro rfl trivial) | exact And.intro rfl (And.intro rfl (And.intro rfl trivial)) | exact And.intro rfl (And.intro rfl (And.intro rfl (And.intro rfl trivial)))) (And.intro (by first | exact trivial | exact And.intro rfl trivial | exact And.intro rfl (And.intro rfl trivial) | exact And.intro rfl (And.intro rfl (And.intro rfl trivial)) | exact And.intro rfl (And.intro rfl (And.intro rfl (And.intro rfl trivial)))) (Exists.intro m5 (And.intro ⟨(IntKind.i64.wrap (u3 + 1)), rfl, rfl, sX2, (wrap64 _), hM1⟩ (Nat.lt_succ_self _)))))
    · have hc6 : ((decide (u3 < ((p0.length : Nat) : Int)))) = false := hc6
      rw [if_neg (bneT hc6)] at hM1
      have hE := Option.some.inj hM1; subst hE
      try dsimp only [outK_inr, outL_inr] at hM0
      have hE := Option.some.inj hM0; subst hE
      exact And.intro rfl sX2

theorem t_impl_EqualGraphs (h : Hp) (csp0 : List Value) (p0 : LGraph) (rp0 : wGraph.R h csp0 p0) (csp1 : List Value) (p1 : LGraph) (rp1 : wGraph.R h csp1 p1) (r : Bool) (hM0 : M_impl_EqualGraphs p0 p1 = some r) :
    Tr Tryz.prog 88 #[.agg csp0.toArray, .agg csp1.toArray] h fun v h' => v = .bool r ∧ h' = h := by
  obtain ⟨p0_0, p0_1, ap0_2, np0_2, cp0_2, p0_2, rfl, rfl, ip0_0, ip0_1, rp0_2⟩ := openGraph rp0
  obtain ⟨rfl, lp0_2⟩ := Sl.len rp0_2
  obtain ⟨p1_0, p1_1, ap1_2, np1_2, cp1_2, p1_2, rfl, rfl, ip1_0, ip1_1, rp1_2⟩ := openGraph rp1
  obtain ⟨rfl, lp1_2⟩ := Sl.len rp1_2
  unfold M_impl_EqualGraphs at hM0
  dsimp only at hM0
  refine Tr.forget (walk (args := [.agg #[.int .i64 p0_0, .int .i64 p0_1, .slice ap0_2 p0_2.length cp0_2], .agg #[.int .i64 p1_0, .int .i64 p1_1, .slice ap1_2 p1_2.length cp1_2]]) (fn := Tryz.f88) rfl ?_)
  obtain ⟨x1, gx1, hM0⟩ := bsome hM0
  refine Exists.intro (.bool x1) (And.intro (fun q => t_slices_Equal___impl_Edge_impl_Edge_ _ ap0_2 p0_2.length cp0_2 p0_2 rp0_2 ap1_2 p1_2.length cp1_2 p1_2 rp1_2 _  (chk_some gx1 q)) ?_)
  have hE := Option.some.inj hM0; subst hE
  exact And.intro rfl (Sub.refl _)

theorem t_impl_Graph_joined (h : Hp) (csp0 : List Value) (p0 : LGraph) (rp0 : wGraph.R h csp0 p0) (p1 : Int) (ip1 : In64 p1) (r : (List Bool)) (hM0 : M_impl_Graph_joined p0 p1 = some r) :
    Tr Tryz.prog 129 #[.agg csp0.toArray, .int .i64 p1] h fun v h' => ∃ (a0 : Option Addr) (n0 c0 : Nat), v = .slice a0 n0 c0 ∧ (Wp.slice Wp.bool).R h' [.slice a0 n0 c0] r ∧ Sub h h' := by
  obtain ⟨p0_0, p0_1, ap0_2, np0_2, cp0_2, p0_2, rfl, rfl, ip0_0, ip0_1, rp0_2⟩ := openGraph rp0
  obtain ⟨rfl, lp0_2⟩ := Sl.len rp0_2
  unfold M_impl_Graph_joined at hM0
  dsimp only at hM0
  refine walk (args := [.agg #[.int .i64 p0_0, .int .i64 p0_1, .slice ap0_2 p0_2.length cp0_2], .int .i64 p1]) (fn := Tryz.f129) rfl ?_
  obtain ⟨q1, gq1, hM0⟩ := bsome hM0
  refine And.intro (grd_some gq1) ?_
  obtain ⟨x2, gx2, hM0⟩ := bsome hM0
  obtain ⟨bx2, csx2, ex2, rx2⟩ := oel_get (F2.rep (p := Wp.bool.R h) (a := [.bool false]) (b := false) rfl (p0_1.toNat)) gx2
  refine And.intro bx2 ?_
  obtain rfl := rx2
  refine Exists.intro _ (And.intro ex2 ?_)
  obtain ⟨X3, hLX3, hM0⟩ := bsome hM0
  refine Exists.intro { vars := [6], boxes := [], owns := [0], fuel := true, kept := [0] } (Exists.intro (fun vs os h' => ∃ (u4 : Bool) (wu5 : List (List Value)) (u5 : List Bool), vs.tail = [.bool u4] ∧ os = [wu5] ∧ Sub h h' ∧ F2 (Wp.bool.R h') wu5 u5 ∧ L_impl_Graph_joined_1 p0_2 (fuelOf vs) u4 u5 = some X3) (Exists.intro (fun _ _ => 0) ?_))
  refine And.intro (Exists.intro FUEL ⟨true, ((List.replicate p0_1.toNat ([.bool false] : List Value)).set p1.toNat [.bool true]), ((List.replicate p0_1.toNat (false : Bool)).set p1.toNat true), rfl, rfl, (Sub.refl _), (F2.set (p := Wp.bool.R h) (a := [.bool true]) (b := true) rfl p1.toNat (F2.rep (p := Wp.bool.R h) (a := [.bool false]) (b := false) rfl (p0_1.toNat))), hLX3⟩) ?_
  rintro v_0 wu5 m7 k6 ⟨u4, zzu5, u5, evX3, eoX3, sX3, fu5, hM1⟩
  cases evX3
  cases eoX3
  replace hM1 : L_impl_Graph_joined_1 p0_2 m7 u4 u5 = some X3 := hM1
  obtain _ | m7 := m7
  · cases (show (none : Option _) = some X3 from hM1)
  rw [L_impl_Graph_joined_1_succ] at hM1
  refine And.intro (fun hc8 => ?_) (fun hc8 => ?_)
  · have hc8 : (u4) = true := hc8
    rw [if_pos hc8] at hM1
    obtain ⟨X9, hLX9, hM1⟩ := bsome hM1
    refine Exists.intro { vars := [6, 19], boxes := [], owns := [0], fuel := true, kept := [0] } (Exists.intro (fun vs os h' => ∃ (u10 : Bool) (u11 : Int) (wu12 : List (List Value)) (u12 : List Bool), vs.tail = [.bool u10, .int .i64 u11] ∧ os = [wu12] ∧ Sub k6 h' ∧ In64 u11 ∧ F2 (Wp.bool.R h') wu12 u12 ∧ L_impl_Graph_joined_0 p0_2 (fuelOf vs) u10 u11 u12 = some X9) (Exists.intro (fun _ _ => 0) ?_))
    refine And.intro (Exists.intro FUEL ⟨false, 0, wu5, u5, rfl, rfl, (Sub.refl _), (c64 (by decide) (by decide)), fu5, hLX9⟩) ?_
    rintro v_0 v_1 wu12 m14 k13 ⟨u10, u11, zzu12, u12, evX9, eoX9, sX9, iu11, fu12, hM2⟩
    cases evX9
    cases eoX9
    replace hM2 : L_impl_Graph_joined_0 p0_2 m14 u10 u11 u12 = some X9 := hM2
    obtain _ | m14 := m14
    · cases (show (none : Option _) = some X9 from hM2)
    rw [L_impl_Graph_joined_0_succ] at hM2
    refine And.intro (fun hc15 => ?_) (fun hc15 => ?_)
    · have hc15 : ((decide (u11 < ((p0_2.length : Nat) : Int)))) = true := hc15
      rw [if_pos hc15] at hM2
      obtain ⟨x16, gx16, hM2⟩ := bsome hM2
      obtain ⟨bx16, csx16, ex16, rx16⟩ := Sl.getI (r := wEdge.toRp) (wEdgeS.mono (sX3.trans sX9) rp0_2) gx16 (by decide)
      refine And.intro bx16 ?_
      obtain ⟨x16_0, x16_1, x16_2, rfl, rfl, ix16_0, ix16_1, ix16_2⟩ := openEdge rx16
      dsimp only at hM2
      refine Exists.intro _ (And.intro ex16 ?_)
      refine Or.inl (And.intro (And.intro (by kernel_rfl) (by kernel_rfl)) ?_)
      obtain ⟨x17, gx17, hM2⟩ := bsome hM2
      obtain ⟨bx17, csx17, ex17, rx17⟩ := oel_get fu12 gx17
      refine And.intro bx17 ?_
      obtain rfl := rx17
      refine Exists.intro _ (And.intro ex17 ?_)
      obtain ⟨x18, gx18, hM2⟩ := bsome hM2
      obtain ⟨bx18, csx18, ex18, rx18⟩ := oel_get fu12 gx18
      refine And.intro bx18 ?_
      obtain rfl := rx18
      refine Exists.intro _ (And.intro ex18 ?_)
      refine And.intro (fun hc19 => ?_) (fun hc19 => ?_)
      · have hc19 : ((!(x17 == x18))) = true := hc19
        rw [if_pos hc19] at hM2
        obtain ⟨x20, gx20, hM2⟩ := bsome hM2
        obtain ⟨bx20, csx20, ex20, rx20⟩ := oel_get fu12 gx20
        refine And.intro bx20 ?_
        obtain rfl := rx20
        refine Exists.intro _ (And.intro ex20 ?_)
        obtain ⟨x21, gx21, hM2⟩ := bsome hM2
        obtain ⟨bx21, csx21, ex21, rx21⟩ := oel_get (F2.set (p := Wp.bool.R k13) (a := [.bool true]) (b := true) rfl x16_0.toNat fu12) gx21
        refine And.intro bx21 ?_
        obtain rfl := rx21
        refine Exists.intro _ (And.intro ex21 ?_)
        refine And.intro rfl (And.intro (by first | exact trivial | exact And.intro rfl trivial | exact And.intro rfl (And.intro rfl trivial) | exact And.intro rfl (And.intro rfl (And.intro rfl trivial)) | exact And.intro rfl (And.intro rfl (And.intro rfl (And.intro rfl trivial)))) (And.intro (by first | exact trivial | exact And.intro rfl trivial | exact And.intro rfl (And.intro rfl trivial) | exact And.intro rfl (And.intro rfl (And.intro rfl trivial)) | exact And.intro rfl (And.intro rfl (And.intro rfl (And.intro rfl trivial)))) (Exists.intro m14 (And.intro ⟨true, (IntKind.i64.wrap (u11 + 1)), ((wu12.set x16_0.toNat [.bool true]).set x16_2.toNat [.bool true]), ((u12.set x16_0.toNat true).set x16_2.toNat true), rfl, rfl, sX9, (wrap64 _), (F2.set (p := Wp.bool.R k13) (a := [.bool true]) (b := true) rfl x16_2.toNat (F2.set (p := Wp.bool.R k13) (a := [.bool true]) (b := true) rfl x16_0.toNat fu12)), hM2⟩ (Nat.lt_succ_self _)))))
      · have hc19 : ((!(x17 == x18))) = false := hc19
        rw [if_neg (bneT hc19)] at hM2
        refine And.intro rfl (And.intro (by first | exact trivial | exact And.intro rfl trivial | exact And.intro rfl (And.intro rfl trivial) | exact And.intro rfl (And.intro rfl (And.intro rfl trivial)) | exact And.intro rfl (And.intro rfl (And.intro rfl (And.intro rfl trivial)))) (And.intro (by first | exact trivial | exact And.intro rfl trivial | exact And.intro rfl (And.intro rfl trivial) | exact And.intro rfl (And.intro rfl (And.intro rfl trivial)) | exact And.intro rfl (And.intro rfl (And.intro rfl (And.intro rfl trivial)))) (Exists.intro m14 (And.intro ⟨u10, (IntKind.i64.wrap (u11 + 1)), wu12, u12, rfl, rfl, sX9, (wrap64 _), fu12, hM2⟩ (Nat.lt_succ_self _)))))
    · have hc15 : ((decide (u11 < ((p0_2.length : Nat) : Int)))) = false := hc15
      rw [if_neg (bneT hc15)] at hM2
      have hE := Option.some.inj hM2; subst hE
      try dsimp only [outK_inr, outL_inr] at hM1
      refine And.intro rfl (And.intro (by first | exact trivial | exact And.intro rfl trivial | exact And.intro rfl (And.intro rfl trivial) | exact And.intro rfl (And.intro rfl (And.intro rfl trivial)) | exact And.intro rfl (And.intro rfl (And.intro rfl (And.intro rfl trivial)))) (And.intro (by first | exact trivial | exact And.intro rfl trivial | exact And.intro rfl (And.intro rfl trivial) | exact And.intro rfl (And.intro rfl (And.intro rfl trivial)) | exact And.intro rfl (And.intro rfl (And.intro rfl (And.intro rfl trivial)))) (Exists.intro m7 (And.intro ⟨u10, wu12, u12, rfl, rfl, (sX3.trans sX9), fu12, hM1⟩ (Nat.lt_succ_self _)))))
  · have hc8 : (u4) = false := hc8
    rw [if_neg (bneT hc8)] at hM1
    have hE := Option.some.inj hM1; subst hE
    try dsimp only [outK_inr, outL_inr] at hM0
    intro v27 k28 f29
    obtain ⟨az30, cz30, rfl, rz30, sz30, lz30⟩ := Froze.out (r := Wp.bool.toRp) f29 fu5
    have hE := Option.some.inj hM0; subst hE
    exact ⟨az30, u5.length, cz30, rfl, rz30, (sX3.trans sz30)⟩

theorem t_impl_letters (h : Hp) (p0 : Int) (ip0 : In64 p0) (r : LIntS) (hM0 : M_impl_letters p0 = some r) :
    Tr Tryz.prog 121 #[.int .i64 p0] h fun v h' => ∃ (a0 : Option Addr) (n0 c0 : Nat), v = .slice a0 n0 c0 ∧ wIntS.R h' [.slice a0 n0 c0] r ∧ Sub h h' := by
  unfold M_impl_letters at hM0
  refine walk (args := [.int .i64 p0]) (fn := Tryz.f121) rfl ?_
  obtain ⟨X1, hLX1, hM0⟩ := bsome hM0
  refine Exists.intro { vars := [4], boxes := [], owns := [0], fuel := true } (Exists.intro (fun vs os h' => ∃ (u2 : Int) (wu3 : List (List Value)) (u3 : List Int), vs.tail = [.int .i64 u2] ∧ os = [wu3] ∧ Sub h h' ∧ In64 u2 ∧ F2 (Wp.int.R h') wu3 u3 ∧ L_impl_letters_0 p0 (fuelOf vs) u2 u3 = some X1) (Exists.intro (fun _ _ => 0) ?_))
  refine And.intro (Exists.intro FUEL ⟨1, [], ([] : LIntS), rfl, rfl, (Sub.refl _), (c64 (by decide) (by decide)), (show F2 (Wp.int.R h) ([] : List (List Value)) ([] : LIntS) from trivial), hLX1⟩) ?_
  rintro v_0 wu3 m5 k4 ⟨u2, zzu3, u3, evX1, eoX1, sX1, iu2, fu3, hM1⟩
  cases evX1
  cases eoX1
  replace hM1 : L_impl_letters_0 p0 m5 u2 u3 = some X1 := hM1
  obtain _ | m5 := m5
  · cases (show (none : Option _) = some X1 from hM1)
  rw [L_impl_letters_0_succ] at hM1
  refine And.intro (fun hc6 => ?_) (fun hc6 => ?_)
  · have hc6 : ((decide (u2 ≤ p0))) = true := hc6
    rw [if_pos hc6] at hM1
    obtain ⟨q7, gq7, hM1⟩ := bsome hM1
    refine And.intro (room_of gq7 (by first | rw [F2.length fu3, F2.length (show F2 (Wp.int.R k4) ([[.int .i64 u2], [.int .i64 (IntKind.i64.wrap (0 - u2))]] : List (List Value)) [u2, (IntKind.i64.wrap (0 - u2))] from ⟨⟨rfl, iu2⟩, ⟨⟨rfl, (wrap64 _)⟩, trivial⟩⟩)] | exact congrArg (· + 2) (F2.length fu3))) ?_
    refine And.intro rfl (And.intro (by first | exact trivial | exact And.intro rfl trivial | exact And.intro rfl (And.intro rfl trivial) | exact And.intro rfl (And.intro rfl (And.intro rfl trivial)) | exact And.intro rfl (And.intro rfl (And.intro rfl (And.intro rfl trivial)))) (And.intro (by first | exact trivial | exact And.intro rfl trivial | exact And.intro rfl (And.intro rfl trivial) | exact And.intro rfl (And.intro rfl (And.intro rfl trivial)) | exact And.intro rfl (And.intro rfl (And.intro rfl (And.intro rfl trivial)))) (Exists.intro m5 (And.intro ⟨(IntKind.i64.wrap (u2 + 1)), (wu3 ++ ([[.int .i64 u2], [.int .i64 (IntKind.i64.wrap (0 - u2))]] : List (List Value))), (u3 ++ [u2, (IntKind.i64.wrap (0 - u2))]), rfl, rfl, sX1, (wrap64 _), (F2.append fu3 (show F2 (Wp.int.R k4) ([[.int .i64 u2], [.int .i64 (IntKind.i64.wrap (0 - u2))]] : List (List Value)) [u2, (IntKind.i64.wrap (0 - u2))] from ⟨⟨rfl, iu2⟩, ⟨⟨rfl, (wrap64 _)⟩, trivial⟩⟩)), hM1⟩ (Nat.lt_succ_self _)))))
  · have hc6 : ((decide (u2 ≤ p0))) = false := hc6
    rw [if_neg (bneT hc6)] at hM1
    have hE := Option.some.inj hM1; subst hE
    try dsimp only [outK_inr, outL_inr] at hM0
    intro v8 k9 f10
    obtain ⟨az11, cz11, rfl, rz11, sz11, lz11⟩ := Froze.out (r := Wp.int.toRp) f10 fu3
    have hE := Option.some.inj hM0; subst hE
    exact ⟨az11, u3.length, cz11, rfl, rz11, (sX1.trans sz11)⟩

theorem t_impl_sorted (h : Hp) (ap0 : Option Addr) (np0 cp0 : Nat) (p0 : LEdgeS) (rp0 : wEdgeS.R h [.slice ap0 np0 cp0] p0) (r : LEdgeS) (hM0 : M_impl_sorted p0 = some r) :
    Tr Tryz.prog 99 #[.slice ap0 np0 cp0] h fun v h' => ∃ (a0 : Option Addr) (n0 c0 : Nat), v = .slice a0 n0 c0 ∧ New wEdgeS h h' [.slice a0 n0 c0] r := by
  obtain ⟨rfl, lp0⟩ := Sl.len rp0
  unfold M_impl_sorted at hM0
  refine walk (args := [.slice ap0 p0.length cp0]) (fn := Tryz.f99) rfl ?_
  obtain ⟨vsy1, ey1, fy1⟩ := Sl.rows (r := wEdge.toRp) rp0
  refine Exists.intro vsy1 (And.intro ey1 ?_)
  obtain ⟨q2, gq2, hM0⟩ := bsome hM0
  refine And.intro (room_of gq2 (by first | rw [F2.length (show F2 (wEdge.R h) ([] : List (List Value)) ([] : LEdgeS) from trivial), F2.length fy1] | exact congrArg (· + 1) (F2.length (show F2 (wEdge.R h) ([] : List (List Value)) ([] : LEdgeS) from trivial)))) ?_
  refine Or.inl ?_
  intro v3 k4 f5
  obtain ⟨q6, gq6, hM0⟩ := bsome hM0
  refine Tr.mono (t_sortEdges _ f5 (F2.append (show F2 (wEdge.R h) ([] : List (List Value)) ([] : LEdgeS) from trivial) fy1) (grd_some gq6)) ?_
  rintro _ kz7 ⟨rfl, vsz7, fz7, qz7⟩
  obtain ⟨az7, cz7, rfl, rz7, sz7, lz7⟩ := Froze.out (r := wEdge.toRp) fz7 qz7
  refine Tr.mono (t_compEdges _ fz7 qz7) ?_
  rintro _ kz8 ⟨vsz8, fz8, qz8⟩
  obtain ⟨az8, cz8, rfl, rz8, sz8, lz8⟩ := Froze.out (r := wEdge.toRp) fz8 qz8
  have hE := Option.some.inj hM0; subst hE
  exact ⟨az8, ((compL eqE (srtL F_CompareEdges (([] : LEdgeS) ++ p0)))).length, cz8, rfl, (Froze.newPlain (r := wEdge) fz8 qz8 (plEdge _))⟩

theorem t_impl_part (h : Hp) (csp0 : List Value) (p0 : LGraph) (rp0 : wGraph.R h csp0 p0) (ap1 : Option Addr) (np1 cp1 : Nat) (p1 : LIntS) (rp1 : wIntS.R h [.slice ap1 np1 cp1] p1) (r : LGraph) (hM0 : M_impl_part p0 p1 = some r) :
    Tr Tryz.prog 131 #[.agg csp0.toArray, .slice ap1 np1 cp1] h fun v h' => ∃ (cs0 : List Value), v = .agg cs0.toArray ∧ New wGraph h h' cs0 r := by
  obtain ⟨p0_0, p0_1, ap0_2, np0_2, cp0_2, p0_2, rfl, rfl, ip0_0, ip0_1, rp0_2⟩ := openGraph rp0
  obtain ⟨rfl, lp0_2⟩ := Sl.len rp0_2
  obtain ⟨rfl, lp1⟩ := Sl.len rp1
  unfold M_impl_part at hM0
  dsimp only at hM0
  refine walk (args := [.agg #[.int .i64 p0_0, .int .i64 p0_1, .slice ap0_2 p0_2.length cp0_2], .slice ap1 p1.length cp1]) (fn := Tryz.f131) rfl ?_
  obtain ⟨q1, gq1, hM0⟩ := bsome hM0
  refine And.intro (grd_some gq1) ?_
  obtain ⟨m2, gm2, hM0⟩ := bsome hM0
  obtain rfl : (List.replicate p0_1.toNat ([.int .i64 0] : List Value)).length = m2 := (F2.length (F2.rep (p := Wp.int.R h) (a := [.int .i64 0]) (b := 0) ⟨rfl, (c64 (by decide) (by decide))⟩ (p0_1.toNat))).trans (Option.some.inj gm2)
  obtain ⟨q3, gq3, hM0⟩ := bsome hM0
  obtain ⟨X4, hLX4, hM0⟩ := bsome hM0
  refine Exists.intro { vars := [17], boxes := [], owns := [0], fuel := true, kept := [0] } (Exists.intro (fun vs os h' => ∃ (u5 : Int) (wu6 : List (List Value)) (u6 : List Int), vs.tail = [.int .i64 u5] ∧ os = [wu6] ∧ Sub h h' ∧ In64 u5 ∧ F2 (Wp.int.R h') wu6 u6 ∧ L_impl_part_2 ((List.replicate p0_1.toNat ([.int .i64 0] : List Value))).length (fuelOf vs) u5 u6 = some X4) (Exists.intro (fun _ _ => 0) ?_))
  refine And.intro (Exists.intro FUEL ⟨0, (List.replicate p0_1.toNat ([.int .i64 0] : List Value)), (List.replicate p0_1.toNat (0 : Int)), rfl, rfl, (Sub.refl _), (c64 (by decide) (by decide)), (F2.rep (p := Wp.int.R h) (a := [.int .i64 0]) (b := 0) ⟨rfl, (c64 (by decide) (by decide))⟩ (p0_1.toNat)), hLX4⟩) ?_
  rintro v_0 wu6 m8 k7 ⟨u5, zzu6, u6, evX4, eoX4, sX4, iu5, fu6, hM1⟩
  cases evX4
  cases eoX4
  replace hM1 : L_impl_part_2 ((List.replicate p0_1.toNat ([.int .i64 0] : List Value))).length m8 u5 u6 = some X4 := hM1
  obtain _ | m8 := m8
  · cases (show (none : Option _) = some X4 from hM1)
  rw [L_impl_part_2_succ] at hM1
  refine And.intro (fun hc9 => ?_) (fun hc9 => ?_)
  · have hc9 : ((decide (u5 < (((List.replicate p0_1.toNat ([.int .i64 0] : List Value)).length : Nat) : Int)))) = true := hc9
    rw [if_pos hc9] at hM1
    obtain ⟨x10, gx10, hM1⟩ := bsome hM1
    obtain ⟨bx10, csx10, ex10, rx10⟩ := oel_get fu6 gx10
    refine And.intro bx10 ?_
    obtain ⟨rfl, ix10⟩ := rx10
    refine Exists.intro _ (And.intro ex10 ?_)
    refine And.intro rfl (And.intro (by first | exact trivial | exact And.intro rfl trivial | exact And.intro rfl (And.intro rfl trivial) | exact And.intro rfl (And.intro rfl (And.intro rfl trivial)) | exact And.intro rfl (And.intro rfl (And.intro rfl (And.intro rfl trivial)))) (And.intro (by first | exact trivial | exact And.intro rfl trivial | exact And.intro rfl (And.intro rfl trivial) | exact And.intro rfl (And.intro rfl (And.intro rfl trivial)) | exact And.intro rfl (And.intro rfl (And.intro rfl (And.intro rfl trivial)))) (Exists.intro m8 (And.intro ⟨(IntKind.i64.wrap (u5 + 1)), (wu6.set u5.toNat [.int .i64 (-1)]), (u6.set u5.toNat (-1)), rfl, rfl, sX4, (wrap64 _), (F2.set (p := Wp.int.R k7) (a := [.int .i64 (-1)]) (b := (-1)) ⟨rfl, (c64 (by decide) (by decide))⟩ u5.toNat fu6), hM1⟩ (Nat.lt_succ_self _)))))
  · have hc9 : ((decide (u5 < (((List.replicate p0_1.toNat ([.int .i64 0] : List Value)).length : Nat) : Int)))) = false := hc9
    rw [if_neg (bneT hc9)] at hM1
    have hE := Option.some.inj hM1; subst hE
    try dsimp only [outK_inr, outL_inr] at hM0
    obtain ⟨X11, hLX11, hM0⟩ := bsome hM0
    refine Exists.intro { vars := [26], boxes := [], owns := [0], fuel := true, kept := [0] } (Exists.intro (fun vs os h' => ∃ (u12 : Int) (wu13 : List (List Value)) (u13 : List Int), vs.tail = [.int .i64 u12] ∧ os = [wu13] ∧ Sub k7 h' ∧ In64 u12 ∧ F2 (Wp.int.R h') wu13 u13 ∧ L_impl_part_1 p1 (fuelOf vs) u12 u13 = some X11) (Exists.intro (fun _ _ => 0) ?_))
    refine And.intro (Exists.intro FUEL ⟨0, wu6, u6, rfl, rfl, (Sub.refl _), (c64 (by decide) (by decide)), fu6, hLX11⟩) ?_
    rintro v_0 wu13 m15 k14 ⟨u12, zzu13, u13, evX11, eoX11, sX11, iu12, fu13, hM1⟩
    cases evX11
    cases eoX11
    replace hM1 : L_impl_part_1 p1 m15 u12 u13 = some X11 := hM1
    obtain _ | m15 := m15
    · cases (show (none : Option _) = some X11 from hM1)
    rw [L_impl_part_1_succ] at hM1
    refine And.intro (fun hc16 => ?_) (fun hc16 => ?_)
    · have hc16 : ((decide (u12 < ((p1.length : Nat) : Int)))) = true := hc16
      rw [if_pos hc16] at hM1
      obtain ⟨x17, gx17, hM1⟩ := bsome hM1
      obtain ⟨bx17, csx17, ex17, rx17⟩ := Sl.getI (r := Wp.int.toRp) (wIntS.mono (sX4.trans sX11) rp1) gx17 (by decide)
      refine And.intro bx17 ?_
      obtain ⟨rfl, ix17⟩ := rx17
      refine Exists.intro _ (And.intro ex17 ?_)
      obtain ⟨x18, gx18, hM1⟩ := bsome hM1
      obtain ⟨bx18, csx18, ex18, rx18⟩ := oel_get fu13 gx18
      refine And.intro bx18 ?_
      obtain ⟨rfl, ix18⟩ := rx18
      refine Exists.intro _ (And.intro ex18 ?_)
      refine And.intro rfl (And.intro (by first | exact trivial | exact And.intro rfl trivial | exact And.intro rfl (And.intro rfl trivial) | exact And.intro rfl (And.intro rfl (And.intro rfl trivial)) | exact And.intro rfl (And.intro rfl (And.intro rfl (And.intro rfl trivial)))) (And.intro (by first | exact trivial | exact And.intro rfl trivial | exact And.intro rfl (And.intro rfl trivial) | exact And.intro rfl (And.intro rfl (And.intro rfl trivial)) | exact And.intro rfl (And.intro rfl (And.intro rfl (And.intro rfl trivial)))) (Exists.intro m15 (And.intro ⟨(IntKind.i64.wrap (u12 + 1)), (wu13.set x17.toNat [.int .i64 u12]), (u13.set x17.toNat u12), rfl, rfl, sX11, (wrap64 _), (F2.set (p := Wp.int.R k14) (a := [.int .i64 u12]) (b := u12) ⟨rfl, iu12⟩ x17.toNat fu13), hM1⟩ (Nat.lt_succ_self _)))))
    · have hc16 : ((decide (u12 < ((p1.length : Nat) : Int)))) = false := hc16
      rw [if_neg (bneT hc16)] at hM1
      have hE := Option.some.inj hM1; subst hE
      try dsimp only [outK_inr, outL_inr] at hM0
      obtain ⟨X19, hLX19, hM0⟩ := bsome hM0
      refine Exists.intro { vars := [44], boxes := [2], owns := [1], fuel := true, nilsB := [(2, 2, 99, 3, 24)] } (Exists.intro (fun vs os h' => ∃ (u20 : Int) (u21 : Int) (u22 : Int) (wu23 : List (List Value)) (u23 : List LEdge), vs.tail = [.int .i64 u20, .int .i64 u21, .int .i64 u22] ∧ os = [wu23] ∧ Sub k14 h' ∧ In64 u20 ∧ In64 u21 ∧ In64 u22 ∧ F2 (wEdge.R h') wu23 u23 ∧ L_impl_part_0 p0_2 u13 (fuelOf vs) u20 u21 u22 u23 = some X19) (Exists.intro (fun _ _ => 0) ?_))
      refine And.intro (Exists.intro FUEL ⟨0, p0_0, ((p1.length : Nat) : Int), [], ([] : LEdgeS), rfl, rfl, (Sub.refl _), (c64 (by decide) (by decide)), ip0_0, (len64 lp1), (show F2 (wEdge.R k14) [] [] from trivial), hLX19⟩) ?_
      rintro v_0 v_1 v_2 wu23 m25 k24 ⟨u20, u21, u22, zzu23, u23, evX19, eoX19, sX19, iu20, iu21, iu22, fu23, hM1⟩
      cases evX19
      cases eoX19
      replace hM1 : L_impl_part_0 p0_2 u13 m25 u20 u21 u22 u23 = some X19 := hM1
      obtain _ | m25 := m25
      · cases (show (none : Option _) = some X19 from hM1)
      rw [L_impl_part_0_succ] at hM1
      refine And.intro (fun hc26 => ?_) (fun hc26 => ?_)
      · have hc26 : ((decide (u20 < ((p0_2.length : Nat) : Int)))) = true := hc26
        rw [if_pos hc26] at hM1
        obtain ⟨x27, gx27, hM1⟩ := bsome hM1
        obtain ⟨bx27, csx27, ex27, rx27⟩ := Sl.getI (r := wEdge.toRp) (wEdgeS.mono ((sX4.trans sX11).trans sX19) rp0_2) gx27 (by decide)
        refine And.intro bx27 ?_
        obtain ⟨x27_0, x27_1, x27_2, rfl, rfl, ix27_0, ix27_1, ix27_2⟩ := openEdge rx27
        dsimp only at hM1
        refine Exists.intro _ (And.intro ex27 ?_)
        obtain ⟨x28, gx28, hM1⟩ := bsome hM1
        obtain ⟨bx28, csx28, ex28, rx28⟩ := oel_get (F2.up (r := Wp.int.toRp) sX19 fu13) gx28
        refine And.intro bx28 ?_
        obtain ⟨rfl, ix28⟩ := rx28
        refine Exists.intro _ (And.intro ex28 ?_)
        obtain ⟨x29, gx29, hM1⟩ := bsome hM1
        obtain ⟨csx29, ex29, rx29⟩ := oel_getG (F2.up (r := Wp.int.toRp) sX19 fu13) gx29 (dfInt k24)
        refine And.intro (fun q => (ex29 q).1) ?_
        obtain ⟨rfl, ix29⟩ := rx29
        refine Exists.intro _ (And.intro (fun q => (ex29 q).2) ?_)
        refine And.intro (fun hc30 => ?_) (fun hc30 => ?_)
        · have hc30 : ((bif (decide (x28 ≥ 0)) then (decide (x29 ≥ 0)) else false)) = true := hc30
          rw [if_pos hc30] at hM1
          refine Or.inr (Or.inr (Or.inl (And.intro (And.intro (by kernel_rfl) (by kernel_rfl)) ?_)))
          obtain ⟨x31, gx31, hM1⟩ := bsome hM1
          obtain ⟨bx31, csx31, ex31, rx31⟩ := oel_get (F2.up (r := Wp.int.toRp) sX19 fu13) gx31
          obtain ⟨rfl, ix31⟩ := rx31
          refine Or.inl ?_
          apply Exists.intro
          refine And.intro ?_ ?_
          · intro k32 s33
            exact And.intro bx31 (And.intro rfl (And.intro rfl rfl))
          refine Or.inl (Exists.intro (.val (.int .i64 x31)) (And.intro ?_ ?_))
          · intro k34 s35
            exact Exists.intro _ (And.intro ex31 (And.intro rfl (And.intro rfl rfl)))
          obtain ⟨x36, gx36, hM1⟩ := bsome hM1
          obtain ⟨bx36, csx36, ex36, rx36⟩ := oel_get (F2.up (r := Wp.int.toRp) sX19 fu13) gx36
          obtain ⟨rfl, ix36⟩ := rx36
          refine Or.inl ?_
          apply Exists.intro
          refine And.intro ?_ ?_
          · intro k37 s38
            exact And.intro bx36 (And.intro rfl (And.intro rfl rfl))
          refine Or.inl (Exists.intro (.val (.int .i64 x36)) (And.intro ?_ ?_))
          · intro k39 s40
            exact Exists.intro _ (And.intro ex36 (And.intro rfl (And.intro rfl rfl)))
          refine Or.inl (Exists.intro (.agg [.val (.int .i64 x31), .val (.int .i64 x27_1), .val (.int .i64 x36)]) (And.intro ?_ ?_))
          · intro k41 s42
            exact And.intro rfl (And.intro rfl rfl)
          refine Or.inr ?_
          refine Or.inr ?_
          refine Or.inr ?_
          refine Exists.intro 0 (And.intro (And.intro rfl rfl) ?_)
          refine And.intro trivial (And.intro (by first | exact trivial | exact rfl) ?_)
          obtain ⟨q43, gq43, hM1⟩ := bsome hM1
          refine And.intro (room_of gq43 (by first | rw [F2.length fu23, F2.length (show F2 (wEdge.R k24) ([[.int .i64 x31, .int .i64 x27_1, .int .i64 x36]] : List (List Value)) [(x31, x27_1, x36)] from ⟨(closeEdge ix31 ix27_1 ix36), trivial⟩)] | exact congrArg (· + 1) (F2.length fu23))) ?_
          refine And.intro trivial (And.intro (by first | exact trivial | exact rfl) ?_)
          refine And.intro trivial (And.intro (by first | exact trivial | exact rfl) ?_)
          refine And.intro rfl (And.intro (by first | exact trivial | exact And.intro rfl trivial | exact And.intro rfl (And.intro rfl trivial) | exact And.intro rfl (And.intro rfl (And.intro rfl trivial)) | exact And.intro rfl (And.intro rfl (And.intro rfl (And.intro rfl trivial)))) (And.intro (by first | exact trivial | exact And.intro rfl trivial | exact And.intro rfl (And.intro rfl trivial) | exact And.intro rfl (And.intro rfl (And.intro rfl trivial)) | exact And.intro rfl (And.intro rfl (And.intro rfl (And.intro rfl trivial)))) (Exists.intro m25 (And.intro ⟨(IntKind.i64.wrap (u20 + 1)), u21, u22, (wu23 ++ ([[.int .i64 x31, .int .i64 x27_1, .int .i64 x36]] : List (List Value))), (u23 ++ [(x31, x27_1, x36)]), rfl, rfl, sX19, (wrap64 _), iu21, iu22, (F2.append fu23 (show F2 (wEdge.R k24) ([[.int .i64 x31, .int .i64 x27_1, .int .i64 x36]] : List (List Value)) [(x31, x27_1, x36)] from ⟨(closeEdge ix31 ix27_1 ix36), trivial⟩)), hM1⟩ (Nat.lt_succ_self _)))))
        · have hc30 : ((bif (decide (x28 ≥ 0)) then (decide (x29 ≥ 0)) else false)) = false := hc30
          rw [if_neg (bneT hc30)] at hM1
          refine And.intro rfl (And.intro (by first | exact trivial | exact And.intro rfl trivial | exact And.intro rfl (And.intro rfl trivial) | exact And.intro rfl (And.intro rfl (And.intro rfl trivial)) | exact And.intro rfl (And.intro rfl (And.intro rfl (And.intro rfl trivial)))) (And.intro (by first | exact trivial | exact And.intro rfl trivial | exact And.intro rfl (And.intro rfl trivial) | exact And.intro rfl (And.intro rfl (And.intro rfl trivial)) | exact And.intro rfl (And.intro rfl (And.intro rfl (And.intro rfl trivial)))) (Exists.intro m25 (And.intro ⟨(IntKind.i64.wrap (u20 + 1)), u21, u22, wu23, u23, rfl, rfl, sX19, (wrap64 _), iu21, iu22, fu23, hM1⟩ (Nat.lt_succ_self _)))))
      · have hc26 : ((decide (u20 < ((p0_2.length : Nat) : Int)))) = false := hc26
        rw [if_neg (bneT hc26)] at hM1
        have hE := Option.some.inj hM1; subst hE
        try dsimp only [outK_inr, outL_inr] at hM0
        refine Or.inl ?_
        intro v44 k45 f46
        obtain ⟨az47, cz47, rfl, rz47, sz47, lz47⟩ := Froze.out (r := wEdge.toRp) f46 fu23
        obtain ⟨x48, gx48, hM0⟩ := bsome hM0
        refine Tr.mono (t_impl_sorted _ az47 u23.length cz47 u23 rz47 _  gx48) ?_
        rintro v50 k49 ⟨ax48, nx48, cx48, rfl, wx48⟩
        have sx48 : Sub k45 k49 := wx48.sub
        have rx48 := wx48.r
        obtain ⟨rfl, lx48⟩ := Sl.len rx48
        have hE := Option.some.inj hM0; subst hE
        exact ⟨([.int .i64 u21, .int .i64 u22, .slice ax48 x48.length cx48]), rfl, (New.pair (New.int iu21) (New.pair (New.int iu22) (New.from wx48 (((sX4.trans sX11).trans sX19).trans sz47))))⟩

theorem t_impl_IsName (h : Hp) (p0 : ByteArray) (ip0 : p0.size ≤ 9223372036854775807) (r : Bool) (hM0 : M_impl_IsName p0 = some r) :
    Tr Tryz.prog 41 #[.string p0] h fun v h' => v = .bool r ∧ h' = h := by
  unfold M_impl_IsName at hM0
  refine Tr.forget (walk (args := [.string p0]) (fn := Tryz.f41) rfl ?_)
  obtain ⟨x1, gx1, hM0⟩ := bsome hM0
  refine Tr.val (t_impl_within _ ((p0.size : Nat) : Int) (len64 ip0) 1 (c64 (by decide) (by decide)) 8 (c64 (by decide) (by decide)) _  gx1) ?_
  refine And.intro (fun hc2 => ?_) (fun hc2 => ?_)
  · have hc2 : ((!x1)) = true := hc2
    rw [if_pos hc2] at hM0
    have hE := Option.some.inj hM0; subst hE
    exact And.intro rfl (Sub.refl _)
  · have hc2 : ((!x1)) = false := hc2
    rw [if_neg (bneT hc2)] at hM0
    obtain ⟨X3, hLX3, hM0⟩ := bsome hM0
    refine Exists.intro { vars := [3], boxes := [], owns := [], fuel := true } (Exists.intro (fun vs os h' => ∃ (u4 : Int), vs.tail = [.int .i64 u4] ∧ os = [] ∧ Sub h h' ∧ In64 u4 ∧ L_impl_IsName_0 p0 (fuelOf vs) u4 = some X3) (Exists.intro (fun _ _ => 0) ?_))
    refine And.intro (Exists.intro FUEL ⟨0, rfl, rfl, (Sub.refl _), (c64 (by decide) (by decide)), hLX3⟩) ?_
    rintro v_0 m6 k5 ⟨u4, evX3, eoX3, sX3, iu4, hM1⟩
    cases evX3
    cases eoX3
    replace hM1 : L_impl_IsName_0 p0 m6 u4 = some X3 := hM1
    obtain _ | m6 := m6
    · cases (show (none : Option _) = some X3 from hM1)
    rw [L_impl_IsName_0_succ] at hM1
    refine And.intro (fun hc7 => ?_) (fun hc7 => ?_)
    · have hc7 : ((decide (u4 < ((p0.size : Nat) : Int)))) = true := hc7
      rw [if_pos hc7] at hM1
      obtain ⟨x8, gx8, hM1⟩ := bsome hM1
      refine Exists.intro _ (And.intro (sgi_some gx8) ?_)
      obtain ⟨x9, gx9, hM1⟩ := bsome hM1
      refine Exists.intro x9 (And.intro (fun q => sgi_some (chk_some gx9 q)) ?_)
      obtain ⟨x10, gx10, hM1⟩ := bsome hM1
      refine Exists.intro _ (And.intro (sgi_some gx10) ?_)
      obtain ⟨x11, gx11, hM1⟩ := bsome hM1
      refine Exists.intro x11 (And.intro (fun q => sgi_some (chk_some gx11 q)) ?_)
      refine And.intro (fun hc12 => ?_) (fun hc12 => ?_)
      · have hc12 : ((bif (!(bif (decide (((x8.toNat : Nat) : Int) ≥ 97)) then (decide (((x9.toNat : Nat) : Int) ≤ 122)) else false)) then (bif (decide (u4 = 0)) then true else (!(bif (decide (((x10.toNat : Nat) : Int) ≥ 48)) then (decide (((x11.toNat : Nat) : Int) ≤ 57)) else false))) else false)) = true := hc12
        rw [if_pos hc12] at hM1
        have hE := Option.some.inj hM1; subst hE
        try dsimp only [outK_inl, outL_inl] at hM0
        have hE := Option.some.inj hM0; subst hE
        exact And.intro rfl sX3
      · have hc12 : ((bif (!(bif (decide (((x8.toNat : Nat) : Int) ≥ 97)) then (decide (((x9.toNat : Nat) : Int) ≤ 122)) else false)) then (bif (decide (u4 = 0)) then true else (!(bif (decide (((x10.toNat : Nat) : Int) ≥ 48)) then (decide (((x11.toNat : Nat) : Int) ≤ 57)) else false))) else false)) = false := hc12
        rw [if_neg (bneT hc12)] at hM1
        refine And.intro rfl (And.intro (by first | exact trivial | exact And.intro rfl trivial | exact And.intro rfl (And.intro rfl trivial) | exact And.intro rfl (And.intro rfl (And.intro rfl trivial)) | exact And.intro rfl (And.intro rfl (And.intro rfl (And.intro rfl trivial)))) (And.intro (by first | exact trivial | exact And.intro rfl trivial | exact And.intro rfl (And.intro rfl trivial) | exact And.intro rfl (And.intro rfl (And.intro rfl trivial)) | exact And.intro rfl (And.intro rfl (And.intro rfl (And.intro rfl trivial)))) (Exists.intro m6 (And.intro ⟨(IntKind.i64.wrap (u4 + 1)), rfl, rfl, sX3, (wrap64 _), hM1⟩ (Nat.lt_succ_self _)))))
    · have hc7 : ((decide (u4 < ((p0.size : Nat) : Int)))) = false := hc7
      rw [if_neg (bneT hc7)] at hM1
      have hE := Option.some.inj hM1; subst hE
      try dsimp only [outK_inr, outL_inr] at hM0
      have hE := Option.some.inj hM0; subst hE
      exact And.intro rfl sX3

end Go.Proofs.YthccjgkmmclplaaGreat
