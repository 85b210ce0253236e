/- The walks of batch 4g. -/
import Derived.Test.YthccjgkmmclplaaGreatA4g
import Derived.Test.YthccjgkmmclplaaGreatChecked
import Derived.Test.YthccjgkmmclplaaGreatH35
import Derived.Test.YthccjgkmmclplaaGreatW1
namespace Go.Proofs.YthccjgkmmclplaaGreat
open Go.H
set_option linter.unusedVariables false
set_option linter.unusedSimpArgs false
set_option maxRecDepth 10000
theorem t_spec_l4Edge (h : Hp) (csp0 : List Value) (p0 : LGraph) (rp0 : wGraph.R h csp0 p0) (csp1 : List Value) (p1 : LEdge) (rp1 : wEdge.R h csp1 p1) (r : Bool) (hM0 : M_spec_l4Edge p0 p1 = some r) :
    Tr Tryz.prog 112 #[.agg csp0.toArray, .agg csp1.toArray] h fun v h' => v = .bool r ∧ h' = h := by
  obtain ⟨p0_0, p0_1, ap0_2, np0_2, cp0_2, p0_2, rfl, rfl, ip0_0, ip0_1, rp0_2⟩ := openGraph rp0
  obtain ⟨rfl, lp0_2⟩ := Sl.len rp0_2
  obtain ⟨p1_0, p1_1, p1_2, rfl, rfl, ip1_0, ip1_1, ip1_2⟩ := openEdge rp1
  unfold M_spec_l4Edge at hM0
  dsimp only at hM0
  refine Tr.forget (walk (args := [.agg #[.int .i64 p0_0, .int .i64 p0_1, .slice ap0_2 p0_2.length cp0_2], .agg #[.int .i64 p1_0, .int .i64 p1_1, .int .i64 p1_2]]) (fn := Tryz.f112) rfl ?_)
  obtain ⟨x1, gx1, hM0⟩ := bsome hM0
  refine Tr.val (t_spec_l1In _ p1_0 ip1_0 0 (c64 (by decide) (by decide)) (IntKind.i64.wrap (p0_1 - 1)) (wrap64 _) _  gx1) ?_
  obtain ⟨x2, gx2, hM0⟩ := bsome hM0
  refine Exists.intro (.bool x2) (And.intro (fun q => t_spec_l1In _ p1_2 ip1_2 0 (c64 (by decide) (by decide)) (IntKind.i64.wrap (p0_1 - 1)) (wrap64 _) _  (chk_some gx2 q)) ?_)
  obtain ⟨x3, gx3, hM0⟩ := bsome hM0
  refine Exists.intro (.bool x3) (And.intro (fun q => t_spec_l1In _ p1_1 ip1_1 1 (c64 (by decide) (by decide)) p0_0 ip0_0 _  (chk_some gx3 q)) ?_)
  have hE := Option.some.inj hM0; subst hE
  exact And.intro rfl (Sub.refl _)

theorem t_spec_CompareEdges (h : Hp) (csp0 : List Value) (p0 : LEdge) (rp0 : wEdge.R h csp0 p0) (csp1 : List Value) (p1 : LEdge) (rp1 : wEdge.R h csp1 p1) (r : Int) (hM0 : M_spec_CompareEdges p0 p1 = some r) :
    Tr Tryz.prog 134 #[.agg csp0.toArray, .agg csp1.toArray] h fun v h' => v = .int .i64 r ∧ h' = h := by
  obtain ⟨p0_0, p0_1, p0_2, rfl, rfl, ip0_0, ip0_1, ip0_2⟩ := openEdge rp0
  obtain ⟨p1_0, p1_1, p1_2, rfl, rfl, ip1_0, ip1_1, ip1_2⟩ := openEdge rp1
  unfold M_spec_CompareEdges at hM0
  dsimp only at hM0
  refine Tr.forget (walk (args := [.agg #[.int .i64 p0_0, .int .i64 p0_1, .int .i64 p0_2], .agg #[.int .i64 p1_0, .int .i64 p1_1, .int .i64 p1_2]]) (fn := Tryz.f134) rfl ?_)
  obtain ⟨X1, hLX1, hM0⟩ := bsome hM0
  refine Exists.intro { vars := [7], boxes := [], owns := [], fuel := true } (Exists.intro (fun vs os h' => ∃ (u2 : Int), vs.tail = [.int .i64 u2] ∧ os = [] ∧ Sub h h' ∧ In64 u2 ∧ L_spec_CompareEdges_0 p0_0 p0_1 p0_2 p1_0 p1_1 p1_2 (fuelOf vs) u2 = some X1) (Exists.intro (fun _ _ => 0) ?_))
  refine And.intro (Exists.intro FUEL ⟨0, rfl, rfl, (Sub.refl _), (c64 (by decide) (by decide)), hLX1⟩) ?_
  rintro v_0 m4 k3 ⟨u2, evX1, eoX1, sX1, iu2, hM1⟩
  cases evX1
  cases eoX1
  replace hM1 : L_spec_CompareEdges_0 p0_0 p0_1 p0_2 p1_0 p1_1 p1_2 m4 u2 = some X1 := hM1
  obtain _ | m4 := m4
  · cases (show (none : Option _) = some X1 from hM1)
  rw [L_spec_CompareEdges_0_succ] at hM1
  refine And.intro (fun hc5 => ?_) (fun hc5 => ?_)
  · have hc5 : ((decide (u2 < 3))) = true := hc5
    rw [if_pos hc5] at hM1
    refine Or.inl (And.intro (And.intro (by kernel_rfl) (by kernel_rfl)) ?_)
    obtain ⟨x6, gx6, hM1⟩ := bsome hM1
    obtain ⟨bx6, csx6, ex6, rx6⟩ := oel_get (F2.up (r := Wp.int.toRp) sX1 (show F2 (Wp.int.R h) ([[.int .i64 p0_0], [.int .i64 p0_1], [.int .i64 p0_2]] : List (List Value)) [p0_0, p0_1, p0_2] from ⟨⟨rfl, ip0_0⟩, ⟨⟨rfl, ip0_1⟩, ⟨⟨rfl, ip0_2⟩, trivial⟩⟩⟩)) gx6
    refine And.intro bx6 ?_
    obtain ⟨rfl, ix6⟩ := rx6
    refine Exists.intro _ (And.intro ex6 ?_)
    obtain ⟨x7, gx7, hM1⟩ := bsome hM1
    obtain ⟨bx7, csx7, ex7, rx7⟩ := oel_get (F2.up (r := Wp.int.toRp) sX1 (show F2 (Wp.int.R h) ([[.int .i64 p1_0], [.int .i64 p1_1], [.int .i64 p1_2]] : List (List Value)) [p1_0, p1_1, p1_2] from ⟨⟨rfl, ip1_0⟩, ⟨⟨rfl, ip1_1⟩, ⟨⟨rfl, ip1_2⟩, trivial⟩⟩⟩)) gx7
    refine And.intro bx7 ?_
    obtain ⟨rfl, ix7⟩ := rx7
    refine Exists.intro _ (And.intro ex7 ?_)
    refine And.intro (fun hc8 => ?_) (fun hc8 => ?_)
    · have hc8 : ((decide (x6 < x7))) = true := hc8
      rw [if_pos hc8] at hM1
      have hE := Option.some.inj hM1; subst hE
      try dsimp only [outK_inl, outL_inl] at hM0
      have hE := Option.some.inj hM0; subst hE
      exact And.intro rfl sX1
    · have hc8 : ((decide (x6 < x7))) = false := hc8
      rw [if_neg (bneT hc8)] at hM1
      refine Or.inl (And.intro (And.intro (by kernel_rfl) (by kernel_rfl)) ?_)
      obtain ⟨x9, gx9, hM1⟩ := bsome hM1
      obtain ⟨bx9, csx9, ex9, rx9⟩ := oel_get (F2.up (r := Wp.int.toRp) sX1 (show F2 (Wp.int.R h) ([[.int .i64 p0_0], [.int .i64 p0_1], [.int .i64 p0_2]] : List (List Value)) [p0_0, p0_1, p0_2] from ⟨⟨rfl, ip0_0⟩, ⟨⟨rfl, ip0_1⟩, ⟨⟨rfl, ip0_2⟩, trivial⟩⟩⟩)) gx9
      refine And.intro bx9 ?_
      obtain ⟨rfl, ix9⟩ := rx9
      refine Exists.intro _ (And.intro ex9 ?_)
      obtain ⟨x10, gx10, hM1⟩ := bsome hM1
      obtain ⟨bx10, csx10, ex10, rx10⟩ := oel_get (F2.up (r := Wp.int.toRp) sX1 (show F2 (Wp.int.R h) ([[.int .i64 p1_0], [.int .i64 p1_1], [.int .i64 p1_2]] : List (List Value)) [p1_0, p1_1, p1_2] from ⟨⟨rfl, ip1_0⟩, ⟨⟨rfl, ip1_1⟩, ⟨⟨rfl, ip1_2⟩, trivial⟩⟩⟩)) gx10
      refine And.intro bx10 ?_
      obtain ⟨rfl, ix10⟩ := rx10
      refine Exists.intro _ (And.intro ex10 ?_)
      refine And.intro (fun hc11 => ?_) (fun hc11 => ?_)
      · have hc11 : ((decide (x9 > x10))) = true := hc11
        rw [if_pos hc11] at hM1
        have hE := Option.some.inj hM1; subst hE
        try dsimp only [outK_inl, outL_inl] at hM0
        have hE := Option.some.inj hM0; subst hE
        exact And.intro rfl sX1
      · have hc11 : ((decide (x9 > x10))) = false := hc11
        rw [if_neg (bneT hc11)] at hM1
        refine And.intro rfl (And.intro (by first | exact trivial | exact And.intro rfl trivial | exact And.intro rfl (And.intro rfl trivial) | exact And.intro rfl (And.intro rfl (And.intro rfl trivial)) | exact And.intro rfl (And.intro rfl (And.intro rfl (And.intro rfl trivial)))) (And.intro (by first | exact trivial | exact And.intro rfl trivial | exact And.intro rfl (And.intro rfl trivial) | exact And.intro rfl (And.intro rfl (And.intro rfl trivial)) | exact And.intro rfl (And.intro rfl (And.intro rfl (And.intro rfl trivial)))) (Exists.intro m4 (And.intro ⟨(IntKind.i64.wrap (u2 + 1)), rfl, rfl, sX1, (wrap64 _), hM1⟩ (Nat.lt_succ_self _)))))
  · have hc5 : ((decide (u2 < 3))) = false := hc5
    rw [if_neg (bneT hc5)] at hM1
    have hE := Option.some.inj hM1; subst hE
    try dsimp only [outK_inr, outL_inr] at hM0
    have hE := Option.some.inj hM0; subst hE
    exact And.intro rfl sX1

theorem t_spec_IsGraph (h : Hp) (csp0 : List Value) (p0 : LGraph) (rp0 : wGraph.R h csp0 p0) (r : Bool) (hM0 : M_spec_IsGraph p0 = some r) :
    Tr Tryz.prog 106 #[.agg csp0.toArray] h fun v h' => v = .bool r ∧ h' = h := by
  obtain ⟨p0_0, p0_1, ap0_2, np0_2, cp0_2, p0_2, rfl, rfl, ip0_0, ip0_1, rp0_2⟩ := openGraph rp0
  obtain ⟨rfl, lp0_2⟩ := Sl.len rp0_2
  unfold M_spec_IsGraph at hM0
  dsimp only at hM0
  refine Tr.forget (walk (args := [.agg #[.int .i64 p0_0, .int .i64 p0_1, .slice ap0_2 p0_2.length cp0_2]]) (fn := Tryz.f106) rfl ?_)
  obtain ⟨X1, hLX1, hM0⟩ := bsome hM0
  refine Exists.intro { vars := [3], boxes := [], owns := [], fuel := true } (Exists.intro (fun vs os h' => ∃ (u2 : Int), vs.tail = [.int .i64 u2] ∧ os = [] ∧ Sub h h' ∧ In64 u2 ∧ L_spec_IsGraph_0 p0_2 p0_0 p0_1 (fuelOf vs) u2 = some X1) (Exists.intro (fun _ _ => 0) ?_))
  refine And.intro (Exists.intro FUEL ⟨0, rfl, rfl, (Sub.refl _), (c64 (by decide) (by decide)), hLX1⟩) ?_
  rintro v_0 m4 k3 ⟨u2, evX1, eoX1, sX1, iu2, hM1⟩
  cases evX1
  cases eoX1
  replace hM1 : L_spec_IsGraph_0 p0_2 p0_0 p0_1 m4 u2 = some X1 := hM1
  obtain _ | m4 := m4
  · cases (show (none : Option _) = some X1 from hM1)
  rw [L_spec_IsGraph_0_succ] at hM1
  refine And.intro (fun hc5 => ?_) (fun hc5 => ?_)
  · have hc5 : ((decide (u2 < ((p0_2.length : Nat) : Int)))) = true := hc5
    rw [if_pos hc5] at hM1
    refine Or.inl (And.intro (And.intro (by kernel_rfl) (by kernel_rfl)) ?_)
    obtain ⟨x6, gx6, hM1⟩ := bsome hM1
    obtain ⟨bx6, csx6, ex6, rx6⟩ := Sl.getI (r := wEdge.toRp) (wEdgeS.mono sX1 rp0_2) gx6 (by decide)
    refine And.intro bx6 ?_
    obtain ⟨x6_0, x6_1, x6_2, rfl, rfl, ix6_0, ix6_1, ix6_2⟩ := openEdge rx6
    dsimp only at hM1
    refine Exists.intro _ (And.intro ex6 ?_)
    obtain ⟨x7, gx7, hM1⟩ := bsome hM1
    refine Exists.intro (.bool x7) (And.intro (t_spec_l4Edge _ [.int .i64 p0_0, .int .i64 p0_1, .slice ap0_2 p0_2.length cp0_2] (p0_0, p0_1, p0_2) (closeGraph ip0_0 ip0_1 (wEdgeS.mono sX1 rp0_2)) [.int .i64 x6_0, .int .i64 x6_1, .int .i64 x6_2] (x6_0, x6_1, x6_2) (closeEdge ix6_0 ix6_1 ix6_2) _  gx7) ?_)
    obtain ⟨x8, gx8, hM1⟩ := bsome hM1
    obtain ⟨csx8, ex8, rx8⟩ := Sl.getG (r := wEdge.toRp) (wEdgeS.mono sX1 rp0_2) gx8 (by decide) (dfEdge k3)
    refine And.intro (fun q => (ex8 q).1) ?_
    obtain ⟨x8_0, x8_1, x8_2, rfl, rfl, ix8_0, ix8_1, ix8_2⟩ := openEdge rx8
    dsimp only at hM1
    refine Exists.intro _ (And.intro (fun q => (ex8 q).2) ?_)
    obtain ⟨x9, gx9, hM1⟩ := bsome hM1
    obtain ⟨csx9, ex9, rx9⟩ := Sl.getG (r := wEdge.toRp) (wEdgeS.mono sX1 rp0_2) gx9 (by decide) (dfEdge k3)
    refine And.intro (fun q => (ex9 q).1) ?_
    obtain ⟨x9_0, x9_1, x9_2, rfl, rfl, ix9_0, ix9_1, ix9_2⟩ := openEdge rx9
    dsimp only at hM1
    refine Exists.intro _ (And.intro (fun q => (ex9 q).2) ?_)
    obtain ⟨x10, gx10, hM1⟩ := bsome hM1
    refine Exists.intro (.int .i64 x10) (And.intro (fun q => t_spec_CompareEdges _ [.int .i64 x8_0, .int .i64 x8_1, .int .i64 x8_2] (x8_0, x8_1, x8_2) (closeEdge ix8_0 ix8_1 ix8_2) [.int .i64 x9_0, .int .i64 x9_1, .int .i64 x9_2] (x9_0, x9_1, x9_2) (closeEdge ix9_0 ix9_1 ix9_2) _  (chk_some gx10 q)) ?_)
    obtain ⟨q11, gq11, hM1⟩ := bsome hM1
    have ix10 : In64 x10 := grd_some gq11
    refine And.intro (fun hc12 => ?_) (fun hc12 => ?_)
    · have hc12 : ((bif (!x7) then true else (bif (decide (u2 > 0)) then (decide (x10 ≥ 0)) else false))) = true := hc12
      rw [if_pos hc12] at hM1
      have hE := Option.some.inj hM1; subst hE
      try dsimp only [outK_inl, outL_inl] at hM0
      have hE := Option.some.inj hM0; subst hE
      exact And.intro rfl sX1
    · have hc12 : ((bif (!x7) then true else (bif (decide (u2 > 0)) then (decide (x10 ≥ 0)) else false))) = false := hc12
      rw [if_neg (bneT hc12)] at hM1
      refine And.intro rfl (And.intro (by first | exact trivial | exact And.intro rfl trivial | exact And.intro rfl (And.intro rfl trivial) | exact And.intro rfl (And.intro rfl (And.intro rfl trivial)) | exact And.intro rfl (And.intro rfl (And.intro rfl (And.intro rfl trivial)))) (And.intro (by first | exact trivial | exact And.intro rfl trivial | exact And.intro rfl (And.intro rfl trivial) | exact And.intro rfl (And.intro rfl (And.intro rfl trivial)) | exact And.intro rfl (And.intro rfl (And.intro rfl (And.intro rfl trivial)))) (Exists.intro m4 (And.intro ⟨(IntKind.i64.wrap (u2 + 1)), rfl, rfl, sX1, (wrap64 _), hM1⟩ (Nat.lt_succ_self _)))))
  · have hc5 : ((decide (u2 < ((p0_2.length : Nat) : Int)))) = false := hc5
    rw [if_neg (bneT hc5)] at hM1
    have hE := Option.some.inj hM1; subst hE
    try dsimp only [outK_inr, outL_inr] at hM0
    obtain ⟨x13, gx13, hM0⟩ := bsome hM0
    refine Tr.val (t_spec_l1In _ p0_0 ip0_0 1 (c64 (by decide) (by decide)) 3 (c64 (by decide) (by decide)) _  gx13) ?_
    obtain ⟨x14, gx14, hM0⟩ := bsome hM0
    refine Exists.intro (.bool x14) (And.intro (fun q => t_spec_l1In _ p0_1 ip0_1 1 (c64 (by decide) (by decide)) 40 (c64 (by decide) (by decide)) _  (chk_some gx14 q)) ?_)
    have hE := Option.some.inj hM0; subst hE
    exact And.intro rfl sX1

theorem t_impl_Graph_has (h : Hp) (csp0 : List Value) (p0 : LGraph) (rp0 : wGraph.R h csp0 p0) (p1 : Int) (ip1 : In64 p1) (r : Bool) (hM0 : M_impl_Graph_has p0 p1 = some r) :
    Tr Tryz.prog 118 #[.agg csp0.toArray, .int .i64 p1] h fun v h' => v = .bool r ∧ h' = h := by
  obtain ⟨p0_0, p0_1, ap0_2, np0_2, cp0_2, p0_2, rfl, rfl, ip0_0, ip0_1, rp0_2⟩ := openGraph rp0
  obtain ⟨rfl, lp0_2⟩ := Sl.len rp0_2
  unfold M_impl_Graph_has at hM0
  dsimp only at hM0
  refine Tr.forget (walk (args := [.agg #[.int .i64 p0_0, .int .i64 p0_1, .slice ap0_2 p0_2.length cp0_2], .int .i64 p1]) (fn := Tryz.f118) rfl ?_)
  obtain ⟨x1, gx1, hM0⟩ := bsome hM0
  refine Tr.val (t_impl_within _ p1 ip1 0 (c64 (by decide) (by decide)) (IntKind.i64.wrap (p0_1 - 1)) (wrap64 _) _  gx1) ?_
  have hE := Option.some.inj hM0; subst hE
  exact And.intro rfl (Sub.refl _)

theorem t_impl_Graph_accepts (h : Hp) (csp0 : List Value) (p0 : LGraph) (rp0 : wGraph.R h csp0 p0) (csp1 : List Value) (p1 : LEdge) (rp1 : wEdge.R h csp1 p1) (r : Bool) (hM0 : M_impl_Graph_accepts p0 p1 = some r) :
    Tr Tryz.prog 123 #[.agg csp0.toArray, .agg csp1.toArray] h fun v h' => v = .bool r ∧ h' = h := by
  obtain ⟨p0_0, p0_1, ap0_2, np0_2, cp0_2, p0_2, rfl, rfl, ip0_0, ip0_1, rp0_2⟩ := openGraph rp0
  obtain ⟨rfl, lp0_2⟩ := Sl.len rp0_2
  obtain ⟨p1_0, p1_1, p1_2, rfl, rfl, ip1_0, ip1_1, ip1_2⟩ := openEdge rp1
  unfold M_impl_Graph_accepts at hM0
  dsimp only at hM0
  refine Tr.forget (walk (args := [.agg #[.int .i64 p0_0, .int .i64 p0_1, .slice ap0_2 p0_2.length cp0_2], .agg #[.int .i64 p1_0, .int .i64 p1_1, .int .i64 p1_2]]) (fn := Tryz.f123) rfl ?_)
  obtain ⟨x1, gx1, hM0⟩ := bsome hM0
  refine Tr.val (t_impl_Graph_has _ [.int .i64 p0_0, .int .i64 p0_1, .slice ap0_2 p0_2.length cp0_2] (p0_0, p0_1, p0_2) (closeGraph ip0_0 ip0_1 rp0_2) p1_0 ip1_0 _  gx1) ?_
  obtain ⟨x2, gx2, hM0⟩ := bsome hM0
  refine Exists.intro (.bool x2) (And.intro (fun q => t_impl_Graph_has _ [.int .i64 p0_0, .int .i64 p0_1, .slice ap0_2 p0_2.length cp0_2] (p0_0, p0_1, p0_2) (closeGraph ip0_0 ip0_1 rp0_2) p1_2 ip1_2 _  (chk_some gx2 q)) ?_)
  obtain ⟨x3, gx3, hM0⟩ := bsome hM0
  refine Exists.intro (.bool x3) (And.intro (fun q => t_impl_within _ p1_1 ip1_1 1 (c64 (by decide) (by decide)) p0_0 ip0_0 _  (chk_some gx3 q)) ?_)
  have hE := Option.some.inj hM0; subst hE
  exact And.intro rfl (Sub.refl _)

theorem t_impl_CompareEdges (h : Hp) (csp0 : List Value) (p0 : LEdge) (rp0 : wEdge.R h csp0 p0) (csp1 : List Value) (p1 : LEdge) (rp1 : wEdge.R h csp1 p1) (r : Int) (hM0 : M_impl_CompareEdges p0 p1 = some r) :
    Tr Tryz.prog 137 #[.agg csp0.toArray, .agg csp1.toArray] h fun v h' => v = .int .i64 r ∧ h' = h := by
  obtain ⟨p0_0, p0_1, p0_2, rfl, rfl, ip0_0, ip0_1, ip0_2⟩ := openEdge rp0
  obtain ⟨p1_0, p1_1, p1_2, rfl, rfl, ip1_0, ip1_1, ip1_2⟩ := openEdge rp1
  unfold M_impl_CompareEdges at hM0
  dsimp only at hM0
  refine Tr.forget (walk (args := [.agg #[.int .i64 p0_0, .int .i64 p0_1, .int .i64 p0_2], .agg #[.int .i64 p1_0, .int .i64 p1_1, .int .i64 p1_2]]) (fn := Tryz.f137) rfl ?_)
  obtain ⟨x1, gx1, hM0⟩ := bsome hM0
  refine Tr.val (t_impl_compareInts _ p0_0 ip0_0 p1_0 ip1_0 _  gx1) ?_
  obtain ⟨q2, gq2, hM0⟩ := bsome hM0
  have ix1 : In64 x1 := grd_some gq2
  refine And.intro (fun hc3 => ?_) (fun hc3 => ?_)
  · have hc3 : ((!decide (x1 = 0))) = true := hc3
    rw [if_pos hc3] at hM0
    have hE := Option.some.inj hM0; subst hE
    exact And.intro rfl (Sub.refl _)
  · have hc3 : ((!decide (x1 = 0))) = false := hc3
    rw [if_neg (bneT hc3)] at hM0
    obtain ⟨x4, gx4, hM0⟩ := bsome hM0
    refine Tr.val (t_impl_compareInts _ p0_1 ip0_1 p1_1 ip1_1 _  gx4) ?_
    obtain ⟨q5, gq5, hM0⟩ := bsome hM0
    have ix4 : In64 x4 := grd_some gq5
    refine And.intro (fun hc6 => ?_) (fun hc6 => ?_)
    · have hc6 : ((!decide (x4 = 0))) = true := hc6
      rw [if_pos hc6] at hM0
      have hE := Option.some.inj hM0; subst hE
      exact And.intro rfl (Sub.refl _)
    · have hc6 : ((!decide (x4 = 0))) = false := hc6
      rw [if_neg (bneT hc6)] at hM0
      obtain ⟨x7, gx7, hM0⟩ := bsome hM0
      refine Tr.val (t_impl_compareInts _ p0_2 ip0_2 p1_2 ip1_2 _  gx7) ?_
      obtain ⟨q8, gq8, hM0⟩ := bsome hM0
      have ix7 : In64 x7 := grd_some gq8
      have hE := Option.some.inj hM0; subst hE
      exact And.intro rfl (Sub.refl _)

theorem t_impl_IsGraph (h : Hp) (csp0 : List Value) (p0 : LGraph) (rp0 : wGraph.R h csp0 p0) (r : Bool) (hM0 : M_impl_IsGraph p0 = some r) :
    Tr Tryz.prog 116 #[.agg csp0.toArray] h fun v h' => v = .bool r ∧ h' = h := by
  obtain ⟨p0_0, p0_1, ap0_2, np0_2, cp0_2, p0_2, rfl, rfl, ip0_0, ip0_1, rp0_2⟩ := openGraph rp0
  obtain ⟨rfl, lp0_2⟩ := Sl.len rp0_2
  unfold M_impl_IsGraph at hM0
  dsimp only at hM0
  refine Tr.forget (walk (args := [.agg #[.int .i64 p0_0, .int .i64 p0_1, .slice ap0_2 p0_2.length cp0_2]]) (fn := Tryz.f116) rfl ?_)
  obtain ⟨x1, gx1, hM0⟩ := bsome hM0
  refine Tr.val (t_impl_within _ p0_0 ip0_0 1 (c64 (by decide) (by decide)) 3 (c64 (by decide) (by decide)) _  gx1) ?_
  obtain ⟨x2, gx2, hM0⟩ := bsome hM0
  refine Exists.intro (.bool x2) (And.intro (fun q => t_impl_within _ p0_1 ip0_1 1 (c64 (by decide) (by decide)) 40 (c64 (by decide) (by decide)) _  (chk_some gx2 q)) ?_)
  refine And.intro (fun hc3 => ?_) (fun hc3 => ?_)
  · have hc3 : ((bif (bif (!x1) then true else (!x2)) then true else (decide (((p0_2.length : Nat) : Int) > 120)))) = true := hc3
    rw [if_pos hc3] at hM0
    have hE := Option.some.inj hM0; subst hE
    exact And.intro rfl (Sub.refl _)
  · have hc3 : ((bif (bif (!x1) then true else (!x2)) then true else (decide (((p0_2.length : Nat) : Int) > 120)))) = false := hc3
    rw [if_neg (bneT hc3)] at hM0
    obtain ⟨X4, hLX4, hM0⟩ := bsome hM0
    refine Exists.intro { vars := [24], boxes := [], owns := [], fuel := true } (Exists.intro (fun vs os h' => ∃ (u5 : Int), vs.tail = [.int .i64 u5] ∧ os = [] ∧ Sub h h' ∧ In64 u5 ∧ L_impl_IsGraph_0 p0_2 p0_0 p0_1 (fuelOf vs) u5 = some X4) (Exists.intro (fun _ _ => 0) ?_))
    refine And.intro (Exists.intro FUEL ⟨0, rfl, rfl, (Sub.refl _), (c64 (by decide) (by decide)), hLX4⟩) ?_
    rintro v_0 m7 k6 ⟨u5, evX4, eoX4, sX4, iu5, hM1⟩
    cases evX4
    cases eoX4
    replace hM1 : L_impl_IsGraph_0 p0_2 p0_0 p0_1 m7 u5 = some X4 := hM1
    obtain _ | m7 := m7
    · cases (show (none : Option _) = some X4 from hM1)
    rw [L_impl_IsGraph_0_succ] at hM1
    refine And.intro (fun hc8 => ?_) (fun hc8 => ?_)
    · have hc8 : ((decide (u5 < ((p0_2.length : Nat) : Int)))) = true := hc8
      rw [if_pos hc8] at hM1
      obtain ⟨x9, gx9, hM1⟩ := bsome hM1
      obtain ⟨bx9, csx9, ex9, rx9⟩ := Sl.getI (r := wEdge.toRp) (wEdgeS.mono sX4 rp0_2) gx9 (by decide)
      refine And.intro bx9 ?_
      obtain ⟨x9_0, x9_1, x9_2, rfl, rfl, ix9_0, ix9_1, ix9_2⟩ := openEdge rx9
      dsimp only at hM1
      refine Exists.intro _ (And.intro ex9 ?_)
      refine Or.inl (And.intro (And.intro (by kernel_rfl) (by kernel_rfl)) ?_)
      obtain ⟨x10, gx10, hM1⟩ := bsome hM1
      refine Exists.intro (.bool x10) (And.intro (t_impl_Graph_accepts _ [.int .i64 p0_0, .int .i64 p0_1, .slice ap0_2 p0_2.length cp0_2] (p0_0, p0_1, p0_2) (closeGraph ip0_0 ip0_1 (wEdgeS.mono sX4 rp0_2)) [.int .i64 x9_0, .int .i64 x9_1, .int .i64 x9_2] (x9_0, x9_1, x9_2) (closeEdge ix9_0 ix9_1 ix9_2) _  gx10) ?_)
      obtain ⟨x11, gx11, hM1⟩ := bsome hM1
      obtain ⟨csx11, ex11, rx11⟩ := Sl.getG (r := wEdge.toRp) (wEdgeS.mono sX4 rp0_2) gx11 (by decide) (dfEdge k6)
      refine And.intro (fun q => (ex11 q).1) ?_
      obtain ⟨x11_0, x11_1, x11_2, rfl, rfl, ix11_0, ix11_1, ix11_2⟩ := openEdge rx11
      dsimp only at hM1
      refine Exists.intro _ (And.intro (fun q => (ex11 q).2) ?_)
      obtain ⟨x12, gx12, hM1⟩ := bsome hM1
      refine Exists.intro (.int .i64 x12) (And.intro (fun q => t_impl_CompareEdges _ [.int .i64 x11_0, .int .i64 x11_1, .int .i64 x11_2] (x11_0, x11_1, x11_2) (closeEdge ix11_0 ix11_1 ix11_2) [.int .i64 x9_0, .int .i64 x9_1, .int .i64 x9_2] (x9_0, x9_1, x9_2) (closeEdge ix9_0 ix9_1 ix9_2) _  (chk_some gx12 q)) ?_)
      obtain ⟨q13, gq13, hM1⟩ := bsome hM1
      have ix12 : In64 x12 := grd_some gq13
      refine And.intro (fun hc14 => ?_) (fun hc14 => ?_)
      · have hc14 : ((bif (!x10) then true else (bif (decide (u5 > 0)) then (decide (x12 ≥ 0)) else false))) = true := hc14
        rw [if_pos hc14] at hM1
        have hE := Option.some.inj hM1; subst hE
        try dsimp only [outK_inl, outL_inl] at hM0
        have hE := Option.some.inj hM0; subst hE
        exact And.intro rfl sX4
      · have hc14 : ((bif (!x10) then true else (bif (decide (u5 > 0)) then (decide (x12 ≥ 0)) else false))) = false := hc14
        rw [if_neg (bneT hc14)] at hM1
        refine And.intro rfl (And.intro (by first | exact trivial | exact And.intro rfl trivial | exact And.intro rfl (And.intro rfl trivial) | exact And.intro rfl (And.intro rfl (And.intro rfl trivial)) | exact And.intro rfl (And.intro rfl (And.intro rfl (And.intro rfl trivial)))) (And.intro (by first | exact trivial | exact And.intro rfl trivial | exact And.intro rfl (And.intro rfl trivial) | exact And.intro rfl (And.intro rfl (And.intro rfl trivial)) | exact And.intro rfl (And.intro rfl (And.intro rfl (And.intro rfl trivial)))) (Exists.intro m7 (And.intro ⟨(IntKind.i64.wrap (u5 + 1)), rfl, rfl, sX4, (wrap64 _), hM1⟩ (Nat.lt_succ_self _)))))
    · have hc8 : ((decide (u5 < ((p0_2.length : Nat) : Int)))) = false := hc8
      rw [if_neg (bneT hc8)] at hM1
      have hE := Option.some.inj hM1; subst hE
      try dsimp only [outK_inr, outL_inr] at hM0
      have hE := Option.some.inj hM0; subst hE
      exact And.intro rfl sX4

end Go.Proofs.YthccjgkmmclplaaGreat
