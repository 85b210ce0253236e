/- The walks of batch 4. -/
import Derived.Test.YtjalbdammdmgiaaA4
import Derived.Test.YtjalbdammdmgiaaChecked
import Derived.Test.YtjalbdammdmgiaaW1
import Derived.Test.YtjalbdammdmgiaaW2
namespace Go.Proofs.Ytjalbdammdmgiaa
open Go.H
set_option linter.unusedVariables false
set_option linter.unusedSimpArgs false
set_option maxRecDepth 10000
theorem t_spec_ClaimWord (h : Hp) (p0 : Int) (ip0 : In64 p0) (r : ByteArray) (hM0 : M_spec_ClaimWord p0 = some r) :
    Tr Try.prog 80 #[.int .i64 p0] h fun v h' => v = .string r ∧ h' = h := by
  unfold M_spec_ClaimWord at hM0
  refine Tr.forget (walk (args := [.int .i64 p0]) (fn := Try.f80) rfl ?_)
  obtain ⟨x1, gx1, hM0⟩ := bsome hM0
  refine Tr.val (t_spec_l1In _ p0 ip0 1 (c64 (by decide) (by decide)) 6 (c64 (by decide) (by decide)) _  gx1) ?_
  refine And.intro (fun hc2 => ?_) (fun hc2 => ?_)
  · have hc2 : ((!x1)) = true := hc2
    rw [if_pos hc2] at hM0
    have hE := Option.some.inj hM0; subst hE
    exact And.intro rfl (Sub.refl _)
  · have hc2 : ((!x1)) = false := hc2
    rw [if_neg (bneT hc2)] at hM0
    obtain ⟨x3, gx3, hM0⟩ := bsome hM0
    obtain ⟨bx3, csx3, ex3, rx3⟩ := oel_get (show F2 (Wp.str.R h) ([[.string (⟨#[105, 110]⟩ : ByteArray)], [.string (⟨#[111, 117, 116]⟩ : ByteArray)], [.string (⟨#[115, 97, 109, 101]⟩ : ByteArray)], [.string (⟨#[99, 111, 110, 106, 117, 103, 97, 116, 101]⟩ : ByteArray)], [.string (⟨#[102, 114, 101, 101]⟩ : ByteArray)], [.string (⟨#[105, 110, 100, 101, 120]⟩ : ByteArray)]] : List (List Value)) [(⟨#[105, 110]⟩ : ByteArray), (⟨#[111, 117, 116]⟩ : ByteArray), (⟨#[115, 97, 109, 101]⟩ : ByteArray), (⟨#[99, 111, 110, 106, 117, 103, 97, 116, 101]⟩ : ByteArray), (⟨#[102, 114, 101, 101]⟩ : ByteArray), (⟨#[105, 110, 100, 101, 120]⟩ : ByteArray)] from ⟨⟨rfl, (by decide)⟩, ⟨⟨rfl, (by decide)⟩, ⟨⟨rfl, (by decide)⟩, ⟨⟨rfl, (by decide)⟩, ⟨⟨rfl, (by decide)⟩, ⟨⟨rfl, (by decide)⟩, trivial⟩⟩⟩⟩⟩⟩) gx3
    refine And.intro bx3 ?_
    obtain ⟨rfl, ix3⟩ := rx3
    refine Exists.intro _ (And.intro ex3 ?_)
    have hE := Option.some.inj hM0; subst hE
    exact And.intro rfl (Sub.refl _)

theorem t_spec_l4Edge (h : Hp) (csp0 : List Value) (p0 : LGraph) (rp0 : wGraph.R h csp0 p0) (csp1 : List Value) (p1 : LEdge) (rp1 : wEdge.R h csp1 p1) (r : Bool) (hM0 : M_spec_l4Edge p0 p1 = some r) :
    Tr Try.prog 154 #[.agg csp0.toArray, .agg csp1.toArray] h fun v h' => v = .bool r ∧ h' = h := by
  obtain ⟨p0_0, p0_1, ap0_2, np0_2, cp0_2, p0_2, rfl, rfl, ip0_0, ip0_1, rp0_2⟩ := openGraph rp0
  obtain ⟨rfl, lp0_2⟩ := Sl.len rp0_2
  obtain ⟨p1_0, p1_1, p1_2, rfl, rfl, ip1_0, ip1_1, ip1_2⟩ := openEdge rp1
  unfold M_spec_l4Edge at hM0
  dsimp only at hM0
  refine Tr.forget (walk (args := [.agg #[.int .i64 p0_0, .int .i64 p0_1, .slice ap0_2 p0_2.length cp0_2], .agg #[.int .i64 p1_0, .int .i64 p1_1, .int .i64 p1_2]]) (fn := Try.f154) rfl ?_)
  obtain ⟨x1, gx1, hM0⟩ := bsome hM0
  refine Tr.val (t_spec_l1In _ p1_0 ip1_0 0 (c64 (by decide) (by decide)) (IntKind.i64.wrap (p0_1 - 1)) (wrap64 _) _  gx1) ?_
  obtain ⟨x2, gx2, hM0⟩ := bsome hM0
  refine Exists.intro (.bool x2) (And.intro (fun q => t_spec_l1In _ p1_2 ip1_2 0 (c64 (by decide) (by decide)) (IntKind.i64.wrap (p0_1 - 1)) (wrap64 _) _  (chk_some gx2 q)) ?_)
  obtain ⟨x3, gx3, hM0⟩ := bsome hM0
  refine Exists.intro (.bool x3) (And.intro (fun q => t_spec_l1In _ p1_1 ip1_1 1 (c64 (by decide) (by decide)) p0_0 ip0_0 _  (chk_some gx3 q)) ?_)
  have hE := Option.some.inj hM0; subst hE
  exact And.intro rfl (Sub.refl _)

theorem t_spec_CompareEdges (h : Hp) (csp0 : List Value) (p0 : LEdge) (rp0 : wEdge.R h csp0 p0) (csp1 : List Value) (p1 : LEdge) (rp1 : wEdge.R h csp1 p1) (r : Int) (hM0 : M_spec_CompareEdges p0 p1 = some r) :
    Tr Try.prog 155 #[.agg csp0.toArray, .agg csp1.toArray] h fun v h' => v = .int .i64 r ∧ h' = h := by
  obtain ⟨p0_0, p0_1, p0_2, rfl, rfl, ip0_0, ip0_1, ip0_2⟩ := openEdge rp0
  obtain ⟨p1_0, p1_1, p1_2, rfl, rfl, ip1_0, ip1_1, ip1_2⟩ := openEdge rp1
  unfold M_spec_CompareEdges at hM0
  dsimp only at hM0
  refine Tr.forget (walk (args := [.agg #[.int .i64 p0_0, .int .i64 p0_1, .int .i64 p0_2], .agg #[.int .i64 p1_0, .int .i64 p1_1, .int .i64 p1_2]]) (fn := Try.f155) rfl ?_)
  obtain ⟨X1, hLX1, hM0⟩ := bsome hM0
  refine Exists.intro { vars := [7], boxes := [], owns := [], fuel := true } (Exists.intro (fun vs os h' => ∃ (u2 : Int), vs.tail = [.int .i64 u2] ∧ os = [] ∧ Sub h h' ∧ In64 u2 ∧ L_spec_CompareEdges_0 p0_0 p0_1 p0_2 p1_0 p1_1 p1_2 (fuelOf vs) u2 = some X1) (Exists.intro (fun _ _ => 0) ?_))
  refine And.intro (Exists.intro FUEL ⟨0, rfl, rfl, (Sub.refl _), (c64 (by decide) (by decide)), hLX1⟩) ?_
  rintro v_0 m4 k3 ⟨u2, evX1, eoX1, sX1, iu2, hM1⟩
  cases evX1
  cases eoX1
  replace hM1 : L_spec_CompareEdges_0 p0_0 p0_1 p0_2 p1_0 p1_1 p1_2 m4 u2 = some X1 := hM1
  obtain _ | m4 := m4
  · cases (show (none : Option _) = some X1 from hM1)
  rw [L_spec_CompareEdges_0_succ] at hM1
  refine And.intro (fun hc5 => ?_) (fun hc5 => ?_)
  · have hc5 : ((decide (u2 < 3))) = true := hc5
    rw [if_pos hc5] at hM1
    refine Or.inl (And.intro (And.intro (by kernel_rfl) (by kernel_rfl)) ?_)
    obtain ⟨x6, gx6, hM1⟩ := bsome hM1
    obtain ⟨bx6, csx6, ex6, rx6⟩ := oel_get (F2.up (r := Wp.int.toRp) sX1 (show F2 (Wp.int.R h) ([[.int .i64 p0_0], [.int .i64 p0_1], [.int .i64 p0_2]] : List (List Value)) [p0_0, p0_1, p0_2] from ⟨⟨rfl, ip0_0⟩, ⟨⟨rfl, ip0_1⟩, ⟨⟨rfl, ip0_2⟩, trivial⟩⟩⟩)) gx6
    refine And.intro bx6 ?_
    obtain ⟨rfl, ix6⟩ := rx6
    refine Exists.intro _ (And.intro ex6 ?_)
    obtain ⟨x7, gx7, hM1⟩ := bsome hM1
    obtain ⟨bx7, csx7, ex7, rx7⟩ := oel_get (F2.up (r := Wp.int.toRp) sX1 (show F2 (Wp.int.R h) ([[.int .i64 p1_0], [.int .i64 p1_1], [.int .i64 p1_2]] : List (List Value)) [p1_0, p1_1, p1_2] from ⟨⟨rfl, ip1_0⟩, ⟨⟨rfl, ip1_1⟩, ⟨⟨rfl, ip1_2⟩, trivial⟩⟩⟩)) gx7
    refine And.intro bx7 ?_
    obtain ⟨rfl, ix7⟩ := rx7
    refine Exists.intro _ (And.intro ex7 ?_)
    refine And.intro (fun hc8 => ?_) (fun hc8 => ?_)
    · have hc8 : ((decide (x6 < x7))) = true := hc8
      rw [if_pos hc8] at hM1
      have hE := Option.some.inj hM1; subst hE
      try dsimp only [outK_inl, outL_inl] at hM0
      have hE := Option.some.inj hM0; subst hE
      exact And.intro rfl sX1
    · have hc8 : ((decide (x6 < x7))) = false := hc8
      rw [if_neg (bneT hc8)] at hM1
      refine Or.inl (And.intro (And.intro (by kernel_rfl) (by kernel_rfl)) ?_)
      obtain ⟨x9, gx9, hM1⟩ := bsome hM1
      obtain ⟨bx9, csx9, ex9, rx9⟩ := oel_get (F2.up (r := Wp.int.toRp) sX1 (show F2 (Wp.int.R h) ([[.int .i64 p0_0], [.int .i64 p0_1], [.int .i64 p0_2]] : List (List Value)) [p0_0, p0_1, p0_2] from ⟨⟨rfl, ip0_0⟩, ⟨⟨rfl, ip0_1⟩, ⟨⟨rfl, ip0_2⟩, trivial⟩⟩⟩)) gx9
      refine And.intro bx9 ?_
      obtain ⟨rfl, ix9⟩ := rx9
      refine Exists.intro _ (And.intro ex9 ?_)
      obtain ⟨x10, gx10, hM1⟩ := bsome hM1
      obtain ⟨bx10, csx10, ex10, rx10⟩ := oel_get (F2.up (r := Wp.int.toRp) sX1 (show F2 (Wp.int.R h) ([[.int .i64 p1_0], [.int .i64 p1_1], [.int .i64 p1_2]] : List (List Value)) [p1_0, p1_1, p1_2] from ⟨⟨rfl, ip1_0⟩, ⟨⟨rfl, ip1_1⟩, ⟨⟨rfl, ip1_2⟩, trivial⟩⟩⟩)) gx10
      refine And.intro bx10 ?_
      obtain ⟨rfl, ix10⟩ := rx10
      refine Exists.intro _ (And.intro ex10 ?_)
      refine And.intro (fun hc11 => ?_) (fun hc11 => ?_)
      · have hc11 : ((decide (x9 > x10))) = true := hc11
        rw [if_pos hc11] at hM1
        have hE := Option.some.inj hM1; subst hE
        try dsimp only [outK_inl, outL_inl] at hM0
        have hE := Option.some.inj hM0; subst hE
        exact And.intro rfl sX1
      · have hc11 : ((decide (x9 > x10))) = false := hc11
        rw [if_neg (bneT hc11)] at hM1
        refine And.intro rfl (And.intro (by first | exact trivial | exact And.intro rfl trivial | exact And.intro rfl (And.intro rfl trivial) | exact And.intro rfl (And.intro rfl (And.intro rfl trivial)) | exact And.intro rfl (And.intro rfl (And.intro rfl (And.intro rfl trivial)))) (And.intro (by first | exact trivial | exact And.intro rfl trivial | exact And.intro rfl (And.intro rfl trivial) | exact And.intro rfl (And.intro rfl (And.intro rfl trivial)) | exact And.intro rfl (And.intro rfl (And.intro rfl (And.intro rfl trivial)))) (Exists.intro m4 (And.intro ⟨(IntKind.i64.wrap (u2 + 1)), rfl, rfl, sX1, (wrap64 _), hM1⟩ (Nat.lt_succ_self _)))))
  · have hc5 : ((decide (u2 < 3))) = false := hc5
    rw [if_neg (bneT hc5)] at hM1
    have hE := Option.some.inj hM1; subst hE
    try dsimp only [outK_inr, outL_inr] at hM0
    have hE := Option.some.inj hM0; subst hE
    exact And.intro rfl sX1

theorem t_spec_IsGraph (h : Hp) (csp0 : List Value) (p0 : LGraph) (rp0 : wGraph.R h csp0 p0) (r : Bool) (hM0 : M_spec_IsGraph p0 = some r) :
    Tr Try.prog 129 #[.agg csp0.toArray] h fun v h' => v = .bool r ∧ h' = h := by
  obtain ⟨p0_0, p0_1, ap0_2, np0_2, cp0_2, p0_2, rfl, rfl, ip0_0, ip0_1, rp0_2⟩ := openGraph rp0
  obtain ⟨rfl, lp0_2⟩ := Sl.len rp0_2
  unfold M_spec_IsGraph at hM0
  dsimp only at hM0
  refine Tr.forget (walk (args := [.agg #[.int .i64 p0_0, .int .i64 p0_1, .slice ap0_2 p0_2.length cp0_2]]) (fn := Try.f129) rfl ?_)
  obtain ⟨X1, hLX1, hM0⟩ := bsome hM0
  refine Exists.intro { vars := [3], boxes := [], owns := [], fuel := true } (Exists.intro (fun vs os h' => ∃ (u2 : Int), vs.tail = [.int .i64 u2] ∧ os = [] ∧ Sub h h' ∧ In64 u2 ∧ L_spec_IsGraph_0 p0_2 p0_0 p0_1 (fuelOf vs) u2 = some X1) (Exists.intro (fun _ _ => 0) ?_))
  refine And.intro (Exists.intro FUEL ⟨0, rfl, rfl, (Sub.refl _), (c64 (by decide) (by decide)), hLX1⟩) ?_
  rintro v_0 m4 k3 ⟨u2, evX1, eoX1, sX1, iu2, hM1⟩
  cases evX1
  cases eoX1
  replace hM1 : L_spec_IsGraph_0 p0_2 p0_0 p0_1 m4 u2 = some X1 := hM1
  obtain _ | m4 := m4
  · cases (show (none : Option _) = some X1 from hM1)
  rw [L_spec_IsGraph_0_succ] at hM1
  refine And.intro (fun hc5 => ?_) (fun hc5 => ?_)
  · have hc5 : ((decide (u2 < ((p0_2.length : Nat) : Int)))) = true := hc5
    rw [if_pos hc5] at hM1
    refine Or.inl (And.intro (And.intro (by kernel_rfl) (by kernel_rfl)) ?_)
    obtain ⟨x6, gx6, hM1⟩ := bsome hM1
    obtain ⟨bx6, csx6, ex6, rx6⟩ := Sl.getI (r := wEdge.toRp) (wEdgeS.mono sX1 rp0_2) gx6 (by decide)
    refine And.intro bx6 ?_
    obtain ⟨x6_0, x6_1, x6_2, rfl, rfl, ix6_0, ix6_1, ix6_2⟩ := openEdge rx6
    dsimp only at hM1
    refine Exists.intro _ (And.intro ex6 ?_)
    obtain ⟨x7, gx7, hM1⟩ := bsome hM1
    refine Exists.intro (.bool x7) (And.intro (t_spec_l4Edge _ [.int .i64 p0_0, .int .i64 p0_1, .slice ap0_2 p0_2.length cp0_2] (p0_0, p0_1, p0_2) (closeGraph ip0_0 ip0_1 (wEdgeS.mono sX1 rp0_2)) [.int .i64 x6_0, .int .i64 x6_1, .int .i64 x6_2] (x6_0, x6_1, x6_2) (closeEdge ix6_0 ix6_1 ix6_2) _  gx7) ?_)
    obtain ⟨x8, gx8, hM1⟩ := bsome hM1
    obtain ⟨csx8, ex8, rx8⟩ := Sl.getG (r := wEdge.toRp) (wEdgeS.mono sX1 rp0_2) gx8 (by decide) (dfEdge k3)
    refine And.intro (fun q => (ex8 q).1) ?_
    obtain ⟨x8_0, x8_1, x8_2, rfl, rfl, ix8_0, ix8_1, ix8_2⟩ := openEdge rx8
    dsimp only at hM1
    refine Exists.intro _ (And.intro (fun q => (ex8 q).2) ?_)
    obtain ⟨x9, gx9, hM1⟩ := bsome hM1
    obtain ⟨csx9, ex9, rx9⟩ := Sl.getG (r := wEdge.toRp) (wEdgeS.mono sX1 rp0_2) gx9 (by decide) (dfEdge k3)
    refine And.intro (fun q => (ex9 q).1) ?_
    obtain ⟨x9_0, x9_1, x9_2, rfl, rfl, ix9_0, ix9_1, ix9_2⟩ := openEdge rx9
    dsimp only at hM1
    refine Exists.intro _ (And.intro (fun q => (ex9 q).2) ?_)
    obtain ⟨x10, gx10, hM1⟩ := bsome hM1
    refine Exists.intro (.int .i64 x10) (And.intro (fun q => t_spec_CompareEdges _ [.int .i64 x8_0, .int .i64 x8_1, .int .i64 x8_2] (x8_0, x8_1, x8_2) (closeEdge ix8_0 ix8_1 ix8_2) [.int .i64 x9_0, .int .i64 x9_1, .int .i64 x9_2] (x9_0, x9_1, x9_2) (closeEdge ix9_0 ix9_1 ix9_2) _  (chk_some gx10 q)) ?_)
    obtain ⟨q11, gq11, hM1⟩ := bsome hM1
    have ix10 : In64 x10 := grd_some gq11
    refine And.intro (fun hc12 => ?_) (fun hc12 => ?_)
    · have hc12 : ((bif (!x7) then true else (bif (decide (u2 > 0)) then (decide (x10 ≥ 0)) else false))) = true := hc12
      rw [if_pos hc12] at hM1
      have hE := Option.some.inj hM1; subst hE
      try dsimp only [outK_inl, outL_inl] at hM0
      have hE := Option.some.inj hM0; subst hE
      exact And.intro rfl sX1
    · have hc12 : ((bif (!x7) then true else (bif (decide (u2 > 0)) then (decide (x10 ≥ 0)) else false))) = false := hc12
      rw [if_neg (bneT hc12)] at hM1
      refine And.intro rfl (And.intro (by first | exact trivial | exact And.intro rfl trivial | exact And.intro rfl (And.intro rfl trivial) | exact And.intro rfl (And.intro rfl (And.intro rfl trivial)) | exact And.intro rfl (And.intro rfl (And.intro rfl (And.intro rfl trivial)))) (And.intro (by first | exact trivial | exact And.intro rfl trivial | exact And.intro rfl (And.intro rfl trivial) | exact And.intro rfl (And.intro rfl (And.intro rfl trivial)) | exact And.intro rfl (And.intro rfl (And.intro rfl (And.intro rfl trivial)))) (Exists.intro m4 (And.intro ⟨(IntKind.i64.wrap (u2 + 1)), rfl, rfl, sX1, (wrap64 _), hM1⟩ (Nat.lt_succ_self _)))))
  · have hc5 : ((decide (u2 < ((p0_2.length : Nat) : Int)))) = false := hc5
    rw [if_neg (bneT hc5)] at hM1
    have hE := Option.some.inj hM1; subst hE
    try dsimp only [outK_inr, outL_inr] at hM0
    obtain ⟨x13, gx13, hM0⟩ := bsome hM0
    refine Tr.val (t_spec_l1In _ p0_0 ip0_0 1 (c64 (by decide) (by decide)) 3 (c64 (by decide) (by decide)) _  gx13) ?_
    obtain ⟨x14, gx14, hM0⟩ := bsome hM0
    refine Exists.intro (.bool x14) (And.intro (fun q => t_spec_l1In _ p0_1 ip0_1 1 (c64 (by decide) (by decide)) 40 (c64 (by decide) (by decide)) _  (chk_some gx14 q)) ?_)
    have hE := Option.some.inj hM0; subst hE
    exact And.intro rfl sX1

theorem t_spec_FormatGraph (h : Hp) (csp0 : List Value) (p0 : LGraph) (rp0 : wGraph.R h csp0 p0) (r : ByteArray) (hM0 : M_spec_FormatGraph p0 = some r) :
    Tr Try.prog 81 #[.agg csp0.toArray] h fun v h' => v = .string r ∧ h' = h := by
  obtain ⟨p0_0, p0_1, ap0_2, np0_2, cp0_2, p0_2, rfl, rfl, ip0_0, ip0_1, rp0_2⟩ := openGraph rp0
  obtain ⟨rfl, lp0_2⟩ := Sl.len rp0_2
  unfold M_spec_FormatGraph at hM0
  dsimp only at hM0
  refine Tr.forget (walk (args := [.agg #[.int .i64 p0_0, .int .i64 p0_1, .slice ap0_2 p0_2.length cp0_2]]) (fn := Try.f81) rfl ?_)
  obtain ⟨x1, gx1, hM0⟩ := bsome hM0
  refine Tr.val (t_spec_IsGraph _ [.int .i64 p0_0, .int .i64 p0_1, .slice ap0_2 p0_2.length cp0_2] (p0_0, p0_1, p0_2) (closeGraph ip0_0 ip0_1 rp0_2) _  gx1) ?_
  refine And.intro (fun hc2 => ?_) (fun hc2 => ?_)
  · have hc2 : ((!x1)) = true := hc2
    rw [if_pos hc2] at hM0
    have hE := Option.some.inj hM0; subst hE
    exact And.intro rfl (Sub.refl _)
  · have hc2 : ((!x1)) = false := hc2
    rw [if_neg (bneT hc2)] at hM0
    refine Or.inl (And.intro (And.intro (by kernel_rfl) (by kernel_rfl)) ?_)
    obtain ⟨x3, gx3, hM0⟩ := bsome hM0
    refine Exists.intro (.string x3) (And.intro (t_spec_FormatInt _ p0_0 ip0_0 _  gx3) ?_)
    obtain ⟨q4, gq4, hM0⟩ := bsome hM0
    have ix3 : x3.size ≤ 9223372036854775807 := grd_some gq4
    obtain ⟨q5, gq5, hM0⟩ := bsome hM0
    have jq5 := grd_some gq5
    refine And.intro jq5 ?_
    obtain ⟨x6, gx6, hM0⟩ := bsome hM0
    refine Exists.intro (.string x6) (And.intro (t_spec_FormatInt _ p0_1 ip0_1 _  gx6) ?_)
    obtain ⟨q7, gq7, hM0⟩ := bsome hM0
    have ix6 : x6.size ≤ 9223372036854775807 := grd_some gq7
    obtain ⟨q8, gq8, hM0⟩ := bsome hM0
    have jq8 := grd_some gq8
    refine And.intro jq8 ?_
    obtain ⟨X9, hLX9, hM0⟩ := bsome hM0
    refine Exists.intro { vars := [3, 4], boxes := [], owns := [], fuel := true } (Exists.intro (fun vs os h' => ∃ (u10 : ByteArray) (u11 : Int), vs.tail = [.string u10, .int .i64 u11] ∧ os = [] ∧ Sub h h' ∧ u10.size ≤ 9223372036854775807 ∧ In64 u11 ∧ L_spec_FormatGraph_0 p0_2 (fuelOf vs) u10 u11 = some X9) (Exists.intro (fun _ _ => 0) ?_))
    refine And.intro (Exists.intro FUEL ⟨((x3 ++ (⟨#[32]⟩ : ByteArray)) ++ x6), 0, rfl, rfl, (Sub.refl _), (cat_size jq8), (c64 (by decide) (by decide)), hLX9⟩) ?_
    rintro v_0 v_1 m13 k12 ⟨u10, u11, evX9, eoX9, sX9, iu10, iu11, hM1⟩
    cases evX9
    cases eoX9
    replace hM1 : L_spec_FormatGraph_0 p0_2 m13 u10 u11 = some X9 := hM1
    obtain _ | m13 := m13
    · cases (show (none : Option _) = some X9 from hM1)
    rw [L_spec_FormatGraph_0_succ] at hM1
    refine And.intro (fun hc14 => ?_) (fun hc14 => ?_)
    · have hc14 : ((decide (u11 < ((p0_2.length : Nat) : Int)))) = true := hc14
      rw [if_pos hc14] at hM1
      obtain ⟨x15, gx15, hM1⟩ := bsome hM1
      obtain ⟨bx15, csx15, ex15, rx15⟩ := Sl.getI (r := wEdge.toRp) (wEdgeS.mono sX9 rp0_2) gx15 (by decide)
      refine And.intro bx15 ?_
      obtain ⟨x15_0, x15_1, x15_2, rfl, rfl, ix15_0, ix15_1, ix15_2⟩ := openEdge rx15
      dsimp only at hM1
      refine Exists.intro _ (And.intro ex15 ?_)
      refine Or.inl (And.intro (And.intro (by kernel_rfl) (by kernel_rfl)) ?_)
      obtain ⟨q16, gq16, hM1⟩ := bsome hM1
      have jq16 := grd_some gq16
      refine And.intro jq16 ?_
      obtain ⟨x17, gx17, hM1⟩ := bsome hM1
      refine Exists.intro (.string x17) (And.intro (t_spec_FormatInt _ x15_0 ix15_0 _  gx17) ?_)
      obtain ⟨q18, gq18, hM1⟩ := bsome hM1
      have ix17 : x17.size ≤ 9223372036854775807 := grd_some gq18
      obtain ⟨q19, gq19, hM1⟩ := bsome hM1
      have jq19 := grd_some gq19
      refine And.intro jq19 ?_
      obtain ⟨x20, gx20, hM1⟩ := bsome hM1
      refine Exists.intro (.string x20) (And.intro (t_spec_l2Char _ x15_1 ix15_1 _  gx20) ?_)
      obtain ⟨q21, gq21, hM1⟩ := bsome hM1
      have ix20 : x20.size ≤ 9223372036854775807 := grd_some gq21
      obtain ⟨q22, gq22, hM1⟩ := bsome hM1
      have jq22 := grd_some gq22
      refine And.intro jq22 ?_
      obtain ⟨x23, gx23, hM1⟩ := bsome hM1
      refine Exists.intro (.string x23) (And.intro (t_spec_FormatInt _ x15_2 ix15_2 _  gx23) ?_)
      obtain ⟨q24, gq24, hM1⟩ := bsome hM1
      have ix23 : x23.size ≤ 9223372036854775807 := grd_some gq24
      obtain ⟨q25, gq25, hM1⟩ := bsome hM1
      have jq25 := grd_some gq25
      refine And.intro jq25 ?_
      refine And.intro rfl (And.intro (by first | exact trivial | exact And.intro rfl trivial | exact And.intro rfl (And.intro rfl trivial) | exact And.intro rfl (And.intro rfl (And.intro rfl trivial)) | exact And.intro rfl (And.intro rfl (And.intro rfl (And.intro rfl trivial)))) (And.intro (by first | exact trivial | exact And.intro rfl trivial | exact And.intro rfl (And.intro rfl trivial) | exact And.intro rfl (And.intro rfl (And.intro rfl trivial)) | exact And.intro rfl (And.intro rfl (And.intro rfl (And.intro rfl trivial)))) (Exists.intro m13 (And.intro ⟨((((u10 ++ (⟨#[32]⟩ : ByteArray)) ++ x17) ++ x20) ++ x23), (IntKind.i64.wrap (u11 + 1)), rfl, rfl, sX9, (cat_size jq25), (wrap64 _), hM1⟩ (Nat.lt_succ_self _)))))
    · have hc14 : ((decide (u11 < ((p0_2.length : Nat) : Int)))) = false := hc14
      rw [if_neg (bneT hc14)] at hM1
      have hE := Option.some.inj hM1; subst hE
      try dsimp only [outK_inr, outL_inr] at hM0
      have hE := Option.some.inj hM0; subst hE
      exact And.intro rfl sX9

theorem t_spec_FormatIndices (h : Hp) (ap0 : Option Addr) (np0 cp0 : Nat) (p0 : LIntS) (rp0 : wIntS.R h [.slice ap0 np0 cp0] p0) (r : ByteArray) (hM0 : M_spec_FormatIndices p0 = some r) :
    Tr Try.prog 85 #[.slice ap0 np0 cp0] h fun v h' => v = .string r ∧ h' = h := by
  obtain ⟨rfl, lp0⟩ := Sl.len rp0
  unfold M_spec_FormatIndices at hM0
  refine Tr.forget (walk (args := [.slice ap0 p0.length cp0]) (fn := Try.f85) rfl ?_)
  obtain ⟨X1, hLX1, hM0⟩ := bsome hM0
  refine Exists.intro { vars := [3, 4], boxes := [], owns := [], fuel := true } (Exists.intro (fun vs os h' => ∃ (u2 : ByteArray) (u3 : Int), vs.tail = [.string u2, .int .i64 u3] ∧ os = [] ∧ Sub h h' ∧ u2.size ≤ 9223372036854775807 ∧ In64 u3 ∧ L_spec_FormatIndices_0 p0 (fuelOf vs) u2 u3 = some X1) (Exists.intro (fun _ _ => 0) ?_))
  refine And.intro (Exists.intro FUEL ⟨(⟨#[]⟩ : ByteArray), 0, rfl, rfl, (Sub.refl _), (by decide), (c64 (by decide) (by decide)), hLX1⟩) ?_
  rintro v_0 v_1 m5 k4 ⟨u2, u3, evX1, eoX1, sX1, iu2, iu3, hM1⟩
  cases evX1
  cases eoX1
  replace hM1 : L_spec_FormatIndices_0 p0 m5 u2 u3 = some X1 := hM1
  obtain _ | m5 := m5
  · cases (show (none : Option _) = some X1 from hM1)
  rw [L_spec_FormatIndices_0_succ] at hM1
  refine And.intro (fun hc6 => ?_) (fun hc6 => ?_)
  · have hc6 : ((decide (u3 < ((p0.length : Nat) : Int)))) = true := hc6
    rw [if_pos hc6] at hM1
    refine And.intro (fun hc7 => ?_) (fun hc7 => ?_)
    · have hc7 : ((decide (u3 > 0))) = true := hc7
      rw [if_pos hc7] at hM1
      obtain ⟨q8, gq8, hM1⟩ := bsome hM1
      have jq8 := grd_some gq8
      refine And.intro jq8 ?_
      obtain ⟨x9, gx9, hM1⟩ := bsome hM1
      obtain ⟨bx9, csx9, ex9, rx9⟩ := Sl.getI (r := Wp.int.toRp) (wIntS.mono sX1 rp0) gx9 (by decide)
      refine And.intro bx9 ?_
      obtain ⟨rfl, ix9⟩ := rx9
      refine Exists.intro _ (And.intro ex9 ?_)
      obtain ⟨x10, gx10, hM1⟩ := bsome hM1
      refine Tr.val (t_spec_FormatInt _ x9 ix9 _  gx10) ?_
      obtain ⟨q11, gq11, hM1⟩ := bsome hM1
      have ix10 : x10.size ≤ 9223372036854775807 := grd_some gq11
      obtain ⟨q12, gq12, hM1⟩ := bsome hM1
      have jq12 := grd_some gq12
      refine And.intro jq12 ?_
      refine And.intro rfl (And.intro (by first | exact trivial | exact And.intro rfl trivial | exact And.intro rfl (And.intro rfl trivial) | exact And.intro rfl (And.intro rfl (And.intro rfl trivial)) | exact And.intro rfl (And.intro rfl (And.intro rfl (And.intro rfl trivial)))) (And.intro (by first | exact trivial | exact And.intro rfl trivial | exact And.intro rfl (And.intro rfl trivial) | exact And.intro rfl (And.intro rfl (And.intro rfl trivial)) | exact And.intro rfl (And.intro rfl (And.intro rfl (And.intro rfl trivial)))) (Exists.intro m5 (And.intro ⟨((u2 ++ (⟨#[32]⟩ : ByteArray)) ++ x10), (IntKind.i64.wrap (u3 + 1)), rfl, rfl, sX1, (cat_size jq12), (wrap64 _), hM1⟩ (Nat.lt_succ_self _)))))
    · have hc7 : ((decide (u3 > 0))) = false := hc7
      rw [if_neg (bneT hc7)] at hM1
      obtain ⟨x13, gx13, hM1⟩ := bsome hM1
      obtain ⟨bx13, csx13, ex13, rx13⟩ := Sl.getI (r := Wp.int.toRp) (wIntS.mono sX1 rp0) gx13 (by decide)
      refine And.intro bx13 ?_
      obtain ⟨rfl, ix13⟩ := rx13
      refine Exists.intro _ (And.intro ex13 ?_)
      obtain ⟨x14, gx14, hM1⟩ := bsome hM1
      refine Tr.val (t_spec_FormatInt _ x13 ix13 _  gx14) ?_
      obtain ⟨q15, gq15, hM1⟩ := bsome hM1
      have ix14 : x14.size ≤ 9223372036854775807 := grd_some gq15
      obtain ⟨q16, gq16, hM1⟩ := bsome hM1
      have jq16 := grd_some gq16
      refine And.intro jq16 ?_
      refine And.intro rfl (And.intro (by first | exact trivial | exact And.intro rfl trivial | exact And.intro rfl (And.intro rfl trivial) | exact And.intro rfl (And.intro rfl (And.intro rfl trivial)) | exact And.intro rfl (And.intro rfl (And.intro rfl (And.intro rfl trivial)))) (And.intro (by first | exact trivial | exact And.intro rfl trivial | exact And.intro rfl (And.intro rfl trivial) | exact And.intro rfl (And.intro rfl (And.intro rfl trivial)) | exact And.intro rfl (And.intro rfl (And.intro rfl (And.intro rfl trivial)))) (Exists.intro m5 (And.intro ⟨(u2 ++ x14), (IntKind.i64.wrap (u3 + 1)), rfl, rfl, sX1, (cat_size jq16), (wrap64 _), hM1⟩ (Nat.lt_succ_self _)))))
  · have hc6 : ((decide (u3 < ((p0.length : Nat) : Int)))) = false := hc6
    rw [if_neg (bneT hc6)] at hM1
    have hE := Option.some.inj hM1; subst hE
    try dsimp only [outK_inr, outL_inr] at hM0
    refine And.intro (fun hc17 => ?_) (fun hc17 => ?_)
    · have hc17 : ((seqB u2 (⟨#[]⟩ : ByteArray))) = true := hc17
      rw [if_pos hc17] at hM0
      have hE := Option.some.inj hM0; subst hE
      exact And.intro rfl sX1
    · have hc17 : ((seqB u2 (⟨#[]⟩ : ByteArray))) = false := hc17
      rw [if_neg (bneT hc17)] at hM0
      have hE := Option.some.inj hM0; subst hE
      exact And.intro rfl sX1

theorem t_spec_FormatClaim (h : Hp) (csp0 : List Value) (p0 : LClaim) (rp0 : wClaim.R h csp0 p0) (r : ByteArray) (hM0 : M_spec_FormatClaim p0 = some r) :
    Tr Try.prog 30 #[.agg csp0.toArray] h fun v h' => v = .string r ∧ h' = h := by
  obtain ⟨p0_0, p0_1, ap0_2, np0_2, cp0_2, p0_2, ap0_3, np0_3, cp0_3, p0_3, ap0_4, np0_4, cp0_4, p0_4, p0_5, p0_6, ap0_7, np0_7, cp0_7, p0_7, p0_8, rfl, rfl, ip0_0, ip0_1, rp0_2, rp0_3, rp0_4, ip0_5, ip0_6, rp0_7, ip0_8⟩ := openClaim rp0
  obtain ⟨rfl, lp0_2⟩ := Sl.len rp0_2
  obtain ⟨rfl, lp0_3⟩ := Sl.len rp0_3
  obtain ⟨rfl, lp0_4⟩ := Sl.len rp0_4
  obtain ⟨rfl, lp0_7⟩ := Sl.len rp0_7
  unfold M_spec_FormatClaim at hM0
  dsimp only at hM0
  refine Tr.forget (walk (args := [.agg #[.int .i64 p0_0, .int .i64 p0_1, .slice ap0_2 p0_2.length cp0_2, .slice ap0_3 p0_3.length cp0_3, .slice ap0_4 p0_4.length cp0_4, .int .i64 p0_5, .int .i64 p0_6, .slice ap0_7 p0_7.length cp0_7, .int .i64 p0_8]]) (fn := Try.f30) rfl ?_)
  obtain ⟨x1, gx1, hM0⟩ := bsome hM0
  refine Tr.val (t_spec_ClaimWord _ p0_0 ip0_0 _  gx1) ?_
  obtain ⟨q2, gq2, hM0⟩ := bsome hM0
  have ix1 : x1.size ≤ 9223372036854775807 := grd_some gq2
  obtain ⟨x3, gx3, hM0⟩ := bsome hM0
  refine Tr.val (t_spec_FormatGraph _ [.int .i64 p0_5, .int .i64 p0_6, .slice ap0_7 p0_7.length cp0_7] (p0_5, p0_6, p0_7) (closeGraph ip0_5 ip0_6 rp0_7) _  gx3) ?_
  obtain ⟨q4, gq4, hM0⟩ := bsome hM0
  have ix3 : x3.size ≤ 9223372036854775807 := grd_some gq4
  obtain ⟨x5, gx5, hM0⟩ := bsome hM0
  refine Exists.intro (.bool x5) (And.intro (fun q => t_spec_AreWords _ p0_1 ip0_1 ap0_2 p0_2.length cp0_2 p0_2 rp0_2 _  (chk_some gx5 q)) ?_)
  obtain ⟨x6, gx6, hM0⟩ := bsome hM0
  refine Exists.intro (.bool x6) (And.intro (fun q => t_spec_IsWord _ p0_1 ip0_1 ap0_3 p0_3.length cp0_3 p0_3 rp0_3 _  (chk_some gx6 q)) ?_)
  refine And.intro (fun hc7 => ?_) (fun hc7 => ?_)
  · have hc7 : ((bif (bif (bif (seqB x1 (⟨#[]⟩ : ByteArray)) then true else (!x5)) then true else (!x6)) then true else (seqB x3 (⟨#[]⟩ : ByteArray)))) = true := hc7
    rw [if_pos hc7] at hM0
    have hE := Option.some.inj hM0; subst hE
    exact And.intro rfl (Sub.refl _)
  · have hc7 : ((bif (bif (bif (seqB x1 (⟨#[]⟩ : ByteArray)) then true else (!x5)) then true else (!x6)) then true else (seqB x3 (⟨#[]⟩ : ByteArray)))) = false := hc7
    rw [if_neg (bneT hc7)] at hM0
    refine Or.inl (And.intro (And.intro (by kernel_rfl) (by kernel_rfl)) ?_)
    obtain ⟨q8, gq8, hM0⟩ := bsome hM0
    have jq8 := grd_some gq8
    refine And.intro jq8 ?_
    obtain ⟨x9, gx9, hM0⟩ := bsome hM0
    refine Exists.intro (.string x9) (And.intro (t_spec_FormatInt _ p0_1 ip0_1 _  gx9) ?_)
    obtain ⟨q10, gq10, hM0⟩ := bsome hM0
    have ix9 : x9.size ≤ 9223372036854775807 := grd_some gq10
    obtain ⟨q11, gq11, hM0⟩ := bsome hM0
    have jq11 := grd_some gq11
    refine And.intro jq11 ?_
    obtain ⟨q12, gq12, hM0⟩ := bsome hM0
    have jq12 := grd_some gq12
    refine And.intro jq12 ?_
    obtain ⟨x13, gx13, hM0⟩ := bsome hM0
    refine Exists.intro (.string x13) (And.intro (t_spec_FormatWords _ ap0_2 p0_2.length cp0_2 p0_2 rp0_2 _  gx13) ?_)
    obtain ⟨q14, gq14, hM0⟩ := bsome hM0
    have ix13 : x13.size ≤ 9223372036854775807 := grd_some gq14
    obtain ⟨q15, gq15, hM0⟩ := bsome hM0
    have jq15 := grd_some gq15
    refine And.intro jq15 ?_
    obtain ⟨q16, gq16, hM0⟩ := bsome hM0
    have jq16 := grd_some gq16
    refine And.intro jq16 ?_
    obtain ⟨x17, gx17, hM0⟩ := bsome hM0
    refine Exists.intro (.string x17) (And.intro (t_spec_FormatWord _ ap0_3 p0_3.length cp0_3 p0_3 rp0_3 _  gx17) ?_)
    obtain ⟨q18, gq18, hM0⟩ := bsome hM0
    have ix17 : x17.size ≤ 9223372036854775807 := grd_some gq18
    obtain ⟨q19, gq19, hM0⟩ := bsome hM0
    have jq19 := grd_some gq19
    refine And.intro jq19 ?_
    obtain ⟨q20, gq20, hM0⟩ := bsome hM0
    have jq20 := grd_some gq20
    refine And.intro jq20 ?_
    obtain ⟨x21, gx21, hM0⟩ := bsome hM0
    refine Exists.intro (.string x21) (And.intro (t_spec_FormatIndices _ ap0_4 p0_4.length cp0_4 p0_4 rp0_4 _  gx21) ?_)
    obtain ⟨q22, gq22, hM0⟩ := bsome hM0
    have ix21 : x21.size ≤ 9223372036854775807 := grd_some gq22
    obtain ⟨q23, gq23, hM0⟩ := bsome hM0
    have jq23 := grd_some gq23
    refine And.intro jq23 ?_
    obtain ⟨q24, gq24, hM0⟩ := bsome hM0
    have jq24 := grd_some gq24
    refine And.intro jq24 ?_
    obtain ⟨q25, gq25, hM0⟩ := bsome hM0
    have jq25 := grd_some gq25
    refine And.intro jq25 ?_
    obtain ⟨q26, gq26, hM0⟩ := bsome hM0
    have jq26 := grd_some gq26
    refine And.intro jq26 ?_
    obtain ⟨x27, gx27, hM0⟩ := bsome hM0
    refine Exists.intro (.string x27) (And.intro (t_spec_FormatInt _ p0_8 ip0_8 _  gx27) ?_)
    obtain ⟨q28, gq28, hM0⟩ := bsome hM0
    have ix27 : x27.size ≤ 9223372036854775807 := grd_some gq28
    obtain ⟨q29, gq29, hM0⟩ := bsome hM0
    have jq29 := grd_some gq29
    refine And.intro jq29 ?_
    have hE := Option.some.inj hM0; subst hE
    exact And.intro rfl (Sub.refl _)

theorem t_spec_FormatNotebook (h : Hp) (csp0 : List Value) (p0 : LNotebook) (rp0 : wNotebook.R h csp0 p0) (r : ByteArray) (hM0 : M_spec_FormatNotebook p0 = some r) :
    Tr Try.prog 35 #[.agg csp0.toArray] h fun v h' => v = .string r ∧ h' = h := by
  obtain ⟨p0_0, ap0_1, np0_1, cp0_1, p0_1, rfl, rfl, ip0_0, rp0_1⟩ := openNotebook rp0
  obtain ⟨rfl, lp0_1⟩ := Sl.len rp0_1
  unfold M_spec_FormatNotebook at hM0
  dsimp only at hM0
  refine Tr.forget (walk (args := [.agg #[.int .i64 p0_0, .slice ap0_1 p0_1.length cp0_1]]) (fn := Try.f35) rfl ?_)
  obtain ⟨X1, hLX1, hM0⟩ := bsome hM0
  refine Exists.intro { vars := [3, 4], boxes := [], owns := [], fuel := true } (Exists.intro (fun vs os h' => ∃ (u2 : ByteArray) (u3 : Int), vs.tail = [.string u2, .int .i64 u3] ∧ os = [] ∧ Sub h h' ∧ u2.size ≤ 9223372036854775807 ∧ In64 u3 ∧ L_spec_FormatNotebook_0 p0_1 (fuelOf vs) u2 u3 = some X1) (Exists.intro (fun _ _ => 0) ?_))
  refine And.intro (Exists.intro FUEL ⟨(⟨#[]⟩ : ByteArray), 0, rfl, rfl, (Sub.refl _), (by decide), (c64 (by decide) (by decide)), hLX1⟩) ?_
  rintro v_0 v_1 m5 k4 ⟨u2, u3, evX1, eoX1, sX1, iu2, iu3, hM1⟩
  cases evX1
  cases eoX1
  replace hM1 : L_spec_FormatNotebook_0 p0_1 m5 u2 u3 = some X1 := hM1
  obtain _ | m5 := m5
  · cases (show (none : Option _) = some X1 from hM1)
  rw [L_spec_FormatNotebook_0_succ] at hM1
  refine And.intro (fun hc6 => ?_) (fun hc6 => ?_)
  · have hc6 : ((decide (u3 < ((p0_1.length : Nat) : Int)))) = true := hc6
    rw [if_pos hc6] at hM1
    obtain ⟨x7, gx7, hM1⟩ := bsome hM1
    obtain ⟨bx7, csx7, ex7, rx7⟩ := Sl.getI (r := wClaim.toRp) (wClaimS.mono sX1 rp0_1) gx7 (by decide)
    refine And.intro bx7 ?_
    obtain ⟨x7_0, x7_1, ax7_2, nx7_2, cx7_2, x7_2, ax7_3, nx7_3, cx7_3, x7_3, ax7_4, nx7_4, cx7_4, x7_4, x7_5, x7_6, ax7_7, nx7_7, cx7_7, x7_7, x7_8, rfl, rfl, ix7_0, ix7_1, rx7_2, rx7_3, rx7_4, ix7_5, ix7_6, rx7_7, ix7_8⟩ := openClaim rx7
    obtain ⟨rfl, lx7_2⟩ := Sl.len rx7_2
    obtain ⟨rfl, lx7_3⟩ := Sl.len rx7_3
    obtain ⟨rfl, lx7_4⟩ := Sl.len rx7_4
    obtain ⟨rfl, lx7_7⟩ := Sl.len rx7_7
    dsimp only at hM1
    refine Exists.intro _ (And.intro ex7 ?_)
    obtain ⟨x8, gx8, hM1⟩ := bsome hM1
    refine Tr.val (t_spec_FormatClaim _ [.int .i64 x7_0, .int .i64 x7_1, .slice ax7_2 x7_2.length cx7_2, .slice ax7_3 x7_3.length cx7_3, .slice ax7_4 x7_4.length cx7_4, .int .i64 x7_5, .int .i64 x7_6, .slice ax7_7 x7_7.length cx7_7, .int .i64 x7_8] (x7_0, x7_1, x7_2, x7_3, x7_4, (x7_5, x7_6, x7_7), x7_8) (closeClaim ix7_0 ix7_1 rx7_2 rx7_3 rx7_4 ix7_5 ix7_6 rx7_7 ix7_8) _  gx8) ?_
    obtain ⟨q9, gq9, hM1⟩ := bsome hM1
    have ix8 : x8.size ≤ 9223372036854775807 := grd_some gq9
    refine And.intro (fun hc10 => ?_) (fun hc10 => ?_)
    · have hc10 : ((seqB x8 (⟨#[]⟩ : ByteArray))) = true := hc10
      rw [if_pos hc10] at hM1
      have hE := Option.some.inj hM1; subst hE
      try dsimp only [outK_inl, outL_inl] at hM0
      have hE := Option.some.inj hM0; subst hE
      exact And.intro rfl sX1
    · have hc10 : ((seqB x8 (⟨#[]⟩ : ByteArray))) = false := hc10
      rw [if_neg (bneT hc10)] at hM1
      obtain ⟨q11, gq11, hM1⟩ := bsome hM1
      have jq11 := grd_some gq11
      refine And.intro jq11 ?_
      obtain ⟨q12, gq12, hM1⟩ := bsome hM1
      have jq12 := grd_some gq12
      refine And.intro jq12 ?_
      refine And.intro rfl (And.intro (by first | exact trivial | exact And.intro rfl trivial | exact And.intro rfl (And.intro rfl trivial) | exact And.intro rfl (And.intro rfl (And.intro rfl trivial)) | exact And.intro rfl (And.intro rfl (And.intro rfl (And.intro rfl trivial)))) (And.intro (by first | exact trivial | exact And.intro rfl trivial | exact And.intro rfl (And.intro rfl trivial) | exact And.intro rfl (And.intro rfl (And.intro rfl trivial)) | exact And.intro rfl (And.intro rfl (And.intro rfl (And.intro rfl trivial)))) (Exists.intro m5 (And.intro ⟨((u2 ++ x8) ++ (⟨#[10]⟩ : ByteArray)), (IntKind.i64.wrap (u3 + 1)), rfl, rfl, sX1, (cat_size jq12), (wrap64 _), hM1⟩ (Nat.lt_succ_self _)))))
  · have hc6 : ((decide (u3 < ((p0_1.length : Nat) : Int)))) = false := hc6
    rw [if_neg (bneT hc6)] at hM1
    have hE := Option.some.inj hM1; subst hE
    try dsimp only [outK_inr, outL_inr] at hM0
    have hE := Option.some.inj hM0; subst hE
    exact And.intro rfl sX1

theorem t_impl_ClaimWord (h : Hp) (p0 : Int) (ip0 : In64 p0) (r : ByteArray) (hM0 : M_impl_ClaimWord p0 = some r) :
    Tr Try.prog 86 #[.int .i64 p0] h fun v h' => v = .string r ∧ h' = h := by
  unfold M_impl_ClaimWord at hM0
  refine Tr.forget (walk (args := [.int .i64 p0]) (fn := Try.f86) rfl ?_)
  obtain ⟨x1, gx1, hM0⟩ := bsome hM0
  refine Tr.val (t_impl_within _ p0 ip0 1 (c64 (by decide) (by decide)) 6 (c64 (by decide) (by decide)) _  gx1) ?_
  refine And.intro (fun hc2 => ?_) (fun hc2 => ?_)
  · have hc2 : ((!x1)) = true := hc2
    rw [if_pos hc2] at hM0
    have hE := Option.some.inj hM0; subst hE
    exact And.intro rfl (Sub.refl _)
  · have hc2 : ((!x1)) = false := hc2
    rw [if_neg (bneT hc2)] at hM0
    obtain ⟨x3, gx3, hM0⟩ := bsome hM0
    obtain ⟨bx3, csx3, ex3, rx3⟩ := oel_get (show F2 (Wp.str.R h) ([[.string (⟨#[105, 110]⟩ : ByteArray)], [.string (⟨#[111, 117, 116]⟩ : ByteArray)], [.string (⟨#[115, 97, 109, 101]⟩ : ByteArray)], [.string (⟨#[99, 111, 110, 106, 117, 103, 97, 116, 101]⟩ : ByteArray)], [.string (⟨#[102, 114, 101, 101]⟩ : ByteArray)], [.string (⟨#[105, 110, 100, 101, 120]⟩ : ByteArray)]] : List (List Value)) [(⟨#[105, 110]⟩ : ByteArray), (⟨#[111, 117, 116]⟩ : ByteArray), (⟨#[115, 97, 109, 101]⟩ : ByteArray), (⟨#[99, 111, 110, 106, 117, 103, 97, 116, 101]⟩ : ByteArray), (⟨#[102, 114, 101, 101]⟩ : ByteArray), (⟨#[105, 110, 100, 101, 120]⟩ : ByteArray)] from ⟨⟨rfl, (by decide)⟩, ⟨⟨rfl, (by decide)⟩, ⟨⟨rfl, (by decide)⟩, ⟨⟨rfl, (by decide)⟩, ⟨⟨rfl, (by decide)⟩, ⟨⟨rfl, (by decide)⟩, trivial⟩⟩⟩⟩⟩⟩) gx3
    refine And.intro bx3 ?_
    obtain ⟨rfl, ix3⟩ := rx3
    refine Exists.intro _ (And.intro ex3 ?_)
    have hE := Option.some.inj hM0; subst hE
    exact And.intro rfl (Sub.refl _)

theorem t_impl_Graph_has (h : Hp) (csp0 : List Value) (p0 : LGraph) (rp0 : wGraph.R h csp0 p0) (p1 : Int) (ip1 : In64 p1) (r : Bool) (hM0 : M_impl_Graph_has p0 p1 = some r) :
    Tr Try.prog 156 #[.agg csp0.toArray, .int .i64 p1] h fun v h' => v = .bool r ∧ h' = h := by
  obtain ⟨p0_0, p0_1, ap0_2, np0_2, cp0_2, p0_2, rfl, rfl, ip0_0, ip0_1, rp0_2⟩ := openGraph rp0
  obtain ⟨rfl, lp0_2⟩ := Sl.len rp0_2
  unfold M_impl_Graph_has at hM0
  dsimp only at hM0
  refine Tr.forget (walk (args := [.agg #[.int .i64 p0_0, .int .i64 p0_1, .slice ap0_2 p0_2.length cp0_2], .int .i64 p1]) (fn := Try.f156) rfl ?_)
  obtain ⟨x1, gx1, hM0⟩ := bsome hM0
  refine Tr.val (t_impl_within _ p1 ip1 0 (c64 (by decide) (by decide)) (IntKind.i64.wrap (p0_1 - 1)) (wrap64 _) _  gx1) ?_
  have hE := Option.some.inj hM0; subst hE
  exact And.intro rfl (Sub.refl _)

theorem t_impl_Graph_accepts (h : Hp) (csp0 : List Value) (p0 : LGraph) (rp0 : wGraph.R h csp0 p0) (csp1 : List Value) (p1 : LEdge) (rp1 : wEdge.R h csp1 p1) (r : Bool) (hM0 : M_impl_Graph_accepts p0 p1 = some r) :
    Tr Try.prog 135 #[.agg csp0.toArray, .agg csp1.toArray] h fun v h' => v = .bool r ∧ h' = h := by
  obtain ⟨p0_0, p0_1, ap0_2, np0_2, cp0_2, p0_2, rfl, rfl, ip0_0, ip0_1, rp0_2⟩ := openGraph rp0
  obtain ⟨rfl, lp0_2⟩ := Sl.len rp0_2
  obtain ⟨p1_0, p1_1, p1_2, rfl, rfl, ip1_0, ip1_1, ip1_2⟩ := openEdge rp1
  unfold M_impl_Graph_accepts at hM0
  dsimp only at hM0
  refine Tr.forget (walk (args := [.agg #[.int .i64 p0_0, .int .i64 p0_1, .slice ap0_2 p0_2.length cp0_2], .agg #[.int .i64 p1_0, .int .i64 p1_1, .int .i64 p1_2]]) (fn := Try.f135) rfl ?_)
  obtain ⟨x1, gx1, hM0⟩ := bsome hM0
  refine Tr.val (t_impl_Graph_has _ [.int .i64 p0_0, .int .i64 p0_1, .slice ap0_2 p0_2.length cp0_2] (p0_0, p0_1, p0_2) (closeGraph ip0_0 ip0_1 rp0_2) p1_0 ip1_0 _  gx1) ?_
  obtain ⟨x2, gx2, hM0⟩ := bsome hM0
  refine Exists.intro (.bool x2) (And.intro (fun q => t_impl_Graph_has _ [.int .i64 p0_0, .int .i64 p0_1, .slice ap0_2 p0_2.length cp0_2] (p0_0, p0_1, p0_2) (closeGraph ip0_0 ip0_1 rp0_2) p1_2 ip1_2 _  (chk_some gx2 q)) ?_)
  obtain ⟨x3, gx3, hM0⟩ := bsome hM0
  refine Exists.intro (.bool x3) (And.intro (fun q => t_impl_within _ p1_1 ip1_1 1 (c64 (by decide) (by decide)) p0_0 ip0_0 _  (chk_some gx3 q)) ?_)
  have hE := Option.some.inj hM0; subst hE
  exact And.intro rfl (Sub.refl _)

theorem t_impl_compareInts (h : Hp) (p0 : Int) (ip0 : In64 p0) (p1 : Int) (ip1 : In64 p1) (r : Int) (hM0 : M_impl_compareInts p0 p1 = some r) :
    Tr Try.prog 142 #[.int .i64 p0, .int .i64 p1] h fun v h' => v = .int .i64 r ∧ h' = h := by
  unfold M_impl_compareInts at hM0
  refine Tr.forget (walk (args := [.int .i64 p0, .int .i64 p1]) (fn := Try.f142) rfl ?_)
  refine And.intro (fun hc1 => ?_) (fun hc1 => ?_)
  · have hc1 : ((decide (p0 < p1))) = true := hc1
    rw [if_pos hc1] at hM0
    have hE := Option.some.inj hM0; subst hE
    exact And.intro rfl (Sub.refl _)
  · have hc1 : ((decide (p0 < p1))) = false := hc1
    rw [if_neg (bneT hc1)] at hM0
    refine And.intro (fun hc2 => ?_) (fun hc2 => ?_)
    · have hc2 : ((decide (p0 > p1))) = true := hc2
      rw [if_pos hc2] at hM0
      have hE := Option.some.inj hM0; subst hE
      exact And.intro rfl (Sub.refl _)
    · have hc2 : ((decide (p0 > p1))) = false := hc2
      rw [if_neg (bneT hc2)] at hM0
      have hE := Option.some.inj hM0; subst hE
      exact And.intro rfl (Sub.refl _)

theorem t_impl_CompareEdges (h : Hp) (csp0 : List Value) (p0 : LEdge) (rp0 : wEdge.R h csp0 p0) (csp1 : List Value) (p1 : LEdge) (rp1 : wEdge.R h csp1 p1) (r : Int) (hM0 : M_impl_CompareEdges p0 p1 = some r) :
    Tr Try.prog 136 #[.agg csp0.toArray, .agg csp1.toArray] h fun v h' => v = .int .i64 r ∧ h' = h := by
  obtain ⟨p0_0, p0_1, p0_2, rfl, rfl, ip0_0, ip0_1, ip0_2⟩ := openEdge rp0
  obtain ⟨p1_0, p1_1, p1_2, rfl, rfl, ip1_0, ip1_1, ip1_2⟩ := openEdge rp1
  unfold M_impl_CompareEdges at hM0
  dsimp only at hM0
  refine Tr.forget (walk (args := [.agg #[.int .i64 p0_0, .int .i64 p0_1, .int .i64 p0_2], .agg #[.int .i64 p1_0, .int .i64 p1_1, .int .i64 p1_2]]) (fn := Try.f136) rfl ?_)
  obtain ⟨x1, gx1, hM0⟩ := bsome hM0
  refine Tr.val (t_impl_compareInts _ p0_0 ip0_0 p1_0 ip1_0 _  gx1) ?_
  obtain ⟨q2, gq2, hM0⟩ := bsome hM0
  have ix1 : In64 x1 := grd_some gq2
  refine And.intro (fun hc3 => ?_) (fun hc3 => ?_)
  · have hc3 : ((!decide (x1 = 0))) = true := hc3
    rw [if_pos hc3] at hM0
    have hE := Option.some.inj hM0; subst hE
    exact And.intro rfl (Sub.refl _)
  · have hc3 : ((!decide (x1 = 0))) = false := hc3
    rw [if_neg (bneT hc3)] at hM0
    obtain ⟨x4, gx4, hM0⟩ := bsome hM0
    refine Tr.val (t_impl_compareInts _ p0_1 ip0_1 p1_1 ip1_1 _  gx4) ?_
    obtain ⟨q5, gq5, hM0⟩ := bsome hM0
    have ix4 : In64 x4 := grd_some gq5
    refine And.intro (fun hc6 => ?_) (fun hc6 => ?_)
    · have hc6 : ((!decide (x4 = 0))) = true := hc6
      rw [if_pos hc6] at hM0
      have hE := Option.some.inj hM0; subst hE
      exact And.intro rfl (Sub.refl _)
    · have hc6 : ((!decide (x4 = 0))) = false := hc6
      rw [if_neg (bneT hc6)] at hM0
      obtain ⟨x7, gx7, hM0⟩ := bsome hM0
      refine Tr.val (t_impl_compareInts _ p0_2 ip0_2 p1_2 ip1_2 _  gx7) ?_
      obtain ⟨q8, gq8, hM0⟩ := bsome hM0
      have ix7 : In64 x7 := grd_some gq8
      have hE := Option.some.inj hM0; subst hE
      exact And.intro rfl (Sub.refl _)

theorem t_impl_IsGraph (h : Hp) (csp0 : List Value) (p0 : LGraph) (rp0 : wGraph.R h csp0 p0) (r : Bool) (hM0 : M_impl_IsGraph p0 = some r) :
    Tr Try.prog 89 #[.agg csp0.toArray] h fun v h' => v = .bool r ∧ h' = h := by
  obtain ⟨p0_0, p0_1, ap0_2, np0_2, cp0_2, p0_2, rfl, rfl, ip0_0, ip0_1, rp0_2⟩ := openGraph rp0
  obtain ⟨rfl, lp0_2⟩ := Sl.len rp0_2
  unfold M_impl_IsGraph at hM0
  dsimp only at hM0
  refine Tr.forget (walk (args := [.agg #[.int .i64 p0_0, .int .i64 p0_1, .slice ap0_2 p0_2.length cp0_2]]) (fn := Try.f89) rfl ?_)
  obtain ⟨x1, gx1, hM0⟩ := bsome hM0
  refine Tr.val (t_impl_within _ p0_0 ip0_0 1 (c64 (by decide) (by decide)) 3 (c64 (by decide) (by decide)) _  gx1) ?_
  obtain ⟨x2, gx2, hM0⟩ := bsome hM0
  refine Exists.intro (.bool x2) (And.intro (fun q => t_impl_within _ p0_1 ip0_1 1 (c64 (by decide) (by decide)) 40 (c64 (by decide) (by decide)) _  (chk_some gx2 q)) ?_)
  refine And.intro (fun hc3 => ?_) (fun hc3 => ?_)
  · have hc3 : ((bif (bif (!x1) then true else (!x2)) then true else (decide (((p0_2.length : Nat) : Int) > 120)))) = true := hc3
    rw [if_pos hc3] at hM0
    have hE := Option.some.inj hM0; subst hE
    exact And.intro rfl (Sub.refl _)
  · have hc3 : ((bif (bif (!x1) then true else (!x2)) then true else (decide (((p0_2.length : Nat) : Int) > 120)))) = false := hc3
    rw [if_neg (bneT hc3)] at hM0
    obtain ⟨X4, hLX4, hM0⟩ := bsome hM0
    refine Exists.intro { vars := [24], boxes := [], owns := [], fuel := true } (Exists.intro (fun vs os h' => ∃ (u5 : Int), vs.tail = [.int .i64 u5] ∧ os = [] ∧ Sub h h' ∧ In64 u5 ∧ L_impl_IsGraph_0 p0_2 p0_0 p0_1 (fuelOf vs) u5 = some X4) (Exists.intro (fun _ _ => 0) ?_))
    refine And.intro (Exists.intro FUEL ⟨0, rfl, rfl, (Sub.refl _), (c64 (by decide) (by decide)), hLX4⟩) ?_
    rintro v_0 m7 k6 ⟨u5, evX4, eoX4, sX4, iu5, hM1⟩
    cases evX4
    cases eoX4
    replace hM1 : L_impl_IsGraph_0 p0_2 p0_0 p0_1 m7 u5 = some X4 := hM1
    obtain _ | m7 := m7
    · cases (show (none : Option _) = some X4 from hM1)
    rw [L_impl_IsGraph_0_succ] at hM1
    refine And.intro (fun hc8 => ?_) (fun hc8 => ?_)
    · have hc8 : ((decide (u5 < ((p0_2.length : Nat) : Int)))) = true := hc8
      rw [if_pos hc8] at hM1
      obtain ⟨x9, gx9, hM1⟩ := bsome hM1
      obtain ⟨bx9, csx9, ex9, rx9⟩ := Sl.getI (r := wEdge.toRp) (wEdgeS.mono sX4 rp0_2) gx9 (by decide)
      refine And.intro bx9 ?_
      obtain ⟨x9_0, x9_1, x9_2, rfl, rfl, ix9_0, ix9_1, ix9_2⟩ := openEdge rx9
      dsimp only at hM1
      refine Exists.intro _ (And.intro ex9 ?_)
      refine Or.inl (And.intro (And.intro (by kernel_rfl) (by kernel_rfl)) ?_)
      obtain ⟨x10, gx10, hM1⟩ := bsome hM1
      refine Exists.intro (.bool x10) (And.intro (t_impl_Graph_accepts _ [.int .i64 p0_0, .int .i64 p0_1, .slice ap0_2 p0_2.length cp0_2] (p0_0, p0_1, p0_2) (closeGraph ip0_0 ip0_1 (wEdgeS.mono sX4 rp0_2)) [.int .i64 x9_0, .int .i64 x9_1, .int .i64 x9_2] (x9_0, x9_1, x9_2) (closeEdge ix9_0 ix9_1 ix9_2) _  gx10) ?_)
      obtain ⟨x11, gx11, hM1⟩ := bsome hM1
      obtain ⟨csx11, ex11, rx11⟩ := Sl.getG (r := wEdge.toRp) (wEdgeS.mono sX4 rp0_2) gx11 (by decide) (dfEdge k6)
      refine And.intro (fun q => (ex11 q).1) ?_
      obtain ⟨x11_0, x11_1, x11_2, rfl, rfl, ix11_0, ix11_1, ix11_2⟩ := openEdge rx11
      dsimp only at hM1
      refine Exists.intro _ (And.intro (fun q => (ex11 q).2) ?_)
      obtain ⟨x12, gx12, hM1⟩ := bsome hM1
      refine Exists.intro (.int .i64 x12) (And.intro (fun q => t_impl_CompareEdges _ [.int .i64 x11_0, .int .i64 x11_1, .int .i64 x11_2] (x11_0, x11_1, x11_2) (closeEdge ix11_0 ix11_1 ix11_2) [.int .i64 x9_0, .int .i64 x9_1, .int .i64 x9_2] (x9_0, x9_1, x9_2) (closeEdge ix9_0 ix9_1 ix9_2) _  (chk_some gx12 q)) ?_)
      obtain ⟨q13, gq13, hM1⟩ := bsome hM1
      have ix12 : In64 x12 := grd_some gq13
      refine And.intro (fun hc14 => ?_) (fun hc14 => ?_)
      · have hc14 : ((bif (!x10) then true else (bif (decide (u5 > 0)) then (decide (x12 ≥ 0)) else false))) = true := hc14
        rw [if_pos hc14] at hM1
        have hE := Option.some.inj hM1; subst hE
        try dsimp only [outK_inl, outL_inl] at hM0
        have hE := Option.some.inj hM0; subst hE
        exact And.intro rfl sX4
      · have hc14 : ((bif (!x10) then true else (bif (decide (u5 > 0)) then (decide (x12 ≥ 0)) else false))) = false := hc14
        rw [if_neg (bneT hc14)] at hM1
        refine And.intro rfl (And.intro (by first | exact trivial | exact And.intro rfl trivial | exact And.intro rfl (And.intro rfl trivial) | exact And.intro rfl (And.intro rfl (And.intro rfl trivial)) | exact And.intro rfl (And.intro rfl (And.intro rfl (And.intro rfl trivial)))) (And.intro (by first | exact trivial | exact And.intro rfl trivial | exact And.intro rfl (And.intro rfl trivial) | exact And.intro rfl (And.intro rfl (And.intro rfl trivial)) | exact And.intro rfl (And.intro rfl (And.intro rfl (And.intro rfl trivial)))) (Exists.intro m7 (And.intro ⟨(IntKind.i64.wrap (u5 + 1)), rfl, rfl, sX4, (wrap64 _), hM1⟩ (Nat.lt_succ_self _)))))
    · have hc8 : ((decide (u5 < ((p0_2.length : Nat) : Int)))) = false := hc8
      rw [if_neg (bneT hc8)] at hM1
      have hE := Option.some.inj hM1; subst hE
      try dsimp only [outK_inr, outL_inr] at hM0
      have hE := Option.some.inj hM0; subst hE
      exact And.intro rfl sX4

theorem t_impl_FormatGraph (h : Hp) (csp0 : List Value) (p0 : LGraph) (rp0 : wGraph.R h csp0 p0) (r : ByteArray) (hM0 : M_impl_FormatGraph p0 = some r) :
    Tr Try.prog 93 #[.agg csp0.toArray] h fun v h' => v = .string r ∧ h' = h := by
  obtain ⟨p0_0, p0_1, ap0_2, np0_2, cp0_2, p0_2, rfl, rfl, ip0_0, ip0_1, rp0_2⟩ := openGraph rp0
  obtain ⟨rfl, lp0_2⟩ := Sl.len rp0_2
  unfold M_impl_FormatGraph at hM0
  dsimp only at hM0
  refine Tr.forget (walk (args := [.agg #[.int .i64 p0_0, .int .i64 p0_1, .slice ap0_2 p0_2.length cp0_2]]) (fn := Try.f93) rfl ?_)
  obtain ⟨x1, gx1, hM0⟩ := bsome hM0
  refine Tr.val (t_impl_IsGraph _ [.int .i64 p0_0, .int .i64 p0_1, .slice ap0_2 p0_2.length cp0_2] (p0_0, p0_1, p0_2) (closeGraph ip0_0 ip0_1 rp0_2) _  gx1) ?_
  refine And.intro (fun hc2 => ?_) (fun hc2 => ?_)
  · have hc2 : ((!x1)) = true := hc2
    rw [if_pos hc2] at hM0
    have hE := Option.some.inj hM0; subst hE
    exact And.intro rfl (Sub.refl _)
  · have hc2 : ((!x1)) = false := hc2
    rw [if_neg (bneT hc2)] at hM0
    refine Or.inl (And.intro (And.intro (by kernel_rfl) (by kernel_rfl)) ?_)
    obtain ⟨x3, gx3, hM0⟩ := bsome hM0
    refine Exists.intro (.string x3) (And.intro (t_impl_FormatInt _ p0_0 ip0_0 _  gx3) ?_)
    obtain ⟨q4, gq4, hM0⟩ := bsome hM0
    have ix3 : x3.size ≤ 9223372036854775807 := grd_some gq4
    obtain ⟨q5, gq5, hM0⟩ := bsome hM0
    have jq5 := grd_some gq5
    refine And.intro jq5 ?_
    obtain ⟨x6, gx6, hM0⟩ := bsome hM0
    refine Exists.intro (.string x6) (And.intro (t_impl_FormatInt _ p0_1 ip0_1 _  gx6) ?_)
    obtain ⟨q7, gq7, hM0⟩ := bsome hM0
    have ix6 : x6.size ≤ 9223372036854775807 := grd_some gq7
    obtain ⟨q8, gq8, hM0⟩ := bsome hM0
    have jq8 := grd_some gq8
    refine And.intro jq8 ?_
    obtain ⟨X9, hLX9, hM0⟩ := bsome hM0
    refine Exists.intro { vars := [3, 20], boxes := [], owns := [], fuel := true } (Exists.intro (fun vs os h' => ∃ (u10 : ByteArray) (u11 : Int), vs.tail = [.string u10, .int .i64 u11] ∧ os = [] ∧ Sub h h' ∧ u10.size ≤ 9223372036854775807 ∧ In64 u11 ∧ L_impl_FormatGraph_0 p0_2 (fuelOf vs) u10 u11 = some X9) (Exists.intro (fun _ _ => 0) ?_))
    refine And.intro (Exists.intro FUEL ⟨((x3 ++ (⟨#[32]⟩ : ByteArray)) ++ x6), 0, rfl, rfl, (Sub.refl _), (cat_size jq8), (c64 (by decide) (by decide)), hLX9⟩) ?_
    rintro v_0 v_1 m13 k12 ⟨u10, u11, evX9, eoX9, sX9, iu10, iu11, hM1⟩
    cases evX9
    cases eoX9
    replace hM1 : L_impl_FormatGraph_0 p0_2 m13 u10 u11 = some X9 := hM1
    obtain _ | m13 := m13
    · cases (show (none : Option _) = some X9 from hM1)
    rw [L_impl_FormatGraph_0_succ] at hM1
    refine And.intro (fun hc14 => ?_) (fun hc14 => ?_)
    · have hc14 : ((decide (u11 < ((p0_2.length : Nat) : Int)))) = true := hc14
      rw [if_pos hc14] at hM1
      obtain ⟨x15, gx15, hM1⟩ := bsome hM1
      obtain ⟨bx15, csx15, ex15, rx15⟩ := Sl.getI (r := wEdge.toRp) (wEdgeS.mono sX9 rp0_2) gx15 (by decide)
      refine And.intro bx15 ?_
      obtain ⟨x15_0, x15_1, x15_2, rfl, rfl, ix15_0, ix15_1, ix15_2⟩ := openEdge rx15
      dsimp only at hM1
      refine Exists.intro _ (And.intro ex15 ?_)
      refine Or.inl (And.intro (And.intro (by kernel_rfl) (by kernel_rfl)) ?_)
      obtain ⟨q16, gq16, hM1⟩ := bsome hM1
      have jq16 := grd_some gq16
      refine And.intro jq16 ?_
      obtain ⟨x17, gx17, hM1⟩ := bsome hM1
      refine Exists.intro (.string x17) (And.intro (t_impl_FormatInt _ x15_0 ix15_0 _  gx17) ?_)
      obtain ⟨q18, gq18, hM1⟩ := bsome hM1
      have ix17 : x17.size ≤ 9223372036854775807 := grd_some gq18
      obtain ⟨q19, gq19, hM1⟩ := bsome hM1
      have jq19 := grd_some gq19
      refine And.intro jq19 ?_
      obtain ⟨x20, gx20, hM1⟩ := bsome hM1
      refine Exists.intro (.string x20) (And.intro (t_impl_letterText _ x15_1 ix15_1 _  gx20) ?_)
      obtain ⟨q21, gq21, hM1⟩ := bsome hM1
      have ix20 : x20.size ≤ 9223372036854775807 := grd_some gq21
      obtain ⟨q22, gq22, hM1⟩ := bsome hM1
      have jq22 := grd_some gq22
      refine And.intro jq22 ?_
      obtain ⟨x23, gx23, hM1⟩ := bsome hM1
      refine Exists.intro (.string x23) (And.intro (t_impl_FormatInt _ x15_2 ix15_2 _  gx23) ?_)
      obtain ⟨q24, gq24, hM1⟩ := bsome hM1
      have ix23 : x23.size ≤ 9223372036854775807 := grd_some gq24
      obtain ⟨q25, gq25, hM1⟩ := bsome hM1
      have jq25 := grd_some gq25
      refine And.intro jq25 ?_
      refine And.intro rfl (And.intro (by first | exact trivial | exact And.intro rfl trivial | exact And.intro rfl (And.intro rfl trivial) | exact And.intro rfl (And.intro rfl (And.intro rfl trivial)) | exact And.intro rfl (And.intro rfl (And.intro rfl (And.intro rfl trivial)))) (And.intro (by first | exact trivial | exact And.intro rfl trivial | exact And.intro rfl (And.intro rfl trivial) | exact And.intro rfl (And.intro rfl (And.intro rfl trivial)) | exact And.intro rfl (And.intro rfl (And.intro rfl (And.intro rfl trivial)))) (Exists.intro m13 (And.intro ⟨((((u10 ++ (⟨#[32]⟩ : ByteArray)) ++ x17) ++ x20) ++ x23), (IntKind.i64.wrap (u11 + 1)), rfl, rfl, sX9, (cat_size jq25), (wrap64 _), hM1⟩ (Nat.lt_succ_self _)))))
    · have hc14 : ((decide (u11 < ((p0_2.length : Nat) : Int)))) = false := hc14
      rw [if_neg (bneT hc14)] at hM1
      have hE := Option.some.inj hM1; subst hE
      try dsimp only [outK_inr, outL_inr] at hM0
      have hE := Option.some.inj hM0; subst hE
      exact And.intro rfl sX9

theorem t_impl_FormatIndices (h : Hp) (ap0 : Option Addr) (np0 cp0 : Nat) (p0 : LIntS) (rp0 : wIntS.R h [.slice ap0 np0 cp0] p0) (r : ByteArray) (hM0 : M_impl_FormatIndices p0 = some r) :
    Tr Try.prog 92 #[.slice ap0 np0 cp0] h fun v h' => v = .string r ∧ h' = h := by
  obtain ⟨rfl, lp0⟩ := Sl.len rp0
  unfold M_impl_FormatIndices at hM0
  refine Tr.forget (walk (args := [.slice ap0 p0.length cp0]) (fn := Try.f92) rfl ?_)
  obtain ⟨X1, hLX1, hM0⟩ := bsome hM0
  refine Exists.intro { vars := [9], boxes := [], owns := [0], fuel := true } (Exists.intro (fun vs os h' => ∃ (u2 : Int) (wu3 : List (List Value)) (u3 : List ByteArray), vs.tail = [.int .i64 u2] ∧ os = [wu3] ∧ Sub h h' ∧ In64 u2 ∧ F2 (Wp.str.R h') wu3 u3 ∧ L_impl_FormatIndices_0 p0 (fuelOf vs) u2 u3 = some X1) (Exists.intro (fun _ _ => 0) ?_))
  refine And.intro (Exists.intro FUEL ⟨0, [], ([] : (List ByteArray)), rfl, rfl, (Sub.refl _), (c64 (by decide) (by decide)), (show F2 (Wp.str.R h) ([] : List (List Value)) ([] : (List ByteArray)) from trivial), hLX1⟩) ?_
  rintro v_0 wu3 m5 k4 ⟨u2, zzu3, u3, evX1, eoX1, sX1, iu2, fu3, hM1⟩
  cases evX1
  cases eoX1
  replace hM1 : L_impl_FormatIndices_0 p0 m5 u2 u3 = some X1 := hM1
  obtain _ | m5 := m5
  · cases (show (none : Option _) = some X1 from hM1)
  rw [L_impl_FormatIndices_0_succ] at hM1
  refine And.intro (fun hc6 => ?_) (fun hc6 => ?_)
  · have hc6 : ((decide (u2 < ((p0.length : Nat) : Int)))) = true := hc6
    rw [if_pos hc6] at hM1
    obtain ⟨x7, gx7, hM1⟩ := bsome hM1
    obtain ⟨bx7, csx7, ex7, rx7⟩ := Sl.getI (r := Wp.int.toRp) (wIntS.mono sX1 rp0) gx7 (by decide)
    refine And.intro bx7 ?_
    obtain ⟨rfl, ix7⟩ := rx7
    refine Exists.intro _ (And.intro ex7 ?_)
    obtain ⟨x8, gx8, hM1⟩ := bsome hM1
    refine Tr.val (t_impl_FormatInt _ x7 ix7 _  gx8) ?_
    obtain ⟨q9, gq9, hM1⟩ := bsome hM1
    have ix8 : x8.size ≤ 9223372036854775807 := grd_some gq9
    obtain ⟨q10, gq10, hM1⟩ := bsome hM1
    refine And.intro (room_of gq10 (by first | rw [F2.length fu3, F2.length (show F2 (Wp.str.R k4) ([[.string x8]] : List (List Value)) [x8] from ⟨⟨rfl, ix8⟩, trivial⟩)] | exact congrArg (· + 1) (F2.length fu3))) ?_
    refine And.intro rfl (And.intro (by first | exact trivial | exact And.intro rfl trivial | exact And.intro rfl (And.intro rfl trivial) | exact And.intro rfl (And.intro rfl (And.intro rfl trivial)) | exact And.intro rfl (And.intro rfl (And.intro rfl (And.intro rfl trivial)))) (And.intro (by first | exact trivial | exact And.intro rfl trivial | exact And.intro rfl (And.intro rfl trivial) | exact And.intro rfl (And.intro rfl (And.intro rfl trivial)) | exact And.intro rfl (And.intro rfl (And.intro rfl (And.intro rfl trivial)))) (Exists.intro m5 (And.intro ⟨(IntKind.i64.wrap (u2 + 1)), (wu3 ++ ([[.string x8]] : List (List Value))), (u3 ++ [x8]), rfl, rfl, sX1, (wrap64 _), (F2.append fu3 (show F2 (Wp.str.R k4) ([[.string x8]] : List (List Value)) [x8] from ⟨⟨rfl, ix8⟩, trivial⟩)), hM1⟩ (Nat.lt_succ_self _)))))
  · have hc6 : ((decide (u2 < ((p0.length : Nat) : Int)))) = false := hc6
    rw [if_neg (bneT hc6)] at hM1
    have hE := Option.some.inj hM1; subst hE
    try dsimp only [outK_inr, outL_inr] at hM0
    refine Or.inr ?_
    intro v11 k12 f13
    obtain ⟨az14, cz14, rfl, rz14, sz14, lz14⟩ := Froze.out (r := Wp.str.toRp) f13 fu3
    obtain ⟨x15, gx15, hM0⟩ := bsome hM0
    refine Tr.val (t_impl_glued _ az14 u3.length cz14 u3 rz14 (⟨#[32]⟩ : ByteArray) (by decide) (⟨#[110, 111, 110, 101]⟩ : ByteArray) (by decide) _  gx15) (And.intro rfl ?_)
    obtain ⟨q16, gq16, hM0⟩ := bsome hM0
    have ix15 : x15.size ≤ 9223372036854775807 := grd_some gq16
    have hE := Option.some.inj hM0; subst hE
    exact And.intro rfl sX1

theorem t_impl_FormatClaim (h : Hp) (csp0 : List Value) (p0 : LClaim) (rp0 : wClaim.R h csp0 p0) (r : ByteArray) (hM0 : M_impl_FormatClaim p0 = some r) :
    Tr Try.prog 32 #[.agg csp0.toArray] h fun v h' => v = .string r ∧ h' = h := by
  obtain ⟨p0_0, p0_1, ap0_2, np0_2, cp0_2, p0_2, ap0_3, np0_3, cp0_3, p0_3, ap0_4, np0_4, cp0_4, p0_4, p0_5, p0_6, ap0_7, np0_7, cp0_7, p0_7, p0_8, rfl, rfl, ip0_0, ip0_1, rp0_2, rp0_3, rp0_4, ip0_5, ip0_6, rp0_7, ip0_8⟩ := openClaim rp0
  obtain ⟨rfl, lp0_2⟩ := Sl.len rp0_2
  obtain ⟨rfl, lp0_3⟩ := Sl.len rp0_3
  obtain ⟨rfl, lp0_4⟩ := Sl.len rp0_4
  obtain ⟨rfl, lp0_7⟩ := Sl.len rp0_7
  unfold M_impl_FormatClaim at hM0
  dsimp only at hM0
  refine Tr.forget (walk (args := [.agg #[.int .i64 p0_0, .int .i64 p0_1, .slice ap0_2 p0_2.length cp0_2, .slice ap0_3 p0_3.length cp0_3, .slice ap0_4 p0_4.length cp0_4, .int .i64 p0_5, .int .i64 p0_6, .slice ap0_7 p0_7.length cp0_7, .int .i64 p0_8]]) (fn := Try.f32) rfl ?_)
  obtain ⟨x1, gx1, hM0⟩ := bsome hM0
  refine Tr.val (t_impl_ClaimWord _ p0_0 ip0_0 _  gx1) ?_
  obtain ⟨q2, gq2, hM0⟩ := bsome hM0
  have ix1 : x1.size ≤ 9223372036854775807 := grd_some gq2
  obtain ⟨x3, gx3, hM0⟩ := bsome hM0
  refine Exists.intro (.bool x3) (And.intro (fun q => t_impl_AreWords _ p0_1 ip0_1 ap0_2 p0_2.length cp0_2 p0_2 rp0_2 _  (chk_some gx3 q)) ?_)
  obtain ⟨x4, gx4, hM0⟩ := bsome hM0
  refine Exists.intro (.bool x4) (And.intro (fun q => t_impl_IsWord _ p0_1 ip0_1 ap0_3 p0_3.length cp0_3 p0_3 rp0_3 _  (chk_some gx4 q)) ?_)
  obtain ⟨x5, gx5, hM0⟩ := bsome hM0
  refine Exists.intro (.bool x5) (And.intro (fun q => t_impl_IsGraph _ [.int .i64 p0_5, .int .i64 p0_6, .slice ap0_7 p0_7.length cp0_7] (p0_5, p0_6, p0_7) (closeGraph ip0_5 ip0_6 rp0_7) _  (chk_some gx5 q)) ?_)
  refine And.intro (fun hc6 => ?_) (fun hc6 => ?_)
  · have hc6 : ((bif (bif (bif (seqB x1 (⟨#[]⟩ : ByteArray)) then true else (!x3)) then true else (!x4)) then true else (!x5))) = true := hc6
    rw [if_pos hc6] at hM0
    have hE := Option.some.inj hM0; subst hE
    exact And.intro rfl (Sub.refl _)
  · have hc6 : ((bif (bif (bif (seqB x1 (⟨#[]⟩ : ByteArray)) then true else (!x3)) then true else (!x4)) then true else (!x5))) = false := hc6
    rw [if_neg (bneT hc6)] at hM0
    refine Or.inr (Or.inr (Or.inr (And.intro (And.intro (by kernel_rfl) (by kernel_rfl)) ?_)))
    obtain ⟨x7, gx7, hM0⟩ := bsome hM0
    obtain ⟨q8, gq8, hM0⟩ := bsome hM0
    have ix7 : x7.size ≤ 9223372036854775807 := grd_some gq8
    refine Or.inl (Exists.intro (.val (.string x7)) (And.intro ?_ ?_))
    · intro k9 s10
      exact Tr.val (t_impl_ClaimWord _ p0_0 ip0_0 _ gx7) (And.intro rfl (And.intro rfl rfl))
    obtain ⟨x11, gx11, hM0⟩ := bsome hM0
    obtain ⟨q12, gq12, hM0⟩ := bsome hM0
    have ix11 : x11.size ≤ 9223372036854775807 := grd_some gq12
    refine Or.inl (Exists.intro (.val (.string x11)) (And.intro ?_ ?_))
    · intro k13 s14
      exact Tr.val (t_impl_FormatInt _ p0_1 ip0_1 _ gx11) (And.intro rfl (And.intro rfl rfl))
    obtain ⟨x15, gx15, hM0⟩ := bsome hM0
    obtain ⟨q16, gq16, hM0⟩ := bsome hM0
    have ix15 : x15.size ≤ 9223372036854775807 := grd_some gq16
    refine Or.inl (Exists.intro (.val (.string x15)) (And.intro ?_ ?_))
    · intro k17 s18
      exact Tr.val (t_impl_FormatWords _ ap0_2 p0_2.length cp0_2 p0_2 (wIntSS.mono s18 rp0_2) _ gx15) (And.intro rfl (And.intro rfl rfl))
    obtain ⟨x19, gx19, hM0⟩ := bsome hM0
    obtain ⟨q20, gq20, hM0⟩ := bsome hM0
    have ix19 : x19.size ≤ 9223372036854775807 := grd_some gq20
    refine Or.inl (Exists.intro (.val (.string x19)) (And.intro ?_ ?_))
    · intro k21 s22
      exact Tr.val (t_impl_FormatWord _ ap0_3 p0_3.length cp0_3 p0_3 (wIntS.mono s22 rp0_3) _ gx19) (And.intro rfl (And.intro rfl rfl))
    obtain ⟨x23, gx23, hM0⟩ := bsome hM0
    obtain ⟨q24, gq24, hM0⟩ := bsome hM0
    have ix23 : x23.size ≤ 9223372036854775807 := grd_some gq24
    refine Or.inl (Exists.intro (.val (.string x23)) (And.intro ?_ ?_))
    · intro k25 s26
      exact Tr.val (t_impl_FormatIndices _ ap0_4 p0_4.length cp0_4 p0_4 (wIntS.mono s26 rp0_4) _ gx23) (And.intro rfl (And.intro rfl rfl))
    obtain ⟨x27, gx27, hM0⟩ := bsome hM0
    obtain ⟨q28, gq28, hM0⟩ := bsome hM0
    have ix27 : x27.size ≤ 9223372036854775807 := grd_some gq28
    refine Or.inl (Exists.intro (.val (.string x27)) (And.intro ?_ ?_))
    · intro k29 s30
      exact Tr.val (t_impl_FormatGraph _ [.int .i64 p0_5, .int .i64 p0_6, .slice ap0_7 p0_7.length cp0_7] (p0_5, p0_6, p0_7) (closeGraph ip0_5 ip0_6 (wEdgeS.mono s30 rp0_7)) _ gx27) (And.intro rfl (And.intro rfl rfl))
    obtain ⟨x31, gx31, hM0⟩ := bsome hM0
    obtain ⟨q32, gq32, hM0⟩ := bsome hM0
    have ix31 : x31.size ≤ 9223372036854775807 := grd_some gq32
    refine Or.inl (Exists.intro (.val (.string x31)) (And.intro ?_ ?_))
    · intro k33 s34
      exact Tr.val (t_impl_FormatInt _ p0_8 ip0_8 _ gx31) (And.intro rfl (And.intro rfl rfl))
    obtain ⟨x35, gx35, hM0⟩ := bsome hM0
    refine Or.inr (Exists.intro (fun v hh => ∃ (a : Option Addr) (c : Nat), v = .slice a x35.length c ∧ (Wp.slice Wp.str).R hh [.slice a x35.length c] x35 ∧ x35.length ≤ 9223372036854775807) (And.intro (fun v h1 h2 sb q => by obtain ⟨a, c, e, r, l⟩ := q; exact ⟨a, c, e, (Wp.slice Wp.str).mono sb r, l⟩) (And.intro ?_ ?_)))
    · intro k36 s37
      have ex35 : [x7, x11, x15, x19, (⟨#[98, 121]⟩ : ByteArray), x23, (⟨#[97, 110, 100]⟩ : ByteArray), x27, (⟨#[97, 110, 100]⟩ : ByteArray), x31] = x35 := Option.some.inj gx35
      intro v k hf
      obtain ⟨a, c, rfl, r, sb, l⟩ := Froze.out (r := Wp.str.toRp) (xs := x35) hf (show F2 (Wp.str.R k36) [[.string x7], [.string x11], [.string x15], [.string x19], [.string (⟨#[98, 121]⟩ : ByteArray)], [.string x23], [.string (⟨#[97, 110, 100]⟩ : ByteArray)], [.string x27], [.string (⟨#[97, 110, 100]⟩ : ByteArray)], [.string x31]] x35 from ex35 ▸ (show F2 (Wp.str.R k36) [[.string x7], [.string x11], [.string x15], [.string x19], [.string (⟨#[98, 121]⟩ : ByteArray)], [.string x23], [.string (⟨#[97, 110, 100]⟩ : ByteArray)], [.string x27], [.string (⟨#[97, 110, 100]⟩ : ByteArray)], [.string x31]] [x7, x11, x15, x19, (⟨#[98, 121]⟩ : ByteArray), x23, (⟨#[97, 110, 100]⟩ : ByteArray), x27, (⟨#[97, 110, 100]⟩ : ByteArray), x31] from ⟨⟨rfl, ix7⟩, ⟨⟨rfl, ix11⟩, ⟨⟨rfl, ix15⟩, ⟨⟨rfl, ix19⟩, ⟨⟨rfl, (by decide)⟩, ⟨⟨rfl, ix23⟩, ⟨⟨rfl, (by decide)⟩, ⟨⟨rfl, ix27⟩, ⟨⟨rfl, (by decide)⟩, ⟨⟨rfl, ix31⟩, trivial⟩⟩⟩⟩⟩⟩⟩⟩⟩⟩))
      exact And.intro ⟨rfl, rfl, rfl, [_], rfl⟩ (And.intro sb ⟨a, c, rfl, r, l⟩)
    obtain ⟨x38, gx38, hM0⟩ := bsome hM0
    obtain ⟨q39, gq39, hM0⟩ := bsome hM0
    have ix38 : x38.size ≤ 9223372036854775807 := grd_some gq39
    refine Or.inl (Exists.intro (.val (.string x38)) (And.intro ?_ ?_))
    · intro k40 s41
      rintro _ ⟨az42, cz42, rfl, rz42, lz42⟩
      exact Tr.val (t_impl_glued _ az42 x35.length cz42 x35 rz42 (⟨#[32]⟩ : ByteArray) (by decide) (⟨#[]⟩ : ByteArray) (by decide) _ gx38) (And.intro rfl (And.intro rfl rfl))
    intro k43 s44
    rintro _ ⟨az45, cz45, rfl, rz45, lz45⟩
    have hE := Option.some.inj hM0; subst hE
    exact And.intro rfl s44

theorem t_impl_FormatNotebook (h : Hp) (csp0 : List Value) (p0 : LNotebook) (rp0 : wNotebook.R h csp0 p0) (r : ByteArray) (hM0 : M_impl_FormatNotebook p0 = some r) :
    Tr Try.prog 37 #[.agg csp0.toArray] h fun v h' => v = .string r ∧ h' = h := by
  obtain ⟨p0_0, ap0_1, np0_1, cp0_1, p0_1, rfl, rfl, ip0_0, rp0_1⟩ := openNotebook rp0
  obtain ⟨rfl, lp0_1⟩ := Sl.len rp0_1
  unfold M_impl_FormatNotebook at hM0
  dsimp only at hM0
  refine Tr.forget (walk (args := [.agg #[.int .i64 p0_0, .slice ap0_1 p0_1.length cp0_1]]) (fn := Try.f37) rfl ?_)
  obtain ⟨X1, hLX1, hM0⟩ := bsome hM0
  refine Exists.intro { vars := [3, 10], boxes := [], owns := [], fuel := true } (Exists.intro (fun vs os h' => ∃ (u2 : ByteArray) (u3 : Int), vs.tail = [.string u2, .int .i64 u3] ∧ os = [] ∧ Sub h h' ∧ u2.size ≤ 9223372036854775807 ∧ In64 u3 ∧ L_impl_FormatNotebook_0 p0_1 (fuelOf vs) u2 u3 = some X1) (Exists.intro (fun _ _ => 0) ?_))
  refine And.intro (Exists.intro FUEL ⟨(⟨#[]⟩ : ByteArray), 0, rfl, rfl, (Sub.refl _), (by decide), (c64 (by decide) (by decide)), hLX1⟩) ?_
  rintro v_0 v_1 m5 k4 ⟨u2, u3, evX1, eoX1, sX1, iu2, iu3, hM1⟩
  cases evX1
  cases eoX1
  replace hM1 : L_impl_FormatNotebook_0 p0_1 m5 u2 u3 = some X1 := hM1
  obtain _ | m5 := m5
  · cases (show (none : Option _) = some X1 from hM1)
  rw [L_impl_FormatNotebook_0_succ] at hM1
  refine And.intro (fun hc6 => ?_) (fun hc6 => ?_)
  · have hc6 : ((decide (u3 < ((p0_1.length : Nat) : Int)))) = true := hc6
    rw [if_pos hc6] at hM1
    obtain ⟨x7, gx7, hM1⟩ := bsome hM1
    obtain ⟨bx7, csx7, ex7, rx7⟩ := Sl.getI (r := wClaim.toRp) (wClaimS.mono sX1 rp0_1) gx7 (by decide)
    refine And.intro bx7 ?_
    obtain ⟨x7_0, x7_1, ax7_2, nx7_2, cx7_2, x7_2, ax7_3, nx7_3, cx7_3, x7_3, ax7_4, nx7_4, cx7_4, x7_4, x7_5, x7_6, ax7_7, nx7_7, cx7_7, x7_7, x7_8, rfl, rfl, ix7_0, ix7_1, rx7_2, rx7_3, rx7_4, ix7_5, ix7_6, rx7_7, ix7_8⟩ := openClaim rx7
    obtain ⟨rfl, lx7_2⟩ := Sl.len rx7_2
    obtain ⟨rfl, lx7_3⟩ := Sl.len rx7_3
    obtain ⟨rfl, lx7_4⟩ := Sl.len rx7_4
    obtain ⟨rfl, lx7_7⟩ := Sl.len rx7_7
    dsimp only at hM1
    refine Exists.intro _ (And.intro ex7 ?_)
    obtain ⟨x8, gx8, hM1⟩ := bsome hM1
    refine Tr.val (t_impl_FormatClaim _ [.int .i64 x7_0, .int .i64 x7_1, .slice ax7_2 x7_2.length cx7_2, .slice ax7_3 x7_3.length cx7_3, .slice ax7_4 x7_4.length cx7_4, .int .i64 x7_5, .int .i64 x7_6, .slice ax7_7 x7_7.length cx7_7, .int .i64 x7_8] (x7_0, x7_1, x7_2, x7_3, x7_4, (x7_5, x7_6, x7_7), x7_8) (closeClaim ix7_0 ix7_1 rx7_2 rx7_3 rx7_4 ix7_5 ix7_6 rx7_7 ix7_8) _  gx8) ?_
    obtain ⟨q9, gq9, hM1⟩ := bsome hM1
    have ix8 : x8.size ≤ 9223372036854775807 := grd_some gq9
    refine And.intro (fun hc10 => ?_) (fun hc10 => ?_)
    · have hc10 : ((seqB x8 (⟨#[]⟩ : ByteArray))) = true := hc10
      rw [if_pos hc10] at hM1
      have hE := Option.some.inj hM1; subst hE
      try dsimp only [outK_inl, outL_inl] at hM0
      have hE := Option.some.inj hM0; subst hE
      exact And.intro rfl sX1
    · have hc10 : ((seqB x8 (⟨#[]⟩ : ByteArray))) = false := hc10
      rw [if_neg (bneT hc10)] at hM1
      obtain ⟨q11, gq11, hM1⟩ := bsome hM1
      have jq11 := grd_some gq11
      refine And.intro jq11 ?_
      obtain ⟨q12, gq12, hM1⟩ := bsome hM1
      have jq12 := grd_some gq12
      refine And.intro jq12 ?_
      refine And.intro rfl (And.intro (by first | exact trivial | exact And.intro rfl trivial | exact And.intro rfl (And.intro rfl trivial) | exact And.intro rfl (And.intro rfl (And.intro rfl trivial)) | exact And.intro rfl (And.intro rfl (And.intro rfl (And.intro rfl trivial)))) (And.intro (by first | exact trivial | exact And.intro rfl trivial | exact And.intro rfl (And.intro rfl trivial) | exact And.intro rfl (And.intro rfl (And.intro rfl trivial)) | exact And.intro rfl (And.intro rfl (And.intro rfl (And.intro rfl trivial)))) (Exists.intro m5 (And.intro ⟨((u2 ++ x8) ++ (⟨#[10]⟩ : ByteArray)), (IntKind.i64.wrap (u3 + 1)), rfl, rfl, sX1, (cat_size jq12), (wrap64 _), hM1⟩ (Nat.lt_succ_self _)))))
  · have hc6 : ((decide (u3 < ((p0_1.length : Nat) : Int)))) = false := hc6
    rw [if_neg (bneT hc6)] at hM1
    have hE := Option.some.inj hM1; subst hE
    try dsimp only [outK_inr, outL_inr] at hM0
    have hE := Option.some.inj hM0; subst hE
    exact And.intro rfl sX1

end Go.Proofs.Ytjalbdammdmgiaa
