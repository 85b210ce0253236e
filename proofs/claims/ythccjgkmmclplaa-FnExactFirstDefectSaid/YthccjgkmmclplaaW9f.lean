/- The walks of batch 9f. -/
import Derived.Test.YthccjgkmmclplaaA9f
import Derived.Test.YthccjgkmmclplaaChecked
import Derived.Test.YthccjgkmmclplaaH35
import Derived.Test.YthccjgkmmclplaaW1
import Derived.Test.YthccjgkmmclplaaW4g
import Derived.Test.YthccjgkmmclplaaW9
namespace Go.Proofs.Ythccjgkmmclplaa
open Go.H
set_option linter.unusedVariables false
set_option linter.unusedSimpArgs false
set_option maxRecDepth 10000
theorem t_spec_FirstDefect (h : Hp) (csp0 : List Value) (p0 : LPresentation) (rp0 : wPresentation.R h csp0 p0) (csp1 : List Value) (p1 : LGraph) (rp1 : wGraph.R h csp1 p1) (r : Int × Int) (hM0 : M_spec_FirstDefect p0 p1 = some r) :
    Tr Try.prog 34 #[.agg csp0.toArray, .agg csp1.toArray] h fun v h' => v = .tuple #[.int .i64 r.1, .int .i64 r.2] ∧ h' = h := by
  obtain ⟨p0_0, ap0_1, np0_1, cp0_1, p0_1, rfl, rfl, ip0_0, rp0_1⟩ := openPresentation rp0
  obtain ⟨rfl, lp0_1⟩ := Sl.len rp0_1
  obtain ⟨p1_0, p1_1, ap1_2, np1_2, cp1_2, p1_2, rfl, rfl, ip1_0, ip1_1, rp1_2⟩ := openGraph rp1
  obtain ⟨rfl, lp1_2⟩ := Sl.len rp1_2
  unfold M_spec_FirstDefect at hM0
  dsimp only at hM0
  refine Tr.forget (walk (args := [.agg #[.int .i64 p0_0, .slice ap0_1 p0_1.length cp0_1], .agg #[.int .i64 p1_0, .int .i64 p1_1, .slice ap1_2 p1_2.length cp1_2]]) (fn := Try.f34) rfl ?_)
  obtain ⟨X1, hLX1, hM0⟩ := bsome hM0
  refine Exists.intro { vars := [6], boxes := [], owns := [], fuel := true } (Exists.intro (fun vs os h' => ∃ (u2 : Int), vs.tail = [.int .i64 u2] ∧ os = [] ∧ Sub h h' ∧ In64 u2 ∧ L_spec_FirstDefect_1 p1_1 p0_0 p0_1 p1_0 p1_2 (fuelOf vs) u2 = some X1) (Exists.intro (fun _ _ => 0) ?_))
  refine And.intro (Exists.intro FUEL ⟨0, rfl, rfl, (Sub.refl _), (c64 (by decide) (by decide)), hLX1⟩) ?_
  rintro v_0 m4 k3 ⟨u2, evX1, eoX1, sX1, iu2, hM1⟩
  cases evX1
  cases eoX1
  replace hM1 : L_spec_FirstDefect_1 p1_1 p0_0 p0_1 p1_0 p1_2 m4 u2 = some X1 := hM1
  obtain _ | m4 := m4
  · cases (show (none : Option _) = some X1 from hM1)
  rw [L_spec_FirstDefect_1_succ] at hM1
  obtain ⟨x5, gx5, hM1⟩ := bsome hM1
  refine Exists.intro (.bool x5) (And.intro (fun q => t_spec_IsPresentation _ [.int .i64 p0_0, .slice ap0_1 p0_1.length cp0_1] (p0_0, p0_1) (closePresentation ip0_0 (wIntSS.mono sX1 rp0_1)) _  (chk_some gx5 q)) ?_)
  obtain ⟨x6, gx6, hM1⟩ := bsome hM1
  refine Exists.intro (.bool x6) (And.intro (fun q => t_spec_IsFolded _ [.int .i64 p1_0, .int .i64 p1_1, .slice ap1_2 p1_2.length cp1_2] (p1_0, p1_1, p1_2) (closeGraph ip1_0 ip1_1 (wEdgeS.mono sX1 rp1_2)) _  (chk_some gx6 q)) ?_)
  refine And.intro (fun hc7 => ?_) (fun hc7 => ?_)
  · have hc7 : ((bif (bif (bif (decide (u2 < p1_1)) then x5 else false) then x6 else false) then (decide (p0_0 = p1_0)) else false)) = true := hc7
    rw [if_pos hc7] at hM1
    obtain ⟨X8, hLX8, hM1⟩ := bsome hM1
    refine Exists.intro { vars := [7], boxes := [], owns := [], fuel := true } (Exists.intro (fun vs os h' => ∃ (u9 : Int), vs.tail = [.int .i64 u9] ∧ os = [] ∧ Sub k3 h' ∧ In64 u9 ∧ L_spec_FirstDefect_0 p0_1 p1_0 p1_1 p1_2 u2 (fuelOf vs) u9 = some X8) (Exists.intro (fun _ _ => 0) ?_))
    refine And.intro (Exists.intro FUEL ⟨0, rfl, rfl, (Sub.refl _), (c64 (by decide) (by decide)), hLX8⟩) ?_
    rintro v_0 m11 k10 ⟨u9, evX8, eoX8, sX8, iu9, hM2⟩
    cases evX8
    cases eoX8
    replace hM2 : L_spec_FirstDefect_0 p0_1 p1_0 p1_1 p1_2 u2 m11 u9 = some X8 := hM2
    obtain _ | m11 := m11
    · cases (show (none : Option _) = some X8 from hM2)
    rw [L_spec_FirstDefect_0_succ] at hM2
    refine And.intro (fun hc12 => ?_) (fun hc12 => ?_)
    · have hc12 : ((decide (u9 < ((p0_1.length : Nat) : Int)))) = true := hc12
      rw [if_pos hc12] at hM2
      refine Or.inr (Or.inr (Or.inr (And.intro (And.intro (by kernel_rfl) (by kernel_rfl)) ?_)))
      obtain ⟨x13, gx13, hM2⟩ := bsome hM2
      obtain ⟨bx13, csx13, ex13, rx13⟩ := Sl.getI (r := wIntS.toRp) (wIntSS.mono (sX1.trans sX8) rp0_1) gx13 (by decide)
      obtain ⟨ax13, nx13, cx13, rfl⟩ := Wp.slice_cell rx13
      obtain ⟨rfl, lx13⟩ := Sl.len rx13
      refine Or.inl (Exists.intro (.hel (.slice ap0_1 p0_1.length cp0_1) u9 1 0) (And.intro ?_ ?_))
      · intro k14 s15
        exact And.intro bx13 (And.intro rfl (And.intro rfl rfl))
      refine Or.inl (Exists.intro (.val (.slice ax13 x13.length cx13)) (And.intro ?_ ?_))
      · intro k16 s17
        exact Exists.intro _ (And.intro (ElemAt.up s17 ex13) (And.intro rfl (And.intro rfl rfl)))
      obtain ⟨x18, gx18, hM2⟩ := bsome hM2
      obtain ⟨x18_0, x18_1⟩ := x18
      try dsimp only at hM2
      obtain ⟨q19, gq19, hM2⟩ := bsome hM2
      have ix18_0 : In64 x18_0 := grd_some gq19
      refine Or.inl (Exists.intro (.val (.tuple #[.int .i64 x18_0, .bool x18_1])) (And.intro ?_ ?_))
      · intro k20 s21
        exact Tr.val (t_spec_WalkWord _ [.int .i64 p1_0, .int .i64 p1_1, .slice ap1_2 p1_2.length cp1_2] (p1_0, p1_1, p1_2) (closeGraph ip1_0 ip1_1 (wEdgeS.mono ((sX1.trans sX8).trans s21) rp1_2)) u2 iu2 ax13 x13.length cx13 x13 (wIntS.mono s21 rx13) _ gx18) (And.intro rfl (And.intro rfl rfl))
      refine Or.inl (Exists.intro (.val (.int .i64 x18_0)) (And.intro ?_ ?_))
      · intro k22 s23
        exact And.intro rfl (And.intro rfl rfl)
      refine Or.inl (Exists.intro (.val (.bool x18_1)) (And.intro ?_ ?_))
      · intro k24 s25
        exact And.intro rfl (And.intro rfl rfl)
      intro k26 s27
      refine And.intro (fun hc28 => ?_) (fun hc28 => ?_)
      · have hc28 : ((bif (!x18_1) then true else (!decide (x18_0 = u2)))) = true := hc28
        rw [if_pos hc28] at hM2
        have hE := Option.some.inj hM2; subst hE
        try dsimp only [outK_inl, outL_inl] at hM1
        have hE := Option.some.inj hM1; subst hE
        try dsimp only [outK_inl, outL_inl] at hM0
        have hE := Option.some.inj hM0; subst hE
        exact And.intro rfl ((sX1.trans sX8).trans s27)
      · have hc28 : ((bif (!x18_1) then true else (!decide (x18_0 = u2)))) = false := hc28
        rw [if_neg (bneT hc28)] at hM2
        refine And.intro rfl (And.intro (by first | exact trivial | exact And.intro rfl trivial | exact And.intro rfl (And.intro rfl trivial) | exact And.intro rfl (And.intro rfl (And.intro rfl trivial)) | exact And.intro rfl (And.intro rfl (And.intro rfl (And.intro rfl trivial)))) (And.intro (by first | exact trivial | exact And.intro rfl trivial | exact And.intro rfl (And.intro rfl trivial) | exact And.intro rfl (And.intro rfl (And.intro rfl trivial)) | exact And.intro rfl (And.intro rfl (And.intro rfl (And.intro rfl trivial)))) (Exists.intro m11 (And.intro ⟨(IntKind.i64.wrap (u9 + 1)), rfl, rfl, (sX8.trans s27), (wrap64 _), hM2⟩ (Nat.lt_succ_self _)))))
    · have hc12 : ((decide (u9 < ((p0_1.length : Nat) : Int)))) = false := hc12
      rw [if_neg (bneT hc12)] at hM2
      have hE := Option.some.inj hM2; subst hE
      try dsimp only [outK_inr, outL_inr] at hM1
      refine And.intro rfl (And.intro (by first | exact trivial | exact And.intro rfl trivial | exact And.intro rfl (And.intro rfl trivial) | exact And.intro rfl (And.intro rfl (And.intro rfl trivial)) | exact And.intro rfl (And.intro rfl (And.intro rfl (And.intro rfl trivial)))) (And.intro (by first | exact trivial | exact And.intro rfl trivial | exact And.intro rfl (And.intro rfl trivial) | exact And.intro rfl (And.intro rfl (And.intro rfl trivial)) | exact And.intro rfl (And.intro rfl (And.intro rfl (And.intro rfl trivial)))) (Exists.intro m4 (And.intro ⟨(IntKind.i64.wrap (u2 + 1)), rfl, rfl, (sX1.trans sX8), (wrap64 _), hM1⟩ (Nat.lt_succ_self _)))))
  · have hc7 : ((bif (bif (bif (decide (u2 < p1_1)) then x5 else false) then x6 else false) then (decide (p0_0 = p1_0)) else false)) = false := hc7
    rw [if_neg (bneT hc7)] at hM1
    have hE := Option.some.inj hM1; subst hE
    try dsimp only [outK_inr, outL_inr] at hM0
    have hE := Option.some.inj hM0; subst hE
    exact And.intro rfl sX1

theorem t_impl_FirstDefect (h : Hp) (csp0 : List Value) (p0 : LPresentation) (rp0 : wPresentation.R h csp0 p0) (csp1 : List Value) (p1 : LGraph) (rp1 : wGraph.R h csp1 p1) (r : Int × Int) (hM0 : M_impl_FirstDefect p0 p1 = some r) :
    Tr Try.prog 36 #[.agg csp0.toArray, .agg csp1.toArray] h fun v h' => v = .tuple #[.int .i64 r.1, .int .i64 r.2] ∧ h' = h := by
  obtain ⟨p0_0, ap0_1, np0_1, cp0_1, p0_1, rfl, rfl, ip0_0, rp0_1⟩ := openPresentation rp0
  obtain ⟨rfl, lp0_1⟩ := Sl.len rp0_1
  obtain ⟨p1_0, p1_1, ap1_2, np1_2, cp1_2, p1_2, rfl, rfl, ip1_0, ip1_1, rp1_2⟩ := openGraph rp1
  obtain ⟨rfl, lp1_2⟩ := Sl.len rp1_2
  unfold M_impl_FirstDefect at hM0
  dsimp only at hM0
  refine Tr.forget (walk (args := [.agg #[.int .i64 p0_0, .slice ap0_1 p0_1.length cp0_1], .agg #[.int .i64 p1_0, .int .i64 p1_1, .slice ap1_2 p1_2.length cp1_2]]) (fn := Try.f36) rfl ?_)
  obtain ⟨x1, gx1, hM0⟩ := bsome hM0
  refine Tr.val (t_impl_IsPresentation _ [.int .i64 p0_0, .slice ap0_1 p0_1.length cp0_1] (p0_0, p0_1) (closePresentation ip0_0 rp0_1) _  gx1) ?_
  obtain ⟨x2, gx2, hM0⟩ := bsome hM0
  refine Exists.intro (.bool x2) (And.intro (fun q => t_impl_IsFolded _ [.int .i64 p1_0, .int .i64 p1_1, .slice ap1_2 p1_2.length cp1_2] (p1_0, p1_1, p1_2) (closeGraph ip1_0 ip1_1 rp1_2) _  (chk_some gx2 q)) ?_)
  refine And.intro (fun hc3 => ?_) (fun hc3 => ?_)
  · have hc3 : ((bif (bif (!x1) then true else (!x2)) then true else (!decide (p0_0 = p1_0)))) = true := hc3
    rw [if_pos hc3] at hM0
    have hE := Option.some.inj hM0; subst hE
    exact And.intro rfl (Sub.refl _)
  · have hc3 : ((bif (bif (!x1) then true else (!x2)) then true else (!decide (p0_0 = p1_0)))) = false := hc3
    rw [if_neg (bneT hc3)] at hM0
    obtain ⟨X4, hLX4, hM0⟩ := bsome hM0
    refine Exists.intro { vars := [6], boxes := [], owns := [], fuel := true } (Exists.intro (fun vs os h' => ∃ (u5 : Int), vs.tail = [.int .i64 u5] ∧ os = [] ∧ Sub h h' ∧ In64 u5 ∧ L_impl_FirstDefect_1 p1_1 p0_1 p1_0 p1_2 (fuelOf vs) u5 = some X4) (Exists.intro (fun _ _ => 0) ?_))
    refine And.intro (Exists.intro FUEL ⟨0, rfl, rfl, (Sub.refl _), (c64 (by decide) (by decide)), hLX4⟩) ?_
    rintro v_0 m7 k6 ⟨u5, evX4, eoX4, sX4, iu5, hM1⟩
    cases evX4
    cases eoX4
    replace hM1 : L_impl_FirstDefect_1 p1_1 p0_1 p1_0 p1_2 m7 u5 = some X4 := hM1
    obtain _ | m7 := m7
    · cases (show (none : Option _) = some X4 from hM1)
    rw [L_impl_FirstDefect_1_succ] at hM1
    refine And.intro (fun hc8 => ?_) (fun hc8 => ?_)
    · have hc8 : ((decide (u5 < p1_1))) = true := hc8
      rw [if_pos hc8] at hM1
      obtain ⟨X9, hLX9, hM1⟩ := bsome hM1
      refine Exists.intro { vars := [35], boxes := [], owns := [], fuel := true } (Exists.intro (fun vs os h' => ∃ (u10 : Int), vs.tail = [.int .i64 u10] ∧ os = [] ∧ Sub k6 h' ∧ In64 u10 ∧ L_impl_FirstDefect_0 p0_1 p1_0 p1_1 p1_2 u5 (fuelOf vs) u10 = some X9) (Exists.intro (fun _ _ => 0) ?_))
      refine And.intro (Exists.intro FUEL ⟨0, rfl, rfl, (Sub.refl _), (c64 (by decide) (by decide)), hLX9⟩) ?_
      rintro v_0 m12 k11 ⟨u10, evX9, eoX9, sX9, iu10, hM2⟩
      cases evX9
      cases eoX9
      replace hM2 : L_impl_FirstDefect_0 p0_1 p1_0 p1_1 p1_2 u5 m12 u10 = some X9 := hM2
      obtain _ | m12 := m12
      · cases (show (none : Option _) = some X9 from hM2)
      rw [L_impl_FirstDefect_0_succ] at hM2
      refine And.intro (fun hc13 => ?_) (fun hc13 => ?_)
      · have hc13 : ((decide (u10 < ((p0_1.length : Nat) : Int)))) = true := hc13
        rw [if_pos hc13] at hM2
        obtain ⟨x14, gx14, hM2⟩ := bsome hM2
        obtain ⟨bx14, csx14, ex14, rx14⟩ := Sl.getI (r := wIntS.toRp) (wIntSS.mono (sX4.trans sX9) rp0_1) gx14 (by decide)
        refine And.intro bx14 ?_
        obtain ⟨ax14, nx14, cx14, rfl⟩ := Wp.slice_cell rx14
        obtain ⟨rfl, lx14⟩ := Sl.len rx14
        refine Exists.intro _ (And.intro ex14 ?_)
        obtain ⟨x15, gx15, hM2⟩ := bsome hM2
        obtain ⟨x15_0, x15_1⟩ := x15
        dsimp only at hM2
        refine Tr.val (t_impl_Graph_read _ [.int .i64 p1_0, .int .i64 p1_1, .slice ap1_2 p1_2.length cp1_2] (p1_0, p1_1, p1_2) (closeGraph ip1_0 ip1_1 (wEdgeS.mono (sX4.trans sX9) rp1_2)) u5 iu5 ax14 x14.length cx14 x14 rx14 _  gx15) ?_
        obtain ⟨q16, gq16, hM2⟩ := bsome hM2
        have ix15_0 : In64 x15_0 := grd_some gq16
        obtain ⟨q17, gq17, hM2⟩ := bsome hM2
        have ix15_1 : In64 x15_1 := grd_some gq17
        refine And.intro (fun hc18 => ?_) (fun hc18 => ?_)
        · have hc18 : ((bif (decide (x15_1 < ((x14.length : Nat) : Int))) then true else (!decide (x15_0 = u5)))) = true := hc18
          rw [if_pos hc18] at hM2
          have hE := Option.some.inj hM2; subst hE
          try dsimp only [outK_inl, outL_inl] at hM1
          have hE := Option.some.inj hM1; subst hE
          try dsimp only [outK_inl, outL_inl] at hM0
          have hE := Option.some.inj hM0; subst hE
          exact And.intro rfl (sX4.trans sX9)
        · have hc18 : ((bif (decide (x15_1 < ((x14.length : Nat) : Int))) then true else (!decide (x15_0 = u5)))) = false := hc18
          rw [if_neg (bneT hc18)] at hM2
          refine And.intro rfl (And.intro (by first | exact trivial | exact And.intro rfl trivial | exact And.intro rfl (And.intro rfl trivial) | exact And.intro rfl (And.intro rfl (And.intro rfl trivial)) | exact And.intro rfl (And.intro rfl (And.intro rfl (And.intro rfl trivial)))) (And.intro (by first | exact trivial | exact And.intro rfl trivial | exact And.intro rfl (And.intro rfl trivial) | exact And.intro rfl (And.intro rfl (And.intro rfl trivial)) | exact And.intro rfl (And.intro rfl (And.intro rfl (And.intro rfl trivial)))) (Exists.intro m12 (And.intro ⟨(IntKind.i64.wrap (u10 + 1)), rfl, rfl, sX9, (wrap64 _), hM2⟩ (Nat.lt_succ_self _)))))
      · have hc13 : ((decide (u10 < ((p0_1.length : Nat) : Int)))) = false := hc13
        rw [if_neg (bneT hc13)] at hM2
        have hE := Option.some.inj hM2; subst hE
        try dsimp only [outK_inr, outL_inr] at hM1
        refine And.intro rfl (And.intro (by first | exact trivial | exact And.intro rfl trivial | exact And.intro rfl (And.intro rfl trivial) | exact And.intro rfl (And.intro rfl (And.intro rfl trivial)) | exact And.intro rfl (And.intro rfl (And.intro rfl (And.intro rfl trivial)))) (And.intro (by first | exact trivial | exact And.intro rfl trivial | exact And.intro rfl (And.intro rfl trivial) | exact And.intro rfl (And.intro rfl (And.intro rfl trivial)) | exact And.intro rfl (And.intro rfl (And.intro rfl (And.intro rfl trivial)))) (Exists.intro m7 (And.intro ⟨(IntKind.i64.wrap (u5 + 1)), rfl, rfl, (sX4.trans sX9), (wrap64 _), hM1⟩ (Nat.lt_succ_self _)))))
    · have hc8 : ((decide (u5 < p1_1))) = false := hc8
      rw [if_neg (bneT hc8)] at hM1
      have hE := Option.some.inj hM1; subst hE
      try dsimp only [outK_inr, outL_inr] at hM0
      have hE := Option.some.inj hM0; subst hE
      exact And.intro rfl sX4

end Go.Proofs.Ythccjgkmmclplaa
