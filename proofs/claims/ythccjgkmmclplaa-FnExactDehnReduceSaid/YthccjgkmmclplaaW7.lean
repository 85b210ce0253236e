/- The walks of batch 7. -/
import Derived.Test.YthccjgkmmclplaaA7
import Derived.Test.YthccjgkmmclplaaChecked
import Derived.Test.YthccjgkmmclplaaH35
import Derived.Test.YthccjgkmmclplaaW1
import Derived.Test.YthccjgkmmclplaaW3
import Derived.Test.YthccjgkmmclplaaW5
import Derived.Test.YthccjgkmmclplaaW6
import Derived.Test.YthccjgkmmclplaaSO
namespace Go.Proofs.Ythccjgkmmclplaa
open Go.H
set_option linter.unusedVariables false
set_option linter.unusedSimpArgs false
set_option maxRecDepth 10000
theorem t_impl_SymmetrizedSet (h : Hp) (csp0 : List Value) (p0 : LPresentation) (rp0 : wPresentation.R h csp0 p0) (r : LIntSS) (hM0 : M_impl_SymmetrizedSet p0 = some r) :
    Tr Try.prog 16 #[.agg csp0.toArray] h fun v h' => ∃ (a0 : Option Addr) (n0 c0 : Nat), v = .slice a0 n0 c0 ∧ New wIntSS h h' [.slice a0 n0 c0] r := by
  obtain ⟨p0_0, ap0_1, np0_1, cp0_1, p0_1, rfl, rfl, ip0_0, rp0_1⟩ := openPresentation rp0
  obtain ⟨rfl, lp0_1⟩ := Sl.len rp0_1
  unfold M_impl_SymmetrizedSet at hM0
  dsimp only at hM0
  refine walk (args := [.agg #[.int .i64 p0_0, .slice ap0_1 p0_1.length cp0_1]]) (fn := Try.f16) rfl ?_
  obtain ⟨x1, gx1, hM0⟩ := bsome hM0
  refine Tr.val (t_impl_IsPresentation _ [.int .i64 p0_0, .slice ap0_1 p0_1.length cp0_1] (p0_0, p0_1) (closePresentation ip0_0 rp0_1) _  gx1) ?_
  refine And.intro (fun hc2 => ?_) (fun hc2 => ?_)
  · have hc2 : ((!x1)) = true := hc2
    rw [if_pos hc2] at hM0
    intro v3 k4 f5
    have nz6 : New (Wp.slice wIntS) h k4 [v3] ([] : LIntSS) := (Froze.fresh (r := wIntS) f5 (show F3 (wIntS.W h) [] [] [] from trivial) (Sub.refl _) (Fresh.nil h))
    obtain ⟨az6, cz6, rfl, rz6, sz6, lz6⟩ := Froze.out (r := wIntS.toRp) f5 (show F2 (wIntS.R h) ([] : List (List Value)) ([] : LIntSS) from trivial)
    have hE := Option.some.inj hM0; subst hE
    exact ⟨az6, (([] : LIntSS)).length, cz6, rfl, nz6⟩
  · have hc2 : ((!x1)) = false := hc2
    rw [if_neg (bneT hc2)] at hM0
    obtain ⟨X7, hLX7, hM0⟩ := bsome hM0
    refine Exists.intro { vars := [17], boxes := [], owns := [0], fuel := true } (Exists.intro (fun vs os h' => ∃ (u8 : Int) (wu9 : List (List Value)) (u9 : List LIntS), vs.tail = [.int .i64 u8] ∧ os = [wu9] ∧ Sub h h' ∧ In64 u8 ∧ F2 (wIntS.R h') wu9 u9 ∧ (∃ Bs, F3 (wIntS.W h') wu9 u9 Bs ∧ Fresh h Bs.flatten) ∧ L_impl_SymmetrizedSet_2 p0_1 (fuelOf vs) u8 u9 = some X7) (Exists.intro (fun _ _ => 0) ?_))
    refine And.intro (Exists.intro FUEL ⟨0, [], ([] : LIntSS), rfl, rfl, (Sub.refl _), (c64 (by decide) (by decide)), (show F2 (wIntS.R h) ([] : List (List Value)) ([] : LIntSS) from trivial), ⟨_, (show F3 (wIntS.W h) [] [] [] from trivial), (Fresh.nil h)⟩, hLX7⟩) ?_
    rintro v_0 wu9 m11 k10 ⟨u8, zzu9, u9, evX7, eoX7, sX7, iu8, fu9, ⟨bbu9, ttu9, ffu9⟩, hM1⟩
    cases evX7
    cases eoX7
    replace hM1 : L_impl_SymmetrizedSet_2 p0_1 m11 u8 u9 = some X7 := hM1
    obtain _ | m11 := m11
    · cases (show (none : Option _) = some X7 from hM1)
    rw [L_impl_SymmetrizedSet_2_succ] at hM1
    refine And.intro (fun hc12 => ?_) (fun hc12 => ?_)
    · have hc12 : ((decide (u8 < ((p0_1.length : Nat) : Int)))) = true := hc12
      rw [if_pos hc12] at hM1
      obtain ⟨x13, gx13, hM1⟩ := bsome hM1
      obtain ⟨bx13, csx13, ex13, rx13⟩ := Sl.getI (r := wIntS.toRp) (wIntSS.mono sX7 rp0_1) gx13 (by decide)
      refine And.intro bx13 ?_
      obtain ⟨ax13, nx13, cx13, rfl⟩ := Wp.slice_cell rx13
      obtain ⟨rfl, lx13⟩ := Sl.len rx13
      refine Exists.intro _ (And.intro ex13 ?_)
      obtain ⟨x14, gx14, hM1⟩ := bsome hM1
      refine Tr.mono (t_impl_InvertWord _ ax13 x13.length cx13 x13 rx13 _  gx14) ?_
      rintro v16 k15 ⟨ax14, nx14, cx14, rfl, wx14⟩
      have sx14 : Sub k10 k15 := wx14.sub
      have rx14 := wx14.r
      obtain ⟨rfl, lx14⟩ := Sl.len rx14
      obtain ⟨X17, hLX17, hM1⟩ := bsome hM1
      refine Exists.intro { vars := [26], boxes := [], owns := [0], fuel := true } (Exists.intro (fun vs os h' => ∃ (u18 : Int) (wu19 : List (List Value)) (u19 : List LIntS), vs.tail = [.int .i64 u18] ∧ os = [wu19] ∧ Sub k15 h' ∧ In64 u18 ∧ F2 (wIntS.R h') wu19 u19 ∧ (∃ Bs, F3 (wIntS.W h') wu19 u19 Bs ∧ Fresh h Bs.flatten) ∧ L_impl_SymmetrizedSet_1 x13 x14 (fuelOf vs) u18 u19 = some X17) (Exists.intro (fun _ _ => 0) ?_))
      refine And.intro (Exists.intro FUEL ⟨0, wu9, u9, rfl, rfl, (Sub.refl _), (c64 (by decide) (by decide)), (F2.up (r := wIntS.toRp) sx14 fu9), ⟨_, (newer ttu9 sx14), ffu9⟩, hLX17⟩) ?_
      rintro v_0 wu19 m21 k20 ⟨u18, zzu19, u19, evX17, eoX17, sX17, iu18, fu19, ⟨bbu19, ttu19, ffu19⟩, hM2⟩
      cases evX17
      cases eoX17
      replace hM2 : L_impl_SymmetrizedSet_1 x13 x14 m21 u18 u19 = some X17 := hM2
      obtain _ | m21 := m21
      · cases (show (none : Option _) = some X17 from hM2)
      rw [L_impl_SymmetrizedSet_1_succ] at hM2
      refine And.intro (fun hc22 => ?_) (fun hc22 => ?_)
      · have hc22 : ((decide (u18 < ((2 : Nat) : Int)))) = true := hc22
        rw [if_pos hc22] at hM2
        obtain ⟨x23, gx23, hM2⟩ := bsome hM2
        obtain ⟨bx23, csx23, ex23, rx23⟩ := oel_get (F2.up (r := wIntS.toRp) sX17 (show F2 (wIntS.R k15) ([[.slice ax13 x13.length cx13], [.slice ax14 x14.length cx14]] : List (List Value)) [x13, x14] from ⟨(wIntS.mono sx14 rx13), ⟨rx14, trivial⟩⟩)) gx23
        refine And.intro bx23 ?_
        obtain ⟨ax23, nx23, cx23, rfl⟩ := Wp.slice_cell rx23
        obtain ⟨rfl, lx23⟩ := Sl.len rx23
        refine Exists.intro _ (And.intro ex23 ?_)
        obtain ⟨X24, hLX24, hM2⟩ := bsome hM2
        refine Exists.intro { vars := [32], boxes := [], owns := [0], fuel := true } (Exists.intro (fun vs os h' => ∃ (u25 : Int) (wu26 : List (List Value)) (u26 : List LIntS), vs.tail = [.int .i64 u25] ∧ os = [wu26] ∧ Sub k20 h' ∧ In64 u25 ∧ F2 (wIntS.R h') wu26 u26 ∧ (∃ Bs, F3 (wIntS.W h') wu26 u26 Bs ∧ Fresh h Bs.flatten) ∧ L_impl_SymmetrizedSet_0 x23 (fuelOf vs) u25 u26 = some X24) (Exists.intro (fun _ _ => 0) ?_))
        refine And.intro (Exists.intro FUEL ⟨0, wu19, u19, rfl, rfl, (Sub.refl _), (c64 (by decide) (by decide)), fu19, ⟨_, ttu19, ffu19⟩, hLX24⟩) ?_
        rintro v_0 wu26 m28 k27 ⟨u25, zzu26, u26, evX24, eoX24, sX24, iu25, fu26, ⟨bbu26, ttu26, ffu26⟩, hM3⟩
        cases evX24
        cases eoX24
        replace hM3 : L_impl_SymmetrizedSet_0 x23 m28 u25 u26 = some X24 := hM3
        obtain _ | m28 := m28
        · cases (show (none : Option _) = some X24 from hM3)
        rw [L_impl_SymmetrizedSet_0_succ] at hM3
        refine And.intro (fun hc29 => ?_) (fun hc29 => ?_)
        · have hc29 : ((decide (u25 < ((x23.length : Nat) : Int)))) = true := hc29
          rw [if_pos hc29] at hM3
          obtain ⟨x30, gx30, hM3⟩ := bsome hM3
          refine Tr.mono (t_impl_RotateWord _ ax23 x23.length cx23 x23 (wIntS.mono sX24 rx23) u25 iu25 _  gx30) ?_
          rintro v32 k31 ⟨ax30, nx30, cx30, rfl, wx30⟩
          have sx30 : Sub k27 k31 := wx30.sub
          have rx30 := wx30.r
          obtain ⟨rfl, lx30⟩ := Sl.len rx30
          obtain ⟨q33, gq33, hM3⟩ := bsome hM3
          refine And.intro (room_of gq33 (by first | rw [F2.length (F2.up (r := wIntS.toRp) sx30 fu26), F2.length (show F2 (wIntS.R k31) ([[.slice ax30 x30.length cx30]] : List (List Value)) [x30] from ⟨rx30, trivial⟩)] | exact congrArg (· + 1) (F2.length (F2.up (r := wIntS.toRp) sx30 fu26)))) ?_
          obtain ⟨Bb34, wb34, fb34, _⟩ := wx30
          refine And.intro rfl (And.intro (by first | exact trivial | exact And.intro rfl trivial | exact And.intro rfl (And.intro rfl trivial) | exact And.intro rfl (And.intro rfl (And.intro rfl trivial)) | exact And.intro rfl (And.intro rfl (And.intro rfl (And.intro rfl trivial)))) (And.intro (by first | exact trivial | exact And.intro rfl trivial | exact And.intro rfl (And.intro rfl trivial) | exact And.intro rfl (And.intro rfl (And.intro rfl trivial)) | exact And.intro rfl (And.intro rfl (And.intro rfl (And.intro rfl trivial)))) (Exists.intro m28 (And.intro ⟨(IntKind.i64.wrap (u25 + 1)), (wu26 ++ ([[.slice ax30 x30.length cx30]] : List (List Value))), (u26 ++ [x30]), rfl, rfl, (sX24.trans sx30), (wrap64 _), (F2.append (F2.up (r := wIntS.toRp) sx30 fu26) (show F2 (wIntS.R k31) ([[.slice ax30 x30.length cx30]] : List (List Value)) [x30] from ⟨rx30, trivial⟩)), ⟨_, (F3.snoc wb34 (newer ttu26 sx30)), (fresh_snoc ttu26 (((sX7.trans sx14).trans sX17).trans sX24) ffu26 fb34)⟩, hM3⟩ (Nat.lt_succ_self _)))))
        · have hc29 : ((decide (u25 < ((x23.length : Nat) : Int)))) = false := hc29
          rw [if_neg (bneT hc29)] at hM3
          have hE := Option.some.inj hM3; subst hE
          try dsimp only [outK_inr, outL_inr] at hM2
          refine And.intro rfl (And.intro (by first | exact trivial | exact And.intro rfl trivial | exact And.intro rfl (And.intro rfl trivial) | exact And.intro rfl (And.intro rfl (And.intro rfl trivial)) | exact And.intro rfl (And.intro rfl (And.intro rfl (And.intro rfl trivial)))) (And.intro (by first | exact trivial | exact And.intro rfl trivial | exact And.intro rfl (And.intro rfl trivial) | exact And.intro rfl (And.intro rfl (And.intro rfl trivial)) | exact And.intro rfl (And.intro rfl (And.intro rfl (And.intro rfl trivial)))) (Exists.intro m21 (And.intro ⟨(IntKind.i64.wrap (u18 + 1)), wu26, u26, rfl, rfl, (sX17.trans sX24), (wrap64 _), fu26, ⟨_, ttu26, ffu26⟩, hM2⟩ (Nat.lt_succ_self _)))))
      · have hc22 : ((decide (u18 < ((2 : Nat) : Int)))) = false := hc22
        rw [if_neg (bneT hc22)] at hM2
        have hE := Option.some.inj hM2; subst hE
        try dsimp only [outK_inr, outL_inr] at hM1
        refine And.intro rfl (And.intro (by first | exact trivial | exact And.intro rfl trivial | exact And.intro rfl (And.intro rfl trivial) | exact And.intro rfl (And.intro rfl (And.intro rfl trivial)) | exact And.intro rfl (And.intro rfl (And.intro rfl (And.intro rfl trivial)))) (And.intro (by first | exact trivial | exact And.intro rfl trivial | exact And.intro rfl (And.intro rfl trivial) | exact And.intro rfl (And.intro rfl (And.intro rfl trivial)) | exact And.intro rfl (And.intro rfl (And.intro rfl (And.intro rfl trivial)))) (Exists.intro m11 (And.intro ⟨(IntKind.i64.wrap (u8 + 1)), wu19, u19, rfl, rfl, ((sX7.trans sx14).trans sX17), (wrap64 _), fu19, ⟨_, ttu19, ffu19⟩, hM1⟩ (Nat.lt_succ_self _)))))
    · have hc12 : ((decide (u8 < ((p0_1.length : Nat) : Int)))) = false := hc12
      rw [if_neg (bneT hc12)] at hM1
      have hE := Option.some.inj hM1; subst hE
      try dsimp only [outK_inr, outL_inr] at hM0
      refine Or.inl ?_
      intro v43 k44 f45
      obtain ⟨q46, gq46, hM0⟩ := bsome hM0
      refine Tr.mono (t_sortWordsW _ f45 ttu9 (grd_some gq46)) ?_
      rintro _ kz47 ⟨rfl, vsz47, Bsz47, fz47, tz47, pz47⟩
      have qz47 := F3.f2 (q := wIntS.R k10) (fun _ _ _ h => wIntS.toR h) tz47
      obtain ⟨az47, cz47, rfl, rz47, sz47, lz47⟩ := Froze.out (r := wIntS.toRp) fz47 qz47
      have nz47 : New (Wp.slice wIntS) h kz47 _ (srtL F_CompareWords u9) := Froze.fresh (r := wIntS) fz47 tz47 sX7 (Fresh.perm ffu9 pz47)
      refine Tr.mono (t_compWordsW _ fz47 tz47) ?_
      rintro _ kz48 ⟨vsz48, Bsz48, fz48, tz48, pz48⟩
      have qz48 := F3.f2 (q := wIntS.R k10) (fun _ _ _ h => wIntS.toR h) tz48
      obtain ⟨az48, cz48, rfl, rz48, sz48, lz48⟩ := Froze.out (r := wIntS.toRp) fz48 qz48
      have nz48 : New (Wp.slice wIntS) h kz48 _ (compL eqW (srtL F_CompareWords u9)) := Froze.fresh (r := wIntS) fz48 tz48 sX7 (Fresh.sublist (Fresh.perm ffu9 pz47) pz48)
      have hE := Option.some.inj hM0; subst hE
      exact ⟨az48, ((compL eqW (srtL F_CompareWords u9))).length, cz48, rfl, nz48⟩

theorem t_impl_LongestPiece (h : Hp) (csp0 : List Value) (p0 : LPresentation) (rp0 : wPresentation.R h csp0 p0) (r : Int) (hM0 : M_impl_LongestPiece p0 = some r) :
    Tr Try.prog 13 #[.agg csp0.toArray] h fun v h' => v = .int .i64 r ∧ h' = h := by
  obtain ⟨p0_0, ap0_1, np0_1, cp0_1, p0_1, rfl, rfl, ip0_0, rp0_1⟩ := openPresentation rp0
  obtain ⟨rfl, lp0_1⟩ := Sl.len rp0_1
  unfold M_impl_LongestPiece at hM0
  dsimp only at hM0
  refine Tr.forget (walk (args := [.agg #[.int .i64 p0_0, .slice ap0_1 p0_1.length cp0_1]]) (fn := Try.f13) rfl ?_)
  obtain ⟨x1, gx1, hM0⟩ := bsome hM0
  refine Tr.mono (t_impl_SymmetrizedSet _ [.int .i64 p0_0, .slice ap0_1 p0_1.length cp0_1] (p0_0, p0_1) (closePresentation ip0_0 rp0_1) _  gx1) ?_
  rintro v3 k2 ⟨ax1, nx1, cx1, rfl, wx1⟩
  have sx1 : Sub h k2 := wx1.sub
  have rx1 := wx1.r
  obtain ⟨rfl, lx1⟩ := Sl.len rx1
  obtain ⟨X4, hLX4, hM0⟩ := bsome hM0
  refine Exists.intro { vars := [3, 13], boxes := [], owns := [], fuel := true } (Exists.intro (fun vs os h' => ∃ (u5 : Int) (u6 : Int), vs.tail = [.int .i64 u5, .int .i64 u6] ∧ os = [] ∧ Sub k2 h' ∧ In64 u5 ∧ In64 u6 ∧ L_impl_LongestPiece_1 x1 (fuelOf vs) u5 u6 = some X4) (Exists.intro (fun _ _ => 0) ?_))
  refine And.intro (Exists.intro FUEL ⟨0, 0, rfl, rfl, (Sub.refl _), (c64 (by decide) (by decide)), (c64 (by decide) (by decide)), hLX4⟩) ?_
  rintro v_0 v_1 m8 k7 ⟨u5, u6, evX4, eoX4, sX4, iu5, iu6, hM1⟩
  cases evX4
  cases eoX4
  replace hM1 : L_impl_LongestPiece_1 x1 m8 u5 u6 = some X4 := hM1
  obtain _ | m8 := m8
  · cases (show (none : Option _) = some X4 from hM1)
  rw [L_impl_LongestPiece_1_succ] at hM1
  refine And.intro (fun hc9 => ?_) (fun hc9 => ?_)
  · have hc9 : ((decide (u6 < ((x1.length : Nat) : Int)))) = true := hc9
    rw [if_pos hc9] at hM1
    obtain ⟨x10, gx10, hM1⟩ := bsome hM1
    obtain ⟨bx10, csx10, ex10, rx10⟩ := Sl.getI (r := wIntS.toRp) (wIntSS.mono sX4 rx1) gx10 (by decide)
    refine And.intro bx10 ?_
    obtain ⟨ax10, nx10, cx10, rfl⟩ := Wp.slice_cell rx10
    obtain ⟨rfl, lx10⟩ := Sl.len rx10
    refine Exists.intro _ (And.intro ex10 ?_)
    obtain ⟨x11, gx11, hM1⟩ := bsome hM1
    obtain ⟨qx11, vsx11, ex11, fx11⟩ := Sl.cutI (r := wIntS.toRp) (wIntSS.mono sX4 rx1) gx11
    refine And.intro qx11 (Exists.intro vsx11 (And.intro ex11 ?_))
    intro vx11 hvx11 _
    obtain ⟨ax11, cx11, rfl, rx11⟩ := fx11 vx11 hvx11
    have lx11 := (Sl.len rx11).2
    obtain ⟨X12, hLX12, hM1⟩ := bsome hM1
    refine Exists.intro { vars := [3, 23], boxes := [], owns := [], fuel := true } (Exists.intro (fun vs os h' => ∃ (u13 : Int) (u14 : Int), vs.tail = [.int .i64 u13, .int .i64 u14] ∧ os = [] ∧ Sub k7 h' ∧ In64 u13 ∧ In64 u14 ∧ L_impl_LongestPiece_0 x11 x10 (fuelOf vs) u13 u14 = some X12) (Exists.intro (fun _ _ => 0) ?_))
    refine And.intro (Exists.intro FUEL ⟨u5, 0, rfl, rfl, (Sub.refl _), iu5, (c64 (by decide) (by decide)), hLX12⟩) ?_
    rintro v_0 v_1 m16 k15 ⟨u13, u14, evX12, eoX12, sX12, iu13, iu14, hM2⟩
    cases evX12
    cases eoX12
    replace hM2 : L_impl_LongestPiece_0 x11 x10 m16 u13 u14 = some X12 := hM2
    obtain _ | m16 := m16
    · cases (show (none : Option _) = some X12 from hM2)
    rw [L_impl_LongestPiece_0_succ] at hM2
    refine And.intro (fun hc17 => ?_) (fun hc17 => ?_)
    · have hc17 : ((decide (u14 < ((x11.length : Nat) : Int)))) = true := hc17
      rw [if_pos hc17] at hM2
      obtain ⟨x18, gx18, hM2⟩ := bsome hM2
      obtain ⟨bx18, csx18, ex18, rx18⟩ := Sl.getI (r := wIntS.toRp) (wIntSS.mono sX12 rx11) gx18 (by decide)
      refine And.intro bx18 ?_
      obtain ⟨ax18, nx18, cx18, rfl⟩ := Wp.slice_cell rx18
      obtain ⟨rfl, lx18⟩ := Sl.len rx18
      refine Exists.intro _ (And.intro ex18 ?_)
      obtain ⟨x19, gx19, hM2⟩ := bsome hM2
      refine Tr.val (t_impl_common _ ax10 x10.length cx10 x10 (wIntS.mono sX12 rx10) ax18 x18.length cx18 x18 rx18 _  gx19) ?_
      obtain ⟨q20, gq20, hM2⟩ := bsome hM2
      have ix19 : In64 x19 := grd_some gq20
      refine And.intro rfl (And.intro (by first | exact trivial | exact And.intro rfl trivial | exact And.intro rfl (And.intro rfl trivial) | exact And.intro rfl (And.intro rfl (And.intro rfl trivial)) | exact And.intro rfl (And.intro rfl (And.intro rfl (And.intro rfl trivial)))) (And.intro (by first | exact trivial | exact And.intro rfl trivial | exact And.intro rfl (And.intro rfl trivial) | exact And.intro rfl (And.intro rfl (And.intro rfl trivial)) | exact And.intro rfl (And.intro rfl (And.intro rfl (And.intro rfl trivial)))) (Exists.intro m16 (And.intro ⟨(if x19 > u13 then x19 else u13), (IntKind.i64.wrap (u14 + 1)), rfl, rfl, sX12, (ite64 ix19 iu13), (wrap64 _), hM2⟩ (Nat.lt_succ_self _)))))
    · have hc17 : ((decide (u14 < ((x11.length : Nat) : Int)))) = false := hc17
      rw [if_neg (bneT hc17)] at hM2
      have hE := Option.some.inj hM2; subst hE
      try dsimp only [outK_inr, outL_inr] at hM1
      refine And.intro rfl (And.intro (by first | exact trivial | exact And.intro rfl trivial | exact And.intro rfl (And.intro rfl trivial) | exact And.intro rfl (And.intro rfl (And.intro rfl trivial)) | exact And.intro rfl (And.intro rfl (And.intro rfl (And.intro rfl trivial)))) (And.intro (by first | exact trivial | exact And.intro rfl trivial | exact And.intro rfl (And.intro rfl trivial) | exact And.intro rfl (And.intro rfl (And.intro rfl trivial)) | exact And.intro rfl (And.intro rfl (And.intro rfl (And.intro rfl trivial)))) (Exists.intro m8 (And.intro ⟨u13, (IntKind.i64.wrap (u6 + 1)), rfl, rfl, (sX4.trans sX12), iu13, (wrap64 _), hM1⟩ (Nat.lt_succ_self _)))))
  · have hc9 : ((decide (u6 < ((x1.length : Nat) : Int)))) = false := hc9
    rw [if_neg (bneT hc9)] at hM1
    have hE := Option.some.inj hM1; subst hE
    try dsimp only [outK_inr, outL_inr] at hM0
    have hE := Option.some.inj hM0; subst hE
    exact And.intro rfl (sx1.trans sX4)

theorem t_impl_IsSixth (h : Hp) (csp0 : List Value) (p0 : LPresentation) (rp0 : wPresentation.R h csp0 p0) (r : Bool) (hM0 : M_impl_IsSixth p0 = some r) :
    Tr Try.prog 22 #[.agg csp0.toArray] h fun v h' => v = .bool r ∧ h' = h := by
  obtain ⟨p0_0, ap0_1, np0_1, cp0_1, p0_1, rfl, rfl, ip0_0, rp0_1⟩ := openPresentation rp0
  obtain ⟨rfl, lp0_1⟩ := Sl.len rp0_1
  unfold M_impl_IsSixth at hM0
  dsimp only at hM0
  refine Tr.forget (walk (args := [.agg #[.int .i64 p0_0, .slice ap0_1 p0_1.length cp0_1]]) (fn := Try.f22) rfl ?_)
  obtain ⟨x1, gx1, hM0⟩ := bsome hM0
  refine Tr.val (t_impl_IsPresentation _ [.int .i64 p0_0, .slice ap0_1 p0_1.length cp0_1] (p0_0, p0_1) (closePresentation ip0_0 rp0_1) _  gx1) ?_
  refine And.intro (fun hc2 => ?_) (fun hc2 => ?_)
  · have hc2 : ((!x1)) = true := hc2
    rw [if_pos hc2] at hM0
    have hE := Option.some.inj hM0; subst hE
    exact And.intro rfl (Sub.refl _)
  · have hc2 : ((!x1)) = false := hc2
    rw [if_neg (bneT hc2)] at hM0
    obtain ⟨x3, gx3, hM0⟩ := bsome hM0
    refine Tr.mono (t_impl_SymmetrizedSet _ [.int .i64 p0_0, .slice ap0_1 p0_1.length cp0_1] (p0_0, p0_1) (closePresentation ip0_0 rp0_1) _  gx3) ?_
    rintro v5 k4 ⟨ax3, nx3, cx3, rfl, wx3⟩
    have sx3 : Sub h k4 := wx3.sub
    have rx3 := wx3.r
    obtain ⟨rfl, lx3⟩ := Sl.len rx3
    obtain ⟨X6, hLX6, hM0⟩ := bsome hM0
    refine Exists.intro { vars := [15], boxes := [], owns := [], fuel := true } (Exists.intro (fun vs os h' => ∃ (u7 : Int), vs.tail = [.int .i64 u7] ∧ os = [] ∧ Sub k4 h' ∧ In64 u7 ∧ L_impl_IsSixth_1 x3 (fuelOf vs) u7 = some X6) (Exists.intro (fun _ _ => 0) ?_))
    refine And.intro (Exists.intro FUEL ⟨0, rfl, rfl, (Sub.refl _), (c64 (by decide) (by decide)), hLX6⟩) ?_
    rintro v_0 m9 k8 ⟨u7, evX6, eoX6, sX6, iu7, hM1⟩
    cases evX6
    cases eoX6
    replace hM1 : L_impl_IsSixth_1 x3 m9 u7 = some X6 := hM1
    obtain _ | m9 := m9
    · cases (show (none : Option _) = some X6 from hM1)
    rw [L_impl_IsSixth_1_succ] at hM1
    refine And.intro (fun hc10 => ?_) (fun hc10 => ?_)
    · have hc10 : ((decide (u7 < ((x3.length : Nat) : Int)))) = true := hc10
      rw [if_pos hc10] at hM1
      obtain ⟨x11, gx11, hM1⟩ := bsome hM1
      obtain ⟨bx11, csx11, ex11, rx11⟩ := Sl.getI (r := wIntS.toRp) (wIntSS.mono sX6 rx3) gx11 (by decide)
      refine And.intro bx11 ?_
      obtain ⟨ax11, nx11, cx11, rfl⟩ := Wp.slice_cell rx11
      obtain ⟨rfl, lx11⟩ := Sl.len rx11
      refine Exists.intro _ (And.intro ex11 ?_)
      obtain ⟨x12, gx12, hM1⟩ := bsome hM1
      obtain ⟨qx12, vsx12, ex12, fx12⟩ := Sl.cutI (r := wIntS.toRp) (wIntSS.mono sX6 rx3) gx12
      refine And.intro qx12 (Exists.intro vsx12 (And.intro ex12 ?_))
      intro vx12 hvx12 _
      obtain ⟨ax12, cx12, rfl, rx12⟩ := fx12 vx12 hvx12
      have lx12 := (Sl.len rx12).2
      obtain ⟨X13, hLX13, hM1⟩ := bsome hM1
      refine Exists.intro { vars := [25], boxes := [], owns := [], fuel := true } (Exists.intro (fun vs os h' => ∃ (u14 : Int), vs.tail = [.int .i64 u14] ∧ os = [] ∧ Sub k8 h' ∧ In64 u14 ∧ L_impl_IsSixth_0 x12 x11 (fuelOf vs) u14 = some X13) (Exists.intro (fun _ _ => 0) ?_))
      refine And.intro (Exists.intro FUEL ⟨0, rfl, rfl, (Sub.refl _), (c64 (by decide) (by decide)), hLX13⟩) ?_
      rintro v_0 m16 k15 ⟨u14, evX13, eoX13, sX13, iu14, hM2⟩
      cases evX13
      cases eoX13
      replace hM2 : L_impl_IsSixth_0 x12 x11 m16 u14 = some X13 := hM2
      obtain _ | m16 := m16
      · cases (show (none : Option _) = some X13 from hM2)
      rw [L_impl_IsSixth_0_succ] at hM2
      refine And.intro (fun hc17 => ?_) (fun hc17 => ?_)
      · have hc17 : ((decide (u14 < ((x12.length : Nat) : Int)))) = true := hc17
        rw [if_pos hc17] at hM2
        obtain ⟨x18, gx18, hM2⟩ := bsome hM2
        obtain ⟨bx18, csx18, ex18, rx18⟩ := Sl.getI (r := wIntS.toRp) (wIntSS.mono sX13 rx12) gx18 (by decide)
        refine And.intro bx18 ?_
        obtain ⟨ax18, nx18, cx18, rfl⟩ := Wp.slice_cell rx18
        obtain ⟨rfl, lx18⟩ := Sl.len rx18
        refine Exists.intro _ (And.intro ex18 ?_)
        obtain ⟨x19, gx19, hM2⟩ := bsome hM2
        refine Tr.val (t_impl_common _ ax11 x11.length cx11 x11 (wIntS.mono sX13 rx11) ax18 x18.length cx18 x18 rx18 _  gx19) ?_
        obtain ⟨q20, gq20, hM2⟩ := bsome hM2
        have ix19 : In64 x19 := grd_some gq20
        refine And.intro (fun hc21 => ?_) (fun hc21 => ?_)
        · have hc21 : ((decide ((IntKind.i64.wrap (6 * x19)) ≥ (if ((x18.length : Nat) : Int) < ((x11.length : Nat) : Int) then ((x18.length : Nat) : Int) else ((x11.length : Nat) : Int))))) = true := hc21
          rw [if_pos hc21] at hM2
          have hE := Option.some.inj hM2; subst hE
          try dsimp only [outK_inl, outL_inl] at hM1
          have hE := Option.some.inj hM1; subst hE
          try dsimp only [outK_inl, outL_inl] at hM0
          have hE := Option.some.inj hM0; subst hE
          exact And.intro rfl ((sx3.trans sX6).trans sX13)
        · have hc21 : ((decide ((IntKind.i64.wrap (6 * x19)) ≥ (if ((x18.length : Nat) : Int) < ((x11.length : Nat) : Int) then ((x18.length : Nat) : Int) else ((x11.length : Nat) : Int))))) = false := hc21
          rw [if_neg (bneT hc21)] at hM2
          refine And.intro rfl (And.intro (by first | exact trivial | exact And.intro rfl trivial | exact And.intro rfl (And.intro rfl trivial) | exact And.intro rfl (And.intro rfl (And.intro rfl trivial)) | exact And.intro rfl (And.intro rfl (And.intro rfl (And.intro rfl trivial)))) (And.intro (by first | exact trivial | exact And.intro rfl trivial | exact And.intro rfl (And.intro rfl trivial) | exact And.intro rfl (And.intro rfl (And.intro rfl trivial)) | exact And.intro rfl (And.intro rfl (And.intro rfl (And.intro rfl trivial)))) (Exists.intro m16 (And.intro ⟨(IntKind.i64.wrap (u14 + 1)), rfl, rfl, sX13, (wrap64 _), hM2⟩ (Nat.lt_succ_self _)))))
      · have hc17 : ((decide (u14 < ((x12.length : Nat) : Int)))) = false := hc17
        rw [if_neg (bneT hc17)] at hM2
        have hE := Option.some.inj hM2; subst hE
        try dsimp only [outK_inr, outL_inr] at hM1
        refine And.intro rfl (And.intro (by first | exact trivial | exact And.intro rfl trivial | exact And.intro rfl (And.intro rfl trivial) | exact And.intro rfl (And.intro rfl (And.intro rfl trivial)) | exact And.intro rfl (And.intro rfl (And.intro rfl (And.intro rfl trivial)))) (And.intro (by first | exact trivial | exact And.intro rfl trivial | exact And.intro rfl (And.intro rfl trivial) | exact And.intro rfl (And.intro rfl (And.intro rfl trivial)) | exact And.intro rfl (And.intro rfl (And.intro rfl (And.intro rfl trivial)))) (Exists.intro m9 (And.intro ⟨(IntKind.i64.wrap (u7 + 1)), rfl, rfl, (sX6.trans sX13), (wrap64 _), hM1⟩ (Nat.lt_succ_self _)))))
    · have hc10 : ((decide (u7 < ((x3.length : Nat) : Int)))) = false := hc10
      rw [if_neg (bneT hc10)] at hM1
      have hE := Option.some.inj hM1; subst hE
      try dsimp only [outK_inr, outL_inr] at hM0
      have hE := Option.some.inj hM0; subst hE
      exact And.intro rfl (sx3.trans sX6)

theorem t_impl_DehnStep (h : Hp) (csp0 : List Value) (p0 : LPresentation) (rp0 : wPresentation.R h csp0 p0) (ap1 : Option Addr) (np1 cp1 : Nat) (p1 : LIntS) (rp1 : wIntS.R h [.slice ap1 np1 cp1] p1) (r : LIntS × Bool) (hM0 : M_impl_DehnStep p0 p1 = some r) :
    Tr Try.prog 28 #[.agg csp0.toArray, .slice ap1 np1 cp1] h fun v h' => ∃ (a0 : Option Addr) (n0 c0 : Nat), v = .tuple #[.slice a0 n0 c0, .bool r.2] ∧ New wIntS h h' [.slice a0 n0 c0] r.1 := by
  obtain ⟨p0_0, ap0_1, np0_1, cp0_1, p0_1, rfl, rfl, ip0_0, rp0_1⟩ := openPresentation rp0
  obtain ⟨rfl, lp0_1⟩ := Sl.len rp0_1
  obtain ⟨rfl, lp1⟩ := Sl.len rp1
  unfold M_impl_DehnStep at hM0
  dsimp only at hM0
  refine walk (args := [.agg #[.int .i64 p0_0, .slice ap0_1 p0_1.length cp0_1], .slice ap1 p1.length cp1]) (fn := Try.f28) rfl ?_
  obtain ⟨x1, gx1, hM0⟩ := bsome hM0
  refine Tr.mono (t_impl_SymmetrizedSet _ [.int .i64 p0_0, .slice ap0_1 p0_1.length cp0_1] (p0_0, p0_1) (closePresentation ip0_0 rp0_1) _  gx1) ?_
  rintro v3 k2 ⟨ax1, nx1, cx1, rfl, wx1⟩
  have sx1 : Sub h k2 := wx1.sub
  have rx1 := wx1.r
  obtain ⟨rfl, lx1⟩ := Sl.len rx1
  obtain ⟨x4, gx4, hM0⟩ := bsome hM0
  refine Tr.mono (t_impl_ReduceLetters _ ap1 p1.length cp1 p1 (wIntS.mono sx1 rp1) _  gx4) ?_
  rintro v6 k5 ⟨ax4, nx4, cx4, rfl, wx4⟩
  have sx4 : Sub k2 k5 := wx4.sub
  have rx4 := wx4.r
  obtain ⟨rfl, lx4⟩ := Sl.len rx4
  obtain ⟨x7, gx7, hM0⟩ := bsome hM0
  refine Tr.mono (t_impl_dehn k2 _ ax1 x1.length cx1 x1 (wIntSS.mono sx4 rx1) ax4 x4.length cx4 x4 rx4 wx4 _  gx7) ?_
  rintro v9 k8 ⟨ax7_0, nx7_0, cx7_0, rfl, wx7_0, sxx7⟩
  have sx7 : Sub k5 k8 := sxx7
  have rx7_0 := wx7_0.r
  obtain ⟨x7_0, x7_1⟩ := x7
  dsimp only at hM0 wx7_0 rx7_0
  obtain ⟨rfl, lx7_0⟩ := Sl.len rx7_0
  have hE := Option.some.inj hM0; subst hE
  exact ⟨ax7_0, x7_0.length, cx7_0, rfl, (New.from wx7_0 sx1)⟩

theorem t_impl_DehnReduce (h : Hp) (csp0 : List Value) (p0 : LPresentation) (rp0 : wPresentation.R h csp0 p0) (ap1 : Option Addr) (np1 cp1 : Nat) (p1 : LIntS) (rp1 : wIntS.R h [.slice ap1 np1 cp1] p1) (r : LIntS × Int) (hM0 : M_impl_DehnReduce p0 p1 = some r) :
    Tr Try.prog 32 #[.agg csp0.toArray, .slice ap1 np1 cp1] h fun v h' => ∃ (a0 : Option Addr) (n0 c0 : Nat), v = .tuple #[.slice a0 n0 c0, .int .i64 r.2] ∧ New wIntS h h' [.slice a0 n0 c0] r.1 := by
  obtain ⟨p0_0, ap0_1, np0_1, cp0_1, p0_1, rfl, rfl, ip0_0, rp0_1⟩ := openPresentation rp0
  obtain ⟨rfl, lp0_1⟩ := Sl.len rp0_1
  obtain ⟨rfl, lp1⟩ := Sl.len rp1
  unfold M_impl_DehnReduce at hM0
  dsimp only at hM0
  refine walk (args := [.agg #[.int .i64 p0_0, .slice ap0_1 p0_1.length cp0_1], .slice ap1 p1.length cp1]) (fn := Try.f32) rfl ?_
  obtain ⟨x1, gx1, hM0⟩ := bsome hM0
  refine Tr.mono (t_impl_SymmetrizedSet _ [.int .i64 p0_0, .slice ap0_1 p0_1.length cp0_1] (p0_0, p0_1) (closePresentation ip0_0 rp0_1) _  gx1) ?_
  rintro v3 k2 ⟨ax1, nx1, cx1, rfl, wx1⟩
  have sx1 : Sub h k2 := wx1.sub
  have rx1 := wx1.r
  obtain ⟨rfl, lx1⟩ := Sl.len rx1
  obtain ⟨x4, gx4, hM0⟩ := bsome hM0
  refine Tr.mono (t_impl_ReduceLetters _ ap1 p1.length cp1 p1 (wIntS.mono sx1 rp1) _  gx4) ?_
  rintro v6 k5 ⟨ax4, nx4, cx4, rfl, wx4⟩
  have sx4 : Sub k2 k5 := wx4.sub
  have rx4 := wx4.r
  obtain ⟨rfl, lx4⟩ := Sl.len rx4
  obtain ⟨X7, hLX7, hM0⟩ := bsome hM0
  refine Exists.intro { vars := [7, 8], boxes := [], owns := [], fuel := true } (Exists.intro (fun vs os h' => ∃ (au8 : Option Addr) (nu8 cu8 : Nat) (u8 : LIntS) (u9 : Int), vs.tail = [.slice au8 nu8 cu8, .int .i64 u9] ∧ os = [] ∧ Sub k5 h' ∧ New wIntS h h' [.slice au8 nu8 cu8] u8 ∧ In64 u9 ∧ L_impl_DehnReduce_0 x1 (fuelOf vs) u8 u9 = some X7) (Exists.intro (fun _ _ => 0) ?_))
  refine And.intro (Exists.intro FUEL ⟨ax4, x4.length, cx4, x4, 0, rfl, rfl, (Sub.refl _), (New.from wx4 sx1), (c64 (by decide) (by decide)), hLX7⟩) ?_
  rintro v_0 v_1 m11 k10 ⟨au8, nu8, cu8, u8, u9, evX7, eoX7, sX7, wwu8, iu9, hM1⟩
  cases evX7
  cases eoX7
  replace hM1 : L_impl_DehnReduce_0 x1 m11 u8 u9 = some X7 := hM1
  obtain _ | m11 := m11
  · cases (show (none : Option _) = some X7 from hM1)
  rw [L_impl_DehnReduce_0_succ] at hM1
  have ru8 := wwu8.r
  obtain ⟨rfl, lu8⟩ := Sl.len ru8
  refine And.intro (fun hc12 => ?_) (fun hc12 => ?_)
  · have hc12 : ((decide (u9 < 500))) = true := hc12
    rw [if_pos hc12] at hM1
    obtain ⟨x13, gx13, hM1⟩ := bsome hM1
    refine Tr.mono (t_impl_dehn h _ ax1 x1.length cx1 x1 (wIntSS.mono (sx4.trans sX7) rx1) au8 u8.length cu8 u8 ru8 wwu8 _  gx13) ?_
    rintro v15 k14 ⟨ax13_0, nx13_0, cx13_0, rfl, wx13_0, sxx13⟩
    have sx13 : Sub k10 k14 := sxx13
    have rx13_0 := wx13_0.r
    obtain ⟨x13_0, x13_1⟩ := x13
    dsimp only at hM1 wx13_0 rx13_0
    obtain ⟨rfl, lx13_0⟩ := Sl.len rx13_0
    refine And.intro (fun hc16 => ?_) (fun hc16 => ?_)
    · have hc16 : ((!x13_1)) = true := hc16
      rw [if_pos hc16] at hM1
      have hE := Option.some.inj hM1; subst hE
      try dsimp only [outK_inl, outL_inl] at hM0
      have hE := Option.some.inj hM0; subst hE
      exact ⟨au8, u8.length, cu8, rfl, (New.mono wwu8 sx13)⟩
    · have hc16 : ((!x13_1)) = false := hc16
      rw [if_neg (bneT hc16)] at hM1
      refine And.intro rfl (And.intro (by first | exact trivial | exact And.intro rfl trivial | exact And.intro rfl (And.intro rfl trivial) | exact And.intro rfl (And.intro rfl (And.intro rfl trivial)) | exact And.intro rfl (And.intro rfl (And.intro rfl (And.intro rfl trivial)))) (And.intro (by first | exact trivial | exact And.intro rfl trivial | exact And.intro rfl (And.intro rfl trivial) | exact And.intro rfl (And.intro rfl (And.intro rfl trivial)) | exact And.intro rfl (And.intro rfl (And.intro rfl (And.intro rfl trivial)))) (Exists.intro m11 (And.intro ⟨ax13_0, x13_0.length, cx13_0, x13_0, (IntKind.i64.wrap (u9 + 1)), rfl, rfl, (sX7.trans sx13), wx13_0, (wrap64 _), hM1⟩ (Nat.lt_succ_self _)))))
  · have hc12 : ((decide (u9 < 500))) = false := hc12
    rw [if_neg (bneT hc12)] at hM1
    have hE := Option.some.inj hM1; subst hE
    try dsimp only [outK_inr, outL_inr] at hM0
    have hE := Option.some.inj hM0; subst hE
    exact ⟨au8, u8.length, cu8, rfl, wwu8⟩

end Go.Proofs.Ythccjgkmmclplaa
