/- The walks of batch 8. -/
import Derived.Test.YthccjgkmmclplaaA8
import Derived.Test.YthccjgkmmclplaaChecked
import Derived.Test.YthccjgkmmclplaaH35
import Derived.Test.YthccjgkmmclplaaW1
import Derived.Test.YthccjgkmmclplaaW3
import Derived.Test.YthccjgkmmclplaaW5
import Derived.Test.YthccjgkmmclplaaW6
namespace Go.Proofs.Ythccjgkmmclplaa
open Go.H
set_option linter.unusedVariables false
set_option linter.unusedSimpArgs false
set_option maxRecDepth 10000
theorem t_spec_DehnStep (h : Hp) (csp0 : List Value) (p0 : LPresentation) (rp0 : wPresentation.R h csp0 p0) (ap1 : Option Addr) (np1 cp1 : Nat) (p1 : LIntS) (rp1 : wIntS.R h [.slice ap1 np1 cp1] p1) (r : LIntS × Bool) (hM0 : M_spec_DehnStep p0 p1 = some r) :
    Tr Try.prog 27 #[.agg csp0.toArray, .slice ap1 np1 cp1] h fun v h' => ∃ (a0 : Option Addr) (n0 c0 : Nat), v = .tuple #[.slice a0 n0 c0, .bool r.2] ∧ wIntS.R h' [.slice a0 n0 c0] r.1 ∧ Sub h h' := by
  obtain ⟨p0_0, ap0_1, np0_1, cp0_1, p0_1, rfl, rfl, ip0_0, rp0_1⟩ := openPresentation rp0
  obtain ⟨rfl, lp0_1⟩ := Sl.len rp0_1
  obtain ⟨rfl, lp1⟩ := Sl.len rp1
  unfold M_spec_DehnStep at hM0
  dsimp only at hM0
  refine walk (args := [.agg #[.int .i64 p0_0, .slice ap0_1 p0_1.length cp0_1], .slice ap1 p1.length cp1]) (fn := Try.f27) rfl ?_
  obtain ⟨x1, gx1, hM0⟩ := bsome hM0
  refine Tr.mono (t_spec_ReduceLetters _ ap1 p1.length cp1 p1 rp1 _  gx1) ?_
  rintro v3 k2 ⟨ax1, nx1, cx1, rfl, rx1, sx1⟩
  obtain ⟨rfl, lx1⟩ := Sl.len rx1
  obtain ⟨x4, gx4, hM0⟩ := bsome hM0
  refine Tr.mono (t_spec_SymmetrizedSet _ [.int .i64 p0_0, .slice ap0_1 p0_1.length cp0_1] (p0_0, p0_1) (closePresentation ip0_0 (wIntSS.mono sx1 rp0_1)) _  gx4) ?_
  rintro v6 k5 ⟨ax4, nx4, cx4, rfl, rx4, sx4⟩
  obtain ⟨rfl, lx4⟩ := Sl.len rx4
  obtain ⟨X7, hLX7, hM0⟩ := bsome hM0
  refine Exists.intro { vars := [8], boxes := [], owns := [], fuel := true } (Exists.intro (fun vs os h' => ∃ (u8 : Int), vs.tail = [.int .i64 u8] ∧ os = [] ∧ Sub k5 h' ∧ In64 u8 ∧ L_spec_DehnStep_1 x1 x4 (fuelOf vs) u8 = some X7) (Exists.intro (fun _ _ => 0) ?_))
  refine And.intro (Exists.intro FUEL ⟨0, rfl, rfl, (Sub.refl _), (c64 (by decide) (by decide)), hLX7⟩) ?_
  rintro v_0 m10 k9 ⟨u8, evX7, eoX7, sX7, iu8, hM1⟩
  cases evX7
  cases eoX7
  replace hM1 : L_spec_DehnStep_1 x1 x4 m10 u8 = some X7 := hM1
  obtain _ | m10 := m10
  · cases (show (none : Option _) = some X7 from hM1)
  rw [L_spec_DehnStep_1_succ] at hM1
  refine And.intro (fun hc11 => ?_) (fun hc11 => ?_)
  · have hc11 : ((decide (u8 < ((x1.length : Nat) : Int)))) = true := hc11
    rw [if_pos hc11] at hM1
    obtain ⟨X12, hLX12, hM1⟩ := bsome hM1
    refine Exists.intro { vars := [9], boxes := [], owns := [], fuel := true } (Exists.intro (fun vs os h' => ∃ (u13 : Int), vs.tail = [.int .i64 u13] ∧ os = [] ∧ Sub k9 h' ∧ In64 u13 ∧ L_spec_DehnStep_0 x4 x1 u8 (fuelOf vs) u13 = some X12) (Exists.intro (fun _ _ => 0) ?_))
    refine And.intro (Exists.intro FUEL ⟨0, rfl, rfl, (Sub.refl _), (c64 (by decide) (by decide)), hLX12⟩) ?_
    rintro v_0 m15 k14 ⟨u13, evX12, eoX12, sX12, iu13, hM2⟩
    cases evX12
    cases eoX12
    replace hM2 : L_spec_DehnStep_0 x4 x1 u8 m15 u13 = some X12 := hM2
    obtain _ | m15 := m15
    · cases (show (none : Option _) = some X12 from hM2)
    rw [L_spec_DehnStep_0_succ] at hM2
    refine And.intro (fun hc16 => ?_) (fun hc16 => ?_)
    · have hc16 : ((decide (u13 < ((x4.length : Nat) : Int)))) = true := hc16
      rw [if_pos hc16] at hM2
      refine Or.inr (Or.inr (Or.inr (And.intro (And.intro (by kernel_rfl) (by kernel_rfl)) ?_)))
      obtain ⟨x17, gx17, hM2⟩ := bsome hM2
      refine Or.inr (Exists.intro (fun v hh => ∃ (a : Option Addr) (c : Nat), v = .slice a x17.length c ∧ wIntS.R hh [.slice a x17.length c] x17 ∧ x17.length ≤ 9223372036854775807) (And.intro (fun v h1 h2 sb q => by obtain ⟨a, c, e, r, l⟩ := q; exact ⟨a, c, e, wIntS.mono sb r, l⟩) (And.intro ?_ ?_)))
      · intro k18 s19
        obtain ⟨qx17, vsx17, ex17, fx17⟩ := Sl.cutI (r := Wp.int.toRp) (wIntS.mono (((sx4.trans sX7).trans sX12).trans s19) rx1) gx17
        refine And.intro qx17 (Exists.intro vsx17 (And.intro ex17 ?_))
        intro v hv _
        obtain ⟨a, c, rfl, r⟩ := fx17 v hv
        exact And.intro tail0 (And.intro (Sub.refl _) ⟨a, c, rfl, r, (Sl.len r).2⟩)
      obtain ⟨x20, gx20, hM2⟩ := bsome hM2
      obtain ⟨bx20, csx20, ex20, rx20⟩ := Sl.getI (r := wIntS.toRp) (wIntSS.mono (sX7.trans sX12) rx4) gx20 (by decide)
      obtain ⟨ax20, nx20, cx20, rfl⟩ := Wp.slice_cell rx20
      obtain ⟨rfl, lx20⟩ := Sl.len rx20
      refine Or.inl (Exists.intro (.hel (.slice ax4 x4.length cx4) u13 1 0) (And.intro ?_ ?_))
      · intro k21 s22
        exact And.intro bx20 (And.intro rfl (And.intro rfl rfl))
      refine Or.inl (Exists.intro (.val (.slice ax20 x20.length cx20)) (And.intro ?_ ?_))
      · intro k23 s24
        exact Exists.intro _ (And.intro (ElemAt.up s24 ex20) (And.intro rfl (And.intro rfl rfl)))
      obtain ⟨x25, gx25, hM2⟩ := bsome hM2
      obtain ⟨q26, gq26, hM2⟩ := bsome hM2
      have ix25 : In64 x25 := grd_some gq26
      refine Or.inl (Exists.intro (.val (.int .i64 x25)) (And.intro ?_ ?_))
      · intro k27 s28
        rintro _ ⟨az29, cz29, rfl, rz29, lz29⟩
        exact Tr.val (t_spec_l30Common _ az29 x17.length cz29 x17 rz29 ax20 x20.length cx20 x20 (wIntS.mono s28 rx20) _ gx25) (And.intro rfl (And.intro rfl rfl))
      intro k30 s31
      dsimp only [addU, finU]
      rintro _ ⟨az32, cz32, rfl, rz32, lz32⟩
      obtain ⟨x33, gx33, hM2⟩ := bsome hM2
      obtain ⟨bx33, csx33, ex33, rx33⟩ := Sl.getI (r := wIntS.toRp) (wIntSS.mono ((sX7.trans sX12).trans s31) rx4) gx33 (by decide)
      refine And.intro bx33 ?_
      obtain ⟨ax33, nx33, cx33, rfl⟩ := Wp.slice_cell rx33
      obtain ⟨rfl, lx33⟩ := Sl.len rx33
      refine Exists.intro _ (And.intro ex33 ?_)
      refine And.intro (fun hc34 => ?_) (fun hc34 => ?_)
      · have hc34 : ((decide ((IntKind.i64.wrap (2 * x25)) > ((x33.length : Nat) : Int)))) = true := hc34
        rw [if_pos hc34] at hM2
        refine Or.inr (Or.inr (Or.inr (And.intro (And.intro (by kernel_rfl) (by kernel_rfl)) ?_)))
        obtain ⟨x35, gx35, hM2⟩ := bsome hM2
        refine Or.inr (Exists.intro (fun v hh => ∃ (a : Option Addr) (c : Nat), v = .slice a x35.length c ∧ wIntS.R hh [.slice a x35.length c] x35 ∧ x35.length ≤ 9223372036854775807) (And.intro (fun v h1 h2 sb q => by obtain ⟨a, c, e, r, l⟩ := q; exact ⟨a, c, e, wIntS.mono sb r, l⟩) (And.intro ?_ ?_)))
        · intro k36 s37
          obtain ⟨qx35, vsx35, ex35, fx35⟩ := Sl.cutI (r := Wp.int.toRp) (wIntS.mono ((((sx4.trans sX7).trans sX12).trans s31).trans s37) rx1) gx35
          refine And.intro qx35 (Exists.intro vsx35 (And.intro ex35 ?_))
          intro v hv _
          obtain ⟨a, c, rfl, r⟩ := fx35 v hv
          exact And.intro tail0 (And.intro (Sub.refl _) ⟨a, c, rfl, r, (Sl.len r).2⟩)
        obtain ⟨x38, gx38, hM2⟩ := bsome hM2
        obtain ⟨bx38, csx38, ex38, rx38⟩ := Sl.getI (r := wIntS.toRp) (wIntSS.mono ((sX7.trans sX12).trans s31) rx4) gx38 (by decide)
        obtain ⟨ax38, nx38, cx38, rfl⟩ := Wp.slice_cell rx38
        obtain ⟨rfl, lx38⟩ := Sl.len rx38
        refine Or.inl (Exists.intro (.hel (.slice ax4 x4.length cx4) u13 1 0) (And.intro ?_ ?_))
        · intro k39 s40
          exact And.intro bx38 (And.intro rfl (And.intro rfl rfl))
        refine Or.inl (Exists.intro (.val (.slice ax38 x38.length cx38)) (And.intro ?_ ?_))
        · intro k41 s42
          exact Exists.intro _ (And.intro (ElemAt.up s42 ex38) (And.intro rfl (And.intro rfl rfl)))
        obtain ⟨x43, gx43, hM2⟩ := bsome hM2
        refine Or.inr (Exists.intro (fun v hh => ∃ (a : Option Addr) (c : Nat), v = .slice a x43.length c ∧ wIntS.R hh [.slice a x43.length c] x43 ∧ x43.length ≤ 9223372036854775807) (And.intro (fun v h1 h2 sb q => by obtain ⟨a, c, e, r, l⟩ := q; exact ⟨a, c, e, wIntS.mono sb r, l⟩) (And.intro ?_ ?_)))
        · intro k44 s45
          obtain ⟨qx43, vsx43, ex43, fx43⟩ := Sl.cutI (r := Wp.int.toRp) (wIntS.mono s45 rx38) gx43
          refine And.intro qx43 (Exists.intro vsx43 (And.intro ex43 ?_))
          intro v hv _
          obtain ⟨a, c, rfl, r⟩ := fx43 v hv
          exact And.intro tail0 (And.intro (Sub.refl _) ⟨a, c, rfl, r, (Sl.len r).2⟩)
        obtain ⟨x46, gx46, hM2⟩ := bsome hM2
        refine Or.inr (Exists.intro (fun v hh => ∃ (a : Option Addr) (c : Nat), v = .slice a x46.length c ∧ wIntS.R hh [.slice a x46.length c] x46 ∧ x46.length ≤ 9223372036854775807) (And.intro (fun v h1 h2 sb q => by obtain ⟨a, c, e, r, l⟩ := q; exact ⟨a, c, e, wIntS.mono sb r, l⟩) (And.intro ?_ ?_)))
        · intro k47 s48
          rintro _ ⟨az49, cz49, rfl, rz49, lz49⟩
          refine Tr.mono (t_spec_InvertWord _ az49 x43.length cz49 x43 rz49 _ gx46) ?_
          rintro _ kk ⟨ax46, nx46, cx46, rfl, rx46, sb⟩
          obtain ⟨rfl, lx46⟩ := Sl.len rx46
          exact And.intro tail0 (And.intro sb ⟨ax46, cx46, rfl, rx46, lx46⟩)
        obtain ⟨x50, gx50, hM2⟩ := bsome hM2
        refine Or.inr (Exists.intro (fun v hh => ∃ (a : Option Addr) (c : Nat), v = .slice a x50.length c ∧ wIntS.R hh [.slice a x50.length c] x50 ∧ x50.length ≤ 9223372036854775807) (And.intro (fun v h1 h2 sb q => by obtain ⟨a, c, e, r, l⟩ := q; exact ⟨a, c, e, wIntS.mono sb r, l⟩) (And.intro ?_ ?_)))
        · intro k51 s52
          rintro _ ⟨az53, cz53, rfl, rz53, lz53⟩
          rintro _ ⟨az54, cz54, rfl, rz54, lz54⟩
          refine Tr.mono (t_spec_MultiplyWords _ az53 x35.length cz53 x35 rz53 az54 x46.length cz54 x46 rz54 _ gx50) ?_
          rintro _ kk ⟨ax50, nx50, cx50, rfl, rx50, sb⟩
          obtain ⟨rfl, lx50⟩ := Sl.len rx50
          exact And.intro tail0 (And.intro sb ⟨ax50, cx50, rfl, rx50, lx50⟩)
        refine Or.inr (Exists.intro (fun v hh => ∃ (a : Option Addr) (c : Nat), v = .slice a x50.length c ∧ wIntS.R hh [.slice a x50.length c] x50 ∧ x50.length ≤ 9223372036854775807) (And.intro (fun v h1 h2 sb q => by obtain ⟨a, c, e, r, l⟩ := q; exact ⟨a, c, e, wIntS.mono sb r, l⟩) (And.intro ?_ ?_)))
        · intro k55 s56
          rintro _ ⟨az57, cz57, rfl, rz57, lz57⟩
          exact And.intro tail0 (And.intro (Sub.refl _) ⟨az57, cz57, rfl, rz57, lz57⟩)
        intro k58 s59
        dsimp only [addU, finU]
        rintro _ ⟨az60, cz60, rfl, rz60, lz60⟩
        rintro _ ⟨az61, cz61, rfl, rz61, lz61⟩
        rintro _ ⟨az62, cz62, rfl, rz62, lz62⟩
        rintro _ ⟨az63, cz63, rfl, rz63, lz63⟩
        rintro _ ⟨az64, cz64, rfl, rz64, lz64⟩
        obtain ⟨x65, gx65, hM2⟩ := bsome hM2
        obtain ⟨qx65, vsx65, ex65, fx65⟩ := Sl.cutI (r := Wp.int.toRp) (wIntS.mono ((((sx4.trans sX7).trans sX12).trans s31).trans s59) rx1) gx65
        refine And.intro qx65 (Exists.intro vsx65 (And.intro ex65 ?_))
        intro vx65 hvx65 _
        obtain ⟨ax65, cx65, rfl, rx65⟩ := fx65 vx65 hvx65
        have lx65 := (Sl.len rx65).2
        obtain ⟨x66, gx66, hM2⟩ := bsome hM2
        refine Tr.mono (t_spec_MultiplyWords _ az60 x50.length cz60 x50 rz60 ax65 x65.length cx65 x65 rx65 _  gx66) ?_
        rintro v68 k67 ⟨ax66, nx66, cx66, rfl, rx66, sx66⟩
        obtain ⟨rfl, lx66⟩ := Sl.len rx66
        have hE := Option.some.inj hM2; subst hE
        try dsimp only [outK_inl, outL_inl] at hM1
        have hE := Option.some.inj hM1; subst hE
        try dsimp only [outK_inl, outL_inl] at hM0
        have hE := Option.some.inj hM0; subst hE
        exact ⟨ax66, x66.length, cx66, rfl, rx66, ((((((sx1.trans sx4).trans sX7).trans sX12).trans s31).trans s59).trans sx66)⟩
      · have hc34 : ((decide ((IntKind.i64.wrap (2 * x25)) > ((x33.length : Nat) : Int)))) = false := hc34
        rw [if_neg (bneT hc34)] at hM2
        refine And.intro rfl (And.intro (by first | exact trivial | exact And.intro rfl trivial | exact And.intro rfl (And.intro rfl trivial) | exact And.intro rfl (And.intro rfl (And.intro rfl trivial)) | exact And.intro rfl (And.intro rfl (And.intro rfl (And.intro rfl trivial)))) (And.intro (by first | exact trivial | exact And.intro rfl trivial | exact And.intro rfl (And.intro rfl trivial) | exact And.intro rfl (And.intro rfl (And.intro rfl trivial)) | exact And.intro rfl (And.intro rfl (And.intro rfl (And.intro rfl trivial)))) (Exists.intro m15 (And.intro ⟨(IntKind.i64.wrap (u13 + 1)), rfl, rfl, (sX12.trans s31), (wrap64 _), hM2⟩ (Nat.lt_succ_self _)))))
    · have hc16 : ((decide (u13 < ((x4.length : Nat) : Int)))) = false := hc16
      rw [if_neg (bneT hc16)] at hM2
      have hE := Option.some.inj hM2; subst hE
      try dsimp only [outK_inr, outL_inr] at hM1
      refine And.intro rfl (And.intro (by first | exact trivial | exact And.intro rfl trivial | exact And.intro rfl (And.intro rfl trivial) | exact And.intro rfl (And.intro rfl (And.intro rfl trivial)) | exact And.intro rfl (And.intro rfl (And.intro rfl (And.intro rfl trivial)))) (And.intro (by first | exact trivial | exact And.intro rfl trivial | exact And.intro rfl (And.intro rfl trivial) | exact And.intro rfl (And.intro rfl (And.intro rfl trivial)) | exact And.intro rfl (And.intro rfl (And.intro rfl (And.intro rfl trivial)))) (Exists.intro m10 (And.intro ⟨(IntKind.i64.wrap (u8 + 1)), rfl, rfl, (sX7.trans sX12), (wrap64 _), hM1⟩ (Nat.lt_succ_self _)))))
  · have hc11 : ((decide (u8 < ((x1.length : Nat) : Int)))) = false := hc11
    rw [if_neg (bneT hc11)] at hM1
    have hE := Option.some.inj hM1; subst hE
    try dsimp only [outK_inr, outL_inr] at hM0
    have hE := Option.some.inj hM0; subst hE
    exact ⟨ax1, x1.length, cx1, rfl, (wIntS.mono (sx4.trans sX7) rx1), ((sx1.trans sx4).trans sX7)⟩

theorem t_spec_DehnReduce (h : Hp) (csp0 : List Value) (p0 : LPresentation) (rp0 : wPresentation.R h csp0 p0) (ap1 : Option Addr) (np1 cp1 : Nat) (p1 : LIntS) (rp1 : wIntS.R h [.slice ap1 np1 cp1] p1) (r : LIntS × Int) (hM0 : M_spec_DehnReduce p0 p1 = some r) :
    Tr Try.prog 31 #[.agg csp0.toArray, .slice ap1 np1 cp1] h fun v h' => ∃ (a0 : Option Addr) (n0 c0 : Nat), v = .tuple #[.slice a0 n0 c0, .int .i64 r.2] ∧ wIntS.R h' [.slice a0 n0 c0] r.1 ∧ Sub h h' := by
  obtain ⟨p0_0, ap0_1, np0_1, cp0_1, p0_1, rfl, rfl, ip0_0, rp0_1⟩ := openPresentation rp0
  obtain ⟨rfl, lp0_1⟩ := Sl.len rp0_1
  obtain ⟨rfl, lp1⟩ := Sl.len rp1
  unfold M_spec_DehnReduce at hM0
  dsimp only at hM0
  refine walk (args := [.agg #[.int .i64 p0_0, .slice ap0_1 p0_1.length cp0_1], .slice ap1 p1.length cp1]) (fn := Try.f31) rfl ?_
  obtain ⟨x1, gx1, hM0⟩ := bsome hM0
  refine Tr.mono (t_spec_ReduceLetters _ ap1 p1.length cp1 p1 rp1 _  gx1) ?_
  rintro v3 k2 ⟨ax1, nx1, cx1, rfl, rx1, sx1⟩
  obtain ⟨rfl, lx1⟩ := Sl.len rx1
  obtain ⟨X4, hLX4, hM0⟩ := bsome hM0
  refine Exists.intro { vars := [6, 7], boxes := [], owns := [], fuel := true } (Exists.intro (fun vs os h' => ∃ (au5 : Option Addr) (nu5 cu5 : Nat) (u5 : LIntS) (u6 : Int), vs.tail = [.slice au5 nu5 cu5, .int .i64 u6] ∧ os = [] ∧ Sub k2 h' ∧ wIntS.R h' [.slice au5 nu5 cu5] u5 ∧ In64 u6 ∧ L_spec_DehnReduce_0 p0_0 p0_1 (fuelOf vs) u5 u6 = some X4) (Exists.intro (fun _ _ => 0) ?_))
  refine And.intro (Exists.intro FUEL ⟨ax1, x1.length, cx1, x1, 0, rfl, rfl, (Sub.refl _), rx1, (c64 (by decide) (by decide)), hLX4⟩) ?_
  rintro v_0 v_1 m8 k7 ⟨au5, nu5, cu5, u5, u6, evX4, eoX4, sX4, ru5, iu6, hM1⟩
  cases evX4
  cases eoX4
  replace hM1 : L_spec_DehnReduce_0 p0_0 p0_1 m8 u5 u6 = some X4 := hM1
  obtain _ | m8 := m8
  · cases (show (none : Option _) = some X4 from hM1)
  rw [L_spec_DehnReduce_0_succ] at hM1
  obtain ⟨rfl, lu5⟩ := Sl.len ru5
  refine And.intro (fun hc9 => ?_) (fun hc9 => ?_)
  · have hc9 : ((decide (u6 < 500))) = true := hc9
    rw [if_pos hc9] at hM1
    obtain ⟨x10, gx10, hM1⟩ := bsome hM1
    refine Tr.mono (t_spec_DehnStep _ [.int .i64 p0_0, .slice ap0_1 p0_1.length cp0_1] (p0_0, p0_1) (closePresentation ip0_0 (wIntSS.mono (sx1.trans sX4) rp0_1)) au5 u5.length cu5 u5 ru5 _  gx10) ?_
    rintro v12 k11 ⟨ax10_0, nx10_0, cx10_0, rfl, rx10_0, sx10⟩
    obtain ⟨x10_0, x10_1⟩ := x10
    dsimp only at hM1 rx10_0
    obtain ⟨rfl, lx10_0⟩ := Sl.len rx10_0
    refine And.intro (fun hc13 => ?_) (fun hc13 => ?_)
    · have hc13 : ((!x10_1)) = true := hc13
      rw [if_pos hc13] at hM1
      have hE := Option.some.inj hM1; subst hE
      try dsimp only [outK_inl, outL_inl] at hM0
      have hE := Option.some.inj hM0; subst hE
      exact ⟨au5, u5.length, cu5, rfl, (wIntS.mono sx10 ru5), ((sx1.trans sX4).trans sx10)⟩
    · have hc13 : ((!x10_1)) = false := hc13
      rw [if_neg (bneT hc13)] at hM1
      refine And.intro rfl (And.intro (by first | exact trivial | exact And.intro rfl trivial | exact And.intro rfl (And.intro rfl trivial) | exact And.intro rfl (And.intro rfl (And.intro rfl trivial)) | exact And.intro rfl (And.intro rfl (And.intro rfl (And.intro rfl trivial)))) (And.intro (by first | exact trivial | exact And.intro rfl trivial | exact And.intro rfl (And.intro rfl trivial) | exact And.intro rfl (And.intro rfl (And.intro rfl trivial)) | exact And.intro rfl (And.intro rfl (And.intro rfl (And.intro rfl trivial)))) (Exists.intro m8 (And.intro ⟨ax10_0, x10_0.length, cx10_0, x10_0, (IntKind.i64.wrap (u6 + 1)), rfl, rfl, (sX4.trans sx10), rx10_0, (wrap64 _), hM1⟩ (Nat.lt_succ_self _)))))
  · have hc9 : ((decide (u6 < 500))) = false := hc9
    rw [if_neg (bneT hc9)] at hM1
    have hE := Option.some.inj hM1; subst hE
    try dsimp only [outK_inr, outL_inr] at hM0
    have hE := Option.some.inj hM0; subst hE
    exact ⟨au5, u5.length, cu5, rfl, ru5, (sx1.trans sX4)⟩

end Go.Proofs.Ythccjgkmmclplaa
