/- The walks of batch g4. -/
import Derived.Test.YthccjgkmmclplaaGreatAg4
import Derived.Test.YthccjgkmmclplaaGreatChecked
import Derived.Test.YthccjgkmmclplaaGreatH35
import Derived.Test.YthccjgkmmclplaaGreatW1
import Derived.Test.YthccjgkmmclplaaGreatW4g
import Derived.Test.YthccjgkmmclplaaGreatW9
import Derived.Test.YthccjgkmmclplaaGreatWg2
import Derived.Test.YthccjgkmmclplaaGreatWg3
import Derived.Test.YthccjgkmmclplaaGreatEN
import Derived.Test.YthccjgkmmclplaaGreatH41
import Derived.Test.YthccjgkmmclplaaGreatEQ
namespace Go.Proofs.YthccjgkmmclplaaGreat
open Go.H
set_option linter.unusedVariables false
set_option linter.unusedSimpArgs false
set_option maxRecDepth 10000
theorem t_impl_TrimGraph (h : Hp) (csp0 : List Value) (p0 : LGraph) (rp0 : wGraph.R h csp0 p0) (r : LGraph × LIntS) (hM0 : M_impl_TrimGraph p0 = some r) :
    Tr Tryz.prog 87 #[.agg csp0.toArray] h fun v h' => ∃ (cs0 : List Value) (a1 : Option Addr) (n1 c1 : Nat), v = .tuple #[.agg cs0.toArray, .slice a1 n1 c1] ∧ wGraph.R h' cs0 r.1 ∧ wIntS.R h' [.slice a1 n1 c1] r.2 ∧ Sub h h' := by
  obtain ⟨p0_0, p0_1, ap0_2, np0_2, cp0_2, p0_2, rfl, rfl, ip0_0, ip0_1, rp0_2⟩ := openGraph rp0
  obtain ⟨rfl, lp0_2⟩ := Sl.len rp0_2
  unfold M_impl_TrimGraph at hM0
  dsimp only at hM0
  refine walk (args := [.agg #[.int .i64 p0_0, .int .i64 p0_1, .slice ap0_2 p0_2.length cp0_2]]) (fn := Tryz.f87) rfl ?_
  obtain ⟨x1, gx1, hM0⟩ := bsome hM0
  refine Tr.mono (t_impl_copyGraph _ [.int .i64 p0_0, .int .i64 p0_1, .slice ap0_2 p0_2.length cp0_2] (p0_0, p0_1, p0_2) (closeGraph ip0_0 ip0_1 rp0_2) _  gx1) ?_
  rintro v3 k2 ⟨csx1, rfl, wx1⟩
  have sx1 : Sub h k2 := wx1.sub
  have rx1 := wx1.r
  obtain ⟨x1_0, x1_1, ax1_2, nx1_2, cx1_2, x1_2, rfl, rfl, ix1_0, ix1_1, rx1_2⟩ := openGraph rx1
  obtain ⟨rfl, lx1_2⟩ := Sl.len rx1_2
  try dsimp only at hM0
  have we4 := New.sndI (New.sndI (wx1))
  obtain ⟨x5, gx5, hM0⟩ := bsome hM0
  refine Tr.val (t_impl_IsGraph _ [.int .i64 p0_0, .int .i64 p0_1, .slice ap0_2 p0_2.length cp0_2] (p0_0, p0_1, p0_2) (closeGraph ip0_0 ip0_1 (wEdgeS.mono sx1 rp0_2)) _  gx5) ?_
  refine And.intro (fun hc6 => ?_) (fun hc6 => ?_)
  · have hc6 : ((!x5)) = true := hc6
    rw [if_pos hc6] at hM0
    intro v7 k8 f9
    obtain ⟨az10, cz10, rfl, rz10, sz10, lz10⟩ := Froze.out (r := Wp.int.toRp) f9 (show F2 (Wp.int.R k2) ([] : List (List Value)) ([] : LIntS) from trivial)
    have hE := Option.some.inj hM0; subst hE
    exact ⟨([.int .i64 x1_0, .int .i64 x1_1, .slice ax1_2 x1_2.length cx1_2]), az10, (([] : LIntS)).length, cz10, rfl, (closeGraph ix1_0 ix1_1 (wEdgeS.mono sz10 rx1_2)), rz10, (sx1.trans sz10)⟩
  · have hc6 : ((!x5)) = false := hc6
    rw [if_neg (bneT hc6)] at hM0
    obtain ⟨X11, hLX11, hM0⟩ := bsome hM0
    refine Exists.intro { vars := [6], boxes := [], owns := [0], fuel := true } (Exists.intro (fun vs os h' => ∃ (u12 : Int) (wu13 : List (List Value)) (u13 : List Int), vs.tail = [.int .i64 u12] ∧ os = [wu13] ∧ Sub k2 h' ∧ In64 u12 ∧ F2 (Wp.int.R h') wu13 u13 ∧ L_impl_TrimGraph_3 p0_1 (fuelOf vs) u12 u13 = some X11) (Exists.intro (fun _ _ => 0) ?_))
    refine And.intro (Exists.intro FUEL ⟨0, [], ([] : LIntS), rfl, rfl, (Sub.refl _), (c64 (by decide) (by decide)), (show F2 (Wp.int.R k2) ([] : List (List Value)) ([] : LIntS) from trivial), hLX11⟩) ?_
    rintro v_0 wu13 m15 k14 ⟨u12, zzu13, u13, evX11, eoX11, sX11, iu12, fu13, hM1⟩
    cases evX11
    cases eoX11
    replace hM1 : L_impl_TrimGraph_3 p0_1 m15 u12 u13 = some X11 := hM1
    obtain _ | m15 := m15
    · cases (show (none : Option _) = some X11 from hM1)
    rw [L_impl_TrimGraph_3_succ] at hM1
    refine And.intro (fun hc16 => ?_) (fun hc16 => ?_)
    · have hc16 : ((decide (u12 < p0_1))) = true := hc16
      rw [if_pos hc16] at hM1
      obtain ⟨q17, gq17, hM1⟩ := bsome hM1
      refine And.intro (room_of gq17 (by first | rw [F2.length fu13, F2.length (show F2 (Wp.int.R k14) ([[.int .i64 u12]] : List (List Value)) [u12] from ⟨⟨rfl, iu12⟩, trivial⟩)] | exact congrArg (· + 1) (F2.length fu13))) ?_
      refine And.intro rfl (And.intro (by first | exact trivial | exact And.intro rfl trivial | exact And.intro rfl (And.intro rfl trivial) | exact And.intro rfl (And.intro rfl (And.intro rfl trivial)) | exact And.intro rfl (And.intro rfl (And.intro rfl (And.intro rfl trivial)))) (And.intro (by first | exact trivial | exact And.intro rfl trivial | exact And.intro rfl (And.intro rfl trivial) | exact And.intro rfl (And.intro rfl (And.intro rfl trivial)) | exact And.intro rfl (And.intro rfl (And.intro rfl (And.intro rfl trivial)))) (Exists.intro m15 (And.intro ⟨(IntKind.i64.wrap (u12 + 1)), (wu13 ++ ([[.int .i64 u12]] : List (List Value))), (u13 ++ [u12]), rfl, rfl, sX11, (wrap64 _), (F2.append fu13 (show F2 (Wp.int.R k14) ([[.int .i64 u12]] : List (List Value)) [u12] from ⟨⟨rfl, iu12⟩, trivial⟩)), hM1⟩ (Nat.lt_succ_self _)))))
    · have hc16 : ((decide (u12 < p0_1))) = false := hc16
      rw [if_neg (bneT hc16)] at hM1
      have hE := Option.some.inj hM1; subst hE
      try dsimp only [outK_inr, outL_inr] at hM0
      obtain ⟨X22, hLX22, hM0⟩ := bsome hM0
      refine Exists.intro { vars := [5], boxes := [2], owns := [], fuel := true, pubs := [5] } (Exists.intro (fun vs os h' => ∃ (au23 : Option Addr) (nu23 cu23 : Nat) (u23 : LIntS) (u24 : Int) (u25 : Int) (au26 : Option Addr) (nu26 cu26 : Nat) (u26 : LEdgeS), vs.tail = [.slice au23 nu23 cu23, .int .i64 u24, .int .i64 u25, .slice au26 nu26 cu26] ∧ os = [] ∧ Sub k14 h' ∧ New wIntS k14 h' [.slice au23 nu23 cu23] u23 ∧ In64 u24 ∧ In64 u25 ∧ wEdgeS.R h' [.slice au26 nu26 cu26] u26 ∧ L_impl_TrimGraph_2 (fuelOf vs) u23 u24 u25 u26 = some X22) (Exists.intro (fun _ _ => 0) ?_))
      intro v18 k19 f20
      obtain ⟨az21, cz21, rfl, rz21, sz21, lz21⟩ := Froze.out (r := Wp.int.toRp) f20 fu13
      refine And.intro (Exists.intro FUEL ⟨az21, u13.length, cz21, u13, x1_0, x1_1, ax1_2, x1_2.length, cx1_2, x1_2, rfl, rfl, sz21, (Froze.newPlain (r := Wp.int) f20 fu13 (plInt _)), ix1_0, ix1_1, (wEdgeS.mono (sX11.trans sz21) rx1_2), hLX22⟩) ?_
      rintro v_0 v_1 v_2 v_3 m28 k27 ⟨au23, nu23, cu23, u23, u24, u25, au26, nu26, cu26, u26, evX22, eoX22, sX22, wwu23, iu24, iu25, ru26, hM1⟩
      cases evX22
      cases eoX22
      replace hM1 : L_impl_TrimGraph_2 m28 u23 u24 u25 u26 = some X22 := hM1
      obtain _ | m28 := m28
      · cases (show (none : Option _) = some X22 from hM1)
      rw [L_impl_TrimGraph_2_succ] at hM1
      have ru23 := wwu23.r
      obtain ⟨rfl, lu23⟩ := Sl.len ru23
      obtain ⟨rfl, lu26⟩ := Sl.len ru26
      obtain ⟨x29, gx29, hM1⟩ := bsome hM1
      refine Tr.mono (t_impl_Graph_joined _ [.int .i64 u24, .int .i64 u25, .slice au26 u26.length cu26] (u24, u25, u26) (closeGraph iu24 iu25 ru26) 0 (c64 (by decide) (by decide)) _  gx29) ?_
      rintro v31 k30 ⟨ax29, nx29, cx29, rfl, rx29, sx29⟩
      obtain ⟨rfl, lx29⟩ := Sl.len rx29
      obtain ⟨X32, hLX32, hM1⟩ := bsome hM1
      refine Exists.intro { vars := [8, 9], boxes := [], owns := [], fuel := true } (Exists.intro (fun vs os h' => ∃ (u33 : Int) (u34 : Int), vs.tail = [.int .i64 u33, .int .i64 u34] ∧ os = [] ∧ Sub k30 h' ∧ In64 u33 ∧ In64 u34 ∧ L_impl_TrimGraph_1 u25 u24 u26 x29 (fuelOf vs) u33 u34 = some X32) (Exists.intro (fun _ _ => 0) ?_))
      refine And.intro (Exists.intro FUEL ⟨0, 1, rfl, rfl, (Sub.refl _), (c64 (by decide) (by decide)), (c64 (by decide) (by decide)), hLX32⟩) ?_
      rintro v_0 v_1 m36 k35 ⟨u33, u34, evX32, eoX32, sX32, iu33, iu34, hM2⟩
      cases evX32
      cases eoX32
      replace hM2 : L_impl_TrimGraph_1 u25 u24 u26 x29 m36 u33 u34 = some X32 := hM2
      obtain _ | m36 := m36
      · cases (show (none : Option _) = some X32 from hM2)
      rw [L_impl_TrimGraph_1_succ] at hM2
      refine And.intro (fun hc37 => ?_) (fun hc37 => ?_)
      · have hc37 : ((bif (decide (u34 < u25)) then (decide (u33 = 0)) else false)) = true := hc37
        rw [if_pos hc37] at hM2
        obtain ⟨x38, gx38, hM2⟩ := bsome hM2
        refine Tr.val (t_impl_DegreeOf _ [.int .i64 u24, .int .i64 u25, .slice au26 u26.length cu26] (u24, u25, u26) (closeGraph iu24 iu25 (wEdgeS.mono (sx29.trans sX32) ru26)) u34 iu34 _  gx38) ?_
        obtain ⟨q39, gq39, hM2⟩ := bsome hM2
        have ix38 : In64 x38 := grd_some gq39
        obtain ⟨x40, gx40, hM2⟩ := bsome hM2
        obtain ⟨csx40, ex40, rx40⟩ := Sl.getG (r := Wp.bool.toRp) ((Wp.slice Wp.bool).mono sX32 rx29) gx40 (by decide) (dfBool k35)
        refine And.intro (fun q => (ex40 q).1) ?_
        obtain rfl := rx40
        refine Exists.intro _ (And.intro (fun q => (ex40 q).2) ?_)
        refine And.intro (fun hc41 => ?_) (fun hc41 => ?_)
        · have hc41 : ((bif (decide (x38 < 2)) then true else (!x40))) = true := hc41
          rw [if_pos hc41] at hM2
          refine And.intro rfl (And.intro (by first | exact trivial | exact And.intro rfl trivial | exact And.intro rfl (And.intro rfl trivial) | exact And.intro rfl (And.intro rfl (And.intro rfl trivial)) | exact And.intro rfl (And.intro rfl (And.intro rfl (And.intro rfl trivial)))) (And.intro (by first | exact trivial | exact And.intro rfl trivial | exact And.intro rfl (And.intro rfl trivial) | exact And.intro rfl (And.intro rfl (And.intro rfl trivial)) | exact And.intro rfl (And.intro rfl (And.intro rfl (And.intro rfl trivial)))) (Exists.intro m36 (And.intro ⟨u34, (IntKind.i64.wrap (u34 + 1)), rfl, rfl, sX32, iu34, (wrap64 _), hM2⟩ (Nat.lt_succ_self _)))))
        · have hc41 : ((bif (decide (x38 < 2)) then true else (!x40))) = false := hc41
          rw [if_neg (bneT hc41)] at hM2
          refine And.intro rfl (And.intro (by first | exact trivial | exact And.intro rfl trivial | exact And.intro rfl (And.intro rfl trivial) | exact And.intro rfl (And.intro rfl (And.intro rfl trivial)) | exact And.intro rfl (And.intro rfl (And.intro rfl (And.intro rfl trivial)))) (And.intro (by first | exact trivial | exact And.intro rfl trivial | exact And.intro rfl (And.intro rfl trivial) | exact And.intro rfl (And.intro rfl (And.intro rfl trivial)) | exact And.intro rfl (And.intro rfl (And.intro rfl (And.intro rfl trivial)))) (Exists.intro m36 (And.intro ⟨u33, (IntKind.i64.wrap (u34 + 1)), rfl, rfl, sX32, iu33, (wrap64 _), hM2⟩ (Nat.lt_succ_self _)))))
      · have hc37 : ((bif (decide (u34 < u25)) then (decide (u33 = 0)) else false)) = false := hc37
        rw [if_neg (bneT hc37)] at hM2
        have hE := Option.some.inj hM2; subst hE
        try dsimp only [outK_inr, outL_inr] at hM1
        refine And.intro (fun hc42 => ?_) (fun hc42 => ?_)
        · have hc42 : ((decide (u33 = 0))) = true := hc42
          rw [if_pos hc42] at hM1
          have hE := Option.some.inj hM1; subst hE
          try dsimp only [outK_inl, outL_inl] at hM0
          have hE := Option.some.inj hM0; subst hE
          exact ⟨([.int .i64 u24, .int .i64 u25, .slice au26 u26.length cu26]), au23, u23.length, cu23, rfl, (closeGraph iu24 iu25 (wEdgeS.mono (sx29.trans sX32) ru26)), (wIntS.mono (sx29.trans sX32) ru23), ((((sx1.trans sX11).trans sX22).trans sx29).trans sX32)⟩
        · have hc42 : ((decide (u33 = 0))) = false := hc42
          rw [if_neg (bneT hc42)] at hM1
          obtain ⟨X43, hLX43, hM1⟩ := bsome hM1
          refine Exists.intro { vars := [11], boxes := [], owns := [1], fuel := true } (Exists.intro (fun vs os h' => ∃ (u44 : Int) (wu45 : List (List Value)) (u45 : List Int), vs.tail = [.int .i64 u44] ∧ os = [wu45] ∧ Sub k35 h' ∧ In64 u44 ∧ F2 (Wp.int.R h') wu45 u45 ∧ L_impl_TrimGraph_0 u25 u33 (fuelOf vs) u44 u45 = some X43) (Exists.intro (fun _ _ => 0) ?_))
          refine And.intro (Exists.intro FUEL ⟨0, [], ([] : LIntS), rfl, rfl, (Sub.refl _), (c64 (by decide) (by decide)), (show F2 (Wp.int.R k35) ([] : List (List Value)) ([] : LIntS) from trivial), hLX43⟩) ?_
          rintro v_0 wu45 m47 k46 ⟨u44, zzu45, u45, evX43, eoX43, sX43, iu44, fu45, hM2⟩
          cases evX43
          cases eoX43
          replace hM2 : L_impl_TrimGraph_0 u25 u33 m47 u44 u45 = some X43 := hM2
          obtain _ | m47 := m47
          · cases (show (none : Option _) = some X43 from hM2)
          rw [L_impl_TrimGraph_0_succ] at hM2
          refine And.intro (fun hc48 => ?_) (fun hc48 => ?_)
          · have hc48 : ((decide (u44 < u25))) = true := hc48
            rw [if_pos hc48] at hM2
            refine And.intro (fun hc49 => ?_) (fun hc49 => ?_)
            · have hc49 : ((!decide (u44 = u33))) = true := hc49
              rw [if_pos hc49] at hM2
              obtain ⟨q50, gq50, hM2⟩ := bsome hM2
              refine And.intro (room_of gq50 (by first | rw [F2.length fu45, F2.length (show F2 (Wp.int.R k46) ([[.int .i64 u44]] : List (List Value)) [u44] from ⟨⟨rfl, iu44⟩, trivial⟩)] | exact congrArg (· + 1) (F2.length fu45))) ?_
              refine And.intro rfl (And.intro (by first | exact trivial | exact And.intro rfl trivial | exact And.intro rfl (And.intro rfl trivial) | exact And.intro rfl (And.intro rfl (And.intro rfl trivial)) | exact And.intro rfl (And.intro rfl (And.intro rfl (And.intro rfl trivial)))) (And.intro (by first | exact trivial | exact And.intro rfl trivial | exact And.intro rfl (And.intro rfl trivial) | exact And.intro rfl (And.intro rfl (And.intro rfl trivial)) | exact And.intro rfl (And.intro rfl (And.intro rfl (And.intro rfl trivial)))) (Exists.intro m47 (And.intro ⟨(IntKind.i64.wrap (u44 + 1)), (wu45 ++ ([[.int .i64 u44]] : List (List Value))), (u45 ++ [u44]), rfl, rfl, sX43, (wrap64 _), (F2.append fu45 (show F2 (Wp.int.R k46) ([[.int .i64 u44]] : List (List Value)) [u44] from ⟨⟨rfl, iu44⟩, trivial⟩)), hM2⟩ (Nat.lt_succ_self _)))))
            · have hc49 : ((!decide (u44 = u33))) = false := hc49
              rw [if_neg (bneT hc49)] at hM2
              refine And.intro rfl (And.intro (by first | exact trivial | exact And.intro rfl trivial | exact And.intro rfl (And.intro rfl trivial) | exact And.intro rfl (And.intro rfl (And.intro rfl trivial)) | exact And.intro rfl (And.intro rfl (And.intro rfl (And.intro rfl trivial)))) (And.intro (by first | exact trivial | exact And.intro rfl trivial | exact And.intro rfl (And.intro rfl trivial) | exact And.intro rfl (And.intro rfl (And.intro rfl trivial)) | exact And.intro rfl (And.intro rfl (And.intro rfl (And.intro rfl trivial)))) (Exists.intro m47 (And.intro ⟨(IntKind.i64.wrap (u44 + 1)), wu45, u45, rfl, rfl, sX43, (wrap64 _), fu45, hM2⟩ (Nat.lt_succ_self _)))))
          · have hc48 : ((decide (u44 < u25))) = false := hc48
            rw [if_neg (bneT hc48)] at hM2
            have hE := Option.some.inj hM2; subst hE
            try dsimp only [outK_inr, outL_inr] at hM1
            refine Or.inl ?_
            intro v51 k52 f53
            obtain ⟨az54, cz54, rfl, rz54, sz54, lz54⟩ := Froze.out (r := Wp.int.toRp) f53 fu45
            obtain ⟨x55, gx55, hM1⟩ := bsome hM1
            refine Tr.mono (t_impl_part _ [.int .i64 u24, .int .i64 u25, .slice au26 u26.length cu26] (u24, u25, u26) (closeGraph iu24 iu25 (wEdgeS.mono (((sx29.trans sX32).trans sX43).trans sz54) ru26)) az54 u45.length cz54 u45 rz54 _  gx55) ?_
            rintro v57 k56 ⟨csx55, rfl, wx55⟩
            have sx55 : Sub k52 k56 := wx55.sub
            have rx55 := wx55.r
            obtain ⟨x55_0, x55_1, ax55_2, nx55_2, cx55_2, x55_2, rfl, rfl, ix55_0, ix55_1, rx55_2⟩ := openGraph rx55
            obtain ⟨rfl, lx55_2⟩ := Sl.len rx55_2
            try dsimp only at hM1
            have we58 := New.sndI (New.sndI (wx55))
            obtain ⟨x61, gx61, hM1⟩ := bsome hM1
            obtain ⟨x62, gx62, hM1⟩ := bsome hM1
            obtain ⟨q63, gq63, hM1⟩ := bsome hM1
            obtain ⟨qaz64, baz64, eaz64, gz64, oz64, Az64, Cz64, usz64, vsz64, eqz64, qbz64, bbz64, lcz64, mcz64, rxz64, sxz64, luz64, lvz64, apz64⟩ := New.drop wwu23 ((((sx29.trans sX32).trans sX43).trans sz54).trans sx55) gx61 gx62 (cut_lt lu23 gx61 gx62)
            subst eqz64
            refine Or.inr (Or.inr (Or.inl (And.intro (And.intro (by kernel_rfl) (by kernel_rfl)) ?_)))
            refine Or.inl (Exists.intro (.val (.slice (some ⟨gz64, oz64, none⟩) x61.length cu23)) (And.intro ?_ ?_))
            · intro hh sb
              obtain ⟨vs, e⟩ := eaz64 hh sb
              exact And.intro baz64 (Exists.intro vs (And.intro e (fun v _ hv => And.intro (congrArg AV.val (qaz64 v hv)) (And.intro rfl rfl))))
            refine Or.inl (Exists.intro (.val (.int .i64 (IntKind.i64.wrap (u33 + 1)))) (And.intro ?_ ?_))
            · intro k59 s60
              exact And.intro rfl (And.intro rfl rfl)
            refine Or.inl (Exists.intro (.val (.slice Az64 x62.length Cz64)) (And.intro ?_ ?_))
            · intro hh sb
              obtain ⟨vs, e⟩ := eaz64 hh sb
              exact And.intro bbz64 (Exists.intro vs (And.intro e (fun v _ hv => And.intro (congrArg AV.val (qbz64 v hv)) (And.intro rfl rfl))))
            refine Or.inr ?_
            refine Exists.intro 0 (And.intro (And.intro rfl rfl) ?_)
            refine Exists.intro vsz64 (And.intro sxz64 (Exists.intro usz64 (And.intro rxz64 (And.intro (room_of gq63 (by rw [luz64, lvz64])) ?_))))
            intro vz64 kz64 happz64
            obtain ⟨wz64, ⟨az64, nz64, cz64, rfl⟩, kpz64⟩ := apz64 _ _ happz64
            have rz64 := wz64.r
            obtain ⟨ez64, lz64⟩ := Sl.len rz64
            subst ez64
            refine And.intro trivial (And.intro (by first | exact trivial | exact rfl) ?_)
            have wy65 := kpz64 wEdge.slice _ _ _ we58 (((sx29.trans sX32).trans sX43).trans sz54)
            refine And.intro rfl (And.intro (by first | exact trivial | exact And.intro rfl trivial | exact And.intro rfl (And.intro rfl trivial) | exact And.intro rfl (And.intro rfl (And.intro rfl trivial)) | exact And.intro rfl (And.intro rfl (And.intro rfl (And.intro rfl trivial)))) (And.intro (by first | exact trivial | exact And.intro rfl trivial | exact And.intro rfl (And.intro rfl trivial) | exact And.intro rfl (And.intro rfl (And.intro rfl trivial)) | exact And.intro rfl (And.intro rfl (And.intro rfl (And.intro rfl trivial)))) (Exists.intro m28 (And.intro ⟨az64, (x61 ++ x62).length, cz64, (x61 ++ x62), x55_0, x55_1, ax55_2, x55_2.length, cx55_2, x55_2, rfl, rfl, wz64.sub, wz64, ix55_0, ix55_1, wy65.r, hM1⟩ (Nat.lt_succ_self _)))))

theorem t_impl_IsCore (h : Hp) (csp0 : List Value) (p0 : LGraph) (rp0 : wGraph.R h csp0 p0) (r : Bool) (hM0 : M_impl_IsCore p0 = some r) :
    Tr Tryz.prog 42 #[.agg csp0.toArray] h fun v h' => v = .bool r ∧ h' = h := by
  obtain ⟨p0_0, p0_1, ap0_2, np0_2, cp0_2, p0_2, rfl, rfl, ip0_0, ip0_1, rp0_2⟩ := openGraph rp0
  obtain ⟨rfl, lp0_2⟩ := Sl.len rp0_2
  unfold M_impl_IsCore at hM0
  dsimp only at hM0
  refine Tr.forget (walk (args := [.agg #[.int .i64 p0_0, .int .i64 p0_1, .slice ap0_2 p0_2.length cp0_2]]) (fn := Tryz.f42) rfl ?_)
  obtain ⟨x1, gx1, hM0⟩ := bsome hM0
  refine Tr.val (t_impl_IsFolded _ [.int .i64 p0_0, .int .i64 p0_1, .slice ap0_2 p0_2.length cp0_2] (p0_0, p0_1, p0_2) (closeGraph ip0_0 ip0_1 rp0_2) _  gx1) ?_
  refine And.intro (fun hc2 => ?_) (fun hc2 => ?_)
  · have hc2 : ((!x1)) = true := hc2
    rw [if_pos hc2] at hM0
    have hE := Option.some.inj hM0; subst hE
    exact And.intro rfl (Sub.refl _)
  · have hc2 : ((!x1)) = false := hc2
    rw [if_neg (bneT hc2)] at hM0
    obtain ⟨x3, gx3, hM0⟩ := bsome hM0
    refine Tr.mono (t_impl_TrimGraph _ [.int .i64 p0_0, .int .i64 p0_1, .slice ap0_2 p0_2.length cp0_2] (p0_0, p0_1, p0_2) (closeGraph ip0_0 ip0_1 rp0_2) _  gx3) ?_
    rintro v5 k4 ⟨csx3_0, ax3_1, nx3_1, cx3_1, rfl, rx3_0, rx3_1, sx3⟩
    obtain ⟨x3_0, x3_1⟩ := x3
    dsimp only at hM0 rx3_0 rx3_1
    obtain ⟨x3_0_0, x3_0_1, ax3_0_2, nx3_0_2, cx3_0_2, x3_0_2, rfl, rfl, ix3_0_0, ix3_0_1, rx3_0_2⟩ := openGraph rx3_0
    obtain ⟨rfl, lx3_0_2⟩ := Sl.len rx3_0_2
    try dsimp only at hM0
    obtain ⟨rfl, lx3_1⟩ := Sl.len rx3_1
    refine Or.inr (Or.inr (Or.inr (And.intro (And.intro (by kernel_rfl) (by kernel_rfl)) ?_)))
    refine Or.inl (Exists.intro (.val (.bool (decide (x3_0_1 = p0_1)))) (And.intro ?_ ?_))
    · intro k6 s7
      exact And.intro rfl (And.intro rfl rfl)
    obtain ⟨x8, gx8, hM0⟩ := bsome hM0
    obtain ⟨x8_0, x8_1, x8_2⟩ := x8
    try dsimp only at hM0
    refine Or.inr (Exists.intro (fun v hh => ∃ (ax8_2 : Option Addr) (cx8_2 : Nat), v = .agg #[.int .i64 x8_0, .int .i64 x8_1, .slice ax8_2 x8_2.length cx8_2] ∧ In64 x8_0 ∧ In64 x8_1 ∧ wEdgeS.R hh [.slice ax8_2 x8_2.length cx8_2] x8_2 ∧ x8_2.length ≤ 9223372036854775807) (And.intro (fun v h1 h2 sb q => by obtain ⟨ax8_2, cx8_2, e, f0, f1, f2, f3⟩ := q; exact ⟨ax8_2, cx8_2, e, f0, f1, wEdgeS.mono sb f2, f3⟩) (And.intro ?_ ?_)))
    · intro k9 s10 hq
      refine Tr.mono (t_impl_CanonicalGraph _ [.int .i64 p0_0, .int .i64 p0_1, .slice ap0_2 p0_2.length cp0_2] (p0_0, p0_1, p0_2) (closeGraph ip0_0 ip0_1 (wEdgeS.mono (sx3.trans s10) rp0_2)) _ (chk_some gx8 hq)) ?_
      rintro _ kk ⟨csx8, rfl, rx8, sb⟩
      obtain ⟨yx8_0, yx8_1, ayx8_2, nyx8_2, cyx8_2, yx8_2, rfl, ey, iyx8_0, iyx8_1, ryx8_2⟩ := openGraph rx8
      cases ey
      obtain ⟨rfl, lyx8_2⟩ := Sl.len ryx8_2
      exact And.intro tail0 (And.intro sb ⟨ayx8_2, cyx8_2, rfl, iyx8_0, iyx8_1, ryx8_2, lyx8_2⟩)
    obtain ⟨x11, gx11, hM0⟩ := bsome hM0
    refine Or.inl (Exists.intro (.val (.bool x11)) (And.intro ?_ ?_))
    · intro k12 s13 hq
      rintro _ ⟨az142, cz142, rfl, iz140, iz141, rz142, lz142⟩
      exact Tr.val (t_impl_EqualGraphs _ [.int .i64 x8_0, .int .i64 x8_1, .slice az142 x8_2.length cz142] (x8_0, x8_1, x8_2) (closeGraph iz140 iz141 rz142) [.int .i64 p0_0, .int .i64 p0_1, .slice ap0_2 p0_2.length cp0_2] (p0_0, p0_1, p0_2) (closeGraph ip0_0 ip0_1 (wEdgeS.mono (sx3.trans s13) rp0_2)) _ (chk_some gx11 hq)) (And.intro rfl (And.intro rfl rfl))
    intro k15 s16
    have hE := Option.some.inj hM0; subst hE
    exact And.intro rfl (sx3.trans s16)

theorem t_impl_IsLibrary (h : Hp) (csp0 : List Value) (p0 : LLibrary) (rp0 : wLibrary.R h csp0 p0) (r : Bool) (hM0 : M_impl_IsLibrary p0 = some r) :
    Tr Tryz.prog 11 #[.agg csp0.toArray] h fun v h' => v = .bool r ∧ h' = h := by
  obtain ⟨p0_0, ap0_1, np0_1, cp0_1, p0_1, rfl, rfl, ip0_0, rp0_1⟩ := openLibrary rp0
  obtain ⟨rfl, lp0_1⟩ := Sl.len rp0_1
  unfold M_impl_IsLibrary at hM0
  dsimp only at hM0
  refine Tr.forget (walk (args := [.agg #[.int .i64 p0_0, .slice ap0_1 p0_1.length cp0_1]]) (fn := Tryz.f11) rfl ?_)
  obtain ⟨x1, gx1, hM0⟩ := bsome hM0
  refine Tr.val (t_impl_within _ p0_0 ip0_0 1 (c64 (by decide) (by decide)) 3 (c64 (by decide) (by decide)) _  gx1) ?_
  refine And.intro (fun hc2 => ?_) (fun hc2 => ?_)
  · have hc2 : ((bif (!x1) then true else (decide (((p0_1.length : Nat) : Int) > 16)))) = true := hc2
    rw [if_pos hc2] at hM0
    have hE := Option.some.inj hM0; subst hE
    exact And.intro rfl (Sub.refl _)
  · have hc2 : ((bif (!x1) then true else (decide (((p0_1.length : Nat) : Int) > 16)))) = false := hc2
    rw [if_neg (bneT hc2)] at hM0
    obtain ⟨X3, hLX3, hM0⟩ := bsome hM0
    refine Exists.intro { vars := [18], boxes := [], owns := [], fuel := true } (Exists.intro (fun vs os h' => ∃ (u4 : Int), vs.tail = [.int .i64 u4] ∧ os = [] ∧ Sub h h' ∧ In64 u4 ∧ L_impl_IsLibrary_0 p0_1 p0_0 (fuelOf vs) u4 = some X3) (Exists.intro (fun _ _ => 0) ?_))
    refine And.intro (Exists.intro FUEL ⟨0, rfl, rfl, (Sub.refl _), (c64 (by decide) (by decide)), hLX3⟩) ?_
    rintro v_0 m6 k5 ⟨u4, evX3, eoX3, sX3, iu4, hM1⟩
    cases evX3
    cases eoX3
    replace hM1 : L_impl_IsLibrary_0 p0_1 p0_0 m6 u4 = some X3 := hM1
    obtain _ | m6 := m6
    · cases (show (none : Option _) = some X3 from hM1)
    rw [L_impl_IsLibrary_0_succ] at hM1
    refine And.intro (fun hc7 => ?_) (fun hc7 => ?_)
    · have hc7 : ((decide (u4 < ((p0_1.length : Nat) : Int)))) = true := hc7
      rw [if_pos hc7] at hM1
      obtain ⟨x8, gx8, hM1⟩ := bsome hM1
      obtain ⟨bx8, csx8, ex8, rx8⟩ := Sl.getI (r := wEntry.toRp) (wEntryS.mono sX3 rp0_1) gx8 (by decide)
      refine And.intro bx8 ?_
      obtain ⟨x8_0, x8_1, x8_2, ax8_3, nx8_3, cx8_3, x8_3, rfl, rfl, ix8_0, ix8_1, ix8_2, rx8_3⟩ := openEntry rx8
      obtain ⟨rfl, lx8_3⟩ := Sl.len rx8_3
      dsimp only at hM1
      refine Exists.intro _ (And.intro ex8 ?_)
      refine Or.inl (And.intro (And.intro (by kernel_rfl) (by kernel_rfl)) ?_)
      obtain ⟨x9, gx9, hM1⟩ := bsome hM1
      refine Exists.intro (.bool x9) (And.intro (t_impl_IsName _ x8_0 ix8_0 _  gx9) ?_)
      obtain ⟨x10, gx10, hM1⟩ := bsome hM1
      obtain ⟨csx10, ex10, rx10⟩ := Sl.getG (r := wEntry.toRp) (wEntryS.mono sX3 rp0_1) gx10 (by decide) (dfEntry k5)
      refine And.intro (fun q => (ex10 q).1) ?_
      obtain ⟨x10_0, x10_1, x10_2, ax10_3, nx10_3, cx10_3, x10_3, rfl, rfl, ix10_0, ix10_1, ix10_2, rx10_3⟩ := openEntry rx10
      obtain ⟨rfl, lx10_3⟩ := Sl.len rx10_3
      dsimp only at hM1
      refine Exists.intro _ (And.intro (fun q => (ex10 q).2) ?_)
      obtain ⟨x11, gx11, hM1⟩ := bsome hM1
      refine Exists.intro (.bool x11) (And.intro (fun q => t_impl_IsCore _ [.int .i64 x8_1, .int .i64 x8_2, .slice ax8_3 x8_3.length cx8_3] (x8_1, x8_2, x8_3) (closeGraph ix8_1 ix8_2 rx8_3) _  (chk_some gx11 q)) ?_)
      refine And.intro (fun hc12 => ?_) (fun hc12 => ?_)
      · have hc12 : ((bif (bif (bif (!x9) then true else (bif (decide (u4 > 0)) then (!sltB x10_0 x8_0) else false)) then true else (!decide (x8_1 = p0_0))) then true else (!x11))) = true := hc12
        rw [if_pos hc12] at hM1
        have hE := Option.some.inj hM1; subst hE
        try dsimp only [outK_inl, outL_inl] at hM0
        have hE := Option.some.inj hM0; subst hE
        exact And.intro rfl sX3
      · have hc12 : ((bif (bif (bif (!x9) then true else (bif (decide (u4 > 0)) then (!sltB x10_0 x8_0) else false)) then true else (!decide (x8_1 = p0_0))) then true else (!x11))) = false := hc12
        rw [if_neg (bneT hc12)] at hM1
        refine And.intro rfl (And.intro (by first | exact trivial | exact And.intro rfl trivial | exact And.intro rfl (And.intro rfl trivial) | exact And.intro rfl (And.intro rfl (And.intro rfl trivial)) | exact And.intro rfl (And.intro rfl (And.intro rfl (And.intro rfl trivial)))) (And.intro (by first | exact trivial | exact And.intro rfl trivial | exact And.intro rfl (And.intro rfl trivial) | exact And.intro rfl (And.intro rfl (And.intro rfl trivial)) | exact And.intro rfl (And.intro rfl (And.intro rfl (And.intro rfl trivial)))) (Exists.intro m6 (And.intro ⟨(IntKind.i64.wrap (u4 + 1)), rfl, rfl, sX3, (wrap64 _), hM1⟩ (Nat.lt_succ_self _)))))
    · have hc7 : ((decide (u4 < ((p0_1.length : Nat) : Int)))) = false := hc7
      rw [if_neg (bneT hc7)] at hM1
      have hE := Option.some.inj hM1; subst hE
      try dsimp only [outK_inr, outL_inr] at hM0
      have hE := Option.some.inj hM0; subst hE
      exact And.intro rfl sX3

end Go.Proofs.YthccjgkmmclplaaGreat
