/- The walks of batch g3. -/
import Derived.Test.YthccjgkmmclplaaGreatAg3
import Derived.Test.YthccjgkmmclplaaGreatChecked
import Derived.Test.YthccjgkmmclplaaGreatH35
import Derived.Test.YthccjgkmmclplaaGreatW1
import Derived.Test.YthccjgkmmclplaaGreatW4g
import Derived.Test.YthccjgkmmclplaaGreatW9
import Derived.Test.YthccjgkmmclplaaGreatWg2
import Derived.Test.YthccjgkmmclplaaGreatEN
import Derived.Test.YthccjgkmmclplaaGreatH40
namespace Go.Proofs.YthccjgkmmclplaaGreat
open Go.H
set_option linter.unusedVariables false
set_option linter.unusedSimpArgs false
set_option maxRecDepth 10000
theorem t_impl_copyInts (h : Hp) (ap0 : Option Addr) (np0 cp0 : Nat) (p0 : LIntS) (rp0 : wIntS.R h [.slice ap0 np0 cp0] p0) (r : LIntS) (hM0 : M_impl_copyInts p0 = some r) :
    Tr Tryz.prog 97 #[.slice ap0 np0 cp0] h fun v h' => ∃ (g0 : Nat) (n0 c0 : Nat), v = .slice (some ⟨g0, 0, none⟩) n0 c0 ∧ New wIntS h h' [.slice (some ⟨g0, 0, none⟩) n0 c0] r := by
  obtain ⟨rfl, lp0⟩ := Sl.len rp0
  unfold M_impl_copyInts at hM0
  refine walk (args := [.slice ap0 p0.length cp0]) (fn := Tryz.f97) rfl ?_
  obtain ⟨vsy1, ey1, fy1⟩ := Sl.rows (r := Wp.int.toRp) rp0
  refine Exists.intro vsy1 (And.intro ey1 ?_)
  obtain ⟨q2, gq2, hM0⟩ := bsome hM0
  refine And.intro (room_of gq2 (by first | rw [F2.length (show F2 (Wp.int.R h) ([] : List (List Value)) ([] : LIntS) from trivial), F2.length fy1] | exact congrArg (· + 1) (F2.length (show F2 (Wp.int.R h) ([] : List (List Value)) ([] : LIntS) from trivial)))) ?_
  intro v3 k4 f5
  obtain ⟨gz6, cz6, rfl, rz6, sz6, lz6⟩ := Froze.outS (r := Wp.int.toRp) f5 (F2.append (show F2 (Wp.int.R h) ([] : List (List Value)) ([] : LIntS) from trivial) fy1)
  have hE := Option.some.inj hM0; subst hE
  exact ⟨gz6, ((([] : LIntS) ++ p0)).length, cz6, rfl, (Froze.newPlain (r := Wp.int) f5 (F2.append (show F2 (Wp.int.R h) ([] : List (List Value)) ([] : LIntS) from trivial) fy1) (plInt _))⟩

theorem t_impl_Graph_tree (h : Hp) (csp0 : List Value) (p0 : LGraph) (rp0 : wGraph.R h csp0 p0) (p1 : Int) (ip1 : In64 p1) (r : LIntS × LIntSS) (hM0 : M_impl_Graph_tree p0 p1 = some r) :
    Tr Tryz.prog 153 #[.agg csp0.toArray, .int .i64 p1] h fun v h' => ∃ (a0 : Option Addr) (n0 c0 : Nat) (a1 : Option Addr) (n1 c1 : Nat), v = .tuple #[.slice a0 n0 c0, .slice a1 n1 c1] ∧ wIntS.R h' [.slice a0 n0 c0] r.1 ∧ wIntSS.R h' [.slice a1 n1 c1] r.2 ∧ Sub h h' := by
  obtain ⟨p0_0, p0_1, ap0_2, np0_2, cp0_2, p0_2, rfl, rfl, ip0_0, ip0_1, rp0_2⟩ := openGraph rp0
  obtain ⟨rfl, lp0_2⟩ := Sl.len rp0_2
  unfold M_impl_Graph_tree at hM0
  dsimp only at hM0
  refine walk (args := [.agg #[.int .i64 p0_0, .int .i64 p0_1, .slice ap0_2 p0_2.length cp0_2], .int .i64 p1]) (fn := Tryz.f153) rfl ?_
  obtain ⟨q1, gq1, hM0⟩ := bsome hM0
  refine And.intro (grd_some gq1) ?_
  obtain ⟨x2, gx2, hM0⟩ := bsome hM0
  obtain ⟨bx2, csx2, ex2, rx2⟩ := oel_get (F2.rep (p := Wp.opt.R h) (a := [.slice none 0 0]) (b := none) (noneR h) (p0_1.toNat)) gx2
  refine And.intro bx2 ?_
  obtain ⟨ax2, nx2, cx2, rfl, ox2, qx2⟩ := rx2
  obtain ⟨rfl, lx2⟩ := Sl.len qx2
  intro v3 k4 f5
  obtain ⟨gz6, cz6, rfl, rz6, sz6, lz6⟩ := Froze.outS (r := Wp.int.toRp) f5 (show F2 (Wp.int.R h) ([] : List (List Value)) ([] : LIntS) from trivial)
  refine Exists.intro _ (And.intro ex2 ?_)
  obtain ⟨X7, hLX7, hM0⟩ := bsome hM0
  refine Exists.intro { vars := [8], boxes := [], owns := [0, 2], fuel := true, kept := [0] } (Exists.intro (fun vs os h' => ∃ (u8 : Int) (wu9 : List (List Value)) (u9 : List (Option LIntS)) (wu10 : List (List Value)) (u10 : List Int), vs.tail = [.int .i64 u8] ∧ os = [wu9, wu10] ∧ Sub k4 h' ∧ In64 u8 ∧ F2 (Wp.opt.R h') wu9 u9 ∧ F2 (Wp.int.R h') wu10 u10 ∧ L_impl_Graph_tree_1 p0_0 p0_1 p0_2 (fuelOf vs) u8 u9 u10 = some X7) (Exists.intro (fun _ _ => 0) ?_))
  refine And.intro (Exists.intro FUEL ⟨0, ((List.replicate p0_1.toNat ([.slice none 0 0] : List Value)).set p1.toNat [.slice (some ⟨gz6, 0, none⟩) (([] : LIntS)).length cz6]), ((List.replicate p0_1.toNat (none : Option LIntS)).set p1.toNat (some ([] : LIntS))), ([[.int .i64 p1]] : List (List Value)), [p1], rfl, rfl, (Sub.refl _), (c64 (by decide) (by decide)), (F2.set (p := Wp.opt.R k4) (a := [.slice (some ⟨gz6, 0, none⟩) (([] : LIntS)).length cz6]) (b := some ([] : LIntS)) (someR rz6) p1.toNat (F2.up (r := Wp.opt.toRp) sz6 (F2.rep (p := Wp.opt.R h) (a := [.slice none 0 0]) (b := none) (noneR h) (p0_1.toNat)))), (show F2 (Wp.int.R k4) ([[.int .i64 p1]] : List (List Value)) [p1] from ⟨⟨rfl, ip1⟩, trivial⟩), hLX7⟩) ?_
  rintro v_0 wu9 wu10 m12 k11 ⟨u8, zzu9, u9, zzu10, u10, evX7, eoX7, sX7, iu8, fu9, fu10, hM1⟩
  cases evX7
  cases eoX7
  replace hM1 : L_impl_Graph_tree_1 p0_0 p0_1 p0_2 m12 u8 u9 u10 = some X7 := hM1
  obtain _ | m12 := m12
  · cases (show (none : Option _) = some X7 from hM1)
  rw [L_impl_Graph_tree_1_succ] at hM1
  obtain ⟨m13, gm13, hM1⟩ := bsome hM1
  obtain rfl : wu10.length = m13 := (F2.length fu10).trans (Option.some.inj gm13)
  obtain ⟨q14, gq14, hM1⟩ := bsome hM1
  refine And.intro (fun hc15 => ?_) (fun hc15 => ?_)
  · have hc15 : ((decide (u8 < ((wu10.length : Nat) : Int)))) = true := hc15
    rw [if_pos hc15] at hM1
    obtain ⟨x16, gx16, hM1⟩ := bsome hM1
    obtain ⟨bx16, csx16, ex16, rx16⟩ := oel_get fu10 gx16
    refine And.intro bx16 ?_
    obtain ⟨rfl, ix16⟩ := rx16
    refine Exists.intro _ (And.intro ex16 ?_)
    obtain ⟨x17, gx17, hM1⟩ := bsome hM1
    refine Tr.mono (t_impl_letters _ p0_0 ip0_0 _  gx17) ?_
    rintro v19 k18 ⟨ax17, nx17, cx17, rfl, rx17, sx17⟩
    obtain ⟨rfl, lx17⟩ := Sl.len rx17
    obtain ⟨X20, hLX20, hM1⟩ := bsome hM1
    refine Exists.intro { vars := [36], boxes := [], owns := [0, 2], fuel := true, kept := [0] } (Exists.intro (fun vs os h' => ∃ (u21 : Int) (wu22 : List (List Value)) (u22 : List (Option LIntS)) (wu23 : List (List Value)) (u23 : List Int), vs.tail = [.int .i64 u21] ∧ os = [wu22, wu23] ∧ Sub k18 h' ∧ In64 u21 ∧ F2 (Wp.opt.R h') wu22 u22 ∧ F2 (Wp.int.R h') wu23 u23 ∧ L_impl_Graph_tree_0 x17 p0_0 p0_1 p0_2 x16 (fuelOf vs) u21 u22 u23 = some X20) (Exists.intro (fun _ _ => 0) ?_))
    refine And.intro (Exists.intro FUEL ⟨0, wu9, u9, wu10, u10, rfl, rfl, (Sub.refl _), (c64 (by decide) (by decide)), (F2.up (r := Wp.opt.toRp) sx17 fu9), (F2.up (r := Wp.int.toRp) sx17 fu10), hLX20⟩) ?_
    rintro v_0 wu22 wu23 m25 k24 ⟨u21, zzu22, u22, zzu23, u23, evX20, eoX20, sX20, iu21, fu22, fu23, hM2⟩
    cases evX20
    cases eoX20
    replace hM2 : L_impl_Graph_tree_0 x17 p0_0 p0_1 p0_2 x16 m25 u21 u22 u23 = some X20 := hM2
    obtain _ | m25 := m25
    · cases (show (none : Option _) = some X20 from hM2)
    rw [L_impl_Graph_tree_0_succ] at hM2
    refine And.intro (fun hc26 => ?_) (fun hc26 => ?_)
    · have hc26 : ((decide (u21 < ((x17.length : Nat) : Int)))) = true := hc26
      rw [if_pos hc26] at hM2
      obtain ⟨x27, gx27, hM2⟩ := bsome hM2
      obtain ⟨bx27, csx27, ex27, rx27⟩ := Sl.getI (r := Wp.int.toRp) (wIntS.mono sX20 rx17) gx27 (by decide)
      refine And.intro bx27 ?_
      obtain ⟨rfl, ix27⟩ := rx27
      refine Exists.intro _ (And.intro ex27 ?_)
      obtain ⟨x28, gx28, hM2⟩ := bsome hM2
      refine Tr.val (t_impl_NextVertex _ [.int .i64 p0_0, .int .i64 p0_1, .slice ap0_2 p0_2.length cp0_2] (p0_0, p0_1, p0_2) (closeGraph ip0_0 ip0_1 (wEdgeS.mono (((sz6.trans sX7).trans sx17).trans sX20) rp0_2)) x16 ix16 x27 ix27 _  gx28) ?_
      obtain ⟨q29, gq29, hM2⟩ := bsome hM2
      have ix28 : In64 x28 := grd_some gq29
      obtain ⟨x30, gx30, hM2⟩ := bsome hM2
      obtain ⟨csx30, ex30, rx30⟩ := oel_getG fu22 gx30 (dfOpt k24)
      refine And.intro (fun q => (ex30 q).1) ?_
      obtain ⟨ax30, nx30, cx30, rfl, ox30, qx30⟩ := rx30
      obtain ⟨rfl, lx30⟩ := Sl.len qx30
      refine Exists.intro _ (And.intro (fun q => (ex30 q).2) ?_)
      refine Exists.intro (x30.isNone) (And.intro (fun _ => by rw [← ox30]; exact eqNil _ _ _ rfl _ _ _) ?_)
      refine And.intro (fun hc31 => ?_) (fun hc31 => ?_)
      · have hc31 : ((bif (decide (x28 ≥ 0)) then x30.isNone else false)) = true := hc31
        rw [if_pos hc31] at hM2
        obtain ⟨x32, gx32, hM2⟩ := bsome hM2
        obtain ⟨bx32, csx32, ex32, rx32⟩ := oel_get fu22 gx32
        refine And.intro bx32 ?_
        obtain ⟨ax32, nx32, cx32, rfl, ox32, qx32⟩ := rx32
        obtain ⟨rfl, lx32⟩ := Sl.len qx32
        refine Exists.intro _ (And.intro ex32 ?_)
        obtain ⟨x33, gx33, hM2⟩ := bsome hM2
        refine Tr.mono (t_impl_copyInts _ ax32 (x32.getD []).length cx32 (x32.getD []) qx32 _  gx33) ?_
        rintro v35 k34 ⟨gx33, nx33, cx33, rfl, wx33⟩
        have sx33 : Sub k24 k34 := wx33.sub
        have rx33 := wx33.r
        obtain ⟨rfl, lx33⟩ := Sl.len rx33
        obtain ⟨q36, gq36, hM2⟩ := bsome hM2
        obtain ⟨vsz37, rxz37, lnz37, apz37⟩ := New.app wx33 (Sub.refl _)
        refine Exists.intro vsz37 (And.intro rxz37 (And.intro (room_of gq36 (by first | rw [lnz37, F2.length (show F2 (Wp.int.R k34) ([[.int .i64 x27]] : List (List Value)) [x27] from ⟨⟨rfl, ix27⟩, trivial⟩)] | (rw [lnz37]; rfl))) ?_))
        intro vz37 kz37 happz37
        obtain ⟨wz37, gz37, oz37, nz37, cz37, rfl⟩ := apz37 _ _ _ _ _ (F3.ofPlain (plInt _) (show F2 (Wp.int.R k34) ([[.int .i64 x27]] : List (List Value)) [x27] from ⟨⟨rfl, ix27⟩, trivial⟩)) Fresh.ofPlain happz37
        have rz37 := wz37.r
        obtain ⟨ez37, lz37⟩ := Sl.len rz37
        subst ez37
        obtain ⟨x38, gx38, hM2⟩ := bsome hM2
        obtain ⟨bx38, csx38, ex38, rx38⟩ := oel_get (F2.up (r := Wp.opt.toRp) wz37.sub fu22) gx38
        refine And.intro bx38 ?_
        obtain ⟨ax38, nx38, cx38, rfl, ox38, qx38⟩ := rx38
        obtain ⟨rfl, lx38⟩ := Sl.len qx38
        refine Exists.intro _ (And.intro ex38 ?_)
        obtain ⟨q39, gq39, hM2⟩ := bsome hM2
        refine And.intro (room_of gq39 (by first | rw [F2.length (F2.up (r := Wp.int.toRp) wz37.sub fu23), F2.length (show F2 (Wp.int.R kz37) ([[.int .i64 x28]] : List (List Value)) [x28] from ⟨⟨rfl, ix28⟩, trivial⟩)] | exact congrArg (· + 1) (F2.length (F2.up (r := Wp.int.toRp) wz37.sub fu23)))) ?_
        refine And.intro rfl (And.intro (by first | exact trivial | exact And.intro rfl trivial | exact And.intro rfl (And.intro rfl trivial) | exact And.intro rfl (And.intro rfl (And.intro rfl trivial)) | exact And.intro rfl (And.intro rfl (And.intro rfl (And.intro rfl trivial)))) (And.intro (by first | exact trivial | exact And.intro rfl trivial | exact And.intro rfl (And.intro rfl trivial) | exact And.intro rfl (And.intro rfl (And.intro rfl trivial)) | exact And.intro rfl (And.intro rfl (And.intro rfl (And.intro rfl trivial)))) (Exists.intro m25 (And.intro ⟨(IntKind.i64.wrap (u21 + 1)), (wu22.set x28.toNat [.slice (some ⟨gz37, oz37, none⟩) (x33 ++ [x27]).length cz37]), (u22.set x28.toNat (some (x33 ++ [x27]))), (wu23 ++ ([[.int .i64 x28]] : List (List Value))), (u23 ++ [x28]), rfl, rfl, (sX20.trans wz37.sub), (wrap64 _), (F2.set (p := Wp.opt.R kz37) (a := [.slice (some ⟨gz37, oz37, none⟩) (x33 ++ [x27]).length cz37]) (b := some (x33 ++ [x27])) (someR rz37) x28.toNat (F2.up (r := Wp.opt.toRp) wz37.sub fu22)), (F2.append (F2.up (r := Wp.int.toRp) wz37.sub fu23) (show F2 (Wp.int.R kz37) ([[.int .i64 x28]] : List (List Value)) [x28] from ⟨⟨rfl, ix28⟩, trivial⟩)), hM2⟩ (Nat.lt_succ_self _)))))
      · have hc31 : ((bif (decide (x28 ≥ 0)) then x30.isNone else false)) = false := hc31
        rw [if_neg (bneT hc31)] at hM2
        refine And.intro rfl (And.intro (by first | exact trivial | exact And.intro rfl trivial | exact And.intro rfl (And.intro rfl trivial) | exact And.intro rfl (And.intro rfl (And.intro rfl trivial)) | exact And.intro rfl (And.intro rfl (And.intro rfl (And.intro rfl trivial)))) (And.intro (by first | exact trivial | exact And.intro rfl trivial | exact And.intro rfl (And.intro rfl trivial) | exact And.intro rfl (And.intro rfl (And.intro rfl trivial)) | exact And.intro rfl (And.intro rfl (And.intro rfl (And.intro rfl trivial)))) (Exists.intro m25 (And.intro ⟨(IntKind.i64.wrap (u21 + 1)), wu22, u22, wu23, u23, rfl, rfl, sX20, (wrap64 _), fu22, fu23, hM2⟩ (Nat.lt_succ_self _)))))
    · have hc26 : ((decide (u21 < ((x17.length : Nat) : Int)))) = false := hc26
      rw [if_neg (bneT hc26)] at hM2
      have hE := Option.some.inj hM2; subst hE
      try dsimp only [outK_inr, outL_inr] at hM1
      refine And.intro rfl (And.intro (by first | exact trivial | exact And.intro rfl trivial | exact And.intro rfl (And.intro rfl trivial) | exact And.intro rfl (And.intro rfl (And.intro rfl trivial)) | exact And.intro rfl (And.intro rfl (And.intro rfl (And.intro rfl trivial)))) (And.intro (by first | exact trivial | exact And.intro rfl trivial | exact And.intro rfl (And.intro rfl trivial) | exact And.intro rfl (And.intro rfl (And.intro rfl trivial)) | exact And.intro rfl (And.intro rfl (And.intro rfl (And.intro rfl trivial)))) (Exists.intro m12 (And.intro ⟨(IntKind.i64.wrap (u8 + 1)), wu22, u22, wu23, u23, rfl, rfl, ((sX7.trans sx17).trans sX20), (wrap64 _), fu22, fu23, hM1⟩ (Nat.lt_succ_self _)))))
  · have hc15 : ((decide (u8 < ((wu10.length : Nat) : Int)))) = false := hc15
    rw [if_neg (bneT hc15)] at hM1
    have hE := Option.some.inj hM1; subst hE
    try dsimp only [outK_inr, outL_inr] at hM0
    intro v45 k46 f47
    obtain ⟨az48, cz48, rfl, rz48, sz48, lz48⟩ := Froze.out (r := Wp.int.toRp) f47 fu10
    intro v49 k50 f51
    obtain ⟨az52, cz52, rfl, rz52, sz52, lz52⟩ := Froze.out (r := wIntS.toRp) f51 (F2.ofOpt (F2.up (r := Wp.opt.toRp) sz48 fu9))
    have hE := Option.some.inj hM0; subst hE
    exact ⟨az48, u10.length, cz48, az52, (List.map (fun o : Option LIntS => o.getD ([] : LIntS)) u9).length, cz52, rfl, (wIntS.mono sz52 rz48), rz52, (((sz6.trans sX7).trans sz48).trans sz52)⟩

theorem t_impl_CanonicalOrder (h : Hp) (csp0 : List Value) (p0 : LGraph) (rp0 : wGraph.R h csp0 p0) (r : LIntS) (hM0 : M_impl_CanonicalOrder p0 = some r) :
    Tr Tryz.prog 133 #[.agg csp0.toArray] h fun v h' => ∃ (a0 : Option Addr) (n0 c0 : Nat), v = .slice a0 n0 c0 ∧ wIntS.R h' [.slice a0 n0 c0] r ∧ Sub h h' := by
  obtain ⟨p0_0, p0_1, ap0_2, np0_2, cp0_2, p0_2, rfl, rfl, ip0_0, ip0_1, rp0_2⟩ := openGraph rp0
  obtain ⟨rfl, lp0_2⟩ := Sl.len rp0_2
  unfold M_impl_CanonicalOrder at hM0
  dsimp only at hM0
  refine walk (args := [.agg #[.int .i64 p0_0, .int .i64 p0_1, .slice ap0_2 p0_2.length cp0_2]]) (fn := Tryz.f133) rfl ?_
  obtain ⟨x1, gx1, hM0⟩ := bsome hM0
  refine Tr.val (t_impl_IsFolded _ [.int .i64 p0_0, .int .i64 p0_1, .slice ap0_2 p0_2.length cp0_2] (p0_0, p0_1, p0_2) (closeGraph ip0_0 ip0_1 rp0_2) _  gx1) ?_
  refine And.intro (fun hc2 => ?_) (fun hc2 => ?_)
  · have hc2 : ((!x1)) = true := hc2
    rw [if_pos hc2] at hM0
    intro v3 k4 f5
    obtain ⟨az6, cz6, rfl, rz6, sz6, lz6⟩ := Froze.out (r := Wp.int.toRp) f5 (show F2 (Wp.int.R h) ([] : List (List Value)) ([] : LIntS) from trivial)
    have hE := Option.some.inj hM0; subst hE
    exact ⟨az6, (([] : LIntS)).length, cz6, rfl, rz6, sz6⟩
  · have hc2 : ((!x1)) = false := hc2
    rw [if_neg (bneT hc2)] at hM0
    obtain ⟨x7, gx7, hM0⟩ := bsome hM0
    refine Tr.mono (t_impl_Graph_tree _ [.int .i64 p0_0, .int .i64 p0_1, .slice ap0_2 p0_2.length cp0_2] (p0_0, p0_1, p0_2) (closeGraph ip0_0 ip0_1 rp0_2) 0 (c64 (by decide) (by decide)) _  gx7) ?_
    rintro v9 k8 ⟨ax7_0, nx7_0, cx7_0, ax7_1, nx7_1, cx7_1, rfl, rx7_0, rx7_1, sx7⟩
    obtain ⟨x7_0, x7_1⟩ := x7
    dsimp only at hM0 rx7_0 rx7_1
    obtain ⟨rfl, lx7_0⟩ := Sl.len rx7_0
    obtain ⟨rfl, lx7_1⟩ := Sl.len rx7_1
    have hE := Option.some.inj hM0; subst hE
    exact ⟨ax7_0, x7_0.length, cx7_0, rfl, rx7_0, sx7⟩

theorem t_impl_CanonicalGraph (h : Hp) (csp0 : List Value) (p0 : LGraph) (rp0 : wGraph.R h csp0 p0) (r : LGraph) (hM0 : M_impl_CanonicalGraph p0 = some r) :
    Tr Tryz.prog 89 #[.agg csp0.toArray] h fun v h' => ∃ (cs0 : List Value), v = .agg cs0.toArray ∧ wGraph.R h' cs0 r ∧ Sub h h' := by
  obtain ⟨p0_0, p0_1, ap0_2, np0_2, cp0_2, p0_2, rfl, rfl, ip0_0, ip0_1, rp0_2⟩ := openGraph rp0
  obtain ⟨rfl, lp0_2⟩ := Sl.len rp0_2
  unfold M_impl_CanonicalGraph at hM0
  dsimp only at hM0
  refine walk (args := [.agg #[.int .i64 p0_0, .int .i64 p0_1, .slice ap0_2 p0_2.length cp0_2]]) (fn := Tryz.f89) rfl ?_
  obtain ⟨x1, gx1, hM0⟩ := bsome hM0
  refine Tr.val (t_impl_IsFolded _ [.int .i64 p0_0, .int .i64 p0_1, .slice ap0_2 p0_2.length cp0_2] (p0_0, p0_1, p0_2) (closeGraph ip0_0 ip0_1 rp0_2) _  gx1) ?_
  refine And.intro (fun hc2 => ?_) (fun hc2 => ?_)
  · have hc2 : ((!x1)) = true := hc2
    rw [if_pos hc2] at hM0
    obtain ⟨x3, gx3, hM0⟩ := bsome hM0
    refine Tr.mono (t_impl_copyGraph _ [.int .i64 p0_0, .int .i64 p0_1, .slice ap0_2 p0_2.length cp0_2] (p0_0, p0_1, p0_2) (closeGraph ip0_0 ip0_1 rp0_2) _  gx3) ?_
    rintro v5 k4 ⟨csx3, rfl, wx3⟩
    have sx3 : Sub h k4 := wx3.sub
    have rx3 := wx3.r
    obtain ⟨x3_0, x3_1, ax3_2, nx3_2, cx3_2, x3_2, rfl, rfl, ix3_0, ix3_1, rx3_2⟩ := openGraph rx3
    obtain ⟨rfl, lx3_2⟩ := Sl.len rx3_2
    try dsimp only at hM0
    have hE := Option.some.inj hM0; subst hE
    exact ⟨([.int .i64 x3_0, .int .i64 x3_1, .slice ax3_2 x3_2.length cx3_2]), rfl, (closeGraph ix3_0 ix3_1 rx3_2), sx3⟩
  · have hc2 : ((!x1)) = false := hc2
    rw [if_neg (bneT hc2)] at hM0
    refine Or.inr (Or.inr (Or.inl (And.intro (And.intro (by kernel_rfl) (by kernel_rfl)) ?_)))
    refine Or.inr ?_
    refine Or.inr ?_
    refine Or.inr ?_
    refine Exists.intro 2 (And.intro (And.intro rfl rfl) ?_)
    obtain ⟨x6, gx6, hM0⟩ := bsome hM0
    refine Tr.mono (t_impl_CanonicalOrder _ [.int .i64 p0_0, .int .i64 p0_1, .slice ap0_2 p0_2.length cp0_2] (p0_0, p0_1, p0_2) (closeGraph ip0_0 ip0_1 rp0_2) _  gx6) ?_
    rintro v8 k7 ⟨ax6, nx6, cx6, rfl, rx6, sx6⟩
    obtain ⟨rfl, lx6⟩ := Sl.len rx6
    refine And.intro (And.intro rfl sx6) (And.intro (by first | exact trivial | exact rfl) ?_)
    obtain ⟨x9, gx9, hM0⟩ := bsome hM0
    refine Tr.mono (t_impl_part _ [.int .i64 p0_0, .int .i64 p0_1, .slice ap0_2 p0_2.length cp0_2] (p0_0, p0_1, p0_2) (closeGraph ip0_0 ip0_1 (wEdgeS.mono sx6 rp0_2)) ax6 x6.length cx6 x6 rx6 _  gx9) ?_
    rintro v11 k10 ⟨csx9, rfl, wx9⟩
    have sx9 : Sub k7 k10 := wx9.sub
    have rx9 := wx9.r
    obtain ⟨x9_0, x9_1, ax9_2, nx9_2, cx9_2, x9_2, rfl, rfl, ix9_0, ix9_1, rx9_2⟩ := openGraph rx9
    obtain ⟨rfl, lx9_2⟩ := Sl.len rx9_2
    try dsimp only at hM0
    refine And.intro (And.intro rfl sx9) (And.intro (by first | exact trivial | exact rfl) ?_)
    refine And.intro trivial (And.intro (by first | exact trivial | exact rfl) ?_)
    have hE := Option.some.inj hM0; subst hE
    exact ⟨([.int .i64 x9_0, .int .i64 x9_1, .slice ax9_2 x9_2.length cx9_2]), rfl, (closeGraph ix9_0 ix9_1 rx9_2), (sx6.trans sx9)⟩

end Go.Proofs.YthccjgkmmclplaaGreat
