/- Texts of the claim, joined: The walks of batch b2; The walks of batch m2. -/
import Derived.Test.YtknoadmdnjaocaaGreatPart18
import Derived.Test.YtknoadmdnjaocaaGreatChecked
import Derived.Test.YtknoadmdnjaocaaGreatH35
import Derived.Test.YtknoadmdnjaocaaGreatPart25
import Derived.Test.YtknoadmdnjaocaaGreatPart27
import Derived.Test.YtknoadmdnjaocaaGreatH41
import Derived.Test.YtknoadmdnjaocaaGreatPart21
import Derived.Test.YtknoadmdnjaocaaGreatPart17
import Derived.Test.YtknoadmdnjaocaaGreatH36
import Derived.Test.YtknoadmdnjaocaaGreatH40
namespace Go.Proofs.YtknoadmdnjaocaaGreat
open Go.H
set_option linter.unusedVariables false
set_option linter.unusedSimpArgs false
set_option maxRecDepth 10000
theorem h01 (h : Hp) (csp0 : List Value) (p0 : j0) (rp0 : S0.R h csp0 p0) (r : Bool) (hM0 : R5 p0 = some r) :
  Tr Tryz.prog 108 #[.agg csp0.toArray] h fun v h' => v = .bool r ∧ h' = h := by
 obtain ⟨p0_0, p0_1, ap0_2, np0_2, cp0_2, p0_2, rfl, rfl, ip0_0, ip0_1, rp0_2⟩ := B0 rp0
 obtain ⟨rfl, lp0_2⟩ := Sl.len rp0_2
 unfold R5 at hM0
 dsimp only at hM0
 refine Tr.forget (j3 (args := [.agg #[.int .i64 p0_0, .int .i64 p0_1, .slice ap0_2 p0_2.length cp0_2]]) (fn := Tryz.f108) rfl ?_)
 refine And.intro (by kernel_rfl) ?_
 obtain ⟨x1, gx1, hM0⟩ := l0 hM0
 refine Or.inl (Exists.intro (.val (.bool x1)) (And.intro ?_ ?_))
 ·intro k2 s3
  exact Tr.val (p05 _ [.int .i64 p0_0, .int .i64 p0_1, .slice ap0_2 p0_2.length cp0_2] (p0_0, p0_1, p0_2) (z0 ip0_0 ip0_1 (J0.mono s3 rp0_2)) _ gx1) (And.intro rfl (And.intro rfl rfl))
 obtain ⟨x4, gx4, hM0⟩ := l0 hM0
 refine Or.inr (Exists.intro (fun v hh => ∃ (a : Option Addr) (c : Nat), v = .slice a x4.length c ∧ J0.R hh [.slice a x4.length c] x4 ∧ x4.length ≤ 9223372036854775807) (And.intro (fun v h1 h2 sb q => by obtain ⟨a, c, e, r, l⟩ := q; exact ⟨a, c, e, J0.mono sb r, l⟩) (And.intro ?_ ?_)))
 ·intro k5 s6 hq
  refine Tr.mono (X04 _ [.int .i64 p0_0, .int .i64 p0_1, .slice ap0_2 p0_2.length cp0_2] (p0_0, p0_1, p0_2) (z0 ip0_0 ip0_1 (J0.mono s6 rp0_2)) _ (E2 gx4 hq)) ?_
  rintro _ kk ⟨ax4, nx4, cx4, rfl, rx4, sb⟩
  obtain ⟨rfl, lx4⟩ := Sl.len rx4
  exact And.intro v06 (And.intro sb ⟨ax4, cx4, rfl, rx4, lx4⟩)
 obtain ⟨q7, gq7, hM0⟩ := l0 hM0
 refine Or.inl (Exists.intro (.val (.int .i64 ((x4.length : Nat) : Int))) (And.intro ?_ ?_))
 ·intro k8 s9 hq
  rintro _ ⟨az10, cz10, rfl, rz10, lz10⟩
  exact And.intro rfl (And.intro rfl rfl)
 refine Or.inl (Exists.intro (.val (.bool (decide (((x4.length : Nat) : Int) = 0)))) (And.intro ?_ ?_))
 ·intro k11 s12 hq
  exact And.intro rfl (And.intro rfl rfl)
 intro k13 s14
 have hE := Option.some.inj hM0; subst hE
 exact And.intro rfl s14
theorem F08 (h : Hp) (csp0 : List Value) (p0 : j0) (rp0 : S0.R h csp0 p0) (p1 : Int) (ip1 : N0 p1) (r : j0 × Bool) (hM0 : L8 p0 p1 = some r) :
  Tr Tryz.prog 191 #[.agg csp0.toArray, .int .i64 p1] h fun v h' => ∃ (cs0 : List Value), v = .tuple #[.agg cs0.toArray, .bool r.2] ∧ New S0 h h' cs0 r.1 := by
 obtain ⟨p0_0, p0_1, ap0_2, np0_2, cp0_2, p0_2, rfl, rfl, ip0_0, ip0_1, rp0_2⟩ := B0 rp0
 obtain ⟨rfl, lp0_2⟩ := Sl.len rp0_2
 unfold L8 at hM0
 dsimp only at hM0
 refine j3 (args := [.agg #[.int .i64 p0_0, .int .i64 p0_1, .slice ap0_2 p0_2.length cp0_2], .int .i64 p1]) (fn := Tryz.f191) rfl ?_
 obtain ⟨x1, gx1, hM0⟩ := l0 hM0
 refine Tr.val (V7 _ [.int .i64 p0_0, .int .i64 p0_1, .slice ap0_2 p0_2.length cp0_2] (p0_0, p0_1, p0_2) (z0 ip0_0 ip0_1 rp0_2) _  gx1) ?_
 obtain ⟨x2, gx2, hM0⟩ := l0 hM0
 refine Exists.intro (.bool x2) (And.intro (fun q => t8 _ [.int .i64 p0_0, .int .i64 p0_1, .slice ap0_2 p0_2.length cp0_2] (p0_0, p0_1, p0_2) (z0 ip0_0 ip0_1 rp0_2) p1 ip1 _  (E2 gx2 q)) ?_)
 refine And.intro (fun hc3 => ?_) (fun hc3 => ?_)
 ·replace hM0 := ifP hM0 hc3
  obtain ⟨x4, gx4, hM0⟩ := l0 hM0
  refine Tr.mono (F7 _ [.int .i64 p0_0, .int .i64 p0_1, .slice ap0_2 p0_2.length cp0_2] (p0_0, p0_1, p0_2) (z0 ip0_0 ip0_1 rp0_2) _  gx4) ?_
  rintro v6 k5 ⟨gx4_2, nx4_2, cx4_2, rfl, wx4⟩
  have sx4 : Sub h k5 := wx4.sub
  have rx4 := wx4.r
  obtain ⟨x4_0, x4_1, x4_2⟩ := x4
  dsimp only at hM0 wx4 rx4
  obtain ⟨_, _, _, _, _, _, ecx4, exx4, ix4_0, ix4_1, rx4_2⟩ := B0 rx4
  cases ecx4
  cases exx4
  obtain ⟨rfl, lx4_2⟩ := Sl.len rx4_2
  try dsimp only at hM0
  have we7 := New.sndI (New.sndI (wx4))
  have hE := Option.some.inj hM0; subst hE
  exact ⟨([.int .i64 x4_0, .int .i64 x4_1, .slice (some ⟨gx4_2, 0, none⟩) x4_2.length cx4_2]), rfl, (New.pair (New.int ix4_0) (New.pair (New.int ix4_1) we7))⟩
 ·replace hM0 := ifN hM0 hc3
  obtain ⟨X8, hLX8, hM0⟩ := l0 hM0
  refine Exists.intro { vars := [7], boxes := [], owns := [0], fuel := true } (Exists.intro (fun vs os h' => ∃ (u9 : Int) (wu10 : List (List Value)) (u10 : List Int), vs.tail = [.int .i64 u9] ∧ os = [wu10] ∧ Sub h h' ∧ N0 u9 ∧ F2 (Wp.int.R h') wu10 u10 ∧ n5 p0_1 p1 (Y1 vs) u9 u10 = some X8) (Exists.intro (fun _ _ => 0) ?_))
  refine And.intro (Exists.intro U0 ⟨0, ([[.int .i64 p1]] : List (List Value)), [p1], rfl, rfl, (Sub.refl _), (c64 (by decide) (by decide)), (show F2 (Wp.int.R h) ([[.int .i64 p1]] : List (List Value)) [p1] from ⟨⟨rfl, ip1⟩, trivial⟩), hLX8⟩) ?_
  rintro v_0 wu10 m12 k11 ⟨u9, zzu10, u10, evX8, eoX8, sX8, iu9, fu10, hM1⟩
  cases evX8
  cases eoX8
  replace hM1 : n5 p0_1 p1 m12 u9 u10 = some X8 := hM1
  obtain _ | m12 := m12
  ·cases (show (none : Option _) = some X8 from hM1)
  rw [n5.eq_2] at hM1
  refine And.intro (fun hc13 => ?_) (fun hc13 => ?_)
  ·replace hM1 := ifP hM1 hc13
   refine And.intro (fun hc14 => ?_) (fun hc14 => ?_)
   ·replace hM1 := ifP hM1 hc14
    obtain ⟨q15, gq15, hM1⟩ := l0 hM1
    refine And.intro (N1 gq15 (by first | rw [F2.length fu10, F2.length (show F2 (Wp.int.R k11) ([[.int .i64 u9]] : List (List Value)) [u9] from ⟨⟨rfl, iu9⟩, trivial⟩)] | exact congrArg (· + 1) (F2.length fu10))) ?_
    refine And.intro rfl (And.intro (by repeat (first | exact trivial | refine And.intro rfl ?_)) (And.intro (by repeat (first | exact trivial | refine And.intro rfl ?_)) (Exists.intro m12 (And.intro ⟨(IntKind.i64.wrap (u9 + 1)), (wu10 ++ ([[.int .i64 u9]] : List (List Value))), (u10 ++ [u9]), rfl, rfl, sX8, (M0 _), (F2.append fu10 (show F2 (Wp.int.R k11) ([[.int .i64 u9]] : List (List Value)) [u9] from ⟨⟨rfl, iu9⟩, trivial⟩)), hM1⟩ (Nat.lt_succ_self _)))))
   ·replace hM1 := ifN hM1 hc14
    refine And.intro rfl (And.intro (by repeat (first | exact trivial | refine And.intro rfl ?_)) (And.intro (by repeat (first | exact trivial | refine And.intro rfl ?_)) (Exists.intro m12 (And.intro ⟨(IntKind.i64.wrap (u9 + 1)), wu10, u10, rfl, rfl, sX8, (M0 _), fu10, hM1⟩ (Nat.lt_succ_self _)))))
  ·replace hM1 := ifN hM1 hc13
   have hE := Option.some.inj hM1; subst hE
   try dsimp only [Y0, Z0] at hM0
   refine Or.inl ?_
   intro v16 k17 f18
   obtain ⟨az19, cz19, rfl, rz19, sz19, lz19⟩ := Q0.out (r := Wp.int.toRp) f18 fu10
   obtain ⟨x20, gx20, hM0⟩ := l0 hM0
   refine Tr.mono (A04 _ [.int .i64 p0_0, .int .i64 p0_1, .slice ap0_2 p0_2.length cp0_2] (p0_0, p0_1, p0_2) (z0 ip0_0 ip0_1 (J0.mono (sX8.trans sz19) rp0_2)) az19 u10.length cz19 u10 rz19 _  gx20) ?_
   rintro v22 k21 ⟨csx20, rfl, wx20⟩
   have sx20 : Sub k17 k21 := wx20.sub
   have rx20 := wx20.r
   obtain ⟨x20_0, x20_1, ax20_2, nx20_2, cx20_2, x20_2, rfl, rfl, ix20_0, ix20_1, rx20_2⟩ := B0 rx20
   obtain ⟨rfl, lx20_2⟩ := Sl.len rx20_2
   try dsimp only at hM0
   have we23 := New.sndI (New.sndI (wx20))
   obtain ⟨x24, gx24, hM0⟩ := l0 hM0
   refine Tr.mono (R07 _ [.int .i64 x20_0, .int .i64 x20_1, .slice ax20_2 x20_2.length cx20_2] (x20_0, x20_1, x20_2) (z0 ix20_0 ix20_1 rx20_2) _  gx24) ?_
   rintro v26 k25 ⟨csx24, rfl, wx24⟩
   have sx24 : Sub k21 k25 := wx24.sub
   have rx24 := wx24.r
   obtain ⟨x24_0, x24_1, ax24_2, nx24_2, cx24_2, x24_2, rfl, rfl, ix24_0, ix24_1, rx24_2⟩ := B0 rx24
   obtain ⟨rfl, lx24_2⟩ := Sl.len rx24_2
   try dsimp only at hM0
   have we27 := New.sndI (New.sndI (wx24))
   have hE := Option.some.inj hM0; subst hE
   exact ⟨([.int .i64 x24_0, .int .i64 x24_1, .slice ax24_2 x24_2.length cx24_2]), rfl, (New.pair (New.int ix24_0) (New.pair (New.int ix24_1) (New.from we27 ((sX8.trans sz19).trans sx20))))⟩
end Go.Proofs.YtknoadmdnjaocaaGreat
namespace Go.Proofs.YtknoadmdnjaocaaGreat
open Go.H
set_option linter.unusedVariables false
set_option linter.unusedSimpArgs false
set_option maxRecDepth 10000
set_option maxHeartbeats 0
theorem S07 (h : Hp) (csp0 : List Value) (p0 : j0) (rp0 : S0.R h csp0 p0) (r : Bool) (hM0 : s8 p0 = some r) :
  Tr Tryz.prog 183 #[.agg csp0.toArray] h fun v h' => v = .bool r ∧ h' = h := by
 obtain ⟨p0_0, p0_1, ap0_2, np0_2, cp0_2, p0_2, rfl, rfl, ip0_0, ip0_1, rp0_2⟩ := B0 rp0
 obtain ⟨rfl, lp0_2⟩ := Sl.len rp0_2
 unfold s8 at hM0
 dsimp only at hM0
 refine Tr.forget (j3 (args := [.agg #[.int .i64 p0_0, .int .i64 p0_1, .slice ap0_2 p0_2.length cp0_2]]) (fn := Tryz.f183) rfl ?_)
 obtain ⟨x1, gx1, hM0⟩ := l0 hM0
 refine Tr.val (p05 _ [.int .i64 p0_0, .int .i64 p0_1, .slice ap0_2 p0_2.length cp0_2] (p0_0, p0_1, p0_2) (z0 ip0_0 ip0_1 rp0_2) _  gx1) ?_
 have hE := Option.some.inj hM0; subst hE
 exact And.intro rfl (Sub.refl _)
theorem U0c (h : Hp) (csp0 : List Value) (p0 : j0) (rp0 : S0.R h csp0 p0) (p1 : Int) (ip1 : N0 p1) (r : D0 × (List (Option D0))) (hM0 : D00 p0 p1 = some r) :
  Tr Tryz.prog 229 #[.agg csp0.toArray, .int .i64 p1] h fun v h' => ∃ (a0 : Option Addr) (n0 c0 : Nat) (a1 : Option Addr) (n1 c1 : Nat), v = .tuple #[.slice a0 n0 c0, .slice a1 n1 c1] ∧ D1.R h' [.slice a0 n0 c0] r.1 ∧ (Wp.slice Wp.opt).R h' [.slice a1 n1 c1] r.2 ∧ Sub h h' := by
 obtain ⟨p0_0, p0_1, ap0_2, np0_2, cp0_2, p0_2, rfl, rfl, ip0_0, ip0_1, rp0_2⟩ := B0 rp0
 obtain ⟨rfl, lp0_2⟩ := Sl.len rp0_2
 unfold D00 at hM0
 dsimp only at hM0
 refine j3 (args := [.agg #[.int .i64 p0_0, .int .i64 p0_1, .slice ap0_2 p0_2.length cp0_2], .int .i64 p1]) (fn := Tryz.f229) rfl ?_
 obtain ⟨q1, gq1, hM0⟩ := l0 hM0
 refine And.intro (B3 gq1) ?_
 obtain ⟨x2, gx2, hM0⟩ := l0 hM0
 obtain ⟨bx2, csx2, ex2, rx2⟩ := G3 (F2.rep (p := Wp.opt.R h) (a := [.slice none 0 0]) (b := none) (T0g h) (p0_1.toNat)) gx2
 refine And.intro bx2 ?_
 obtain ⟨ax2, nx2, cx2, rfl, ox2, qx2⟩ := rx2
 obtain ⟨rfl, lx2⟩ := Sl.len qx2
 intro v3 k4 f5
 obtain ⟨gz6, cz6, rfl, rz6, sz6, lz6⟩ := Q0.outS (r := Wp.int.toRp) f5 (show F2 (Wp.int.R h) ([] : List (List Value)) ([] : D0) from trivial)
 refine Exists.intro _ (And.intro ex2 ?_)
 obtain ⟨X7, hLX7, hM0⟩ := l0 hM0
 refine Exists.intro { vars := [8], boxes := [], owns := [0, 2], fuel := true, kept := [0] } (Exists.intro (fun vs os h' => ∃ (u8 : Int) (wu9 : List (List Value)) (u9 : List (Option D0)) (wu10 : List (List Value)) (u10 : List Int), vs.tail = [.int .i64 u8] ∧ os = [wu9, wu10] ∧ Sub k4 h' ∧ N0 u8 ∧ F2 (Wp.opt.R h') wu9 u9 ∧ F2 (Wp.int.R h') wu10 u10 ∧ N7 p0_0 p0_1 p0_2 (Y1 vs) u8 u9 u10 = some X7) (Exists.intro (fun _ _ => 0) ?_))
 refine And.intro (Exists.intro U0 ⟨0, ((List.replicate p0_1.toNat ([.slice none 0 0] : List Value)).set p1.toNat [.slice (some ⟨gz6, 0, none⟩) (([] : D0)).length cz6]), ((List.replicate p0_1.toNat (none : Option D0)).set p1.toNat (some ([] : D0))), ([[.int .i64 p1]] : List (List Value)), [p1], rfl, rfl, (Sub.refl _), (c64 (by decide) (by decide)), (F2.set (p := Wp.opt.R k4) (a := [.slice (some ⟨gz6, 0, none⟩) (([] : D0)).length cz6]) (b := some ([] : D0)) (U0g rz6) p1.toNat (F2.up (r := Wp.opt.toRp) sz6 (F2.rep (p := Wp.opt.R h) (a := [.slice none 0 0]) (b := none) (T0g h) (p0_1.toNat)))), (show F2 (Wp.int.R k4) ([[.int .i64 p1]] : List (List Value)) [p1] from ⟨⟨rfl, ip1⟩, trivial⟩), hLX7⟩) ?_
 rintro v_0 wu9 wu10 m12 k11 ⟨u8, zzu9, u9, zzu10, u10, evX7, eoX7, sX7, iu8, fu9, fu10, hM1⟩
 cases evX7
 cases eoX7
 replace hM1 : N7 p0_0 p0_1 p0_2 m12 u8 u9 u10 = some X7 := hM1
 obtain _ | m12 := m12
 ·cases (show (none : Option _) = some X7 from hM1)
 rw [N7.eq_2] at hM1
 obtain ⟨m13, gm13, hM1⟩ := l0 hM1
 obtain rfl : wu10.length = m13 := (F2.length fu10).trans (Option.some.inj gm13)
 obtain ⟨q14, gq14, hM1⟩ := l0 hM1
 refine And.intro (fun hc15 => ?_) (fun hc15 => ?_)
 ·replace hM1 := ifP hM1 hc15
  obtain ⟨x16, gx16, hM1⟩ := l0 hM1
  obtain ⟨bx16, csx16, ex16, rx16⟩ := G3 fu10 gx16
  refine And.intro bx16 ?_
  obtain ⟨rfl, ix16⟩ := rx16
  refine Exists.intro _ (And.intro ex16 ?_)
  obtain ⟨x17, gx17, hM1⟩ := l0 hM1
  refine Tr.mono (V01 _ p0_0 ip0_0 _  gx17) ?_
  rintro v19 k18 ⟨ax17, nx17, cx17, rfl, rx17, sx17⟩
  obtain ⟨rfl, lx17⟩ := Sl.len rx17
  obtain ⟨X20, hLX20, hM1⟩ := l0 hM1
  refine Exists.intro { vars := [36], boxes := [], owns := [0, 2], fuel := true, kept := [0] } (Exists.intro (fun vs os h' => ∃ (u21 : Int) (wu22 : List (List Value)) (u22 : List (Option D0)) (wu23 : List (List Value)) (u23 : List Int), vs.tail = [.int .i64 u21] ∧ os = [wu22, wu23] ∧ Sub k18 h' ∧ N0 u21 ∧ F2 (Wp.opt.R h') wu22 u22 ∧ F2 (Wp.int.R h') wu23 u23 ∧ Z6 x17 p0_0 p0_1 p0_2 x16 (Y1 vs) u21 u22 u23 = some X20) (Exists.intro (fun _ _ => 0) ?_))
  refine And.intro (Exists.intro U0 ⟨0, wu9, u9, wu10, u10, rfl, rfl, (Sub.refl _), (c64 (by decide) (by decide)), (F2.up (r := Wp.opt.toRp) sx17 fu9), (F2.up (r := Wp.int.toRp) sx17 fu10), hLX20⟩) ?_
  rintro v_0 wu22 wu23 m25 k24 ⟨u21, zzu22, u22, zzu23, u23, evX20, eoX20, sX20, iu21, fu22, fu23, hM2⟩
  cases evX20
  cases eoX20
  replace hM2 : Z6 x17 p0_0 p0_1 p0_2 x16 m25 u21 u22 u23 = some X20 := hM2
  obtain _ | m25 := m25
  ·cases (show (none : Option _) = some X20 from hM2)
  rw [Z6.eq_2] at hM2
  refine And.intro (fun hc26 => ?_) (fun hc26 => ?_)
  ·replace hM2 := ifP hM2 hc26
   obtain ⟨x27, gx27, hM2⟩ := l0 hM2
   obtain ⟨bx27, csx27, ex27, rx27⟩ := Sl.getI (r := Wp.int.toRp) (D1.mono sX20 rx17) gx27 (by decide)
   refine And.intro bx27 ?_
   obtain ⟨rfl, ix27⟩ := rx27
   refine Exists.intro _ (And.intro ex27 ?_)
   obtain ⟨x28, gx28, hM2⟩ := l0 hM2
   refine Tr.val (H00 _ [.int .i64 p0_0, .int .i64 p0_1, .slice ap0_2 p0_2.length cp0_2] (p0_0, p0_1, p0_2) (z0 ip0_0 ip0_1 (J0.mono (((sz6.trans sX7).trans sx17).trans sX20) rp0_2)) x16 ix16 x27 ix27 _  gx28) ?_
   obtain ⟨q29, gq29, hM2⟩ := l0 hM2
   have ix28 : N0 x28 := B3 gq29
   obtain ⟨x30, gx30, hM2⟩ := l0 hM2
   obtain ⟨csx30, ex30, rx30⟩ := Q02 fu22 gx30 (I0k k24)
   refine And.intro (fun q => (ex30 q).1) ?_
   obtain ⟨ax30, nx30, cx30, rfl, ox30, qx30⟩ := rx30
   obtain ⟨rfl, lx30⟩ := Sl.len qx30
   refine Exists.intro _ (And.intro (fun q => (ex30 q).2) ?_)
   refine Exists.intro (x30.isNone) (And.intro (fun _ => by rw [← ox30]; exact v0j _ _ _ rfl _ _ _) ?_)
   refine And.intro (fun hc31 => ?_) (fun hc31 => ?_)
   ·replace hM2 := ifP hM2 hc31
    obtain ⟨x32, gx32, hM2⟩ := l0 hM2
    obtain ⟨bx32, csx32, ex32, rx32⟩ := G3 fu22 gx32
    refine And.intro bx32 ?_
    obtain ⟨ax32, nx32, cx32, rfl, ox32, qx32⟩ := rx32
    obtain ⟨rfl, lx32⟩ := Sl.len qx32
    refine Exists.intro _ (And.intro ex32 ?_)
    obtain ⟨x33, gx33, hM2⟩ := l0 hM2
    refine Tr.mono (F03 _ ax32 (x32.getD []).length cx32 (x32.getD []) qx32 _  gx33) ?_
    rintro v35 k34 ⟨gx33, nx33, cx33, rfl, wx33⟩
    have sx33 : Sub k24 k34 := wx33.sub
    have rx33 := wx33.r
    obtain ⟨rfl, lx33⟩ := Sl.len rx33
    obtain ⟨q36, gq36, hM2⟩ := l0 hM2
    obtain ⟨vsz37, rxz37, lnz37, apz37⟩ := New.app wx33 (Sub.refl _)
    refine Exists.intro vsz37 (And.intro rxz37 (And.intro (N1 gq36 (by first | rw [lnz37, F2.length (show F2 (Wp.int.R k34) ([[.int .i64 x27]] : List (List Value)) [x27] from ⟨⟨rfl, ix27⟩, trivial⟩)] | (rw [lnz37]; rfl))) ?_))
    intro vz37 kz37 happz37
    obtain ⟨wz37, gz37, oz37, nz37, cz37, rfl⟩ := apz37 _ _ _ _ _ (F3.ofPlain (h08 _) (show F2 (Wp.int.R k34) ([[.int .i64 x27]] : List (List Value)) [x27] from ⟨⟨rfl, ix27⟩, trivial⟩)) O6.ofPlain happz37
    have rz37 := wz37.r
    obtain ⟨ez37, lz37⟩ := Sl.len rz37
    subst ez37
    obtain ⟨x38, gx38, hM2⟩ := l0 hM2
    obtain ⟨bx38, csx38, ex38, rx38⟩ := G3 (F2.up (r := Wp.opt.toRp) wz37.sub fu22) gx38
    refine And.intro bx38 ?_
    obtain ⟨ax38, nx38, cx38, rfl, ox38, qx38⟩ := rx38
    obtain ⟨rfl, lx38⟩ := Sl.len qx38
    refine Exists.intro _ (And.intro ex38 ?_)
    obtain ⟨q39, gq39, hM2⟩ := l0 hM2
    refine And.intro (N1 gq39 (by first | rw [F2.length (F2.up (r := Wp.int.toRp) wz37.sub fu23), F2.length (show F2 (Wp.int.R kz37) ([[.int .i64 x28]] : List (List Value)) [x28] from ⟨⟨rfl, ix28⟩, trivial⟩)] | exact congrArg (· + 1) (F2.length (F2.up (r := Wp.int.toRp) wz37.sub fu23)))) ?_
    refine And.intro rfl (And.intro (by repeat (first | exact trivial | refine And.intro rfl ?_)) (And.intro (by repeat (first | exact trivial | refine And.intro rfl ?_)) (Exists.intro m25 (And.intro ⟨(IntKind.i64.wrap (u21 + 1)), (wu22.set x28.toNat [.slice (some ⟨gz37, oz37, none⟩) (x33 ++ [x27]).length cz37]), (u22.set x28.toNat (some (x33 ++ [x27]))), (wu23 ++ ([[.int .i64 x28]] : List (List Value))), (u23 ++ [x28]), rfl, rfl, (sX20.trans wz37.sub), (M0 _), (F2.set (p := Wp.opt.R kz37) (a := [.slice (some ⟨gz37, oz37, none⟩) (x33 ++ [x27]).length cz37]) (b := some (x33 ++ [x27])) (U0g rz37) x28.toNat (F2.up (r := Wp.opt.toRp) wz37.sub fu22)), (F2.append (F2.up (r := Wp.int.toRp) wz37.sub fu23) (show F2 (Wp.int.R kz37) ([[.int .i64 x28]] : List (List Value)) [x28] from ⟨⟨rfl, ix28⟩, trivial⟩)), hM2⟩ (Nat.lt_succ_self _)))))
   ·replace hM2 := ifN hM2 hc31
    refine And.intro rfl (And.intro (by repeat (first | exact trivial | refine And.intro rfl ?_)) (And.intro (by repeat (first | exact trivial | refine And.intro rfl ?_)) (Exists.intro m25 (And.intro ⟨(IntKind.i64.wrap (u21 + 1)), wu22, u22, wu23, u23, rfl, rfl, sX20, (M0 _), fu22, fu23, hM2⟩ (Nat.lt_succ_self _)))))
  ·replace hM2 := ifN hM2 hc26
   have hE := Option.some.inj hM2; subst hE
   try dsimp only [Y0, Z0] at hM1
   refine And.intro rfl (And.intro (by repeat (first | exact trivial | refine And.intro rfl ?_)) (And.intro (by repeat (first | exact trivial | refine And.intro rfl ?_)) (Exists.intro m12 (And.intro ⟨(IntKind.i64.wrap (u8 + 1)), wu22, u22, wu23, u23, rfl, rfl, ((sX7.trans sx17).trans sX20), (M0 _), fu22, fu23, hM1⟩ (Nat.lt_succ_self _)))))
 ·replace hM1 := ifN hM1 hc15
  have hE := Option.some.inj hM1; subst hE
  try dsimp only [Y0, Z0] at hM0
  intro v45 k46 f47
  obtain ⟨az48, cz48, rfl, rz48, sz48, lz48⟩ := Q0.out (r := Wp.int.toRp) f47 fu10
  intro v49 k50 f51
  obtain ⟨az52, cz52, rfl, rz52, sz52, lz52⟩ := Q0.out (r := Wp.opt.toRp) f51 (F2.up (r := Wp.opt.toRp) sz48 fu9)
  have hE := Option.some.inj hM0; subst hE
  exact ⟨az48, u10.length, cz48, az52, u9.length, cz52, rfl, (D1.mono sz52 rz48), rz52, (((sz6.trans sX7).trans sz48).trans sz52)⟩
theorem G08 (h : Hp) (csp0 : List Value) (p0 : j0) (rp0 : S0.R h csp0 p0) (p1 : Int) (ip1 : N0 p1) (p2 : Int) (ip2 : N0 p2) (r : D0 × Bool) (hM0 : t6 p0 p1 p2 = some r) :
  Tr Tryz.prog 267 #[.agg csp0.toArray, .int .i64 p1, .int .i64 p2] h fun v h' => ∃ (a0 : Option Addr) (n0 c0 : Nat), v = .tuple #[.slice a0 n0 c0, .bool r.2] ∧ D1.R h' [.slice a0 n0 c0] r.1 ∧ Sub h h' := by
 obtain ⟨p0_0, p0_1, ap0_2, np0_2, cp0_2, p0_2, rfl, rfl, ip0_0, ip0_1, rp0_2⟩ := B0 rp0
 obtain ⟨rfl, lp0_2⟩ := Sl.len rp0_2
 unfold t6 at hM0
 dsimp only at hM0
 refine j3 (args := [.agg #[.int .i64 p0_0, .int .i64 p0_1, .slice ap0_2 p0_2.length cp0_2], .int .i64 p1, .int .i64 p2]) (fn := Tryz.f267) rfl ?_
 obtain ⟨x1, gx1, hM0⟩ := l0 hM0
 refine Tr.val (V7 _ [.int .i64 p0_0, .int .i64 p0_1, .slice ap0_2 p0_2.length cp0_2] (p0_0, p0_1, p0_2) (z0 ip0_0 ip0_1 rp0_2) _  gx1) ?_
 obtain ⟨x2, gx2, hM0⟩ := l0 hM0
 refine Exists.intro (.bool x2) (And.intro (fun q => t8 _ [.int .i64 p0_0, .int .i64 p0_1, .slice ap0_2 p0_2.length cp0_2] (p0_0, p0_1, p0_2) (z0 ip0_0 ip0_1 rp0_2) p1 ip1 _  (E2 gx2 q)) ?_)
 obtain ⟨x3, gx3, hM0⟩ := l0 hM0
 refine Exists.intro (.bool x3) (And.intro (fun q => t8 _ [.int .i64 p0_0, .int .i64 p0_1, .slice ap0_2 p0_2.length cp0_2] (p0_0, p0_1, p0_2) (z0 ip0_0 ip0_1 rp0_2) p2 ip2 _  (E2 gx3 q)) ?_)
 refine And.intro (fun hc4 => ?_) (fun hc4 => ?_)
 ·replace hM0 := ifP hM0 hc4
  intro v5 k6 f7
  obtain ⟨az8, cz8, rfl, rz8, sz8, lz8⟩ := Q0.out (r := Wp.int.toRp) f7 (show F2 (Wp.int.R h) ([] : List (List Value)) ([] : D0) from trivial)
  have hE := Option.some.inj hM0; subst hE
  exact ⟨az8, (([] : D0)).length, cz8, rfl, rz8, sz8⟩
 ·replace hM0 := ifN hM0 hc4
  obtain ⟨x9, gx9, hM0⟩ := l0 hM0
  refine Tr.mono (U0c _ [.int .i64 p0_0, .int .i64 p0_1, .slice ap0_2 p0_2.length cp0_2] (p0_0, p0_1, p0_2) (z0 ip0_0 ip0_1 rp0_2) p1 ip1 _  gx9) ?_
  rintro v11 k10 ⟨ax9_0, nx9_0, cx9_0, ax9_1, nx9_1, cx9_1, rfl, rx9_0, rx9_1, sx9⟩
  obtain ⟨x9_0, x9_1⟩ := x9
  dsimp only at hM0 rx9_0 rx9_1
  obtain ⟨rfl, lx9_0⟩ := Sl.len rx9_0
  obtain ⟨rfl, lx9_1⟩ := Sl.len rx9_1
  obtain ⟨x12, gx12, hM0⟩ := l0 hM0
  obtain ⟨bx12, csx12, ex12, rx12⟩ := Sl.getI (r := Wp.opt.toRp) rx9_1 gx12 (by decide)
  refine And.intro bx12 ?_
  obtain ⟨ax12, nx12, cx12, rfl, ox12, qx12⟩ := rx12
  obtain ⟨rfl, lx12⟩ := Sl.len qx12
  refine Exists.intro _ (And.intro ex12 ?_)
  refine Exists.intro (x12.isNone) (And.intro (by rw [← ox12]; exact v0j _ _ _ rfl _ _ _) ?_)
  refine And.intro (fun hc13 => ?_) (fun hc13 => ?_)
  ·replace hM0 := ifP hM0 hc13
   intro v14 k15 f16
   obtain ⟨az17, cz17, rfl, rz17, sz17, lz17⟩ := Q0.out (r := Wp.int.toRp) f16 (show F2 (Wp.int.R k10) ([] : List (List Value)) ([] : D0) from trivial)
   have hE := Option.some.inj hM0; subst hE
   exact ⟨az17, (([] : D0)).length, cz17, rfl, rz17, (sx9.trans sz17)⟩
  ·replace hM0 := ifN hM0 hc13
   obtain ⟨x18, gx18, hM0⟩ := l0 hM0
   obtain ⟨bx18, csx18, ex18, rx18⟩ := Sl.getI (r := Wp.opt.toRp) rx9_1 gx18 (by decide)
   refine And.intro bx18 ?_
   obtain ⟨ax18, nx18, cx18, rfl, ox18, qx18⟩ := rx18
   obtain ⟨rfl, lx18⟩ := Sl.len qx18
   refine Exists.intro _ (And.intro ex18 ?_)
   have hE := Option.some.inj hM0; subst hE
   exact ⟨ax18, (x18.getD []).length, cx18, rfl, qx18, sx9⟩
theorem H08 (h : Hp) (csp0 : List Value) (p0 : j0) (rp0 : S0.R h csp0 p0) (p1 : Int) (ip1 : N0 p1) (r : D0) (hM0 : P8 p0 p1 = some r) :
  Tr Tryz.prog 193 #[.agg csp0.toArray, .int .i64 p1] h fun v h' => ∃ (a0 : Option Addr) (n0 c0 : Nat), v = .slice a0 n0 c0 ∧ D1.R h' [.slice a0 n0 c0] r ∧ Sub h h' := by
 obtain ⟨p0_0, p0_1, ap0_2, np0_2, cp0_2, p0_2, rfl, rfl, ip0_0, ip0_1, rp0_2⟩ := B0 rp0
 obtain ⟨rfl, lp0_2⟩ := Sl.len rp0_2
 unfold P8 at hM0
 dsimp only at hM0
 refine j3 (args := [.agg #[.int .i64 p0_0, .int .i64 p0_1, .slice ap0_2 p0_2.length cp0_2], .int .i64 p1]) (fn := Tryz.f193) rfl ?_
 obtain ⟨x1, gx1, hM0⟩ := l0 hM0
 refine Tr.mono (G08 _ [.int .i64 p0_0, .int .i64 p0_1, .slice ap0_2 p0_2.length cp0_2] (p0_0, p0_1, p0_2) (z0 ip0_0 ip0_1 rp0_2) 0 (c64 (by decide) (by decide)) p1 ip1 _  gx1) ?_
 rintro v3 k2 ⟨ax1_0, nx1_0, cx1_0, rfl, rx1_0, sx1⟩
 obtain ⟨x1_0, x1_1⟩ := x1
 dsimp only at hM0 rx1_0
 obtain ⟨rfl, lx1_0⟩ := Sl.len rx1_0
 have hE := Option.some.inj hM0; subst hE
 exact ⟨ax1_0, x1_0.length, cx1_0, rfl, rx1_0, sx1⟩
theorem y03 (h : Hp) (csp0 : List Value) (p0 : j0) (rp0 : S0.R h csp0 p0) (r : B8) (hM0 : Y4 p0 = some r) :
  Tr Tryz.prog 184 #[.agg csp0.toArray] h fun v h' => ∃ (a0 : Option Addr) (n0 c0 : Nat), v = .slice a0 n0 c0 ∧ l04.R h' [.slice a0 n0 c0] r ∧ Sub h h' := by
 obtain ⟨p0_0, p0_1, ap0_2, np0_2, cp0_2, p0_2, rfl, rfl, ip0_0, ip0_1, rp0_2⟩ := B0 rp0
 obtain ⟨rfl, lp0_2⟩ := Sl.len rp0_2
 unfold Y4 at hM0
 dsimp only at hM0
 refine j3 (args := [.agg #[.int .i64 p0_0, .int .i64 p0_1, .slice ap0_2 p0_2.length cp0_2]]) (fn := Tryz.f184) rfl ?_
 obtain ⟨x1, gx1, hM0⟩ := l0 hM0
 refine Tr.val (h01 _ [.int .i64 p0_0, .int .i64 p0_1, .slice ap0_2 p0_2.length cp0_2] (p0_0, p0_1, p0_2) (z0 ip0_0 ip0_1 rp0_2) _  gx1) ?_
 refine And.intro (fun hc2 => ?_) (fun hc2 => ?_)
 ·replace hM0 := ifP hM0 hc2
  intro v3 k4 f5
  obtain ⟨az6, cz6, rfl, rz6, sz6, lz6⟩ := Q0.out (r := D1.toRp) f5 (show F2 (D1.R h) ([] : List (List Value)) ([] : B8) from trivial)
  have hE := Option.some.inj hM0; subst hE
  exact ⟨az6, (([] : B8)).length, cz6, rfl, rz6, sz6⟩
 ·replace hM0 := ifN hM0 hc2
  obtain ⟨X7, hLX7, hM0⟩ := l0 hM0
  refine Exists.intro { vars := [4], boxes := [], owns := [0], fuel := true } (Exists.intro (fun vs os h' => ∃ (u8 : Int) (wu9 : List (List Value)) (u9 : List D0), vs.tail = [.int .i64 u8] ∧ os = [wu9] ∧ Sub h h' ∧ N0 u8 ∧ F2 (D1.R h') wu9 u9 ∧ I2 p0_1 p0_0 p0_2 (Y1 vs) u8 u9 = some X7) (Exists.intro (fun _ _ => 0) ?_))
  refine And.intro (Exists.intro U0 ⟨0, [], ([] : B8), rfl, rfl, (Sub.refl _), (c64 (by decide) (by decide)), (show F2 (D1.R h) ([] : List (List Value)) ([] : B8) from trivial), hLX7⟩) ?_
  rintro v_0 wu9 m11 k10 ⟨u8, zzu9, u9, evX7, eoX7, sX7, iu8, fu9, hM1⟩
  cases evX7
  cases eoX7
  replace hM1 : I2 p0_1 p0_0 p0_2 m11 u8 u9 = some X7 := hM1
  obtain _ | m11 := m11
  ·cases (show (none : Option _) = some X7 from hM1)
  rw [I2.eq_2] at hM1
  refine And.intro (fun hc12 => ?_) (fun hc12 => ?_)
  ·replace hM1 := ifP hM1 hc12
   obtain ⟨x13, gx13, hM1⟩ := l0 hM1
   refine Tr.mono (F08 _ [.int .i64 p0_0, .int .i64 p0_1, .slice ap0_2 p0_2.length cp0_2] (p0_0, p0_1, p0_2) (z0 ip0_0 ip0_1 (J0.mono sX7 rp0_2)) u8 iu8 _  gx13) ?_
   rintro v15 k14 ⟨csx13_0, rfl, wx13_0⟩
   obtain ⟨x13_0, x13_1⟩ := x13
   dsimp only at hM1 wx13_0
   have sx13 : Sub k10 k14 := wx13_0.sub
   have rx13_0 := wx13_0.r
   obtain ⟨x13_0_0, x13_0_1, ax13_0_2, nx13_0_2, cx13_0_2, x13_0_2, rfl, rfl, ix13_0_0, ix13_0_1, rx13_0_2⟩ := B0 rx13_0
   obtain ⟨rfl, lx13_0_2⟩ := Sl.len rx13_0_2
   try dsimp only at hM1
   obtain ⟨x16, gx16, hM1⟩ := l0 hM1
   refine Tr.val (U01 _ [.int .i64 x13_0_0, .int .i64 x13_0_1, .slice ax13_0_2 x13_0_2.length cx13_0_2] (x13_0_0, x13_0_1, x13_0_2) (z0 ix13_0_0 ix13_0_1 rx13_0_2) [.int .i64 p0_0, .int .i64 p0_1, .slice ap0_2 p0_2.length cp0_2] (p0_0, p0_1, p0_2) (z0 ip0_0 ip0_1 (J0.mono (sX7.trans sx13) rp0_2)) _  gx16) ?_
   refine And.intro (fun hc17 => ?_) (fun hc17 => ?_)
   ·replace hM1 := ifP hM1 hc17
    obtain ⟨x18, gx18, hM1⟩ := l0 hM1
    refine Tr.mono (H08 _ [.int .i64 p0_0, .int .i64 p0_1, .slice ap0_2 p0_2.length cp0_2] (p0_0, p0_1, p0_2) (z0 ip0_0 ip0_1 (J0.mono (sX7.trans sx13) rp0_2)) u8 iu8 _  gx18) ?_
    rintro v20 k19 ⟨ax18, nx18, cx18, rfl, rx18, sx18⟩
    obtain ⟨rfl, lx18⟩ := Sl.len rx18
    obtain ⟨q21, gq21, hM1⟩ := l0 hM1
    refine And.intro (N1 gq21 (by first | rw [F2.length (F2.up (r := D1.toRp) (sx13.trans sx18) fu9), F2.length (show F2 (D1.R k19) ([[.slice ax18 x18.length cx18]] : List (List Value)) [x18] from ⟨rx18, trivial⟩)] | exact congrArg (· + 1) (F2.length (F2.up (r := D1.toRp) (sx13.trans sx18) fu9)))) ?_
    refine And.intro rfl (And.intro (by repeat (first | exact trivial | refine And.intro rfl ?_)) (And.intro (by repeat (first | exact trivial | refine And.intro rfl ?_)) (Exists.intro m11 (And.intro ⟨(IntKind.i64.wrap (u8 + 1)), (wu9 ++ ([[.slice ax18 x18.length cx18]] : List (List Value))), (u9 ++ [x18]), rfl, rfl, ((sX7.trans sx13).trans sx18), (M0 _), (F2.append (F2.up (r := D1.toRp) (sx13.trans sx18) fu9) (show F2 (D1.R k19) ([[.slice ax18 x18.length cx18]] : List (List Value)) [x18] from ⟨rx18, trivial⟩)), hM1⟩ (Nat.lt_succ_self _)))))
   ·replace hM1 := ifN hM1 hc17
    refine And.intro rfl (And.intro (by repeat (first | exact trivial | refine And.intro rfl ?_)) (And.intro (by repeat (first | exact trivial | refine And.intro rfl ?_)) (Exists.intro m11 (And.intro ⟨(IntKind.i64.wrap (u8 + 1)), wu9, u9, rfl, rfl, (sX7.trans sx13), (M0 _), (F2.up (r := D1.toRp) sx13 fu9), hM1⟩ (Nat.lt_succ_self _)))))
  ·replace hM1 := ifN hM1 hc12
   have hE := Option.some.inj hM1; subst hE
   try dsimp only [Y0, Z0] at hM0
   intro v22 k23 f24
   obtain ⟨az25, cz25, rfl, rz25, sz25, lz25⟩ := Q0.out (r := D1.toRp) f24 fu9
   have hE := Option.some.inj hM0; subst hE
   exact ⟨az25, u9.length, cz25, rfl, rz25, (sX7.trans sz25)⟩
theorem I08 (h : Hp) (csp0 : List Value) (p0 : j0) (rp0 : S0.R h csp0 p0) (r : Bool) (hM0 : Q8 p0 = some r) :
  Tr Tryz.prog 99 #[.agg csp0.toArray] h fun v h' => v = .bool r ∧ h' = h := by
 obtain ⟨p0_0, p0_1, ap0_2, np0_2, cp0_2, p0_2, rfl, rfl, ip0_0, ip0_1, rp0_2⟩ := B0 rp0
 obtain ⟨rfl, lp0_2⟩ := Sl.len rp0_2
 unfold Q8 at hM0
 dsimp only at hM0
 refine Tr.forget (j3 (args := [.agg #[.int .i64 p0_0, .int .i64 p0_1, .slice ap0_2 p0_2.length cp0_2]]) (fn := Tryz.f99) rfl ?_)
 refine Or.inr (Or.inr (Or.inr (Or.inl (And.intro (And.intro (by kernel_rfl) (by kernel_rfl)) ?_))))
 obtain ⟨x1, gx1, hM0⟩ := l0 hM0
 refine Or.inl (Exists.intro (.val (.bool x1)) (And.intro ?_ ?_))
 ·intro k2 s3
  exact Tr.val (S07 _ [.int .i64 p0_0, .int .i64 p0_1, .slice ap0_2 p0_2.length cp0_2] (p0_0, p0_1, p0_2) (z0 ip0_0 ip0_1 (J0.mono s3 rp0_2)) _ gx1) (And.intro rfl (And.intro rfl rfl))
 obtain ⟨x4, gx4, hM0⟩ := l0 hM0
 refine Or.inl (Exists.intro (.val (.bool x4)) (And.intro ?_ ?_))
 ·intro k5 s6 hq
  exact Tr.val (h01 _ [.int .i64 p0_0, .int .i64 p0_1, .slice ap0_2 p0_2.length cp0_2] (p0_0, p0_1, p0_2) (z0 ip0_0 ip0_1 (J0.mono s6 rp0_2)) _ (E2 gx4 hq)) (And.intro rfl (And.intro rfl rfl))
 obtain ⟨x7, gx7, hM0⟩ := l0 hM0
 refine Or.inr (Exists.intro (fun v hh => ∃ (a : Option Addr) (c : Nat), v = .slice a x7.length c ∧ l04.R hh [.slice a x7.length c] x7 ∧ x7.length ≤ 9223372036854775807) (And.intro (fun v h1 h2 sb q => by obtain ⟨a, c, e, r, l⟩ := q; exact ⟨a, c, e, l04.mono sb r, l⟩) (And.intro ?_ ?_)))
 ·intro k8 s9 hq
  refine Tr.mono (y03 _ [.int .i64 p0_0, .int .i64 p0_1, .slice ap0_2 p0_2.length cp0_2] (p0_0, p0_1, p0_2) (z0 ip0_0 ip0_1 (J0.mono s9 rp0_2)) _ (E2 gx7 hq)) ?_
  rintro _ kk ⟨ax7, nx7, cx7, rfl, rx7, sb⟩
  obtain ⟨rfl, lx7⟩ := Sl.len rx7
  exact And.intro v06 (And.intro sb ⟨ax7, cx7, rfl, rx7, lx7⟩)
 obtain ⟨q10, gq10, hM0⟩ := l0 hM0
 refine Or.inl (Exists.intro (.val (.int .i64 ((x7.length : Nat) : Int))) (And.intro ?_ ?_))
 ·intro k11 s12 hq
  rintro _ ⟨az13, cz13, rfl, rz13, lz13⟩
  exact And.intro rfl (And.intro rfl rfl)
 refine Or.inl (Exists.intro (.val (.bool (decide (((x7.length : Nat) : Int) = p0_1)))) (And.intro ?_ ?_))
 ·intro k14 s15 hq
  exact And.intro rfl (And.intro rfl rfl)
 intro k16 s17
 have hE := Option.some.inj hM0; subst hE
 exact And.intro rfl s17
theorem T06 (h : Hp) (ap0 : Option Addr) (np0 cp0 : Nat) (p0 : V5) (rp0 : C5.R h [.slice ap0 np0 cp0] p0) (r : D0) (hM0 : j9 p0 = some r) :
  Tr Tryz.prog 38 #[.slice ap0 np0 cp0] h fun v h' => ∃ (a0 : Option Addr) (n0 c0 : Nat), v = .slice a0 n0 c0 ∧ New D1 h h' [.slice a0 n0 c0] r := by
 obtain ⟨rfl, lp0⟩ := Sl.len rp0
 unfold j9 at hM0
 refine j3 (args := [.slice ap0 p0.length cp0]) (fn := Tryz.f38) rfl ?_
 obtain ⟨X1, hLX1, hM0⟩ := l0 hM0
 refine Exists.intro { vars := [9], boxes := [], owns := [0], fuel := true } (Exists.intro (fun vs os h' => ∃ (u2 : Int) (wu3 : List (List Value)) (u3 : List Int), vs.tail = [.int .i64 u2] ∧ os = [wu3] ∧ Sub h h' ∧ N0 u2 ∧ F2 (Wp.int.R h') wu3 u3 ∧ Y3 p0 (Y1 vs) u2 u3 = some X1) (Exists.intro (fun _ _ => 0) ?_))
 refine And.intro (Exists.intro U0 ⟨0, [], ([] : D0), rfl, rfl, (Sub.refl _), (c64 (by decide) (by decide)), (show F2 (Wp.int.R h) ([] : List (List Value)) ([] : D0) from trivial), hLX1⟩) ?_
 rintro v_0 wu3 m5 k4 ⟨u2, zzu3, u3, evX1, eoX1, sX1, iu2, fu3, hM1⟩
 cases evX1
 cases eoX1
 replace hM1 : Y3 p0 m5 u2 u3 = some X1 := hM1
 obtain _ | m5 := m5
 ·cases (show (none : Option _) = some X1 from hM1)
 rw [Y3.eq_2] at hM1
 refine And.intro (fun hc6 => ?_) (fun hc6 => ?_)
 ·replace hM1 := ifP hM1 hc6
  obtain ⟨x7, gx7, hM1⟩ := l0 hM1
  obtain ⟨bx7, csx7, ex7, rx7⟩ := Sl.getI (r := S0.toRp) (C5.mono sX1 rp0) gx7 (by decide)
  refine And.intro bx7 ?_
  obtain ⟨x7_0, x7_1, ax7_2, nx7_2, cx7_2, x7_2, rfl, rfl, ix7_0, ix7_1, rx7_2⟩ := B0 rx7
  obtain ⟨rfl, lx7_2⟩ := Sl.len rx7_2
  try dsimp only at hM1
  refine Exists.intro _ (And.intro ex7 ?_)
  obtain ⟨x8, gx8, hM1⟩ := l0 hM1
  refine Tr.val (I08 _ [.int .i64 x7_0, .int .i64 x7_1, .slice ax7_2 x7_2.length cx7_2] (x7_0, x7_1, x7_2) (z0 ix7_0 ix7_1 rx7_2) _  gx8) ?_
  refine And.intro (fun hc9 => ?_) (fun hc9 => ?_)
  ·replace hM1 := ifP hM1 hc9
   obtain ⟨q10, gq10, hM1⟩ := l0 hM1
   refine And.intro (N1 gq10 (by first | rw [F2.length fu3, F2.length (show F2 (Wp.int.R k4) ([[.int .i64 u2]] : List (List Value)) [u2] from ⟨⟨rfl, iu2⟩, trivial⟩)] | exact congrArg (· + 1) (F2.length fu3))) ?_
   refine And.intro rfl (And.intro (by repeat (first | exact trivial | refine And.intro rfl ?_)) (And.intro (by repeat (first | exact trivial | refine And.intro rfl ?_)) (Exists.intro m5 (And.intro ⟨(IntKind.i64.wrap (u2 + 1)), (wu3 ++ ([[.int .i64 u2]] : List (List Value))), (u3 ++ [u2]), rfl, rfl, sX1, (M0 _), (F2.append fu3 (show F2 (Wp.int.R k4) ([[.int .i64 u2]] : List (List Value)) [u2] from ⟨⟨rfl, iu2⟩, trivial⟩)), hM1⟩ (Nat.lt_succ_self _)))))
  ·replace hM1 := ifN hM1 hc9
   refine And.intro rfl (And.intro (by repeat (first | exact trivial | refine And.intro rfl ?_)) (And.intro (by repeat (first | exact trivial | refine And.intro rfl ?_)) (Exists.intro m5 (And.intro ⟨(IntKind.i64.wrap (u2 + 1)), wu3, u3, rfl, rfl, sX1, (M0 _), fu3, hM1⟩ (Nat.lt_succ_self _)))))
 ·replace hM1 := ifN hM1 hc6
  have hE := Option.some.inj hM1; subst hE
  try dsimp only [Y0, Z0] at hM0
  intro v11 k12 f13
  obtain ⟨az14, cz14, rfl, rz14, sz14, lz14⟩ := Q0.out (r := Wp.int.toRp) f13 fu3
  have hE := Option.some.inj hM0; subst hE
  exact ⟨az14, u3.length, cz14, rfl, (New.from (Q0.newPlain (r := Wp.int) f13 fu3 (h08 _)) sX1)⟩
end Go.Proofs.YtknoadmdnjaocaaGreat
