/- Texts of the claim, joined: The walks of batch w1; The walks of batch w3; The walks of batch w2. -/
import Derived.Test.YtknoadmdnjaocaaPart12
import Derived.Test.YtknoadmdnjaocaaChecked
import Derived.Test.YtknoadmdnjaocaaH35
import Derived.Test.YtknoadmdnjaocaaPart14
namespace Go.Proofs.Ytknoadmdnjaocaa
open Go.H
set_option linter.unusedVariables false
set_option linter.unusedSimpArgs false
set_option maxRecDepth 10000
set_option maxHeartbeats 0
theorem T8 (h : Hp) (ap0 : Option Addr) (np0 cp0 : Nat) (p0 : i0) (rp0 : j0.R h [.slice ap0 np0 cp0] p0) (r : i0 × i0) (hM0 : H4 p0 = some r) :
  Tr Try.prog 9 #[.slice ap0 np0 cp0] h fun v h' => ∃ (a0 : Option Addr) (n0 c0 : Nat) (a1 : Option Addr) (n1 c1 : Nat), v = .tuple #[.slice a0 n0 c0, .slice a1 n1 c1] ∧ j0.R h' [.slice a0 n0 c0] r.1 ∧ j0.R h' [.slice a1 n1 c1] r.2 ∧ Sub h h' := by
 obtain ⟨rfl, lp0⟩ := Sl.len rp0
 unfold H4 at hM0
 refine S2 (args := [.slice ap0 p0.length cp0]) (fn := Try.f9) rfl ?_
 obtain ⟨x1, gx1, hM0⟩ := f0 hM0
 refine Tr.mono (N7 _ ap0 p0.length cp0 p0 rp0 _  gx1) ?_
 rintro v3 k2 ⟨ax1, nx1, cx1, rfl, rx1, sx1⟩
 obtain ⟨rfl, lx1⟩ := Sl.len rx1
 obtain ⟨X4, hLX4, hM0⟩ := f0 hM0
 refine Exists.intro { vars := [4], boxes := [], owns := [0], fuel := true } (Exists.intro (fun vs os h' => ∃ (au5 : Option Addr) (nu5 cu5 : Nat) (u5 : i0) (wu6 : List (List Value)) (u6 : List Int), vs.tail = [.slice au5 nu5 cu5] ∧ os = [wu6] ∧ Sub k2 h' ∧ j0.R h' [.slice au5 nu5 cu5] u5 ∧ F2 (Wp.int.R h') wu6 u6 ∧ E3 (F1 vs) u5 u6 = some X4) (Exists.intro (fun _ _ => 0) ?_))
 refine And.intro (Exists.intro N0 ⟨ax1, x1.length, cx1, x1, [], ([] : i0), rfl, rfl, (Sub.refl _), rx1, (show F2 (Wp.int.R k2) ([] : List (List Value)) ([] : i0) from trivial), hLX4⟩) ?_
 rintro v_0 wu6 m8 k7 ⟨au5, nu5, cu5, u5, zzu6, u6, evX4, eoX4, sX4, ru5, fu6, hM1⟩
 cases evX4
 cases eoX4
 replace hM1 : E3 m8 u5 u6 = some X4 := hM1
 obtain _ | m8 := m8
 ·cases (show (none : Option _) = some X4 from hM1)
 rw [E3.eq_2] at hM1
 obtain ⟨rfl, lu5⟩ := Sl.len ru5
 refine Or.inl (And.intro (And.intro (by kernel_rfl) (by kernel_rfl)) ?_)
 obtain ⟨x9, gx9, hM1⟩ := f0 hM1
 obtain ⟨csx9, ex9, rx9⟩ := Sl.getG (r := Wp.int.toRp) ru5 gx9 (by decide) (d8 k7)
 refine And.intro (fun q => (ex9 q).1) ?_
 obtain ⟨rfl, ix9⟩ := rx9
 refine Exists.intro _ (And.intro (fun q => (ex9 q).2) ?_)
 obtain ⟨x10, gx10, hM1⟩ := f0 hM1
 obtain ⟨csx10, ex10, rx10⟩ := Sl.getG (r := Wp.int.toRp) ru5 gx10 (by decide) (d8 k7)
 refine And.intro (fun q => (ex10 q).1) ?_
 obtain ⟨rfl, ix10⟩ := rx10
 refine Exists.intro _ (And.intro (fun q => (ex10 q).2) ?_)
 obtain ⟨x11, gx11, hM1⟩ := f0 hM1
 obtain ⟨csx11, ex11, rx11⟩ := Sl.getG (r := Wp.int.toRp) ru5 gx11 (by decide) (d8 k7)
 refine And.intro (fun q => (ex11 q).1) ?_
 obtain ⟨rfl, ix11⟩ := rx11
 refine Exists.intro _ (And.intro (fun q => (ex11 q).2) ?_)
 obtain ⟨x12, gx12, hM1⟩ := f0 hM1
 obtain ⟨csx12, ex12, rx12⟩ := Sl.getG (r := Wp.int.toRp) ru5 gx12 (by decide) (d8 k7)
 refine And.intro (fun q => (ex12 q).1) ?_
 obtain ⟨rfl, ix12⟩ := rx12
 refine Exists.intro _ (And.intro (fun q => (ex12 q).2) ?_)
 refine And.intro (fun hc13 => ?_) (fun hc13 => ?_)
 ·replace hM1 := ifP hM1 hc13
  obtain ⟨x14, gx14, hM1⟩ := f0 hM1
  obtain ⟨bx14, csx14, ex14, rx14⟩ := Sl.getI (r := Wp.int.toRp) ru5 gx14 (by decide)
  refine And.intro bx14 ?_
  obtain ⟨rfl, ix14⟩ := rx14
  refine Exists.intro _ (And.intro ex14 ?_)
  obtain ⟨q15, gq15, hM1⟩ := f0 hM1
  refine And.intro (R0 gq15 (by first | rw [F2.length fu6, F2.length (show F2 (Wp.int.R k7) ([[.int .i64 x14]] : List (List Value)) [x14] from ⟨⟨rfl, ix14⟩, trivial⟩)] | exact congrArg (· + 1) (F2.length fu6))) ?_
  obtain ⟨x16, gx16, hM1⟩ := f0 hM1
  obtain ⟨qx16, vsx16, ex16, fx16⟩ := Sl.cutI (r := Wp.int.toRp) ru5 gx16
  refine And.intro qx16 (Exists.intro vsx16 (And.intro ex16 ?_))
  intro vx16 hvx16 _
  obtain ⟨ax16, cx16, rfl, rx16⟩ := fx16 vx16 hvx16
  have lx16 := (Sl.len rx16).2
  refine And.intro rfl (And.intro (by repeat (first | exact trivial | refine And.intro rfl ?_)) (And.intro (by repeat (first | exact trivial | refine And.intro rfl ?_)) (Exists.intro m8 (And.intro ⟨ax16, x16.length, cx16, x16, (wu6 ++ ([[.int .i64 x14]] : List (List Value))), (u6 ++ [x14]), rfl, rfl, sX4, rx16, (F2.append fu6 (show F2 (Wp.int.R k7) ([[.int .i64 x14]] : List (List Value)) [x14] from ⟨⟨rfl, ix14⟩, trivial⟩)), hM1⟩ (Nat.lt_succ_self _)))))
 ·replace hM1 := ifN hM1 hc13
  have hE := Option.some.inj hM1; subst hE
  try dsimp only [H0, I0] at hM0
  obtain ⟨vsy17, ey17, fy17⟩ := Sl.rows (r := Wp.int.toRp) ru5
  refine Exists.intro vsy17 (And.intro ey17 ?_)
  obtain ⟨q18, gq18, hM0⟩ := f0 hM0
  refine And.intro (R0 gq18 (by first | rw [F2.length (show F2 (Wp.int.R k7) ([] : List (List Value)) ([] : i0) from trivial), F2.length fy17] | exact congrArg (· + 1) (F2.length (show F2 (Wp.int.R k7) ([] : List (List Value)) ([] : i0) from trivial)))) ?_
  intro v19 k20 f21
  obtain ⟨az22, cz22, rfl, rz22, sz22, lz22⟩ := O0.out (r := Wp.int.toRp) f21 (F2.append (show F2 (Wp.int.R k7) ([] : List (List Value)) ([] : i0) from trivial) fy17)
  intro v23 k24 f25
  obtain ⟨az26, cz26, rfl, rz26, sz26, lz26⟩ := O0.out (r := Wp.int.toRp) f25 (F2.up (r := Wp.int.toRp) sz22 fu6)
  have hE := Option.some.inj hM0; subst hE
  exact ⟨az22, ((([] : i0) ++ u5)).length, cz22, az26, u6.length, cz26, rfl, (j0.mono sz26 rz22), rz26, (((sx1.trans sX4).trans sz22).trans sz26)⟩
theorem C07 (h : Hp) (ap0 : Option Addr) (np0 cp0 : Nat) (p0 : i0) (rp0 : j0.R h [.slice ap0 np0 cp0] p0) (r : i0 × Int) (hM0 : g8 p0 = some r) :
  Tr Try.prog 10 #[.slice ap0 np0 cp0] h fun v h' => ∃ (a0 : Option Addr) (n0 c0 : Nat), v = .tuple #[.slice a0 n0 c0, .int .i64 r.2] ∧ j0.R h' [.slice a0 n0 c0] r.1 ∧ Sub h h' := by
 obtain ⟨rfl, lp0⟩ := Sl.len rp0
 unfold g8 at hM0
 refine S2 (args := [.slice ap0 p0.length cp0]) (fn := Try.f10) rfl ?_
 obtain ⟨x1, gx1, hM0⟩ := f0 hM0
 refine Tr.mono (T8 _ ap0 p0.length cp0 p0 rp0 _  gx1) ?_
 rintro v3 k2 ⟨ax1_0, nx1_0, cx1_0, ax1_1, nx1_1, cx1_1, rfl, rx1_0, rx1_1, sx1⟩
 obtain ⟨x1_0, x1_1⟩ := x1
 dsimp only at hM0 rx1_0 rx1_1
 obtain ⟨rfl, lx1_0⟩ := Sl.len rx1_0
 obtain ⟨rfl, lx1_1⟩ := Sl.len rx1_1
 obtain ⟨X4, hLX4, hM0⟩ := f0 hM0
 refine Exists.intro { vars := [6], boxes := [], owns := [], fuel := true } (Exists.intro (fun vs os h' => ∃ (u5 : Int), vs.tail = [.int .i64 u5] ∧ os = [] ∧ Sub k2 h' ∧ D0 u5 ∧ T4 x1_0 x1_1 (F1 vs) u5 = some X4) (Exists.intro (fun _ _ => 0) ?_))
 refine And.intro (Exists.intro N0 ⟨1, rfl, rfl, (Sub.refl _), (c64 (by decide) (by decide)), hLX4⟩) ?_
 rintro v_0 m7 k6 ⟨u5, evX4, eoX4, sX4, iu5, hM1⟩
 cases evX4
 cases eoX4
 replace hM1 : T4 x1_0 x1_1 m7 u5 = some X4 := hM1
 obtain _ | m7 := m7
 ·cases (show (none : Option _) = some X4 from hM1)
 rw [T4.eq_2] at hM1
 refine And.intro (fun hc8 => ?_) (fun hc8 => ?_)
 ·replace hM1 := ifP hM1 hc8
  refine And.intro (by kernel_rfl) ?_
  refine Or.inl (Exists.intro (.val (.int .i64 ((x1_0.length : Nat) : Int))) (And.intro ?_ ?_))
  ·intro k9 s10
   exact And.intro rfl (And.intro rfl rfl)
  obtain ⟨q11, gq11, hM1⟩ := f0 hM1
  refine Or.inl (Exists.intro (.val (.int .i64 (Int.tmod ((x1_0.length : Nat) : Int) u5))) (And.intro ?_ ?_))
  ·intro k12 s13
   exact And.intro (l0 gq11) (And.intro rfl (And.intro rfl rfl))
  refine Or.inl (Exists.intro (.val (.bool (decide ((Int.tmod ((x1_0.length : Nat) : Int) u5) = 0)))) (And.intro ?_ ?_))
  ·intro k14 s15
   exact And.intro rfl (And.intro rfl rfl)
  obtain ⟨x16, gx16, hM1⟩ := f0 hM1
  refine Or.inr (Exists.intro (fun v hh => ∃ (a : Option Addr) (c : Nat), v = .slice a x16.length c ∧ j0.R hh [.slice a x16.length c] x16 ∧ x16.length ≤ 9223372036854775807) (And.intro (fun v h1 h2 sb q => by obtain ⟨a, c, e, r, l⟩ := q; exact ⟨a, c, e, j0.mono sb r, l⟩) (And.intro ?_ ?_)))
  ·intro k17 s18 hq
   refine Tr.mono (T00 _ ax1_0 x1_0.length cx1_0 x1_0 (j0.mono (sX4.trans s18) rx1_0) u5 iu5 _ (Z2 gx16 hq)) ?_
   rintro _ kk ⟨ax16, nx16, cx16, rfl, rx16, sb⟩
   obtain ⟨rfl, lx16⟩ := Sl.len rx16
   exact And.intro Y8 (And.intro sb ⟨ax16, cx16, rfl, rx16, lx16⟩)
  obtain ⟨x19, gx19, hM1⟩ := f0 hM1
  refine Or.inl (Exists.intro (.val (.bool x19)) (And.intro ?_ ?_))
  ·intro k20 s21 hq
   rintro _ ⟨az22, cz22, rfl, rz22, lz22⟩
   exact Tr.val (U04 _ az22 x16.length cz22 x16 rz22 ax1_0 x1_0.length cx1_0 x1_0 (j0.mono (sX4.trans s21) rx1_0) _ (Z2 gx19 hq)) (And.intro rfl (And.intro rfl rfl))
  intro k23 s24
  refine And.intro (fun hc25 => ?_) (fun hc25 => ?_)
  ·replace hM1 := ifP hM1 hc25
   refine Or.inr (Or.inr (Or.inr (Or.inl (And.intro (And.intro (by kernel_rfl) (by kernel_rfl)) ?_))))
   obtain ⟨x26, gx26, hM1⟩ := f0 hM1
   refine Or.inr (Exists.intro (fun v hh => ∃ (a : Option Addr) (c : Nat), v = .slice a x26.length c ∧ j0.R hh [.slice a x26.length c] x26 ∧ x26.length ≤ 9223372036854775807) (And.intro (fun v h1 h2 sb q => by obtain ⟨a, c, e, r, l⟩ := q; exact ⟨a, c, e, j0.mono sb r, l⟩) (And.intro ?_ ?_)))
   ·intro k27 s28
    obtain ⟨qx26, vsx26, ex26, fx26⟩ := Sl.cutI (r := Wp.int.toRp) (j0.mono ((sX4.trans s24).trans s28) rx1_0) gx26
    refine And.intro qx26 (Exists.intro vsx26 (And.intro ex26 ?_))
    intro v hv _
    obtain ⟨a, c, rfl, r⟩ := fx26 v hv
    exact And.intro Y8 (And.intro (Sub.refl _) ⟨a, c, rfl, r, (Sl.len r).2⟩)
   obtain ⟨x29, gx29, hM1⟩ := f0 hM1
   refine Or.inr (Exists.intro (fun v hh => ∃ (a : Option Addr) (c : Nat), v = .slice a x29.length c ∧ j0.R hh [.slice a x29.length c] x29 ∧ x29.length ≤ 9223372036854775807) (And.intro (fun v h1 h2 sb q => by obtain ⟨a, c, e, r, l⟩ := q; exact ⟨a, c, e, j0.mono sb r, l⟩) (And.intro ?_ ?_)))
   ·intro k30 s31
    rintro _ ⟨az32, cz32, rfl, rz32, lz32⟩
    refine Tr.mono (O9 _ ax1_1 x1_1.length cx1_1 x1_1 (j0.mono ((sX4.trans s24).trans s31) rx1_1) az32 x26.length cz32 x26 rz32 _ gx29) ?_
    rintro _ kk ⟨ax29, nx29, cx29, rfl, rx29, sb⟩
    obtain ⟨rfl, lx29⟩ := Sl.len rx29
    exact And.intro Y8 (And.intro sb ⟨ax29, cx29, rfl, rx29, lx29⟩)
   obtain ⟨x33, gx33, hM1⟩ := f0 hM1
   refine Or.inr (Exists.intro (fun v hh => ∃ (a : Option Addr) (c : Nat), v = .slice a x33.length c ∧ j0.R hh [.slice a x33.length c] x33 ∧ x33.length ≤ 9223372036854775807) (And.intro (fun v h1 h2 sb q => by obtain ⟨a, c, e, r, l⟩ := q; exact ⟨a, c, e, j0.mono sb r, l⟩) (And.intro ?_ ?_)))
   ·intro k34 s35
    refine Tr.mono (R00 _ ax1_1 x1_1.length cx1_1 x1_1 (j0.mono ((sX4.trans s24).trans s35) rx1_1) _ gx33) ?_
    rintro _ kk ⟨ax33, nx33, cx33, rfl, rx33, sb⟩
    obtain ⟨rfl, lx33⟩ := Sl.len rx33
    exact And.intro Y8 (And.intro sb ⟨ax33, cx33, rfl, rx33, lx33⟩)
   obtain ⟨x36, gx36, hM1⟩ := f0 hM1
   refine Or.inr (Exists.intro (fun v hh => ∃ (a : Option Addr) (c : Nat), v = .slice a x36.length c ∧ j0.R hh [.slice a x36.length c] x36 ∧ x36.length ≤ 9223372036854775807) (And.intro (fun v h1 h2 sb q => by obtain ⟨a, c, e, r, l⟩ := q; exact ⟨a, c, e, j0.mono sb r, l⟩) (And.intro ?_ ?_)))
   ·intro k37 s38
    rintro _ ⟨az39, cz39, rfl, rz39, lz39⟩
    rintro _ ⟨az40, cz40, rfl, rz40, lz40⟩
    refine Tr.mono (O9 _ az39 x29.length cz39 x29 rz39 az40 x33.length cz40 x33 rz40 _ gx36) ?_
    rintro _ kk ⟨ax36, nx36, cx36, rfl, rx36, sb⟩
    obtain ⟨rfl, lx36⟩ := Sl.len rx36
    exact And.intro Y8 (And.intro sb ⟨ax36, cx36, rfl, rx36, lx36⟩)
   refine Or.inl (Exists.intro (.val (.int .i64 ((x1_0.length : Nat) : Int))) (And.intro ?_ ?_))
   ·intro k41 s42
    exact And.intro rfl (And.intro rfl rfl)
   obtain ⟨q43, gq43, hM1⟩ := f0 hM1
   refine Or.inl (Exists.intro (.val (.int .i64 (IntKind.i64.wrap (Int.tdiv ((x1_0.length : Nat) : Int) u5)))) (And.intro ?_ ?_))
   ·intro k44 s45
    exact And.intro (l0 gq43) (And.intro rfl (And.intro rfl rfl))
   refine Or.inr (Exists.intro (fun v hh => ∃ (a : Option Addr) (c : Nat), v = .slice a x36.length c ∧ j0.R hh [.slice a x36.length c] x36 ∧ x36.length ≤ 9223372036854775807) (And.intro (fun v h1 h2 sb q => by obtain ⟨a, c, e, r, l⟩ := q; exact ⟨a, c, e, j0.mono sb r, l⟩) (And.intro ?_ ?_)))
   ·intro k46 s47
    rintro _ ⟨az48, cz48, rfl, rz48, lz48⟩
    exact And.intro Y8 (And.intro (Sub.refl _) ⟨az48, cz48, rfl, rz48, lz48⟩)
   intro k49 s50
   rintro _ ⟨az51, cz51, rfl, rz51, lz51⟩
   rintro _ ⟨az52, cz52, rfl, rz52, lz52⟩
   rintro _ ⟨az53, cz53, rfl, rz53, lz53⟩
   rintro _ ⟨az54, cz54, rfl, rz54, lz54⟩
   rintro _ ⟨az55, cz55, rfl, rz55, lz55⟩
   have hE := Option.some.inj hM1; subst hE
   try dsimp only [D4, E4] at hM0
   have hE := Option.some.inj hM0; subst hE
   exact ⟨az51, x36.length, cz51, rfl, rz51, (((sx1.trans sX4).trans s24).trans s50)⟩
  ·replace hM1 := ifN hM1 hc25
   refine And.intro rfl (And.intro (by repeat (first | exact trivial | refine And.intro rfl ?_)) (And.intro (by repeat (first | exact trivial | refine And.intro rfl ?_)) (Exists.intro m7 (And.intro ⟨(IntKind.i64.wrap (u5 + 1)), rfl, rfl, (sX4.trans s24), (B0 _), hM1⟩ (Nat.lt_succ_self _)))))
 ·replace hM1 := ifN hM1 hc8
  have hE := Option.some.inj hM1; subst hE
  try dsimp only [H0, I0] at hM0
  intro v56 k57 f58
  obtain ⟨az59, cz59, rfl, rz59, sz59, lz59⟩ := O0.out (r := Wp.int.toRp) f58 (show F2 (Wp.int.R k6) ([] : List (List Value)) ([] : i0) from trivial)
  have hE := Option.some.inj hM0; subst hE
  exact ⟨az59, (([] : i0)).length, cz59, rfl, rz59, ((sx1.trans sX4).trans sz59)⟩
theorem P02 (h : Hp) (ap0 : Option Addr) (np0 cp0 : Nat) (p0 : i0) (rp0 : j0.R h [.slice ap0 np0 cp0] p0) (r : i0 × Int) (hM0 : C5 p0 = some r) :
  Tr Try.prog 56 #[.slice ap0 np0 cp0] h fun v h' => ∃ (a0 : Option Addr) (n0 c0 : Nat), v = .tuple #[.slice a0 n0 c0, .int .i64 r.2] ∧ j0.R h' [.slice a0 n0 c0] r.1 ∧ Sub h h' := by
 obtain ⟨rfl, lp0⟩ := Sl.len rp0
 unfold C5 at hM0
 refine S2 (args := [.slice ap0 p0.length cp0]) (fn := Try.f56) rfl ?_
 obtain ⟨vsy1, ey1, fy1⟩ := Sl.rows (r := Wp.int.toRp) rp0
 refine Exists.intro vsy1 (And.intro ey1 ?_)
 obtain ⟨q2, gq2, hM0⟩ := f0 hM0
 refine And.intro (R0 gq2 (by first | rw [F2.length (show F2 (Wp.int.R h) ([] : List (List Value)) ([] : i0) from trivial), F2.length fy1] | exact congrArg (· + 1) (F2.length (show F2 (Wp.int.R h) ([] : List (List Value)) ([] : i0) from trivial)))) ?_
 obtain ⟨X7, hLX7, hM0⟩ := f0 hM0
 refine Exists.intro { vars := [4, 5, 6], boxes := [], owns := [], fuel := true, pubs := [4] } (Exists.intro (fun vs os h' => ∃ (au8 : Option Addr) (nu8 cu8 : Nat) (u8 : i0) (u9 : Int) (u10 : Int), vs.tail = [.slice au8 nu8 cu8, .int .i64 u9, .int .i64 u10] ∧ os = [] ∧ Sub h h' ∧ j0.R h' [.slice au8 nu8 cu8] u8 ∧ D0 u9 ∧ D0 u10 ∧ J1 p0 (F1 vs) u8 u9 u10 = some X7) (Exists.intro (fun _ _ => 0) ?_))
 intro v3 k4 f5
 obtain ⟨az6, cz6, rfl, rz6, sz6, lz6⟩ := O0.out (r := Wp.int.toRp) f5 (F2.append (show F2 (Wp.int.R h) ([] : List (List Value)) ([] : i0) from trivial) fy1)
 refine And.intro (Exists.intro N0 ⟨az6, ((([] : i0) ++ p0)).length, cz6, (([] : i0) ++ p0), 0, 1, rfl, rfl, sz6, rz6, (c64 (by decide) (by decide)), (c64 (by decide) (by decide)), hLX7⟩) ?_
 rintro v_0 v_1 v_2 m12 k11 ⟨au8, nu8, cu8, u8, u9, u10, evX7, eoX7, sX7, ru8, iu9, iu10, hM1⟩
 cases evX7
 cases eoX7
 replace hM1 : J1 p0 m12 u8 u9 u10 = some X7 := hM1
 obtain _ | m12 := m12
 ·cases (show (none : Option _) = some X7 from hM1)
 rw [J1.eq_2] at hM1
 obtain ⟨rfl, lu8⟩ := Sl.len ru8
 refine And.intro (fun hc13 => ?_) (fun hc13 => ?_)
 ·replace hM1 := ifP hM1 hc13
  obtain ⟨x14, gx14, hM1⟩ := f0 hM1
  refine Tr.mono (T00 _ ap0 p0.length cp0 p0 (j0.mono sX7 rp0) u10 iu10 _  gx14) ?_
  rintro v16 k15 ⟨ax14, nx14, cx14, rfl, rx14, sx14⟩
  obtain ⟨rfl, lx14⟩ := Sl.len rx14
  obtain ⟨x17, gx17, hM1⟩ := f0 hM1
  refine Tr.val (m03 _ ax14 x14.length cx14 x14 rx14 au8 u8.length cu8 u8 (j0.mono sx14 ru8) _  gx17) ?_
  obtain ⟨q18, gq18, hM1⟩ := f0 hM1
  have ix17 : D0 x17 := l0 gq18
  refine And.intro (fun hc19 => ?_) (fun hc19 => ?_)
  ·replace hM1 := ifP hM1 hc19
   refine And.intro rfl (And.intro (by repeat (first | exact trivial | refine And.intro rfl ?_)) (And.intro (by repeat (first | exact trivial | refine And.intro rfl ?_)) (Exists.intro m12 (And.intro ⟨ax14, x14.length, cx14, x14, u10, (IntKind.i64.wrap (u10 + 1)), rfl, rfl, (sX7.trans sx14), rx14, iu10, (B0 _), hM1⟩ (Nat.lt_succ_self _)))))
  ·replace hM1 := ifN hM1 hc19
   refine And.intro rfl (And.intro (by repeat (first | exact trivial | refine And.intro rfl ?_)) (And.intro (by repeat (first | exact trivial | refine And.intro rfl ?_)) (Exists.intro m12 (And.intro ⟨au8, u8.length, cu8, u8, u9, (IntKind.i64.wrap (u10 + 1)), rfl, rfl, (sX7.trans sx14), (j0.mono sx14 ru8), iu9, (B0 _), hM1⟩ (Nat.lt_succ_self _)))))
 ·replace hM1 := ifN hM1 hc13
  have hE := Option.some.inj hM1; subst hE
  try dsimp only [H0, I0] at hM0
  have hE := Option.some.inj hM0; subst hE
  exact ⟨au8, u8.length, cu8, rfl, ru8, sX7⟩
theorem U8 (h : Hp) (ap0 : Option Addr) (np0 cp0 : Nat) (p0 : i0) (rp0 : j0.R h [.slice ap0 np0 cp0] p0) (r : i0) (hM0 : I4 p0 = some r) :
  Tr Try.prog 50 #[.slice ap0 np0 cp0] h fun v h' => ∃ (a0 : Option Addr) (n0 c0 : Nat), v = .slice a0 n0 c0 ∧ j0.R h' [.slice a0 n0 c0] r ∧ Sub h h' := by
 obtain ⟨rfl, lp0⟩ := Sl.len rp0
 unfold I4 at hM0
 refine S2 (args := [.slice ap0 p0.length cp0]) (fn := Try.f50) rfl ?_
 obtain ⟨x1, gx1, hM0⟩ := f0 hM0
 refine Tr.mono (T8 _ ap0 p0.length cp0 p0 rp0 _  gx1) ?_
 rintro v3 k2 ⟨ax1_0, nx1_0, cx1_0, ax1_1, nx1_1, cx1_1, rfl, rx1_0, rx1_1, sx1⟩
 obtain ⟨x1_0, x1_1⟩ := x1
 dsimp only at hM0 rx1_0 rx1_1
 obtain ⟨rfl, lx1_0⟩ := Sl.len rx1_0
 obtain ⟨rfl, lx1_1⟩ := Sl.len rx1_1
 obtain ⟨x4, gx4, hM0⟩ := f0 hM0
 refine Tr.mono (P02 _ ax1_0 x1_0.length cx1_0 x1_0 rx1_0 _  gx4) ?_
 rintro v6 k5 ⟨ax4_0, nx4_0, cx4_0, rfl, rx4_0, sx4⟩
 obtain ⟨x4_0, x4_1⟩ := x4
 dsimp only at hM0 rx4_0
 obtain ⟨rfl, lx4_0⟩ := Sl.len rx4_0
 obtain ⟨q7, gq7, hM0⟩ := f0 hM0
 have ix4_1 : D0 x4_1 := l0 gq7
 have hE := Option.some.inj hM0; subst hE
 exact ⟨ax4_0, x4_0.length, cx4_0, rfl, rx4_0, (sx1.trans sx4)⟩
theorem j8 (h : Hp) (p0 : Int) (ip0 : D0 p0) (r : Int) (hM0 : W5 p0 = some r) :
  Tr Try.prog 53 #[.int .i64 p0] h fun v h' => v = .int .i64 r ∧ h' = h := by
 unfold W5 at hM0
 refine Tr.forget (S2 (args := [.int .i64 p0]) (fn := Try.f53) rfl ?_)
 refine And.intro (fun hc1 => ?_) (fun hc1 => ?_)
 ·replace hM0 := ifP hM0 hc1
  have hE := Option.some.inj hM0; subst hE
  exact And.intro rfl (Sub.refl _)
 ·replace hM0 := ifN hM0 hc1
  have hE := Option.some.inj hM0; subst hE
  exact And.intro rfl (Sub.refl _)
theorem o03 (h : Hp) (p0 : Int) (ip0 : D0 p0) (r : F0) (hM0 : C2 p0 = some r) :
  Tr Try.prog 57 #[.int .i64 p0] h fun v h' => ∃ (a0 : Option Addr) (n0 c0 : Nat), v = .slice a0 n0 c0 ∧ J7.R h' [.slice a0 n0 c0] r ∧ Sub h h' := by
 unfold C2 at hM0
 refine S2 (args := [.int .i64 p0]) (fn := Try.f57) rfl ?_
 obtain ⟨x1, gx1, hM0⟩ := f0 hM0
 refine Tr.val (L6 _ p0 ip0 1 (c64 (by decide) (by decide)) 3 (c64 (by decide) (by decide)) _  gx1) ?_
 refine And.intro (fun hc2 => ?_) (fun hc2 => ?_)
 ·replace hM0 := ifP hM0 hc2
  intro v3 k4 f5
  obtain ⟨az6, cz6, rfl, rz6, sz6, lz6⟩ := O0.out (r := u0.toRp) f5 (show F2 (u0.R h) ([] : List (List Value)) ([] : F0) from trivial)
  have hE := Option.some.inj hM0; subst hE
  exact ⟨az6, (([] : F0)).length, cz6, rfl, rz6, sz6⟩
 ·replace hM0 := ifN hM0 hc2
  obtain ⟨x7, gx7, hM0⟩ := f0 hM0
  refine Tr.mono (F05 _ p0 ip0 _  gx7) ?_
  rintro v9 k8 ⟨ax7, nx7, cx7, rfl, rx7, sx7⟩
  obtain ⟨rfl, lx7⟩ := Sl.len rx7
  obtain ⟨X10, hLX10, hM0⟩ := f0 hM0
  refine Exists.intro { vars := [5], boxes := [], owns := [0], fuel := true } (Exists.intro (fun vs os h' => ∃ (u11 : Int) (wu12 : List (List Value)) (u12 : List z0), vs.tail = [.int .i64 u11] ∧ os = [wu12] ∧ Sub k8 h' ∧ D0 u11 ∧ F2 (u0.R h') wu12 u12 ∧ Y4 x7 (F1 vs) u11 u12 = some X10) (Exists.intro (fun _ _ => 0) ?_))
  refine And.intro (Exists.intro N0 ⟨0, [], ([] : F0), rfl, rfl, (Sub.refl _), (c64 (by decide) (by decide)), (F2.up (r := u0.toRp) sx7 (show F2 (u0.R h) ([] : List (List Value)) ([] : F0) from trivial)), hLX10⟩) ?_
  rintro v_0 wu12 m14 k13 ⟨u11, zzu12, u12, evX10, eoX10, sX10, iu11, fu12, hM1⟩
  cases evX10
  cases eoX10
  replace hM1 : Y4 x7 m14 u11 u12 = some X10 := hM1
  obtain _ | m14 := m14
  ·cases (show (none : Option _) = some X10 from hM1)
  rw [Y4.eq_2] at hM1
  refine And.intro (fun hc15 => ?_) (fun hc15 => ?_)
  ·replace hM1 := ifP hM1 hc15
   obtain ⟨X16, hLX16, hM1⟩ := f0 hM1
   refine Exists.intro { vars := [7], boxes := [], owns := [1], fuel := true } (Exists.intro (fun vs os h' => ∃ (u17 : Int) (wu18 : List (List Value)) (u18 : List Int), vs.tail = [.int .i64 u17] ∧ os = [wu18] ∧ Sub k13 h' ∧ D0 u17 ∧ F2 (Wp.int.R h') wu18 u18 ∧ O3 x7 u11 (F1 vs) u17 u18 = some X16) (Exists.intro (fun _ _ => 0) ?_))
   refine And.intro (Exists.intro N0 ⟨0, [], ([] : i0), rfl, rfl, (Sub.refl _), (c64 (by decide) (by decide)), (show F2 (Wp.int.R k13) ([] : List (List Value)) ([] : i0) from trivial), hLX16⟩) ?_
   rintro v_0 wu18 m20 k19 ⟨u17, zzu18, u18, evX16, eoX16, sX16, iu17, fu18, hM2⟩
   cases evX16
   cases eoX16
   replace hM2 : O3 x7 u11 m20 u17 u18 = some X16 := hM2
   obtain _ | m20 := m20
   ·cases (show (none : Option _) = some X16 from hM2)
   rw [O3.eq_2] at hM2
   refine And.intro (fun hc21 => ?_) (fun hc21 => ?_)
   ·replace hM2 := ifP hM2 hc21
    refine Or.inl (And.intro (And.intro (by kernel_rfl) (by kernel_rfl)) ?_)
    obtain ⟨x22, gx22, hM2⟩ := f0 hM2
    obtain ⟨bx22, csx22, ex22, rx22⟩ := Sl.getI (r := Wp.int.toRp) (j0.mono (sX10.trans sX16) rx7) gx22 (by decide)
    refine And.intro bx22 ?_
    obtain ⟨rfl, ix22⟩ := rx22
    refine Exists.intro _ (And.intro ex22 ?_)
    obtain ⟨x23, gx23, hM2⟩ := f0 hM2
    refine Exists.intro (.int .i64 x23) (And.intro (j8 _ x22 ix22 _  gx23) ?_)
    obtain ⟨q24, gq24, hM2⟩ := f0 hM2
    have ix23 : D0 x23 := l0 gq24
    obtain ⟨x25, gx25, hM2⟩ := f0 hM2
    obtain ⟨bx25, csx25, ex25, rx25⟩ := Sl.getI (r := Wp.int.toRp) (j0.mono (sX10.trans sX16) rx7) gx25 (by decide)
    refine And.intro bx25 ?_
    obtain ⟨rfl, ix25⟩ := rx25
    refine Exists.intro _ (And.intro ex25 ?_)
    obtain ⟨x26, gx26, hM2⟩ := f0 hM2
    refine Exists.intro (.int .i64 x26) (And.intro (j8 _ x25 ix25 _  gx26) ?_)
    obtain ⟨q27, gq27, hM2⟩ := f0 hM2
    have ix26 : D0 x26 := l0 gq27
    refine And.intro (fun hc28 => ?_) (fun hc28 => ?_)
    ·replace hM2 := ifP hM2 hc28
     obtain ⟨x29, gx29, hM2⟩ := f0 hM2
     obtain ⟨bx29, csx29, ex29, rx29⟩ := Sl.getI (r := Wp.int.toRp) (j0.mono (sX10.trans sX16) rx7) gx29 (by decide)
     refine And.intro bx29 ?_
     obtain ⟨rfl, ix29⟩ := rx29
     refine Exists.intro _ (And.intro ex29 ?_)
     obtain ⟨q30, gq30, hM2⟩ := f0 hM2
     refine And.intro (R0 gq30 (by first | rw [F2.length fu18, F2.length (show F2 (Wp.int.R k19) ([[.int .i64 x29]] : List (List Value)) [x29] from ⟨⟨rfl, ix29⟩, trivial⟩)] | exact congrArg (· + 1) (F2.length fu18))) ?_
     refine And.intro rfl (And.intro (by repeat (first | exact trivial | refine And.intro rfl ?_)) (And.intro (by repeat (first | exact trivial | refine And.intro rfl ?_)) (Exists.intro m20 (And.intro ⟨(IntKind.i64.wrap (u17 + 1)), (wu18 ++ ([[.int .i64 x29]] : List (List Value))), (u18 ++ [x29]), rfl, rfl, sX16, (B0 _), (F2.append fu18 (show F2 (Wp.int.R k19) ([[.int .i64 x29]] : List (List Value)) [x29] from ⟨⟨rfl, ix29⟩, trivial⟩)), hM2⟩ (Nat.lt_succ_self _)))))
    ·replace hM2 := ifN hM2 hc28
     refine And.intro rfl (And.intro (by repeat (first | exact trivial | refine And.intro rfl ?_)) (And.intro (by repeat (first | exact trivial | refine And.intro rfl ?_)) (Exists.intro m20 (And.intro ⟨(IntKind.i64.wrap (u17 + 1)), wu18, u18, rfl, rfl, sX16, (B0 _), fu18, hM2⟩ (Nat.lt_succ_self _)))))
   ·replace hM2 := ifN hM2 hc21
    have hE := Option.some.inj hM2; subst hE
    try dsimp only [H0, I0] at hM1
    obtain ⟨X31, hLX31, hM1⟩ := f0 hM1
    refine Exists.intro { vars := [8], boxes := [], owns := [0], fuel := true } (Exists.intro (fun vs os h' => ∃ (u32 : Int) (wu33 : List (List Value)) (u33 : List z0), vs.tail = [.int .i64 u32] ∧ os = [wu33] ∧ Sub k19 h' ∧ D0 u32 ∧ F2 (u0.R h') wu33 u33 ∧ W4 u18 x7 u11 (F1 vs) u32 u33 = some X31) (Exists.intro (fun _ _ => 0) ?_))
    refine And.intro (Exists.intro N0 ⟨0, wu12, u12, rfl, rfl, (Sub.refl _), (c64 (by decide) (by decide)), (F2.up (r := u0.toRp) sX16 fu12), hLX31⟩) ?_
    rintro v_0 wu33 m35 k34 ⟨u32, zzu33, u33, evX31, eoX31, sX31, iu32, fu33, hM2⟩
    cases evX31
    cases eoX31
    replace hM2 : W4 u18 x7 u11 m35 u32 u33 = some X31 := hM2
    obtain _ | m35 := m35
    ·cases (show (none : Option _) = some X31 from hM2)
    rw [W4.eq_2] at hM2
    obtain ⟨m36, gm36, hM2⟩ := f0 hM2
    obtain rfl : wu18.length = m36 := (F2.length (F2.up (r := Wp.int.toRp) sX31 fu18)).trans (Option.some.inj gm36)
    obtain ⟨q37, gq37, hM2⟩ := f0 hM2
    obtain ⟨q38, gq38, hM2⟩ := f0 hM2
    refine And.intro (l0 gq38) ?_
    refine And.intro (fun hc39 => ?_) (fun hc39 => ?_)
    ·replace hM2 := ifP hM2 hc39
     obtain ⟨x40, gx40, hM2⟩ := f0 hM2
     obtain ⟨bx40, csx40, ex40, rx40⟩ := Sl.getI (r := Wp.int.toRp) (j0.mono ((sX10.trans sX16).trans sX31) rx7) gx40 (by decide)
     refine And.intro bx40 ?_
     obtain ⟨rfl, ix40⟩ := rx40
     refine Exists.intro _ (And.intro ex40 ?_)
     obtain ⟨X41, hLX41, hM2⟩ := f0 hM2
     refine Exists.intro { vars := [10], boxes := [0], owns := [2], fuel := true, nilsB := [(0, 1, 3, 1, 8)] } (Exists.intro (fun vs os h' => ∃ (u42 : Int) (u43 : Int) (wu44 : List (List Value)) (u44 : List Int), vs.tail = [.int .i64 u42, .int .i64 u43] ∧ os = [wu44] ∧ Sub k34 h' ∧ D0 u42 ∧ D0 u43 ∧ F2 (Wp.int.R h') wu44 u44 ∧ N3 u18 u32 (F1 vs) u42 u43 u44 = some X41) (Exists.intro (fun _ _ => 0) ?_))
     refine And.intro (Exists.intro N0 ⟨0, x40, [], ([] : i0), rfl, rfl, (Sub.refl _), (c64 (by decide) (by decide)), ix40, (show F2 (Wp.int.R k34) [] [] from trivial), hLX41⟩) ?_
     rintro v_0 v_1 wu44 m46 k45 ⟨u42, u43, zzu44, u44, evX41, eoX41, sX41, iu42, iu43, fu44, hM3⟩
     cases evX41
     cases eoX41
     replace hM3 : N3 u18 u32 m46 u42 u43 u44 = some X41 := hM3
     obtain _ | m46 := m46
     ·cases (show (none : Option _) = some X41 from hM3)
     rw [N3.eq_2] at hM3
     obtain ⟨m47, gm47, hM3⟩ := f0 hM3
     obtain rfl : wu18.length = m47 := (F2.length (F2.up (r := Wp.int.toRp) (sX31.trans sX41) fu18)).trans (Option.some.inj gm47)
     obtain ⟨q48, gq48, hM3⟩ := f0 hM3
     refine And.intro (fun hc49 => ?_) (fun hc49 => ?_)
     ·replace hM3 := ifP hM3 hc49
      obtain ⟨q50, gq50, hM3⟩ := f0 hM3
      refine And.intro (l0 gq50) ?_
      refine And.intro (fun hc51 => ?_) (fun hc51 => ?_)
      ·replace hM3 := ifP hM3 hc51
       refine Or.inr (Or.inr (Or.inl (And.intro (And.intro (by kernel_rfl) (by kernel_rfl)) ?_)))
       obtain ⟨x52, gx52, hM3⟩ := f0 hM3
       obtain ⟨bx52, csx52, ex52, rx52⟩ := j5 (F2.up (r := Wp.int.toRp) (sX31.trans sX41) fu18) gx52
       obtain ⟨rfl, ix52⟩ := rx52
       refine Or.inl ?_
       apply Exists.intro
       refine And.intro ?_ ?_
       ·intro k53 s54
        exact And.intro bx52 (And.intro rfl (And.intro rfl rfl))
       refine Or.inl (Exists.intro (.val (.int .i64 x52)) (And.intro ?_ ?_))
       ·intro k55 s56
        exact Exists.intro _ (And.intro ex52 (And.intro rfl (And.intro rfl rfl)))
       refine Or.inr ?_
       refine Or.inr ?_
       refine Or.inr ?_
       refine Or.inl (Exists.intro 0 (And.intro (And.intro rfl rfl) ?_))
       refine And.intro trivial (And.intro (by first | exact trivial | exact rfl) ?_)
       obtain ⟨q57, gq57, hM3⟩ := f0 hM3
       refine And.intro (R0 gq57 (by first | rw [F2.length fu44, F2.length (show F2 (Wp.int.R k45) ([[.int .i64 x52]] : List (List Value)) [x52] from ⟨⟨rfl, ix52⟩, trivial⟩)] | exact congrArg (· + 1) (F2.length fu44))) ?_
       refine And.intro trivial (And.intro (by first | exact trivial | exact rfl) ?_)
       refine And.intro trivial (And.intro (by first | exact trivial | exact rfl) ?_)
       refine And.intro rfl (And.intro (by repeat (first | exact trivial | refine And.intro rfl ?_)) (And.intro (by repeat (first | exact trivial | refine And.intro rfl ?_)) (Exists.intro m46 (And.intro ⟨(IntKind.i64.wrap (u42 + 1)), u43, (wu44 ++ ([[.int .i64 x52]] : List (List Value))), (u44 ++ [x52]), rfl, rfl, sX41, (B0 _), iu43, (F2.append fu44 (show F2 (Wp.int.R k45) ([[.int .i64 x52]] : List (List Value)) [x52] from ⟨⟨rfl, ix52⟩, trivial⟩)), hM3⟩ (Nat.lt_succ_self _)))))
      ·replace hM3 := ifN hM3 hc51
       refine And.intro rfl (And.intro (by repeat (first | exact trivial | refine And.intro rfl ?_)) (And.intro (by repeat (first | exact trivial | refine And.intro rfl ?_)) (Exists.intro m46 (And.intro ⟨(IntKind.i64.wrap (u42 + 1)), u43, wu44, u44, rfl, rfl, sX41, (B0 _), iu43, fu44, hM3⟩ (Nat.lt_succ_self _)))))
     ·replace hM3 := ifN hM3 hc49
      have hE := Option.some.inj hM3; subst hE
      try dsimp only [H0, I0] at hM2
      intro v58 k59 f60
      obtain ⟨az61, cz61, rfl, rz61, sz61, lz61⟩ := O0.out (r := Wp.int.toRp) f60 fu44
      obtain ⟨q62, gq62, hM2⟩ := f0 hM2
      refine And.intro (R0 gq62 (by first | rw [F2.length (F2.up (r := u0.toRp) (sX41.trans sz61) fu33), F2.length (show F2 (u0.R k59) ([[.int .i64 u43, .slice az61 u44.length cz61]] : List (List Value)) [(u43, u44)] from ⟨(V0 iu43 rz61), trivial⟩)] | exact congrArg (· + 1) (F2.length (F2.up (r := u0.toRp) (sX41.trans sz61) fu33)))) ?_
      refine And.intro rfl (And.intro (by repeat (first | exact trivial | refine And.intro rfl ?_)) (And.intro (by repeat (first | exact trivial | refine And.intro rfl ?_)) (Exists.intro m35 (And.intro ⟨(IntKind.i64.wrap (u32 + 1)), (wu33 ++ ([[.int .i64 u43, .slice az61 u44.length cz61]] : List (List Value))), (u33 ++ [(u43, u44)]), rfl, rfl, ((sX31.trans sX41).trans sz61), (B0 _), (F2.append (F2.up (r := u0.toRp) (sX41.trans sz61) fu33) (show F2 (u0.R k59) ([[.int .i64 u43, .slice az61 u44.length cz61]] : List (List Value)) [(u43, u44)] from ⟨(V0 iu43 rz61), trivial⟩)), hM2⟩ (Nat.lt_succ_self _)))))
    ·replace hM2 := ifN hM2 hc39
     have hE := Option.some.inj hM2; subst hE
     try dsimp only [H0, I0] at hM1
     refine And.intro rfl (And.intro (by repeat (first | exact trivial | refine And.intro rfl ?_)) (And.intro (by repeat (first | exact trivial | refine And.intro rfl ?_)) (Exists.intro m14 (And.intro ⟨(IntKind.i64.wrap (u11 + 1)), wu33, u33, rfl, rfl, ((sX10.trans sX16).trans sX31), (B0 _), fu33, hM1⟩ (Nat.lt_succ_self _)))))
  ·replace hM1 := ifN hM1 hc15
   have hE := Option.some.inj hM1; subst hE
   try dsimp only [H0, I0] at hM0
   intro v127 k128 f129
   obtain ⟨az130, cz130, rfl, rz130, sz130, lz130⟩ := O0.out (r := u0.toRp) f129 fu12
   have hE := Option.some.inj hM0; subst hE
   exact ⟨az130, u12.length, cz130, rfl, rz130, ((sx7.trans sX10).trans sz130)⟩
theorem F03 (h : Hp) (p0 : Int) (ip0 : D0 p0) (r : Int) (hM0 : z9 p0 = some r) :
  Tr Try.prog 74 #[.int .i64 p0] h fun v h' => v = .int .i64 r ∧ h' = h := by
 unfold z9 at hM0
 refine Tr.forget (S2 (args := [.int .i64 p0]) (fn := Try.f74) rfl ?_)
 refine And.intro (fun hc1 => ?_) (fun hc1 => ?_)
 ·replace hM0 := ifP hM0 hc1
  have hE := Option.some.inj hM0; subst hE
  exact And.intro rfl (Sub.refl _)
 ·replace hM0 := ifN hM0 hc1
  have hE := Option.some.inj hM0; subst hE
  exact And.intro rfl (Sub.refl _)
theorem Y03 (h : Hp) (p0 : Int) (ip0 : D0 p0) (csp1 : List Value) (p1 : z0) (rp1 : u0.R h csp1 p1) (r : Bool) (hM0 : t8 p0 p1 = some r) :
  Tr Try.prog 67 #[.int .i64 p0, .agg csp1.toArray] h fun v h' => v = .bool r ∧ h' = h := by
 obtain ⟨p1_0, ap1_1, np1_1, cp1_1, p1_1, rfl, rfl, ip1_0, rp1_1⟩ := v4 rp1
 obtain ⟨rfl, lp1_1⟩ := Sl.len rp1_1
 unfold t8 at hM0
 dsimp only at hM0
 refine Tr.forget (S2 (args := [.int .i64 p0, .agg #[.int .i64 p1_0, .slice ap1_1 p1_1.length cp1_1]]) (fn := Try.f67) rfl ?_)
 obtain ⟨X1, hLX1, hM0⟩ := f0 hM0
 refine Exists.intro { vars := [5], boxes := [], owns := [], fuel := true } (Exists.intro (fun vs os h' => ∃ (u2 : Int), vs.tail = [.int .i64 u2] ∧ os = [] ∧ Sub h h' ∧ D0 u2 ∧ D5 p1_1 p0 p1_0 (F1 vs) u2 = some X1) (Exists.intro (fun _ _ => 0) ?_))
 refine And.intro (Exists.intro N0 ⟨0, rfl, rfl, (Sub.refl _), (c64 (by decide) (by decide)), hLX1⟩) ?_
 rintro v_0 m4 k3 ⟨u2, evX1, eoX1, sX1, iu2, hM1⟩
 cases evX1
 cases eoX1
 replace hM1 : D5 p1_1 p0 p1_0 m4 u2 = some X1 := hM1
 obtain _ | m4 := m4
 ·cases (show (none : Option _) = some X1 from hM1)
 rw [D5.eq_2] at hM1
 refine And.intro (fun hc5 => ?_) (fun hc5 => ?_)
 ·replace hM1 := ifP hM1 hc5
  obtain ⟨x6, gx6, hM1⟩ := f0 hM1
  obtain ⟨bx6, csx6, ex6, rx6⟩ := Sl.getI (r := Wp.int.toRp) (j0.mono sX1 rp1_1) gx6 (by decide)
  refine And.intro bx6 ?_
  obtain ⟨rfl, ix6⟩ := rx6
  refine Exists.intro _ (And.intro ex6 ?_)
  refine Or.inl (And.intro (And.intro (by kernel_rfl) (by kernel_rfl)) ?_)
  obtain ⟨x7, gx7, hM1⟩ := f0 hM1
  refine Exists.intro (.bool x7) (And.intro (fun q => L6 _ x6 ix6 (IntKind.i64.wrap (0 - p0)) (B0 _) p0 ip0 _  (Z2 gx7 q)) ?_)
  obtain ⟨x8, gx8, hM1⟩ := f0 hM1
  refine Exists.intro (.int .i64 x8) (And.intro (fun q => j8 _ x6 ix6 _  (Z2 gx8 q)) ?_)
  obtain ⟨q9, gq9, hM1⟩ := f0 hM1
  have ix8 : D0 x8 := l0 gq9
  obtain ⟨x10, gx10, hM1⟩ := f0 hM1
  refine Exists.intro (.int .i64 x10) (And.intro (fun q => j8 _ p1_0 ip1_0 _  (Z2 gx10 q)) ?_)
  obtain ⟨q11, gq11, hM1⟩ := f0 hM1
  have ix10 : D0 x10 := l0 gq11
  obtain ⟨x12, gx12, hM1⟩ := f0 hM1
  obtain ⟨csx12, ex12, rx12⟩ := Sl.getG (r := Wp.int.toRp) (j0.mono sX1 rp1_1) gx12 (by decide) (d8 k3)
  refine And.intro (fun q => (ex12 q).1) ?_
  obtain ⟨rfl, ix12⟩ := rx12
  refine Exists.intro _ (And.intro (fun q => (ex12 q).2) ?_)
  obtain ⟨x13, gx13, hM1⟩ := f0 hM1
  refine Exists.intro (.int .i64 x13) (And.intro (fun q => F03 _ x12 ix12 _  (Z2 gx13 q)) ?_)
  obtain ⟨q14, gq14, hM1⟩ := f0 hM1
  have ix13 : D0 x13 := l0 gq14
  obtain ⟨x15, gx15, hM1⟩ := f0 hM1
  refine Exists.intro (.int .i64 x15) (And.intro (fun q => F03 _ x6 ix6 _  (Z2 gx15 q)) ?_)
  obtain ⟨q16, gq16, hM1⟩ := f0 hM1
  have ix15 : D0 x15 := l0 gq16
  refine And.intro (fun hc17 => ?_) (fun hc17 => ?_)
  ·replace hM1 := ifP hM1 hc17
   have hE := Option.some.inj hM1; subst hE
   try dsimp only [D4, E4] at hM0
   have hE := Option.some.inj hM0; subst hE
   exact And.intro rfl sX1
  ·replace hM1 := ifN hM1 hc17
   refine And.intro rfl (And.intro (by repeat (first | exact trivial | refine And.intro rfl ?_)) (And.intro (by repeat (first | exact trivial | refine And.intro rfl ?_)) (Exists.intro m4 (And.intro ⟨(IntKind.i64.wrap (u2 + 1)), rfl, rfl, sX1, (B0 _), hM1⟩ (Nat.lt_succ_self _)))))
 ·replace hM1 := ifN hM1 hc5
  have hE := Option.some.inj hM1; subst hE
  try dsimp only [H0, I0] at hM0
  obtain ⟨x18, gx18, hM0⟩ := f0 hM0
  refine Tr.val (L6 _ p0 ip0 1 (c64 (by decide) (by decide)) 3 (c64 (by decide) (by decide)) _  gx18) ?_
  obtain ⟨x19, gx19, hM0⟩ := f0 hM0
  refine Exists.intro (.bool x19) (And.intro (fun q => L6 _ p1_0 ip1_0 (IntKind.i64.wrap (0 - p0)) (B0 _) p0 ip0 _  (Z2 gx19 q)) ?_)
  have hE := Option.some.inj hM0; subst hE
  exact And.intro rfl sX1
theorem e01 (h : Hp) (p0 : Int) (ip0 : D0 p0) (csp1 : List Value) (p1 : z0) (rp1 : u0.R h csp1 p1) (r : i9 × Bool) (hM0 : L1 p0 p1 = some r) :
  Tr Try.prog 58 #[.int .i64 p0, .agg csp1.toArray] h fun v h' => ∃ (cs0 : List Value), v = .tuple #[.agg cs0.toArray, .bool r.2] ∧ f03.R h' cs0 r.1 ∧ Sub h h' := by
 obtain ⟨p1_0, ap1_1, np1_1, cp1_1, p1_1, rfl, rfl, ip1_0, rp1_1⟩ := v4 rp1
 obtain ⟨rfl, lp1_1⟩ := Sl.len rp1_1
 unfold L1 at hM0
 dsimp only at hM0
 refine S2 (args := [.int .i64 p0, .agg #[.int .i64 p1_0, .slice ap1_1 p1_1.length cp1_1]]) (fn := Try.f58) rfl ?_
 obtain ⟨x1, gx1, hM0⟩ := f0 hM0
 refine Tr.val (Y03 _ p0 ip0 [.int .i64 p1_0, .slice ap1_1 p1_1.length cp1_1] (p1_0, p1_1) (V0 ip1_0 rp1_1) _  gx1) ?_
 refine And.intro (fun hc2 => ?_) (fun hc2 => ?_)
 ·replace hM0 := ifP hM0 hc2
  have hE := Option.some.inj hM0; subst hE
  exact ⟨([.int .i64 0, .slice none 0 0]), rfl, (y9 (c64 (by decide) (by decide)) (E0d j0 h)), (Sub.refl _)⟩
 ·replace hM0 := ifN hM0 hc2
  obtain ⟨X3, hLX3, hM0⟩ := f0 hM0
  refine Exists.intro { vars := [7], boxes := [2], owns := [0], fuel := true, nilsB := [(2, 1, 22, 1, 24)] } (Exists.intro (fun vs os h' => ∃ (u4 : Int) (u5 : Int) (wu6 : List (List Value)) (u6 : List i0), vs.tail = [.int .i64 u4, .int .i64 u5] ∧ os = [wu6] ∧ Sub h h' ∧ D0 u4 ∧ D0 u5 ∧ F2 (j0.R h') wu6 u6 ∧ j1 p0 p1_1 p1_0 (F1 vs) u4 u5 u6 = some X3) (Exists.intro (fun _ _ => 0) ?_))
  refine And.intro (Exists.intro N0 ⟨1, p0, [], ([] : Q6), rfl, rfl, (Sub.refl _), (c64 (by decide) (by decide)), ip0, (show F2 (j0.R h) [] [] from trivial), hLX3⟩) ?_
  rintro v_0 v_1 wu6 m8 k7 ⟨u4, u5, zzu6, u6, evX3, eoX3, sX3, iu4, iu5, fu6, hM1⟩
  cases evX3
  cases eoX3
  replace hM1 : j1 p0 p1_1 p1_0 m8 u4 u5 u6 = some X3 := hM1
  obtain _ | m8 := m8
  ·cases (show (none : Option _) = some X3 from hM1)
  rw [j1.eq_2] at hM1
  refine And.intro (fun hc9 => ?_) (fun hc9 => ?_)
  ·replace hM1 := ifP hM1 hc9
   obtain ⟨x10, gx10, hM1⟩ := f0 hM1
   refine Tr.val (a02 _ ap1_1 p1_1.length cp1_1 p1_1 (j0.mono sX3 rp1_1) (IntKind.i64.wrap (0 - u4)) (B0 _) _  gx10) ?_
   refine And.intro (fun hc11 => ?_) (fun hc11 => ?_)
   ·replace hM1 := ifP hM1 hc11
    obtain ⟨q12, gq12, hM1⟩ := f0 hM1
    refine And.intro (R0 gq12 (by first | rw [F2.length (show F2 (Wp.int.R k7) ([] : List (List Value)) ([] : i0) from trivial), F2.length (show F2 (Wp.int.R k7) ([[.int .i64 (IntKind.i64.wrap (0 - p1_0))]] : List (List Value)) [(IntKind.i64.wrap (0 - p1_0))] from ⟨⟨rfl, (B0 _)⟩, trivial⟩)] | exact congrArg (· + 1) (F2.length (show F2 (Wp.int.R k7) ([] : List (List Value)) ([] : i0) from trivial)))) ?_
    obtain ⟨q13, gq13, hM1⟩ := f0 hM1
    refine And.intro (R0 gq13 (by first | rw [F2.length (F2.append (show F2 (Wp.int.R k7) ([] : List (List Value)) ([] : i0) from trivial) (show F2 (Wp.int.R k7) ([[.int .i64 (IntKind.i64.wrap (0 - p1_0))]] : List (List Value)) [(IntKind.i64.wrap (0 - p1_0))] from ⟨⟨rfl, (B0 _)⟩, trivial⟩)), F2.length (show F2 (Wp.int.R k7) ([[.int .i64 u4]] : List (List Value)) [u4] from ⟨⟨rfl, iu4⟩, trivial⟩)] | exact congrArg (· + 1) (F2.length (F2.append (show F2 (Wp.int.R k7) ([] : List (List Value)) ([] : i0) from trivial) (show F2 (Wp.int.R k7) ([[.int .i64 (IntKind.i64.wrap (0 - p1_0))]] : List (List Value)) [(IntKind.i64.wrap (0 - p1_0))] from ⟨⟨rfl, (B0 _)⟩, trivial⟩))))) ?_
    obtain ⟨x14, gx14, hM1⟩ := f0 hM1
    refine Tr.val (a02 _ ap1_1 p1_1.length cp1_1 p1_1 (j0.mono sX3 rp1_1) u4 iu4 _  gx14) ?_
    refine And.intro (fun hc15 => ?_) (fun hc15 => ?_)
    ·replace hM1 := ifP hM1 hc15
     obtain ⟨q16, gq16, hM1⟩ := f0 hM1
     refine And.intro (R0 gq16 (by first | rw [F2.length (F2.append (F2.append (show F2 (Wp.int.R k7) ([] : List (List Value)) ([] : i0) from trivial) (show F2 (Wp.int.R k7) ([[.int .i64 (IntKind.i64.wrap (0 - p1_0))]] : List (List Value)) [(IntKind.i64.wrap (0 - p1_0))] from ⟨⟨rfl, (B0 _)⟩, trivial⟩)) (show F2 (Wp.int.R k7) ([[.int .i64 u4]] : List (List Value)) [u4] from ⟨⟨rfl, iu4⟩, trivial⟩)), F2.length (show F2 (Wp.int.R k7) ([[.int .i64 p1_0]] : List (List Value)) [p1_0] from ⟨⟨rfl, ip1_0⟩, trivial⟩)] | exact congrArg (· + 1) (F2.length (F2.append (F2.append (show F2 (Wp.int.R k7) ([] : List (List Value)) ([] : i0) from trivial) (show F2 (Wp.int.R k7) ([[.int .i64 (IntKind.i64.wrap (0 - p1_0))]] : List (List Value)) [(IntKind.i64.wrap (0 - p1_0))] from ⟨⟨rfl, (B0 _)⟩, trivial⟩)) (show F2 (Wp.int.R k7) ([[.int .i64 u4]] : List (List Value)) [u4] from ⟨⟨rfl, iu4⟩, trivial⟩))))) ?_
     intro v17 k18 f19
     obtain ⟨az20, cz20, rfl, rz20, sz20, lz20⟩ := O0.out (r := Wp.int.toRp) f19 (F2.append (F2.append (F2.append (show F2 (Wp.int.R k7) ([] : List (List Value)) ([] : i0) from trivial) (show F2 (Wp.int.R k7) ([[.int .i64 (IntKind.i64.wrap (0 - p1_0))]] : List (List Value)) [(IntKind.i64.wrap (0 - p1_0))] from ⟨⟨rfl, (B0 _)⟩, trivial⟩)) (show F2 (Wp.int.R k7) ([[.int .i64 u4]] : List (List Value)) [u4] from ⟨⟨rfl, iu4⟩, trivial⟩)) (show F2 (Wp.int.R k7) ([[.int .i64 p1_0]] : List (List Value)) [p1_0] from ⟨⟨rfl, ip1_0⟩, trivial⟩))
     obtain ⟨q21, gq21, hM1⟩ := f0 hM1
     refine And.intro (R0 gq21 (by first | rw [F2.length (F2.up (r := j0.toRp) sz20 fu6), F2.length (show F2 (j0.R k18) ([[.slice az20 ((((([] : i0) ++ [(IntKind.i64.wrap (0 - p1_0))]) ++ [u4]) ++ [p1_0])).length cz20]] : List (List Value)) [(((([] : i0) ++ [(IntKind.i64.wrap (0 - p1_0))]) ++ [u4]) ++ [p1_0])] from ⟨rz20, trivial⟩)] | exact congrArg (· + 1) (F2.length (F2.up (r := j0.toRp) sz20 fu6)))) ?_
     refine And.intro rfl (And.intro (by repeat (first | exact trivial | refine And.intro rfl ?_)) (And.intro (by repeat (first | exact trivial | refine And.intro rfl ?_)) (Exists.intro m8 (And.intro ⟨(IntKind.i64.wrap (u4 + 1)), u5, (wu6 ++ ([[.slice az20 ((((([] : i0) ++ [(IntKind.i64.wrap (0 - p1_0))]) ++ [u4]) ++ [p1_0])).length cz20]] : List (List Value))), (u6 ++ [(((([] : i0) ++ [(IntKind.i64.wrap (0 - p1_0))]) ++ [u4]) ++ [p1_0])]), rfl, rfl, (sX3.trans sz20), (B0 _), iu5, (F2.append (F2.up (r := j0.toRp) sz20 fu6) (show F2 (j0.R k18) ([[.slice az20 ((((([] : i0) ++ [(IntKind.i64.wrap (0 - p1_0))]) ++ [u4]) ++ [p1_0])).length cz20]] : List (List Value)) [(((([] : i0) ++ [(IntKind.i64.wrap (0 - p1_0))]) ++ [u4]) ++ [p1_0])] from ⟨rz20, trivial⟩)), hM1⟩ (Nat.lt_succ_self _)))))
    ·replace hM1 := ifN hM1 hc15
     intro v22 k23 f24
     obtain ⟨az25, cz25, rfl, rz25, sz25, lz25⟩ := O0.out (r := Wp.int.toRp) f24 (F2.append (F2.append (show F2 (Wp.int.R k7) ([] : List (List Value)) ([] : i0) from trivial) (show F2 (Wp.int.R k7) ([[.int .i64 (IntKind.i64.wrap (0 - p1_0))]] : List (List Value)) [(IntKind.i64.wrap (0 - p1_0))] from ⟨⟨rfl, (B0 _)⟩, trivial⟩)) (show F2 (Wp.int.R k7) ([[.int .i64 u4]] : List (List Value)) [u4] from ⟨⟨rfl, iu4⟩, trivial⟩))
     obtain ⟨q26, gq26, hM1⟩ := f0 hM1
     refine And.intro (R0 gq26 (by first | rw [F2.length (F2.up (r := j0.toRp) sz25 fu6), F2.length (show F2 (j0.R k23) ([[.slice az25 (((([] : i0) ++ [(IntKind.i64.wrap (0 - p1_0))]) ++ [u4])).length cz25]] : List (List Value)) [((([] : i0) ++ [(IntKind.i64.wrap (0 - p1_0))]) ++ [u4])] from ⟨rz25, trivial⟩)] | exact congrArg (· + 1) (F2.length (F2.up (r := j0.toRp) sz25 fu6)))) ?_
     refine And.intro rfl (And.intro (by repeat (first | exact trivial | refine And.intro rfl ?_)) (And.intro (by repeat (first | exact trivial | refine And.intro rfl ?_)) (Exists.intro m8 (And.intro ⟨(IntKind.i64.wrap (u4 + 1)), u5, (wu6 ++ ([[.slice az25 (((([] : i0) ++ [(IntKind.i64.wrap (0 - p1_0))]) ++ [u4])).length cz25]] : List (List Value))), (u6 ++ [((([] : i0) ++ [(IntKind.i64.wrap (0 - p1_0))]) ++ [u4])]), rfl, rfl, (sX3.trans sz25), (B0 _), iu5, (F2.append (F2.up (r := j0.toRp) sz25 fu6) (show F2 (j0.R k23) ([[.slice az25 (((([] : i0) ++ [(IntKind.i64.wrap (0 - p1_0))]) ++ [u4])).length cz25]] : List (List Value)) [((([] : i0) ++ [(IntKind.i64.wrap (0 - p1_0))]) ++ [u4])] from ⟨rz25, trivial⟩)), hM1⟩ (Nat.lt_succ_self _)))))
   ·replace hM1 := ifN hM1 hc11
    obtain ⟨q27, gq27, hM1⟩ := f0 hM1
    refine And.intro (R0 gq27 (by first | rw [F2.length (show F2 (Wp.int.R k7) ([] : List (List Value)) ([] : i0) from trivial), F2.length (show F2 (Wp.int.R k7) ([[.int .i64 u4]] : List (List Value)) [u4] from ⟨⟨rfl, iu4⟩, trivial⟩)] | exact congrArg (· + 1) (F2.length (show F2 (Wp.int.R k7) ([] : List (List Value)) ([] : i0) from trivial)))) ?_
    obtain ⟨x28, gx28, hM1⟩ := f0 hM1
    refine Tr.val (a02 _ ap1_1 p1_1.length cp1_1 p1_1 (j0.mono sX3 rp1_1) u4 iu4 _  gx28) ?_
    refine And.intro (fun hc29 => ?_) (fun hc29 => ?_)
    ·replace hM1 := ifP hM1 hc29
     obtain ⟨q30, gq30, hM1⟩ := f0 hM1
     refine And.intro (R0 gq30 (by first | rw [F2.length (F2.append (show F2 (Wp.int.R k7) ([] : List (List Value)) ([] : i0) from trivial) (show F2 (Wp.int.R k7) ([[.int .i64 u4]] : List (List Value)) [u4] from ⟨⟨rfl, iu4⟩, trivial⟩)), F2.length (show F2 (Wp.int.R k7) ([[.int .i64 p1_0]] : List (List Value)) [p1_0] from ⟨⟨rfl, ip1_0⟩, trivial⟩)] | exact congrArg (· + 1) (F2.length (F2.append (show F2 (Wp.int.R k7) ([] : List (List Value)) ([] : i0) from trivial) (show F2 (Wp.int.R k7) ([[.int .i64 u4]] : List (List Value)) [u4] from ⟨⟨rfl, iu4⟩, trivial⟩))))) ?_
     intro v31 k32 f33
     obtain ⟨az34, cz34, rfl, rz34, sz34, lz34⟩ := O0.out (r := Wp.int.toRp) f33 (F2.append (F2.append (show F2 (Wp.int.R k7) ([] : List (List Value)) ([] : i0) from trivial) (show F2 (Wp.int.R k7) ([[.int .i64 u4]] : List (List Value)) [u4] from ⟨⟨rfl, iu4⟩, trivial⟩)) (show F2 (Wp.int.R k7) ([[.int .i64 p1_0]] : List (List Value)) [p1_0] from ⟨⟨rfl, ip1_0⟩, trivial⟩))
     obtain ⟨q35, gq35, hM1⟩ := f0 hM1
     refine And.intro (R0 gq35 (by first | rw [F2.length (F2.up (r := j0.toRp) sz34 fu6), F2.length (show F2 (j0.R k32) ([[.slice az34 (((([] : i0) ++ [u4]) ++ [p1_0])).length cz34]] : List (List Value)) [((([] : i0) ++ [u4]) ++ [p1_0])] from ⟨rz34, trivial⟩)] | exact congrArg (· + 1) (F2.length (F2.up (r := j0.toRp) sz34 fu6)))) ?_
     refine And.intro rfl (And.intro (by repeat (first | exact trivial | refine And.intro rfl ?_)) (And.intro (by repeat (first | exact trivial | refine And.intro rfl ?_)) (Exists.intro m8 (And.intro ⟨(IntKind.i64.wrap (u4 + 1)), u5, (wu6 ++ ([[.slice az34 (((([] : i0) ++ [u4]) ++ [p1_0])).length cz34]] : List (List Value))), (u6 ++ [((([] : i0) ++ [u4]) ++ [p1_0])]), rfl, rfl, (sX3.trans sz34), (B0 _), iu5, (F2.append (F2.up (r := j0.toRp) sz34 fu6) (show F2 (j0.R k32) ([[.slice az34 (((([] : i0) ++ [u4]) ++ [p1_0])).length cz34]] : List (List Value)) [((([] : i0) ++ [u4]) ++ [p1_0])] from ⟨rz34, trivial⟩)), hM1⟩ (Nat.lt_succ_self _)))))
    ·replace hM1 := ifN hM1 hc29
     intro v36 k37 f38
     obtain ⟨az39, cz39, rfl, rz39, sz39, lz39⟩ := O0.out (r := Wp.int.toRp) f38 (F2.append (show F2 (Wp.int.R k7) ([] : List (List Value)) ([] : i0) from trivial) (show F2 (Wp.int.R k7) ([[.int .i64 u4]] : List (List Value)) [u4] from ⟨⟨rfl, iu4⟩, trivial⟩))
     obtain ⟨q40, gq40, hM1⟩ := f0 hM1
     refine And.intro (R0 gq40 (by first | rw [F2.length (F2.up (r := j0.toRp) sz39 fu6), F2.length (show F2 (j0.R k37) ([[.slice az39 ((([] : i0) ++ [u4])).length cz39]] : List (List Value)) [(([] : i0) ++ [u4])] from ⟨rz39, trivial⟩)] | exact congrArg (· + 1) (F2.length (F2.up (r := j0.toRp) sz39 fu6)))) ?_
     refine And.intro rfl (And.intro (by repeat (first | exact trivial | refine And.intro rfl ?_)) (And.intro (by repeat (first | exact trivial | refine And.intro rfl ?_)) (Exists.intro m8 (And.intro ⟨(IntKind.i64.wrap (u4 + 1)), u5, (wu6 ++ ([[.slice az39 ((([] : i0) ++ [u4])).length cz39]] : List (List Value))), (u6 ++ [(([] : i0) ++ [u4])]), rfl, rfl, (sX3.trans sz39), (B0 _), iu5, (F2.append (F2.up (r := j0.toRp) sz39 fu6) (show F2 (j0.R k37) ([[.slice az39 ((([] : i0) ++ [u4])).length cz39]] : List (List Value)) [(([] : i0) ++ [u4])] from ⟨rz39, trivial⟩)), hM1⟩ (Nat.lt_succ_self _)))))
  ·replace hM1 := ifN hM1 hc9
   have hE := Option.some.inj hM1; subst hE
   try dsimp only [H0, I0] at hM0
   intro v41 k42 f43
   obtain ⟨az44, cz44, rfl, rz44, sz44, lz44⟩ := O0.out (r := j0.toRp) f43 fu6
   have hE := Option.some.inj hM0; subst hE
   exact ⟨([.int .i64 u5, .slice az44 u6.length cz44]), rfl, (y9 iu5 rz44), (sX3.trans sz44)⟩
theorem j02 (h : Hp) (p0 : Int) (ip0 : D0 p0) (csp1 : List Value) (p1 : z0) (rp1 : u0.R h csp1 p1) (ap2 : Option Addr) (np2 cp2 : Nat) (p2 : i0) (rp2 : j0.R h [.slice ap2 np2 cp2] p2) (r : i0) (hM0 : E6 p0 p1 p2 = some r) :
  Tr Try.prog 52 #[.int .i64 p0, .agg csp1.toArray, .slice ap2 np2 cp2] h fun v h' => ∃ (a0 : Option Addr) (n0 c0 : Nat), v = .slice a0 n0 c0 ∧ j0.R h' [.slice a0 n0 c0] r ∧ Sub h h' := by
 obtain ⟨p1_0, ap1_1, np1_1, cp1_1, p1_1, rfl, rfl, ip1_0, rp1_1⟩ := v4 rp1
 obtain ⟨rfl, lp1_1⟩ := Sl.len rp1_1
 obtain ⟨rfl, lp2⟩ := Sl.len rp2
 unfold E6 at hM0
 dsimp only at hM0
 refine S2 (args := [.int .i64 p0, .agg #[.int .i64 p1_0, .slice ap1_1 p1_1.length cp1_1], .slice ap2 p2.length cp2]) (fn := Try.f52) rfl ?_
 obtain ⟨x1, gx1, hM0⟩ := f0 hM0
 refine Tr.mono (e01 _ p0 ip0 [.int .i64 p1_0, .slice ap1_1 p1_1.length cp1_1] (p1_0, p1_1) (V0 ip1_0 rp1_1) _  gx1) ?_
 rintro v3 k2 ⟨csx1_0, rfl, rx1_0, sx1⟩
 obtain ⟨x1_0, x1_1⟩ := x1
 dsimp only at hM0 rx1_0
 obtain ⟨x1_0_0, ax1_0_1, nx1_0_1, cx1_0_1, x1_0_1, rfl, rfl, ix1_0_0, rx1_0_1⟩ := I04 rx1_0
 obtain ⟨rfl, lx1_0_1⟩ := Sl.len rx1_0_1
 try dsimp only at hM0
 obtain ⟨x4, gx4, hM0⟩ := f0 hM0
 refine Tr.mono (Y05 _ ax1_0_1 x1_0_1.length cx1_0_1 x1_0_1 rx1_0_1 ap2 p2.length cp2 p2 (j0.mono sx1 rp2) _  gx4) ?_
 rintro v6 k5 ⟨ax4, nx4, cx4, rfl, rx4, sx4⟩
 obtain ⟨rfl, lx4⟩ := Sl.len rx4
 obtain ⟨x7, gx7, hM0⟩ := f0 hM0
 refine Tr.mono (U8 _ ax4 x4.length cx4 x4 rx4 _  gx7) ?_
 rintro v9 k8 ⟨ax7, nx7, cx7, rfl, rx7, sx7⟩
 obtain ⟨rfl, lx7⟩ := Sl.len rx7
 have hE := Option.some.inj hM0; subst hE
 exact ⟨ax7, x7.length, cx7, rfl, rx7, ((sx1.trans sx4).trans sx7)⟩
theorem Q02 (h : Hp) (p0 : Int) (ip0 : D0 p0) (ap1 : Option Addr) (np1 cp1 : Nat) (p1 : i0) (rp1 : j0.R h [.slice ap1 np1 cp1] p1) (r : z0 × Bool) (hM0 : E5 p0 p1 = some r) :
  Tr Try.prog 51 #[.int .i64 p0, .slice ap1 np1 cp1] h fun v h' => ∃ (cs0 : List Value), v = .tuple #[.agg cs0.toArray, .bool r.2] ∧ u0.R h' cs0 r.1 ∧ Sub h h' := by
 obtain ⟨rfl, lp1⟩ := Sl.len rp1
 unfold E5 at hM0
 refine S2 (args := [.int .i64 p0, .slice ap1 p1.length cp1]) (fn := Try.f51) rfl ?_
 obtain ⟨x1, gx1, hM0⟩ := f0 hM0
 refine Tr.val (o7 _ p0 ip0 ap1 p1.length cp1 p1 rp1 _  gx1) ?_
 refine And.intro (fun hc2 => ?_) (fun hc2 => ?_)
 ·replace hM0 := ifP hM0 hc2
  have hE := Option.some.inj hM0; subst hE
  exact ⟨([.int .i64 0, .slice none 0 0]), rfl, (V0 (c64 (by decide) (by decide)) (E0d Wp.int h)), (Sub.refl _)⟩
 ·replace hM0 := ifN hM0 hc2
  obtain ⟨x3, gx3, hM0⟩ := f0 hM0
  refine Tr.mono (U8 _ ap1 p1.length cp1 p1 rp1 _  gx3) ?_
  rintro v5 k4 ⟨ax3, nx3, cx3, rfl, rx3, sx3⟩
  obtain ⟨rfl, lx3⟩ := Sl.len rx3
  obtain ⟨x6, gx6, hM0⟩ := f0 hM0
  refine Tr.mono (o03 _ p0 ip0 _  gx6) ?_
  rintro v8 k7 ⟨ax6, nx6, cx6, rfl, rx6, sx6⟩
  obtain ⟨rfl, lx6⟩ := Sl.len rx6
  obtain ⟨X9, hLX9, hM0⟩ := f0 hM0
  refine Exists.intro { vars := [8], boxes := [], owns := [], fuel := true } (Exists.intro (fun vs os h' => ∃ (u10 : Int), vs.tail = [.int .i64 u10] ∧ os = [] ∧ Sub k7 h' ∧ D0 u10 ∧ U1 x6 p0 x3 (F1 vs) u10 = some X9) (Exists.intro (fun _ _ => 0) ?_))
  refine And.intro (Exists.intro N0 ⟨0, rfl, rfl, (Sub.refl _), (c64 (by decide) (by decide)), hLX9⟩) ?_
  rintro v_0 m12 k11 ⟨u10, evX9, eoX9, sX9, iu10, hM1⟩
  cases evX9
  cases eoX9
  replace hM1 : U1 x6 p0 x3 m12 u10 = some X9 := hM1
  obtain _ | m12 := m12
  ·cases (show (none : Option _) = some X9 from hM1)
  rw [U1.eq_2] at hM1
  refine And.intro (fun hc13 => ?_) (fun hc13 => ?_)
  ·replace hM1 := ifP hM1 hc13
   obtain ⟨x14, gx14, hM1⟩ := f0 hM1
   obtain ⟨bx14, csx14, ex14, rx14⟩ := Sl.getI (r := u0.toRp) (J7.mono sX9 rx6) gx14 (by decide)
   refine And.intro bx14 ?_
   obtain ⟨x14_0, ax14_1, nx14_1, cx14_1, x14_1, rfl, rfl, ix14_0, rx14_1⟩ := v4 rx14
   obtain ⟨rfl, lx14_1⟩ := Sl.len rx14_1
   try dsimp only at hM1
   refine Exists.intro _ (And.intro ex14 ?_)
   obtain ⟨x15, gx15, hM1⟩ := f0 hM1
   refine Tr.mono (j02 _ p0 ip0 [.int .i64 x14_0, .slice ax14_1 x14_1.length cx14_1] (x14_0, x14_1) (V0 ix14_0 rx14_1) ax3 x3.length cx3 x3 (j0.mono (sx6.trans sX9) rx3) _  gx15) ?_
   rintro v17 k16 ⟨ax15, nx15, cx15, rfl, rx15, sx15⟩
   obtain ⟨rfl, lx15⟩ := Sl.len rx15
   refine And.intro (fun hc18 => ?_) (fun hc18 => ?_)
   ·replace hM1 := ifP hM1 hc18
    obtain ⟨x19, gx19, hM1⟩ := f0 hM1
    obtain ⟨bx19, csx19, ex19, rx19⟩ := Sl.getI (r := u0.toRp) (J7.mono (sX9.trans sx15) rx6) gx19 (by decide)
    refine And.intro bx19 ?_
    obtain ⟨x19_0, ax19_1, nx19_1, cx19_1, x19_1, rfl, rfl, ix19_0, rx19_1⟩ := v4 rx19
    obtain ⟨rfl, lx19_1⟩ := Sl.len rx19_1
    try dsimp only at hM1
    refine Exists.intro _ (And.intro ex19 ?_)
    have hE := Option.some.inj hM1; subst hE
    try dsimp only [D4, E4] at hM0
    have hE := Option.some.inj hM0; subst hE
    exact ⟨([.int .i64 x19_0, .slice ax19_1 x19_1.length cx19_1]), rfl, (V0 ix19_0 rx19_1), (((sx3.trans sx6).trans sX9).trans sx15)⟩
   ·replace hM1 := ifN hM1 hc18
    refine And.intro rfl (And.intro (by repeat (first | exact trivial | refine And.intro rfl ?_)) (And.intro (by repeat (first | exact trivial | refine And.intro rfl ?_)) (Exists.intro m12 (And.intro ⟨(IntKind.i64.wrap (u10 + 1)), rfl, rfl, (sX9.trans sx15), (B0 _), hM1⟩ (Nat.lt_succ_self _)))))
  ·replace hM1 := ifN hM1 hc13
   have hE := Option.some.inj hM1; subst hE
   try dsimp only [H0, I0] at hM0
   have hE := Option.some.inj hM0; subst hE
   exact ⟨([.int .i64 0, .slice none 0 0]), rfl, (V0 (c64 (by decide) (by decide)) (E0d Wp.int k11)), ((sx3.trans sx6).trans sX9)⟩
theorem W9 (h : Hp) (p0 : Int) (ip0 : D0 p0) (ap1 : Option Addr) (np1 cp1 : Nat) (p1 : i0) (rp1 : j0.R h [.slice ap1 np1 cp1] p1) (r : i0 × F0) (hM0 : N4 p0 p1 = some r) :
  Tr Try.prog 34 #[.int .i64 p0, .slice ap1 np1 cp1] h fun v h' => ∃ (a0 : Option Addr) (n0 c0 : Nat) (a1 : Option Addr) (n1 c1 : Nat), v = .tuple #[.slice a0 n0 c0, .slice a1 n1 c1] ∧ j0.R h' [.slice a0 n0 c0] r.1 ∧ J7.R h' [.slice a1 n1 c1] r.2 ∧ Sub h h' := by
 obtain ⟨rfl, lp1⟩ := Sl.len rp1
 unfold N4 at hM0
 refine S2 (args := [.int .i64 p0, .slice ap1 p1.length cp1]) (fn := Try.f34) rfl ?_
 obtain ⟨x1, gx1, hM0⟩ := f0 hM0
 refine Tr.val (o7 _ p0 ip0 ap1 p1.length cp1 p1 rp1 _  gx1) ?_
 refine And.intro (fun hc2 => ?_) (fun hc2 => ?_)
 ·replace hM0 := ifP hM0 hc2
  intro v3 k4 f5
  obtain ⟨az6, cz6, rfl, rz6, sz6, lz6⟩ := O0.out (r := Wp.int.toRp) f5 (show F2 (Wp.int.R h) ([] : List (List Value)) ([] : i0) from trivial)
  intro v7 k8 f9
  obtain ⟨az10, cz10, rfl, rz10, sz10, lz10⟩ := O0.out (r := u0.toRp) f9 (F2.up (r := u0.toRp) sz6 (show F2 (u0.R h) ([] : List (List Value)) ([] : F0) from trivial))
  have hE := Option.some.inj hM0; subst hE
  exact ⟨az6, (([] : i0)).length, cz6, az10, (([] : F0)).length, cz10, rfl, (j0.mono sz10 rz6), rz10, (sz6.trans sz10)⟩
 ·replace hM0 := ifN hM0 hc2
  obtain ⟨x11, gx11, hM0⟩ := f0 hM0
  refine Tr.mono (U8 _ ap1 p1.length cp1 p1 rp1 _  gx11) ?_
  rintro v13 k12 ⟨ax11, nx11, cx11, rfl, rx11, sx11⟩
  obtain ⟨rfl, lx11⟩ := Sl.len rx11
  obtain ⟨X14, hLX14, hM0⟩ := f0 hM0
  refine Exists.intro { vars := [7, 8], boxes := [], owns := [0], fuel := true } (Exists.intro (fun vs os h' => ∃ (au15 : Option Addr) (nu15 cu15 : Nat) (u15 : i0) (u16 : Int) (wu17 : List (List Value)) (u17 : List z0), vs.tail = [.slice au15 nu15 cu15, .int .i64 u16] ∧ os = [wu17] ∧ Sub k12 h' ∧ j0.R h' [.slice au15 nu15 cu15] u15 ∧ D0 u16 ∧ F2 (u0.R h') wu17 u17 ∧ Z1 p0 (F1 vs) u15 u16 u17 = some X14) (Exists.intro (fun _ _ => 0) ?_))
  refine And.intro (Exists.intro N0 ⟨ax11, x11.length, cx11, x11, 0, [], ([] : F0), rfl, rfl, (Sub.refl _), rx11, (c64 (by decide) (by decide)), (F2.up (r := u0.toRp) sx11 (show F2 (u0.R h) ([] : List (List Value)) ([] : F0) from trivial)), hLX14⟩) ?_
  rintro v_0 v_1 wu17 m19 k18 ⟨au15, nu15, cu15, u15, u16, zzu17, u17, evX14, eoX14, sX14, ru15, iu16, fu17, hM1⟩
  cases evX14
  cases eoX14
  replace hM1 : Z1 p0 m19 u15 u16 u17 = some X14 := hM1
  obtain _ | m19 := m19
  ·cases (show (none : Option _) = some X14 from hM1)
  rw [Z1.eq_2] at hM1
  obtain ⟨rfl, lu15⟩ := Sl.len ru15
  refine And.intro (fun hc20 => ?_) (fun hc20 => ?_)
  ·replace hM1 := ifP hM1 hc20
   obtain ⟨x21, gx21, hM1⟩ := f0 hM1
   refine Tr.mono (Q02 _ p0 ip0 au15 u15.length cu15 u15 ru15 _  gx21) ?_
   rintro v23 k22 ⟨csx21_0, rfl, rx21_0, sx21⟩
   obtain ⟨x21_0, x21_1⟩ := x21
   dsimp only at hM1 rx21_0
   obtain ⟨x21_0_0, ax21_0_1, nx21_0_1, cx21_0_1, x21_0_1, rfl, rfl, ix21_0_0, rx21_0_1⟩ := v4 rx21_0
   obtain ⟨rfl, lx21_0_1⟩ := Sl.len rx21_0_1
   try dsimp only at hM1
   refine And.intro (fun hc24 => ?_) (fun hc24 => ?_)
   ·replace hM1 := ifP hM1 hc24
    intro v25 k26 f27
    obtain ⟨az28, cz28, rfl, rz28, sz28, lz28⟩ := O0.out (r := u0.toRp) f27 (F2.up (r := u0.toRp) sx21 fu17)
    have hE := Option.some.inj hM1; subst hE
    try dsimp only [D4, E4] at hM0
    have hE := Option.some.inj hM0; subst hE
    exact ⟨au15, u15.length, cu15, az28, u17.length, cz28, rfl, (j0.mono (sx21.trans sz28) ru15), rz28, (((sx11.trans sX14).trans sx21).trans sz28)⟩
   ·replace hM1 := ifN hM1 hc24
    obtain ⟨x29, gx29, hM1⟩ := f0 hM1
    refine Tr.mono (j02 _ p0 ip0 [.int .i64 x21_0_0, .slice ax21_0_1 x21_0_1.length cx21_0_1] (x21_0_0, x21_0_1) (V0 ix21_0_0 rx21_0_1) au15 u15.length cu15 u15 (j0.mono sx21 ru15) _  gx29) ?_
    rintro v31 k30 ⟨ax29, nx29, cx29, rfl, rx29, sx29⟩
    obtain ⟨rfl, lx29⟩ := Sl.len rx29
    obtain ⟨q32, gq32, hM1⟩ := f0 hM1
    refine And.intro (R0 gq32 (by first | rw [F2.length (F2.up (r := u0.toRp) (sx21.trans sx29) fu17), F2.length (show F2 (u0.R k30) ([[.int .i64 x21_0_0, .slice ax21_0_1 x21_0_1.length cx21_0_1]] : List (List Value)) [(x21_0_0, x21_0_1)] from ⟨(V0 ix21_0_0 (j0.mono sx29 rx21_0_1)), trivial⟩)] | exact congrArg (· + 1) (F2.length (F2.up (r := u0.toRp) (sx21.trans sx29) fu17)))) ?_
    refine And.intro rfl (And.intro (by repeat (first | exact trivial | refine And.intro rfl ?_)) (And.intro (by repeat (first | exact trivial | refine And.intro rfl ?_)) (Exists.intro m19 (And.intro ⟨ax29, x29.length, cx29, x29, (IntKind.i64.wrap (u16 + 1)), (wu17 ++ ([[.int .i64 x21_0_0, .slice ax21_0_1 x21_0_1.length cx21_0_1]] : List (List Value))), (u17 ++ [(x21_0_0, x21_0_1)]), rfl, rfl, ((sX14.trans sx21).trans sx29), rx29, (B0 _), (F2.append (F2.up (r := u0.toRp) (sx21.trans sx29) fu17) (show F2 (u0.R k30) ([[.int .i64 x21_0_0, .slice ax21_0_1 x21_0_1.length cx21_0_1]] : List (List Value)) [(x21_0_0, x21_0_1)] from ⟨(V0 ix21_0_0 (j0.mono sx29 rx21_0_1)), trivial⟩)), hM1⟩ (Nat.lt_succ_self _)))))
  ·replace hM1 := ifN hM1 hc20
   have hE := Option.some.inj hM1; subst hE
   try dsimp only [H0, I0] at hM0
   intro v33 k34 f35
   obtain ⟨az36, cz36, rfl, rz36, sz36, lz36⟩ := O0.out (r := u0.toRp) f35 fu17
   have hE := Option.some.inj hM0; subst hE
   exact ⟨au15, u15.length, cu15, az36, u17.length, cz36, rfl, (j0.mono sz36 ru15), rz36, ((sx11.trans sX14).trans sz36)⟩
theorem Z03 (h : Hp) (p0 : Int) (ip0 : D0 p0) (ap1 : Option Addr) (np1 cp1 : Nat) (p1 : i0) (rp1 : j0.R h [.slice ap1 np1 cp1] p1) (r : Int) (hM0 : p6 p0 p1 = some r) :
  Tr Try.prog 13 #[.int .i64 p0, .slice ap1 np1 cp1] h fun v h' => v = .int .i64 r ∧ h' = h := by
 obtain ⟨rfl, lp1⟩ := Sl.len rp1
 unfold p6 at hM0
 refine Tr.forget (S2 (args := [.int .i64 p0, .slice ap1 p1.length cp1]) (fn := Try.f13) rfl ?_)
 obtain ⟨x1, gx1, hM0⟩ := f0 hM0
 refine Tr.mono (W9 _ p0 ip0 ap1 p1.length cp1 p1 rp1 _  gx1) ?_
 rintro v3 k2 ⟨ax1_0, nx1_0, cx1_0, ax1_1, nx1_1, cx1_1, rfl, rx1_0, rx1_1, sx1⟩
 obtain ⟨x1_0, x1_1⟩ := x1
 dsimp only at hM0 rx1_0 rx1_1
 obtain ⟨rfl, lx1_0⟩ := Sl.len rx1_0
 obtain ⟨rfl, lx1_1⟩ := Sl.len rx1_1
 obtain ⟨x4, gx4, hM0⟩ := f0 hM0
 refine Tr.val (o7 _ p0 ip0 ap1 p1.length cp1 p1 (j0.mono sx1 rp1) _  gx4) ?_
 refine And.intro (fun hc5 => ?_) (fun hc5 => ?_)
 ·replace hM0 := ifP hM0 hc5
  have hE := Option.some.inj hM0; subst hE
  exact And.intro rfl sx1
 ·replace hM0 := ifN hM0 hc5
  have hE := Option.some.inj hM0; subst hE
  exact And.intro rfl sx1
theorem a04 (h : Hp) (p0 : Int) (ip0 : D0 p0) (ap1 : Option Addr) (np1 cp1 : Nat) (p1 : i0) (rp1 : j0.R h [.slice ap1 np1 cp1] p1) (r : Bool) (hM0 : r6 p0 p1 = some r) :
  Tr Try.prog 15 #[.int .i64 p0, .slice ap1 np1 cp1] h fun v h' => v = .bool r ∧ h' = h := by
 obtain ⟨rfl, lp1⟩ := Sl.len rp1
 unfold r6 at hM0
 refine Tr.forget (S2 (args := [.int .i64 p0, .slice ap1 p1.length cp1]) (fn := Try.f15) rfl ?_)
 obtain ⟨x1, gx1, hM0⟩ := f0 hM0
 refine Tr.mono (W9 _ p0 ip0 ap1 p1.length cp1 p1 rp1 _  gx1) ?_
 rintro v3 k2 ⟨ax1_0, nx1_0, cx1_0, ax1_1, nx1_1, cx1_1, rfl, rx1_0, rx1_1, sx1⟩
 obtain ⟨x1_0, x1_1⟩ := x1
 dsimp only at hM0 rx1_0 rx1_1
 obtain ⟨rfl, lx1_0⟩ := Sl.len rx1_0
 obtain ⟨rfl, lx1_1⟩ := Sl.len rx1_1
 obtain ⟨x4, gx4, hM0⟩ := f0 hM0
 refine Tr.val (o7 _ p0 ip0 ap1 p1.length cp1 p1 (j0.mono sx1 rp1) _  gx4) ?_
 have hE := Option.some.inj hM0; subst hE
 exact And.intro rfl sx1
theorem p03 (h : Hp) (p0 : Int) (ip0 : D0 p0) (ap1 : Option Addr) (np1 cp1 : Nat) (p1 : i0) (rp1 : j0.R h [.slice ap1 np1 cp1] p1) (r : i0) (hM0 : Q5 p0 p1 = some r) :
  Tr Try.prog 36 #[.int .i64 p0, .slice ap1 np1 cp1] h fun v h' => ∃ (a0 : Option Addr) (n0 c0 : Nat), v = .slice a0 n0 c0 ∧ j0.R h' [.slice a0 n0 c0] r ∧ Sub h h' := by
 obtain ⟨rfl, lp1⟩ := Sl.len rp1
 unfold Q5 at hM0
 refine S2 (args := [.int .i64 p0, .slice ap1 p1.length cp1]) (fn := Try.f36) rfl ?_
 obtain ⟨x1, gx1, hM0⟩ := f0 hM0
 refine Tr.val (L6 _ p0 ip0 1 (c64 (by decide) (by decide)) 3 (c64 (by decide) (by decide)) _  gx1) ?_
 refine And.intro (fun hc2 => ?_) (fun hc2 => ?_)
 ·replace hM0 := ifP hM0 hc2
  intro v3 k4 f5
  obtain ⟨az6, cz6, rfl, rz6, sz6, lz6⟩ := O0.out (r := Wp.int.toRp) f5 (show F2 (Wp.int.R h) ([] : List (List Value)) ([] : i0) from trivial)
  have hE := Option.some.inj hM0; subst hE
  exact ⟨az6, (([] : i0)).length, cz6, rfl, rz6, sz6⟩
 ·replace hM0 := ifN hM0 hc2
  obtain ⟨q7, gq7, hM0⟩ := f0 hM0
  refine And.intro (l0 gq7) ?_
  obtain ⟨X8, hLX8, hM0⟩ := f0 hM0
  refine Exists.intro { vars := [6], boxes := [], owns := [0], fuel := true, kept := [0] } (Exists.intro (fun vs os h' => ∃ (u9 : Int) (wu10 : List (List Value)) (u10 : List Int), vs.tail = [.int .i64 u9] ∧ os = [wu10] ∧ Sub h h' ∧ D0 u9 ∧ F2 (Wp.int.R h') wu10 u10 ∧ D1 p1 p0 (F1 vs) u9 u10 = some X8) (Exists.intro (fun _ _ => 0) ?_))
  refine And.intro (Exists.intro N0 ⟨0, (List.replicate p0.toNat ([.int .i64 0] : List Value)), (List.replicate p0.toNat (0 : Int)), rfl, rfl, (Sub.refl _), (c64 (by decide) (by decide)), (F2.rep (p := Wp.int.R h) (a := [.int .i64 0]) (b := 0) ⟨rfl, (c64 (by decide) (by decide))⟩ (p0.toNat)), hLX8⟩) ?_
  rintro v_0 wu10 m12 k11 ⟨u9, zzu10, u10, evX8, eoX8, sX8, iu9, fu10, hM1⟩
  cases evX8
  cases eoX8
  replace hM1 : D1 p1 p0 m12 u9 u10 = some X8 := hM1
  obtain _ | m12 := m12
  ·cases (show (none : Option _) = some X8 from hM1)
  rw [D1.eq_2] at hM1
  refine And.intro (fun hc13 => ?_) (fun hc13 => ?_)
  ·replace hM1 := ifP hM1 hc13
   obtain ⟨x14, gx14, hM1⟩ := f0 hM1
   obtain ⟨bx14, csx14, ex14, rx14⟩ := Sl.getI (r := Wp.int.toRp) (j0.mono sX8 rp1) gx14 (by decide)
   refine And.intro bx14 ?_
   obtain ⟨rfl, ix14⟩ := rx14
   refine Exists.intro _ (And.intro ex14 ?_)
   obtain ⟨x15, gx15, hM1⟩ := f0 hM1
   obtain ⟨csx15, ex15, rx15⟩ := Sl.getG (r := Wp.int.toRp) (j0.mono sX8 rp1) gx15 (by decide) (d8 k11)
   refine And.intro (fun q => (ex15 q).1) ?_
   obtain ⟨rfl, ix15⟩ := rx15
   refine Exists.intro _ (And.intro (fun q => (ex15 q).2) ?_)
   obtain ⟨x16, gx16, hM1⟩ := f0 hM1
   refine Exists.intro (.bool x16) (And.intro (fun q => L6 _ x15 ix15 (IntKind.i64.wrap (0 - p0)) (B0 _) p0 ip0 _  (Z2 gx16 q)) ?_)
   refine And.intro (fun hc17 => ?_) (fun hc17 => ?_)
   ·replace hM1 := ifP hM1 hc17
    obtain ⟨x18, gx18, hM1⟩ := f0 hM1
    obtain ⟨bx18, csx18, ex18, rx18⟩ := Sl.getI (r := Wp.int.toRp) (j0.mono sX8 rp1) gx18 (by decide)
    refine And.intro bx18 ?_
    obtain ⟨rfl, ix18⟩ := rx18
    refine Exists.intro _ (And.intro ex18 ?_)
    obtain ⟨x19, gx19, hM1⟩ := f0 hM1
    refine Tr.val (j8 _ x18 ix18 _  gx19) ?_
    obtain ⟨q20, gq20, hM1⟩ := f0 hM1
    have ix19 : D0 x19 := l0 gq20
    obtain ⟨x21, gx21, hM1⟩ := f0 hM1
    obtain ⟨bx21, csx21, ex21, rx21⟩ := Sl.getI (r := Wp.int.toRp) (j0.mono sX8 rp1) gx21 (by decide)
    refine And.intro bx21 ?_
    obtain ⟨rfl, ix21⟩ := rx21
    refine Exists.intro _ (And.intro ex21 ?_)
    refine And.intro (fun hc22 => ?_) (fun hc22 => ?_)
    ·replace hM1 := ifP hM1 hc22
     obtain ⟨x23, gx23, hM1⟩ := f0 hM1
     obtain ⟨bx23, csx23, ex23, rx23⟩ := j5 fu10 gx23
     refine And.intro bx23 ?_
     obtain ⟨rfl, ix23⟩ := rx23
     refine Exists.intro _ (And.intro ex23 ?_)
     obtain ⟨x24, gx24, hM1⟩ := f0 hM1
     obtain ⟨bx24, csx24, ex24, rx24⟩ := j5 fu10 gx24
     refine And.intro bx24 ?_
     obtain ⟨rfl, ix24⟩ := rx24
     refine Exists.intro _ (And.intro ex24 ?_)
     refine And.intro rfl (And.intro (by repeat (first | exact trivial | refine And.intro rfl ?_)) (And.intro (by repeat (first | exact trivial | refine And.intro rfl ?_)) (Exists.intro m12 (And.intro ⟨(IntKind.i64.wrap (u9 + 1)), (wu10.set (IntKind.i64.wrap (x19 - 1)).toNat [.int .i64 (IntKind.i64.wrap (x23 + 1))]), (u10.set (IntKind.i64.wrap (x19 - 1)).toNat (IntKind.i64.wrap (x23 + 1))), rfl, rfl, sX8, (B0 _), (F2.set (p := Wp.int.R k11) (a := [.int .i64 (IntKind.i64.wrap (x23 + 1))]) (b := (IntKind.i64.wrap (x23 + 1))) ⟨rfl, (B0 _)⟩ (IntKind.i64.wrap (x19 - 1)).toNat fu10), hM1⟩ (Nat.lt_succ_self _)))))
    ·replace hM1 := ifN hM1 hc22
     obtain ⟨x25, gx25, hM1⟩ := f0 hM1
     obtain ⟨bx25, csx25, ex25, rx25⟩ := j5 fu10 gx25
     refine And.intro bx25 ?_
     obtain ⟨rfl, ix25⟩ := rx25
     refine Exists.intro _ (And.intro ex25 ?_)
     obtain ⟨x26, gx26, hM1⟩ := f0 hM1
     obtain ⟨bx26, csx26, ex26, rx26⟩ := j5 fu10 gx26
     refine And.intro bx26 ?_
     obtain ⟨rfl, ix26⟩ := rx26
     refine Exists.intro _ (And.intro ex26 ?_)
     refine And.intro rfl (And.intro (by repeat (first | exact trivial | refine And.intro rfl ?_)) (And.intro (by repeat (first | exact trivial | refine And.intro rfl ?_)) (Exists.intro m12 (And.intro ⟨(IntKind.i64.wrap (u9 + 1)), (wu10.set (IntKind.i64.wrap (x19 - 1)).toNat [.int .i64 (IntKind.i64.wrap (x25 - 1))]), (u10.set (IntKind.i64.wrap (x19 - 1)).toNat (IntKind.i64.wrap (x25 - 1))), rfl, rfl, sX8, (B0 _), (F2.set (p := Wp.int.R k11) (a := [.int .i64 (IntKind.i64.wrap (x25 - 1))]) (b := (IntKind.i64.wrap (x25 - 1))) ⟨rfl, (B0 _)⟩ (IntKind.i64.wrap (x19 - 1)).toNat fu10), hM1⟩ (Nat.lt_succ_self _)))))
   ·replace hM1 := ifN hM1 hc17
    refine And.intro rfl (And.intro (by repeat (first | exact trivial | refine And.intro rfl ?_)) (And.intro (by repeat (first | exact trivial | refine And.intro rfl ?_)) (Exists.intro m12 (And.intro ⟨(IntKind.i64.wrap (u9 + 1)), wu10, u10, rfl, rfl, sX8, (B0 _), fu10, hM1⟩ (Nat.lt_succ_self _)))))
  ·replace hM1 := ifN hM1 hc13
   have hE := Option.some.inj hM1; subst hE
   try dsimp only [H0, I0] at hM0
   intro v27 k28 f29
   obtain ⟨az30, cz30, rfl, rz30, sz30, lz30⟩ := O0.out (r := Wp.int.toRp) f29 fu10
   have hE := Option.some.inj hM0; subst hE
   exact ⟨az30, u10.length, cz30, rfl, rz30, (sX8.trans sz30)⟩
theorem n07 (h : Hp) (ap0 : Option Addr) (np0 cp0 : Nat) (p0 : i0) (rp0 : j0.R h [.slice ap0 np0 cp0] p0) (r : Bool) (hM0 : O8 p0 = some r) :
  Tr Try.prog 35 #[.slice ap0 np0 cp0] h fun v h' => v = .bool r ∧ h' = h := by
 obtain ⟨rfl, lp0⟩ := Sl.len rp0
 unfold O8 at hM0
 refine Tr.forget (S2 (args := [.slice ap0 p0.length cp0]) (fn := Try.f35) rfl ?_)
 obtain ⟨X1, hLX1, hM0⟩ := f0 hM0
 refine Exists.intro { vars := [3], boxes := [], owns := [], fuel := true } (Exists.intro (fun vs os h' => ∃ (u2 : Int), vs.tail = [.int .i64 u2] ∧ os = [] ∧ Sub h h' ∧ D0 u2 ∧ d4 p0 (F1 vs) u2 = some X1) (Exists.intro (fun _ _ => 0) ?_))
 refine And.intro (Exists.intro N0 ⟨0, rfl, rfl, (Sub.refl _), (c64 (by decide) (by decide)), hLX1⟩) ?_
 rintro v_0 m4 k3 ⟨u2, evX1, eoX1, sX1, iu2, hM1⟩
 cases evX1
 cases eoX1
 replace hM1 : d4 p0 m4 u2 = some X1 := hM1
 obtain _ | m4 := m4
 ·cases (show (none : Option _) = some X1 from hM1)
 rw [d4.eq_2] at hM1
 refine And.intro (fun hc5 => ?_) (fun hc5 => ?_)
 ·replace hM1 := ifP hM1 hc5
  obtain ⟨x6, gx6, hM1⟩ := f0 hM1
  obtain ⟨bx6, csx6, ex6, rx6⟩ := Sl.getI (r := Wp.int.toRp) (j0.mono sX1 rp0) gx6 (by decide)
  refine And.intro bx6 ?_
  obtain ⟨rfl, ix6⟩ := rx6
  refine Exists.intro _ (And.intro ex6 ?_)
  refine And.intro (fun hc7 => ?_) (fun hc7 => ?_)
  ·replace hM1 := ifP hM1 hc7
   have hE := Option.some.inj hM1; subst hE
   try dsimp only [D4, E4] at hM0
   have hE := Option.some.inj hM0; subst hE
   exact And.intro rfl sX1
  ·replace hM1 := ifN hM1 hc7
   refine And.intro rfl (And.intro (by repeat (first | exact trivial | refine And.intro rfl ?_)) (And.intro (by repeat (first | exact trivial | refine And.intro rfl ?_)) (Exists.intro m4 (And.intro ⟨(IntKind.i64.wrap (u2 + 1)), rfl, rfl, sX1, (B0 _), hM1⟩ (Nat.lt_succ_self _)))))
 ·replace hM1 := ifN hM1 hc5
  have hE := Option.some.inj hM1; subst hE
  try dsimp only [H0, I0] at hM0
  have hE := Option.some.inj hM0; subst hE
  exact And.intro rfl sX1
theorem G05 (h : Hp) (p0 : Int) (ip0 : D0 p0) (ap1 : Option Addr) (np1 cp1 : Nat) (p1 : i0) (rp1 : j0.R h [.slice ap1 np1 cp1] p1) (r : Bool) (hM0 : U6 p0 p1 = some r) :
  Tr Try.prog 16 #[.int .i64 p0, .slice ap1 np1 cp1] h fun v h' => v = .bool r ∧ h' = h := by
 obtain ⟨rfl, lp1⟩ := Sl.len rp1
 unfold U6 at hM0
 refine Tr.forget (S2 (args := [.int .i64 p0, .slice ap1 p1.length cp1]) (fn := Try.f16) rfl ?_)
 refine And.intro (by kernel_rfl) ?_
 obtain ⟨x1, gx1, hM0⟩ := f0 hM0
 refine Or.inl (Exists.intro (.val (.bool x1)) (And.intro ?_ ?_))
 ·intro k2 s3
  exact Tr.val (o7 _ p0 ip0 ap1 p1.length cp1 p1 (j0.mono s3 rp1) _ gx1) (And.intro rfl (And.intro rfl rfl))
 obtain ⟨x4, gx4, hM0⟩ := f0 hM0
 refine Or.inr (Exists.intro (fun v hh => ∃ (a : Option Addr) (c : Nat), v = .slice a x4.length c ∧ j0.R hh [.slice a x4.length c] x4 ∧ x4.length ≤ 9223372036854775807) (And.intro (fun v h1 h2 sb q => by obtain ⟨a, c, e, r, l⟩ := q; exact ⟨a, c, e, j0.mono sb r, l⟩) (And.intro ?_ ?_)))
 ·intro k5 s6 hq
  refine Tr.mono (p03 _ p0 ip0 ap1 p1.length cp1 p1 (j0.mono s6 rp1) _ (Z2 gx4 hq)) ?_
  rintro _ kk ⟨ax4, nx4, cx4, rfl, rx4, sb⟩
  obtain ⟨rfl, lx4⟩ := Sl.len rx4
  exact And.intro Y8 (And.intro sb ⟨ax4, cx4, rfl, rx4, lx4⟩)
 obtain ⟨x7, gx7, hM0⟩ := f0 hM0
 refine Or.inl (Exists.intro (.val (.bool x7)) (And.intro ?_ ?_))
 ·intro k8 s9 hq
  rintro _ ⟨az10, cz10, rfl, rz10, lz10⟩
  exact Tr.val (n07 _ az10 x4.length cz10 x4 rz10 _ (Z2 gx7 hq)) (And.intro rfl (And.intro rfl rfl))
 intro k11 s12
 have hE := Option.some.inj hM0; subst hE
 exact And.intro rfl s12
end Go.Proofs.Ytknoadmdnjaocaa
namespace Go.Proofs.Ytknoadmdnjaocaa
open Go.H
set_option linter.unusedVariables false
set_option linter.unusedSimpArgs false
set_option maxRecDepth 10000
set_option maxHeartbeats 0
theorem Z05 (h : Hp) (p0 : Int) (ip0 : D0 p0) (ap1 : Option Addr) (np1 cp1 : Nat) (p1 : i0) (rp1 : j0.R h [.slice ap1 np1 cp1] p1) (r : ByteArray) (hM0 : i7 p0 p1 = some r) :
  Tr Try.prog 4 #[.int .i64 p0, .slice ap1 np1 cp1] h fun v h' => v = .string r ∧ h' = h := by
 obtain ⟨rfl, lp1⟩ := Sl.len rp1
 unfold i7 at hM0
 refine Tr.forget (S2 (args := [.int .i64 p0, .slice ap1 p1.length cp1]) (fn := Try.f4) rfl ?_)
 obtain ⟨x1, gx1, hM0⟩ := f0 hM0
 refine Tr.val (o7 _ p0 ip0 ap1 p1.length cp1 p1 rp1 _  gx1) ?_
 refine And.intro (fun hc2 => ?_) (fun hc2 => ?_)
 ·replace hM0 := ifP hM0 hc2
  have hE := Option.some.inj hM0; subst hE
  exact And.intro rfl (Sub.refl _)
 ·replace hM0 := ifN hM0 hc2
  obtain ⟨x3, gx3, hM0⟩ := f0 hM0
  refine Tr.mono (T8 _ ap1 p1.length cp1 p1 rp1 _  gx3) ?_
  rintro v5 k4 ⟨ax3_0, nx3_0, cx3_0, ax3_1, nx3_1, cx3_1, rfl, rx3_0, rx3_1, sx3⟩
  obtain ⟨x3_0, x3_1⟩ := x3
  dsimp only at hM0 rx3_0 rx3_1
  obtain ⟨rfl, lx3_0⟩ := Sl.len rx3_0
  obtain ⟨rfl, lx3_1⟩ := Sl.len rx3_1
  obtain ⟨x6, gx6, hM0⟩ := f0 hM0
  refine Tr.mono (C07 _ ap1 p1.length cp1 p1 (j0.mono sx3 rp1) _  gx6) ?_
  rintro v8 k7 ⟨ax6_0, nx6_0, cx6_0, rfl, rx6_0, sx6⟩
  obtain ⟨x6_0, x6_1⟩ := x6
  dsimp only at hM0 rx6_0
  obtain ⟨rfl, lx6_0⟩ := Sl.len rx6_0
  obtain ⟨q9, gq9, hM0⟩ := f0 hM0
  have ix6_1 : D0 x6_1 := l0 gq9
  obtain ⟨x10, gx10, hM0⟩ := f0 hM0
  refine Tr.val (w7 _ ap1 p1.length cp1 p1 (j0.mono (sx3.trans sx6) rp1) _  gx10) ?_
  obtain ⟨q11, gq11, hM0⟩ := f0 hM0
  have ix10 : x10.size ≤ 9223372036854775807 := l0 gq11
  obtain ⟨q12, gq12, hM0⟩ := f0 hM0
  have jq12 := l0 gq12
  refine And.intro jq12 ?_
  obtain ⟨x13, gx13, hM0⟩ := f0 hM0
  refine Tr.val (w7 _ ax3_0 x3_0.length cx3_0 x3_0 (j0.mono sx6 rx3_0) _  gx13) ?_
  obtain ⟨q14, gq14, hM0⟩ := f0 hM0
  have ix13 : x13.size ≤ 9223372036854775807 := l0 gq14
  obtain ⟨q15, gq15, hM0⟩ := f0 hM0
  have jq15 := l0 gq15
  refine And.intro jq15 ?_
  obtain ⟨q16, gq16, hM0⟩ := f0 hM0
  have jq16 := l0 gq16
  refine And.intro jq16 ?_
  obtain ⟨x17, gx17, hM0⟩ := f0 hM0
  refine Tr.val (w7 _ ax3_1 x3_1.length cx3_1 x3_1 (j0.mono sx6 rx3_1) _  gx17) ?_
  obtain ⟨q18, gq18, hM0⟩ := f0 hM0
  have ix17 : x17.size ≤ 9223372036854775807 := l0 gq18
  obtain ⟨q19, gq19, hM0⟩ := f0 hM0
  have jq19 := l0 gq19
  refine And.intro jq19 ?_
  obtain ⟨q20, gq20, hM0⟩ := f0 hM0
  have jq20 := l0 gq20
  refine And.intro jq20 ?_
  obtain ⟨x21, gx21, hM0⟩ := f0 hM0
  refine Tr.val (w7 _ ax6_0 x6_0.length cx6_0 x6_0 rx6_0 _  gx21) ?_
  obtain ⟨q22, gq22, hM0⟩ := f0 hM0
  have ix21 : x21.size ≤ 9223372036854775807 := l0 gq22
  obtain ⟨q23, gq23, hM0⟩ := f0 hM0
  have jq23 := l0 gq23
  refine And.intro jq23 ?_
  obtain ⟨q24, gq24, hM0⟩ := f0 hM0
  have jq24 := l0 gq24
  refine And.intro jq24 ?_
  obtain ⟨x25, gx25, hM0⟩ := f0 hM0
  refine Tr.val (D01 _ x6_1 ix6_1 _  gx25) ?_
  obtain ⟨q26, gq26, hM0⟩ := f0 hM0
  have ix25 : x25.size ≤ 9223372036854775807 := l0 gq26
  obtain ⟨q27, gq27, hM0⟩ := f0 hM0
  have jq27 := l0 gq27
  refine And.intro jq27 ?_
  obtain ⟨q28, gq28, hM0⟩ := f0 hM0
  have jq28 := l0 gq28
  refine And.intro jq28 ?_
  obtain ⟨x29, gx29, hM0⟩ := f0 hM0
  refine Tr.val (Z03 _ p0 ip0 ap1 p1.length cp1 p1 (j0.mono (sx3.trans sx6) rp1) _  gx29) ?_
  obtain ⟨q30, gq30, hM0⟩ := f0 hM0
  have ix29 : D0 x29 := l0 gq30
  obtain ⟨x31, gx31, hM0⟩ := f0 hM0
  refine Tr.val (D01 _ x29 ix29 _  gx31) ?_
  obtain ⟨q32, gq32, hM0⟩ := f0 hM0
  have ix31 : x31.size ≤ 9223372036854775807 := l0 gq32
  obtain ⟨q33, gq33, hM0⟩ := f0 hM0
  have jq33 := l0 gq33
  refine And.intro jq33 ?_
  obtain ⟨x34, gx34, hM0⟩ := f0 hM0
  refine Tr.val (a04 _ p0 ip0 ap1 p1.length cp1 p1 (j0.mono (sx3.trans sx6) rp1) _  gx34) ?_
  obtain ⟨x35, gx35, hM0⟩ := f0 hM0
  refine Tr.val (E03 _ x34 (⟨#[32, 112, 114, 105, 109, 105, 116, 105, 118, 101]⟩ : ByteArray) (by decide) _  gx35) ?_
  obtain ⟨q36, gq36, hM0⟩ := f0 hM0
  have ix35 : x35.size ≤ 9223372036854775807 := l0 gq36
  obtain ⟨q37, gq37, hM0⟩ := f0 hM0
  have jq37 := l0 gq37
  refine And.intro jq37 ?_
  obtain ⟨x38, gx38, hM0⟩ := f0 hM0
  refine Tr.val (G05 _ p0 ip0 ap1 p1.length cp1 p1 (j0.mono (sx3.trans sx6) rp1) _  gx38) ?_
  obtain ⟨x39, gx39, hM0⟩ := f0 hM0
  refine Tr.val (E03 _ x38 (⟨#[32, 100, 101, 114, 105, 118, 101, 100]⟩ : ByteArray) (by decide) _  gx39) ?_
  obtain ⟨q40, gq40, hM0⟩ := f0 hM0
  have ix39 : x39.size ≤ 9223372036854775807 := l0 gq40
  obtain ⟨q41, gq41, hM0⟩ := f0 hM0
  have jq41 := l0 gq41
  refine And.intro jq41 ?_
  have hE := Option.some.inj hM0; subst hE
  exact And.intro rfl (sx3.trans sx6)
end Go.Proofs.Ytknoadmdnjaocaa
namespace Go.Proofs.Ytknoadmdnjaocaa
open Go.H
set_option linter.unusedVariables false
set_option linter.unusedSimpArgs false
set_option maxRecDepth 10000
set_option maxHeartbeats 0
theorem A7 (h : Hp) (ap0 : Option Addr) (np0 cp0 : Nat) (p0 : i0) (rp0 : j0.R h [.slice ap0 np0 cp0] p0) (r : i0 × i0) (hM0 : J3 p0 = some r) :
  Tr Try.prog 18 #[.slice ap0 np0 cp0] h fun v h' => ∃ (a0 : Option Addr) (n0 c0 : Nat) (a1 : Option Addr) (n1 c1 : Nat), v = .tuple #[.slice a0 n0 c0, .slice a1 n1 c1] ∧ j0.R h' [.slice a0 n0 c0] r.1 ∧ j0.R h' [.slice a1 n1 c1] r.2 ∧ Sub h h' := by
 obtain ⟨rfl, lp0⟩ := Sl.len rp0
 unfold J3 at hM0
 refine S2 (args := [.slice ap0 p0.length cp0]) (fn := Try.f18) rfl ?_
 obtain ⟨x1, gx1, hM0⟩ := f0 hM0
 refine Tr.mono (O02 _ ap0 p0.length cp0 p0 rp0 _  gx1) ?_
 rintro v3 k2 ⟨ax1, nx1, cx1, rfl, wx1⟩
 have sx1 : Sub h k2 := wx1.sub
 have rx1 := wx1.r
 obtain ⟨rfl, lx1⟩ := Sl.len rx1
 obtain ⟨X4, hLX4, hM0⟩ := f0 hM0
 refine Exists.intro { vars := [5, 6], boxes := [], owns := [], fuel := true } (Exists.intro (fun vs os h' => ∃ (u5 : Int) (u6 : Int), vs.tail = [.int .i64 u5, .int .i64 u6] ∧ os = [] ∧ Sub k2 h' ∧ D0 u5 ∧ D0 u6 ∧ O2 x1 (F1 vs) u5 u6 = some X4) (Exists.intro (fun _ _ => 0) ?_))
 refine And.intro (Exists.intro N0 ⟨0, ((x1.length : Nat) : Int), rfl, rfl, (Sub.refl _), (c64 (by decide) (by decide)), (K0b lx1), hLX4⟩) ?_
 rintro v_0 v_1 m8 k7 ⟨u5, u6, evX4, eoX4, sX4, iu5, iu6, hM1⟩
 cases evX4
 cases eoX4
 replace hM1 : O2 x1 m8 u5 u6 = some X4 := hM1
 obtain _ | m8 := m8
 ·cases (show (none : Option _) = some X4 from hM1)
 rw [O2.eq_2] at hM1
 refine Or.inl (And.intro (And.intro (by kernel_rfl) (by kernel_rfl)) ?_)
 obtain ⟨x9, gx9, hM1⟩ := f0 hM1
 obtain ⟨csx9, ex9, rx9⟩ := Sl.getG (r := Wp.int.toRp) (j0.mono sX4 rx1) gx9 (by decide) (d8 k7)
 refine And.intro (fun q => (ex9 q).1) ?_
 obtain ⟨rfl, ix9⟩ := rx9
 refine Exists.intro _ (And.intro (fun q => (ex9 q).2) ?_)
 obtain ⟨x10, gx10, hM1⟩ := f0 hM1
 obtain ⟨csx10, ex10, rx10⟩ := Sl.getG (r := Wp.int.toRp) (j0.mono sX4 rx1) gx10 (by decide) (d8 k7)
 refine And.intro (fun q => (ex10 q).1) ?_
 obtain ⟨rfl, ix10⟩ := rx10
 refine Exists.intro _ (And.intro (fun q => (ex10 q).2) ?_)
 obtain ⟨x11, gx11, hM1⟩ := f0 hM1
 refine Exists.intro (.bool x11) (And.intro (fun q => S8 _ x9 ix9 x10 ix10 _  (Z2 gx11 q)) ?_)
 refine And.intro (fun hc12 => ?_) (fun hc12 => ?_)
 ·replace hM1 := ifP hM1 hc12
  refine And.intro rfl (And.intro (by repeat (first | exact trivial | refine And.intro rfl ?_)) (And.intro (by repeat (first | exact trivial | refine And.intro rfl ?_)) (Exists.intro m8 (And.intro ⟨(IntKind.i64.wrap (u5 + 1)), (IntKind.i64.wrap (u6 - 1)), rfl, rfl, sX4, (B0 _), (B0 _), hM1⟩ (Nat.lt_succ_self _)))))
 ·replace hM1 := ifN hM1 hc12
  have hE := Option.some.inj hM1; subst hE
  try dsimp only [H0, I0] at hM0
  refine Or.inr (Or.inr (Or.inr (Or.inl (And.intro (And.intro (by kernel_rfl) (by kernel_rfl)) ?_))))
  obtain ⟨x13, gx13, hM0⟩ := f0 hM0
  refine Or.inr (Exists.intro (fun v hh => ∃ (a : Option Addr) (c : Nat), v = .slice a x13.length c ∧ j0.R hh [.slice a x13.length c] x13 ∧ x13.length ≤ 9223372036854775807) (And.intro (fun v h1 h2 sb q => by obtain ⟨a, c, e, r, l⟩ := q; exact ⟨a, c, e, j0.mono sb r, l⟩) (And.intro ?_ ?_)))
  ·intro k14 s15
   obtain ⟨qx13, vsx13, ex13, fx13⟩ := Sl.cutI (r := Wp.int.toRp) (j0.mono (sX4.trans s15) rx1) gx13
   refine And.intro qx13 (Exists.intro vsx13 (And.intro ex13 ?_))
   intro v hv _
   obtain ⟨a, c, rfl, r⟩ := fx13 v hv
   exact And.intro Y8 (And.intro (Sub.refl _) ⟨a, c, rfl, r, (Sl.len r).2⟩)
  obtain ⟨x16, gx16, hM0⟩ := f0 hM0
  refine Or.inr (Exists.intro (fun v hh => ∃ (a : Option Addr) (c : Nat), v = .slice a x16.length c ∧ j0.R hh [.slice a x16.length c] x16 ∧ x16.length ≤ 9223372036854775807) (And.intro (fun v h1 h2 sb q => by obtain ⟨a, c, e, r, l⟩ := q; exact ⟨a, c, e, j0.mono sb r, l⟩) (And.intro ?_ ?_)))
  ·intro k17 s18
   rintro _ ⟨az19, cz19, rfl, rz19, lz19⟩
   refine Tr.mono (n8 _ az19 x13.length cz19 x13 rz19 _ gx16) ?_
   rintro _ kk ⟨ax16, nx16, cx16, rfl, wx16⟩
   have sb := wx16.sub
   have rx16 := wx16.r
   obtain ⟨rfl, lx16⟩ := Sl.len rx16
   exact And.intro Y8 (And.intro sb ⟨(some ⟨ax16, 0, none⟩), cx16, rfl, rx16, lx16⟩)
  obtain ⟨x20, gx20, hM0⟩ := f0 hM0
  refine Or.inr (Exists.intro (fun v hh => ∃ (a : Option Addr) (c : Nat), v = .slice a x20.length c ∧ j0.R hh [.slice a x20.length c] x20 ∧ x20.length ≤ 9223372036854775807) (And.intro (fun v h1 h2 sb q => by obtain ⟨a, c, e, r, l⟩ := q; exact ⟨a, c, e, j0.mono sb r, l⟩) (And.intro ?_ ?_)))
  ·intro k21 s22
   obtain ⟨qx20, vsx20, ex20, fx20⟩ := Sl.cutI (r := Wp.int.toRp) (j0.mono (sX4.trans s22) rx1) gx20
   refine And.intro qx20 (Exists.intro vsx20 (And.intro ex20 ?_))
   intro v hv _
   obtain ⟨a, c, rfl, r⟩ := fx20 v hv
   exact And.intro Y8 (And.intro (Sub.refl _) ⟨a, c, rfl, r, (Sl.len r).2⟩)
  obtain ⟨x23, gx23, hM0⟩ := f0 hM0
  refine Or.inr (Exists.intro (fun v hh => ∃ (a : Option Addr) (c : Nat), v = .slice a x23.length c ∧ j0.R hh [.slice a x23.length c] x23 ∧ x23.length ≤ 9223372036854775807) (And.intro (fun v h1 h2 sb q => by obtain ⟨a, c, e, r, l⟩ := q; exact ⟨a, c, e, j0.mono sb r, l⟩) (And.intro ?_ ?_)))
  ·intro k24 s25
   rintro _ ⟨az26, cz26, rfl, rz26, lz26⟩
   refine Tr.mono (n8 _ az26 x20.length cz26 x20 rz26 _ gx23) ?_
   rintro _ kk ⟨ax23, nx23, cx23, rfl, wx23⟩
   have sb := wx23.sub
   have rx23 := wx23.r
   obtain ⟨rfl, lx23⟩ := Sl.len rx23
   exact And.intro Y8 (And.intro sb ⟨(some ⟨ax23, 0, none⟩), cx23, rfl, rx23, lx23⟩)
  refine Or.inr (Exists.intro (fun v hh => ∃ (a : Option Addr) (c : Nat), v = .slice a x16.length c ∧ j0.R hh [.slice a x16.length c] x16 ∧ x16.length ≤ 9223372036854775807) (And.intro (fun v h1 h2 sb q => by obtain ⟨a, c, e, r, l⟩ := q; exact ⟨a, c, e, j0.mono sb r, l⟩) (And.intro ?_ ?_)))
  ·intro k27 s28
   rintro _ ⟨az29, cz29, rfl, rz29, lz29⟩
   exact And.intro Y8 (And.intro (Sub.refl _) ⟨az29, cz29, rfl, rz29, lz29⟩)
  refine Or.inr (Exists.intro (fun v hh => ∃ (a : Option Addr) (c : Nat), v = .slice a x23.length c ∧ j0.R hh [.slice a x23.length c] x23 ∧ x23.length ≤ 9223372036854775807) (And.intro (fun v h1 h2 sb q => by obtain ⟨a, c, e, r, l⟩ := q; exact ⟨a, c, e, j0.mono sb r, l⟩) (And.intro ?_ ?_)))
  ·intro k30 s31
   rintro _ ⟨az32, cz32, rfl, rz32, lz32⟩
   exact And.intro Y8 (And.intro (Sub.refl _) ⟨az32, cz32, rfl, rz32, lz32⟩)
  intro k33 s34
  rintro _ ⟨az35, cz35, rfl, rz35, lz35⟩
  rintro _ ⟨az36, cz36, rfl, rz36, lz36⟩
  rintro _ ⟨az37, cz37, rfl, rz37, lz37⟩
  rintro _ ⟨az38, cz38, rfl, rz38, lz38⟩
  rintro _ ⟨az39, cz39, rfl, rz39, lz39⟩
  rintro _ ⟨az40, cz40, rfl, rz40, lz40⟩
  have hE := Option.some.inj hM0; subst hE
  exact ⟨az36, x16.length, cz36, az35, x23.length, cz35, rfl, rz36, rz35, ((sx1.trans sX4).trans s34)⟩
theorem D07 (h : Hp) (ap0 : Option Addr) (np0 cp0 : Nat) (p0 : i0) (rp0 : j0.R h [.slice ap0 np0 cp0] p0) (r : i0 × Int) (hM0 : i8 p0 = some r) :
  Tr Try.prog 19 #[.slice ap0 np0 cp0] h fun v h' => ∃ (a0 : Option Addr) (n0 c0 : Nat), v = .tuple #[.slice a0 n0 c0, .int .i64 r.2] ∧ j0.R h' [.slice a0 n0 c0] r.1 ∧ Sub h h' := by
 obtain ⟨rfl, lp0⟩ := Sl.len rp0
 unfold i8 at hM0
 refine S2 (args := [.slice ap0 p0.length cp0]) (fn := Try.f19) rfl ?_
 obtain ⟨x1, gx1, hM0⟩ := f0 hM0
 refine Tr.mono (A7 _ ap0 p0.length cp0 p0 rp0 _  gx1) ?_
 rintro v3 k2 ⟨ax1_0, nx1_0, cx1_0, ax1_1, nx1_1, cx1_1, rfl, rx1_0, rx1_1, sx1⟩
 obtain ⟨x1_0, x1_1⟩ := x1
 dsimp only at hM0 rx1_0 rx1_1
 obtain ⟨rfl, lx1_0⟩ := Sl.len rx1_0
 obtain ⟨rfl, lx1_1⟩ := Sl.len rx1_1
 obtain ⟨X4, hLX4, hM0⟩ := f0 hM0
 refine Exists.intro { vars := [7], boxes := [], owns := [], fuel := true } (Exists.intro (fun vs os h' => ∃ (u5 : Int), vs.tail = [.int .i64 u5] ∧ os = [] ∧ Sub k2 h' ∧ D0 u5 ∧ U4 x1_0 x1_1 (F1 vs) u5 = some X4) (Exists.intro (fun _ _ => 0) ?_))
 refine And.intro (Exists.intro N0 ⟨1, rfl, rfl, (Sub.refl _), (c64 (by decide) (by decide)), hLX4⟩) ?_
 rintro v_0 m7 k6 ⟨u5, evX4, eoX4, sX4, iu5, hM1⟩
 cases evX4
 cases eoX4
 replace hM1 : U4 x1_0 x1_1 m7 u5 = some X4 := hM1
 obtain _ | m7 := m7
 ·cases (show (none : Option _) = some X4 from hM1)
 rw [U4.eq_2] at hM1
 refine And.intro (fun hc8 => ?_) (fun hc8 => ?_)
 ·replace hM1 := ifP hM1 hc8
  refine And.intro (by kernel_rfl) ?_
  obtain ⟨q9, gq9, hM1⟩ := f0 hM1
  refine Or.inl (Exists.intro (.val (.int .i64 (Int.tmod ((x1_0.length : Nat) : Int) u5))) (And.intro ?_ ?_))
  ·intro k10 s11
   exact And.intro (l0 gq9) (And.intro rfl (And.intro rfl rfl))
  refine Or.inl (Exists.intro (.val (.bool (decide ((Int.tmod ((x1_0.length : Nat) : Int) u5) = 0)))) (And.intro ?_ ?_))
  ·intro k12 s13
   exact And.intro rfl (And.intro rfl rfl)
  obtain ⟨x14, gx14, hM1⟩ := f0 hM1
  refine Or.inr (Exists.intro (fun v hh => ∃ (a : Option Addr) (c : Nat), v = .slice a x14.length c ∧ j0.R hh [.slice a x14.length c] x14 ∧ x14.length ≤ 9223372036854775807) (And.intro (fun v h1 h2 sb q => by obtain ⟨a, c, e, r, l⟩ := q; exact ⟨a, c, e, j0.mono sb r, l⟩) (And.intro ?_ ?_)))
  ·intro k15 s16 hq
   refine Tr.mono (U00 _ ax1_0 x1_0.length cx1_0 x1_0 (j0.mono (sX4.trans s16) rx1_0) u5 iu5 _ (Z2 gx14 hq)) ?_
   rintro _ kk ⟨ax14, nx14, cx14, rfl, wx14⟩
   have sb := wx14.sub
   have rx14 := wx14.r
   obtain ⟨rfl, lx14⟩ := Sl.len rx14
   exact And.intro Y8 (And.intro sb ⟨ax14, cx14, rfl, rx14, lx14⟩)
  obtain ⟨x17, gx17, hM1⟩ := f0 hM1
  refine Or.inl (Exists.intro (.val (.bool x17)) (And.intro ?_ ?_))
  ·intro k18 s19 hq
   rintro _ ⟨az20, cz20, rfl, rz20, lz20⟩
   exact Tr.val (V04 _ az20 x14.length cz20 x14 rz20 ax1_0 x1_0.length cx1_0 x1_0 (j0.mono (sX4.trans s19) rx1_0) _ (Z2 gx17 hq)) (And.intro rfl (And.intro rfl rfl))
  intro k21 s22
  refine And.intro (fun hc23 => ?_) (fun hc23 => ?_)
  ·replace hM1 := ifP hM1 hc23
   refine Or.inr (Or.inr (Or.inr (Or.inl (And.intro (And.intro (by kernel_rfl) (by kernel_rfl)) ?_))))
   obtain ⟨x24, gx24, hM1⟩ := f0 hM1
   refine Or.inr (Exists.intro (fun v hh => ∃ (a : Option Addr) (c : Nat), v = .slice a x24.length c ∧ j0.R hh [.slice a x24.length c] x24 ∧ x24.length ≤ 9223372036854775807) (And.intro (fun v h1 h2 sb q => by obtain ⟨a, c, e, r, l⟩ := q; exact ⟨a, c, e, j0.mono sb r, l⟩) (And.intro ?_ ?_)))
   ·intro k25 s26
    obtain ⟨qx24, vsx24, ex24, fx24⟩ := Sl.cutI (r := Wp.int.toRp) (j0.mono ((sX4.trans s22).trans s26) rx1_0) gx24
    refine And.intro qx24 (Exists.intro vsx24 (And.intro ex24 ?_))
    intro v hv _
    obtain ⟨a, c, rfl, r⟩ := fx24 v hv
    exact And.intro Y8 (And.intro (Sub.refl _) ⟨a, c, rfl, r, (Sl.len r).2⟩)
   obtain ⟨x27, gx27, hM1⟩ := f0 hM1
   refine Or.inr (Exists.intro (fun v hh => ∃ (a : Option Addr) (c : Nat), v = .slice a x27.length c ∧ j0.R hh [.slice a x27.length c] x27 ∧ x27.length ≤ 9223372036854775807) (And.intro (fun v h1 h2 sb q => by obtain ⟨a, c, e, r, l⟩ := q; exact ⟨a, c, e, j0.mono sb r, l⟩) (And.intro ?_ ?_)))
   ·intro k28 s29
    refine Tr.mono (S00 _ ax1_1 x1_1.length cx1_1 x1_1 (j0.mono ((sX4.trans s22).trans s29) rx1_1) _ gx27) ?_
    rintro _ kk ⟨ax27, nx27, cx27, rfl, wx27⟩
    have sb := wx27.sub
    have rx27 := wx27.r
    obtain ⟨rfl, lx27⟩ := Sl.len rx27
    exact And.intro Y8 (And.intro sb ⟨ax27, cx27, rfl, rx27, lx27⟩)
   obtain ⟨x30, gx30, hM1⟩ := f0 hM1
   refine Or.inr (Exists.intro (fun v hh => ∃ (a : Option Addr) (c : Nat), v = .slice a x30.length c ∧ h9.R hh [.slice a x30.length c] x30 ∧ x30.length ≤ 9223372036854775807) (And.intro (fun v h1 h2 sb q => by obtain ⟨a, c, e, r, l⟩ := q; exact ⟨a, c, e, h9.mono sb r, l⟩) (And.intro ?_ ?_)))
   ·intro k31 s32
    rintro _ ⟨az33, cz33, rfl, rz33, lz33⟩
    rintro _ ⟨az34, cz34, rfl, rz34, lz34⟩
    have ex30 : [x1_1, x24, x27] = x30 := Option.some.inj gx30
    intro v k hf
    obtain ⟨a, c, rfl, r, sb, l⟩ := O0.out (r := j0.toRp) (xs := x30) hf (show F2 (j0.R k31) [[.slice ax1_1 x1_1.length cx1_1], [.slice az33 x24.length cz33], [.slice az34 x27.length cz34]] x30 from ex30 ▸ (show F2 (j0.R k31) [[.slice ax1_1 x1_1.length cx1_1], [.slice az33 x24.length cz33], [.slice az34 x27.length cz34]] [x1_1, x24, x27] from ⟨(j0.mono ((sX4.trans s22).trans s32) rx1_1), ⟨rz33, ⟨rz34, trivial⟩⟩⟩))
    exact And.intro ⟨rfl, rfl, rfl, [_], rfl⟩ (And.intro sb ⟨a, c, rfl, r, l⟩)
   obtain ⟨x35, gx35, hM1⟩ := f0 hM1
   refine Or.inr (Exists.intro (fun v hh => ∃ (a : Option Addr) (c : Nat), v = .slice a x35.length c ∧ j0.R hh [.slice a x35.length c] x35 ∧ x35.length ≤ 9223372036854775807) (And.intro (fun v h1 h2 sb q => by obtain ⟨a, c, e, r, l⟩ := q; exact ⟨a, c, e, j0.mono sb r, l⟩) (And.intro ?_ ?_)))
   ·intro k36 s37
    rintro _ ⟨az38, cz38, rfl, rz38, lz38⟩
    refine Tr.mono (A00 _ az38 x30.length cz38 x30 rz38 _ gx35) ?_
    rintro _ kk ⟨ax35, nx35, cx35, rfl, wx35⟩
    have sb := wx35.sub
    have rx35 := wx35.r
    obtain ⟨rfl, lx35⟩ := Sl.len rx35
    exact And.intro Y8 (And.intro sb ⟨ax35, cx35, rfl, rx35, lx35⟩)
   obtain ⟨q39, gq39, hM1⟩ := f0 hM1
   refine Or.inl (Exists.intro (.val (.int .i64 (IntKind.i64.wrap (Int.tdiv ((x1_0.length : Nat) : Int) u5)))) (And.intro ?_ ?_))
   ·intro k40 s41
    exact And.intro (l0 gq39) (And.intro rfl (And.intro rfl rfl))
   refine Or.inr (Exists.intro (fun v hh => ∃ (a : Option Addr) (c : Nat), v = .slice a x35.length c ∧ j0.R hh [.slice a x35.length c] x35 ∧ x35.length ≤ 9223372036854775807) (And.intro (fun v h1 h2 sb q => by obtain ⟨a, c, e, r, l⟩ := q; exact ⟨a, c, e, j0.mono sb r, l⟩) (And.intro ?_ ?_)))
   ·intro k42 s43
    rintro _ ⟨az44, cz44, rfl, rz44, lz44⟩
    exact And.intro Y8 (And.intro (Sub.refl _) ⟨az44, cz44, rfl, rz44, lz44⟩)
   intro k45 s46
   rintro _ ⟨az47, cz47, rfl, rz47, lz47⟩
   rintro _ ⟨az48, cz48, rfl, rz48, lz48⟩
   rintro _ ⟨az49, cz49, rfl, rz49, lz49⟩
   rintro _ ⟨az50, cz50, rfl, rz50, lz50⟩
   rintro _ ⟨az51, cz51, rfl, rz51, lz51⟩
   have hE := Option.some.inj hM1; subst hE
   try dsimp only [D4, E4] at hM0
   have hE := Option.some.inj hM0; subst hE
   exact ⟨az47, x35.length, cz47, rfl, rz47, (((sx1.trans sX4).trans s22).trans s46)⟩
  ·replace hM1 := ifN hM1 hc23
   refine And.intro rfl (And.intro (by repeat (first | exact trivial | refine And.intro rfl ?_)) (And.intro (by repeat (first | exact trivial | refine And.intro rfl ?_)) (Exists.intro m7 (And.intro ⟨(IntKind.i64.wrap (u5 + 1)), rfl, rfl, (sX4.trans s22), (B0 _), hM1⟩ (Nat.lt_succ_self _)))))
 ·replace hM1 := ifN hM1 hc8
  have hE := Option.some.inj hM1; subst hE
  try dsimp only [H0, I0] at hM0
  intro v52 k53 f54
  obtain ⟨az55, cz55, rfl, rz55, sz55, lz55⟩ := O0.out (r := Wp.int.toRp) f54 (show F2 (Wp.int.R k6) ([] : List (List Value)) ([] : i0) from trivial)
  have hE := Option.some.inj hM0; subst hE
  exact ⟨az55, (([] : i0)).length, cz55, rfl, rz55, ((sx1.trans sX4).trans sz55)⟩
theorem S02 (h : Hp) (ap0 : Option Addr) (np0 cp0 : Nat) (p0 : i0) (rp0 : j0.R h [.slice ap0 np0 cp0] p0) (r : i0 × Int) (hM0 : F5 p0 = some r) :
  Tr Try.prog 60 #[.slice ap0 np0 cp0] h fun v h' => ∃ (a0 : Option Addr) (n0 c0 : Nat), v = .tuple #[.slice a0 n0 c0, .int .i64 r.2] ∧ j0.R h' [.slice a0 n0 c0] r.1 ∧ Sub h h' := by
 obtain ⟨rfl, lp0⟩ := Sl.len rp0
 unfold F5 at hM0
 refine S2 (args := [.slice ap0 p0.length cp0]) (fn := Try.f60) rfl ?_
 obtain ⟨x1, gx1, hM0⟩ := f0 hM0
 refine Tr.mono (n8 _ ap0 p0.length cp0 p0 rp0 _  gx1) ?_
 rintro v3 k2 ⟨gx1, nx1, cx1, rfl, wx1⟩
 have sx1 : Sub h k2 := wx1.sub
 have rx1 := wx1.r
 obtain ⟨rfl, lx1⟩ := Sl.len rx1
 obtain ⟨X4, hLX4, hM0⟩ := f0 hM0
 refine Exists.intro { vars := [4, 5, 6], boxes := [], owns := [], fuel := true } (Exists.intro (fun vs os h' => ∃ (au5 : Option Addr) (nu5 cu5 : Nat) (u5 : i0) (u6 : Int) (u7 : Int), vs.tail = [.slice au5 nu5 cu5, .int .i64 u6, .int .i64 u7] ∧ os = [] ∧ Sub k2 h' ∧ j0.R h' [.slice au5 nu5 cu5] u5 ∧ D0 u6 ∧ D0 u7 ∧ K1 p0 (F1 vs) u5 u6 u7 = some X4) (Exists.intro (fun _ _ => 0) ?_))
 refine And.intro (Exists.intro N0 ⟨(some ⟨gx1, 0, none⟩), x1.length, cx1, x1, 0, 1, rfl, rfl, (Sub.refl _), rx1, (c64 (by decide) (by decide)), (c64 (by decide) (by decide)), hLX4⟩) ?_
 rintro v_0 v_1 v_2 m9 k8 ⟨au5, nu5, cu5, u5, u6, u7, evX4, eoX4, sX4, ru5, iu6, iu7, hM1⟩
 cases evX4
 cases eoX4
 replace hM1 : K1 p0 m9 u5 u6 u7 = some X4 := hM1
 obtain _ | m9 := m9
 ·cases (show (none : Option _) = some X4 from hM1)
 rw [K1.eq_2] at hM1
 obtain ⟨rfl, lu5⟩ := Sl.len ru5
 refine And.intro (fun hc10 => ?_) (fun hc10 => ?_)
 ·replace hM1 := ifP hM1 hc10
  obtain ⟨x11, gx11, hM1⟩ := f0 hM1
  refine Tr.mono (U00 _ ap0 p0.length cp0 p0 (j0.mono (sx1.trans sX4) rp0) u7 iu7 _  gx11) ?_
  rintro v13 k12 ⟨ax11, nx11, cx11, rfl, wx11⟩
  have sx11 : Sub k8 k12 := wx11.sub
  have rx11 := wx11.r
  obtain ⟨rfl, lx11⟩ := Sl.len rx11
  obtain ⟨x14, gx14, hM1⟩ := f0 hM1
  refine Tr.val (n03 _ ax11 x11.length cx11 x11 rx11 au5 u5.length cu5 u5 (j0.mono sx11 ru5) _  gx14) ?_
  obtain ⟨q15, gq15, hM1⟩ := f0 hM1
  have ix14 : D0 x14 := l0 gq15
  refine And.intro (fun hc16 => ?_) (fun hc16 => ?_)
  ·replace hM1 := ifP hM1 hc16
   refine And.intro rfl (And.intro (by repeat (first | exact trivial | refine And.intro rfl ?_)) (And.intro (by repeat (first | exact trivial | refine And.intro rfl ?_)) (Exists.intro m9 (And.intro ⟨ax11, x11.length, cx11, x11, u7, (IntKind.i64.wrap (u7 + 1)), rfl, rfl, (sX4.trans sx11), rx11, iu7, (B0 _), hM1⟩ (Nat.lt_succ_self _)))))
  ·replace hM1 := ifN hM1 hc16
   refine And.intro rfl (And.intro (by repeat (first | exact trivial | refine And.intro rfl ?_)) (And.intro (by repeat (first | exact trivial | refine And.intro rfl ?_)) (Exists.intro m9 (And.intro ⟨au5, u5.length, cu5, u5, u6, (IntKind.i64.wrap (u7 + 1)), rfl, rfl, (sX4.trans sx11), (j0.mono sx11 ru5), iu6, (B0 _), hM1⟩ (Nat.lt_succ_self _)))))
 ·replace hM1 := ifN hM1 hc10
  have hE := Option.some.inj hM1; subst hE
  try dsimp only [H0, I0] at hM0
  have hE := Option.some.inj hM0; subst hE
  exact ⟨au5, u5.length, cu5, rfl, ru5, (sx1.trans sX4)⟩
theorem W00 (h : Hp) (ap0 : Option Addr) (np0 cp0 : Nat) (p0 : i0) (rp0 : j0.R h [.slice ap0 np0 cp0] p0) (r : i0) (hM0 : K5 p0 = some r) :
  Tr Try.prog 54 #[.slice ap0 np0 cp0] h fun v h' => ∃ (a0 : Option Addr) (n0 c0 : Nat), v = .slice a0 n0 c0 ∧ j0.R h' [.slice a0 n0 c0] r ∧ Sub h h' := by
 obtain ⟨rfl, lp0⟩ := Sl.len rp0
 unfold K5 at hM0
 refine S2 (args := [.slice ap0 p0.length cp0]) (fn := Try.f54) rfl ?_
 obtain ⟨x1, gx1, hM0⟩ := f0 hM0
 refine Tr.mono (A7 _ ap0 p0.length cp0 p0 rp0 _  gx1) ?_
 rintro v3 k2 ⟨ax1_0, nx1_0, cx1_0, ax1_1, nx1_1, cx1_1, rfl, rx1_0, rx1_1, sx1⟩
 obtain ⟨x1_0, x1_1⟩ := x1
 dsimp only at hM0 rx1_0 rx1_1
 obtain ⟨rfl, lx1_0⟩ := Sl.len rx1_0
 obtain ⟨rfl, lx1_1⟩ := Sl.len rx1_1
 obtain ⟨x4, gx4, hM0⟩ := f0 hM0
 refine Tr.mono (S02 _ ax1_0 x1_0.length cx1_0 x1_0 rx1_0 _  gx4) ?_
 rintro v6 k5 ⟨ax4_0, nx4_0, cx4_0, rfl, rx4_0, sx4⟩
 obtain ⟨x4_0, x4_1⟩ := x4
 dsimp only at hM0 rx4_0
 obtain ⟨rfl, lx4_0⟩ := Sl.len rx4_0
 obtain ⟨q7, gq7, hM0⟩ := f0 hM0
 have ix4_1 : D0 x4_1 := l0 gq7
 have hE := Option.some.inj hM0; subst hE
 exact ⟨ax4_0, x4_0.length, cx4_0, rfl, rx4_0, (sx1.trans sx4)⟩
theorem q03 (h : Hp) (p0 : Int) (ip0 : D0 p0) (r : F0) (hM0 : R5 p0 = some r) :
  Tr Try.prog 61 #[.int .i64 p0] h fun v h' => ∃ (a0 : Option Addr) (n0 c0 : Nat), v = .slice a0 n0 c0 ∧ J7.R h' [.slice a0 n0 c0] r ∧ Sub h h' := by
 unfold R5 at hM0
 refine S2 (args := [.int .i64 p0]) (fn := Try.f61) rfl ?_
 obtain ⟨x1, gx1, hM0⟩ := f0 hM0
 refine Tr.val (U3 _ p0 ip0 1 (c64 (by decide) (by decide)) 3 (c64 (by decide) (by decide)) _  gx1) ?_
 refine And.intro (fun hc2 => ?_) (fun hc2 => ?_)
 ·replace hM0 := ifP hM0 hc2
  intro v3 k4 f5
  obtain ⟨az6, cz6, rfl, rz6, sz6, lz6⟩ := O0.out (r := u0.toRp) f5 (show F2 (u0.R h) ([] : List (List Value)) ([] : F0) from trivial)
  have hE := Option.some.inj hM0; subst hE
  exact ⟨az6, (([] : F0)).length, cz6, rfl, rz6, sz6⟩
 ·replace hM0 := ifN hM0 hc2
  obtain ⟨x7, gx7, hM0⟩ := f0 hM0
  refine Tr.mono (R02 _ p0 ip0 _  gx7) ?_
  rintro v9 k8 ⟨ax7, nx7, cx7, rfl, rx7, sx7⟩
  obtain ⟨rfl, lx7⟩ := Sl.len rx7
  obtain ⟨X10, hLX10, hM0⟩ := f0 hM0
  refine Exists.intro { vars := [21], boxes := [], owns := [0], fuel := true } (Exists.intro (fun vs os h' => ∃ (u11 : Int) (wu12 : List (List Value)) (u12 : List z0), vs.tail = [.int .i64 u11] ∧ os = [wu12] ∧ Sub k8 h' ∧ D0 u11 ∧ F2 (u0.R h') wu12 u12 ∧ c5 x7 p0 (F1 vs) u11 u12 = some X10) (Exists.intro (fun _ _ => 0) ?_))
  refine And.intro (Exists.intro N0 ⟨0, [], ([] : F0), rfl, rfl, (Sub.refl _), (c64 (by decide) (by decide)), (F2.up (r := u0.toRp) sx7 (show F2 (u0.R h) ([] : List (List Value)) ([] : F0) from trivial)), hLX10⟩) ?_
  rintro v_0 wu12 m14 k13 ⟨u11, zzu12, u12, evX10, eoX10, sX10, iu11, fu12, hM1⟩
  cases evX10
  cases eoX10
  replace hM1 : c5 x7 p0 m14 u11 u12 = some X10 := hM1
  obtain _ | m14 := m14
  ·cases (show (none : Option _) = some X10 from hM1)
  rw [c5.eq_2] at hM1
  refine And.intro (fun hc15 => ?_) (fun hc15 => ?_)
  ·replace hM1 := ifP hM1 hc15
   obtain ⟨x16, gx16, hM1⟩ := f0 hM1
   obtain ⟨bx16, csx16, ex16, rx16⟩ := Sl.getI (r := Wp.int.toRp) (j0.mono sX10 rx7) gx16 (by decide)
   refine And.intro bx16 ?_
   obtain ⟨rfl, ix16⟩ := rx16
   refine Exists.intro _ (And.intro ex16 ?_)
   obtain ⟨x17, gx17, hM1⟩ := f0 hM1
   refine Tr.mono (R02 _ p0 ip0 _  gx17) ?_
   rintro v19 k18 ⟨ax17, nx17, cx17, rfl, rx17, sx17⟩
   obtain ⟨rfl, lx17⟩ := Sl.len rx17
   obtain ⟨X20, hLX20, hM1⟩ := f0 hM1
   refine Exists.intro { vars := [29], boxes := [], owns := [1], fuel := true } (Exists.intro (fun vs os h' => ∃ (u21 : Int) (wu22 : List (List Value)) (u22 : List Int), vs.tail = [.int .i64 u21] ∧ os = [wu22] ∧ Sub k18 h' ∧ D0 u21 ∧ F2 (Wp.int.R h') wu22 u22 ∧ Q3 x17 x16 (F1 vs) u21 u22 = some X20) (Exists.intro (fun _ _ => 0) ?_))
   refine And.intro (Exists.intro N0 ⟨0, [], ([] : i0), rfl, rfl, (Sub.refl _), (c64 (by decide) (by decide)), (F2.up (r := Wp.int.toRp) sx17 (show F2 (Wp.int.R k13) ([] : List (List Value)) ([] : i0) from trivial)), hLX20⟩) ?_
   rintro v_0 wu22 m24 k23 ⟨u21, zzu22, u22, evX20, eoX20, sX20, iu21, fu22, hM2⟩
   cases evX20
   cases eoX20
   replace hM2 : Q3 x17 x16 m24 u21 u22 = some X20 := hM2
   obtain _ | m24 := m24
   ·cases (show (none : Option _) = some X20 from hM2)
   rw [Q3.eq_2] at hM2
   refine And.intro (fun hc25 => ?_) (fun hc25 => ?_)
   ·replace hM2 := ifP hM2 hc25
    obtain ⟨x26, gx26, hM2⟩ := f0 hM2
    obtain ⟨bx26, csx26, ex26, rx26⟩ := Sl.getI (r := Wp.int.toRp) (j0.mono sX20 rx17) gx26 (by decide)
    refine And.intro bx26 ?_
    obtain ⟨rfl, ix26⟩ := rx26
    refine Exists.intro _ (And.intro ex26 ?_)
    refine And.intro (fun hc27 => ?_) (fun hc27 => ?_)
    ·replace hM2 := ifP hM2 hc27
     obtain ⟨q28, gq28, hM2⟩ := f0 hM2
     refine And.intro (R0 gq28 (by first | rw [F2.length fu22, F2.length (show F2 (Wp.int.R k23) ([[.int .i64 x26]] : List (List Value)) [x26] from ⟨⟨rfl, ix26⟩, trivial⟩)] | exact congrArg (· + 1) (F2.length fu22))) ?_
     refine And.intro rfl (And.intro (by repeat (first | exact trivial | refine And.intro rfl ?_)) (And.intro (by repeat (first | exact trivial | refine And.intro rfl ?_)) (Exists.intro m24 (And.intro ⟨(IntKind.i64.wrap (u21 + 1)), (wu22 ++ ([[.int .i64 x26]] : List (List Value))), (u22 ++ [x26]), rfl, rfl, sX20, (B0 _), (F2.append fu22 (show F2 (Wp.int.R k23) ([[.int .i64 x26]] : List (List Value)) [x26] from ⟨⟨rfl, ix26⟩, trivial⟩)), hM2⟩ (Nat.lt_succ_self _)))))
    ·replace hM2 := ifN hM2 hc27
     refine And.intro rfl (And.intro (by repeat (first | exact trivial | refine And.intro rfl ?_)) (And.intro (by repeat (first | exact trivial | refine And.intro rfl ?_)) (Exists.intro m24 (And.intro ⟨(IntKind.i64.wrap (u21 + 1)), wu22, u22, rfl, rfl, sX20, (B0 _), fu22, hM2⟩ (Nat.lt_succ_self _)))))
   ·replace hM2 := ifN hM2 hc25
    have hE := Option.some.inj hM2; subst hE
    try dsimp only [H0, I0] at hM1
    obtain ⟨X29, hLX29, hM1⟩ := f0 hM1
    refine Exists.intro { vars := [9], boxes := [], owns := [0], fuel := true } (Exists.intro (fun vs os h' => ∃ (u30 : Int) (wu31 : List (List Value)) (u31 : List z0), vs.tail = [.int .i64 u30] ∧ os = [wu31] ∧ Sub k23 h' ∧ D0 u30 ∧ F2 (u0.R h') wu31 u31 ∧ Z4 u22 x16 (F1 vs) u30 u31 = some X29) (Exists.intro (fun _ _ => 0) ?_))
    refine And.intro (Exists.intro N0 ⟨0, wu12, u12, rfl, rfl, (Sub.refl _), (c64 (by decide) (by decide)), (F2.up (r := u0.toRp) (sx17.trans sX20) fu12), hLX29⟩) ?_
    rintro v_0 wu31 m33 k32 ⟨u30, zzu31, u31, evX29, eoX29, sX29, iu30, fu31, hM2⟩
    cases evX29
    cases eoX29
    replace hM2 : Z4 u22 x16 m33 u30 u31 = some X29 := hM2
    obtain _ | m33 := m33
    ·cases (show (none : Option _) = some X29 from hM2)
    rw [Z4.eq_2] at hM2
    obtain ⟨m34, gm34, hM2⟩ := f0 hM2
    obtain rfl : wu22.length = m34 := (F2.length (F2.up (r := Wp.int.toRp) sX29 fu22)).trans (Option.some.inj gm34)
    obtain ⟨q35, gq35, hM2⟩ := f0 hM2
    obtain ⟨q36, gq36, hM2⟩ := f0 hM2
    refine And.intro (l0 gq36) ?_
    refine And.intro (fun hc37 => ?_) (fun hc37 => ?_)
    ·replace hM2 := ifP hM2 hc37
     obtain ⟨m38, gm38, hM2⟩ := f0 hM2
     obtain rfl : wu22.length = m38 := (F2.length (F2.up (r := Wp.int.toRp) sX29 fu22)).trans (Option.some.inj gm38)
     obtain ⟨q39, gq39, hM2⟩ := f0 hM2
     obtain ⟨X40, hLX40, hM2⟩ := f0 hM2
     refine Exists.intro { vars := [58], boxes := [0], owns := [2], fuel := true, nilsB := [(0, 1, 3, 1, 8)] } (Exists.intro (fun vs os h' => ∃ (u41 : Int) (u42 : Int) (wu43 : List (List Value)) (u43 : List Int), vs.tail = [.int .i64 u41, .int .i64 u42] ∧ os = [wu43] ∧ Sub k32 h' ∧ D0 u41 ∧ D0 u42 ∧ F2 (Wp.int.R h') wu43 u43 ∧ P3 (wu22).length u22 u30 (F1 vs) u41 u42 u43 = some X40) (Exists.intro (fun _ _ => 0) ?_))
     refine And.intro (Exists.intro N0 ⟨0, x16, [], ([] : i0), rfl, rfl, (Sub.refl _), (c64 (by decide) (by decide)), ix16, (show F2 (Wp.int.R k32) [] [] from trivial), hLX40⟩) ?_
     rintro v_0 v_1 wu43 m45 k44 ⟨u41, u42, zzu43, u43, evX40, eoX40, sX40, iu41, iu42, fu43, hM3⟩
     cases evX40
     cases eoX40
     replace hM3 : P3 (wu22).length u22 u30 m45 u41 u42 u43 = some X40 := hM3
     obtain _ | m45 := m45
     ·cases (show (none : Option _) = some X40 from hM3)
     rw [P3.eq_2] at hM3
     refine And.intro (fun hc46 => ?_) (fun hc46 => ?_)
     ·replace hM3 := ifP hM3 hc46
      obtain ⟨x47, gx47, hM3⟩ := f0 hM3
      obtain ⟨bx47, csx47, ex47, rx47⟩ := j5 (F2.up (r := Wp.int.toRp) (sX29.trans sX40) fu22) gx47
      refine And.intro bx47 ?_
      obtain ⟨rfl, ix47⟩ := rx47
      refine Exists.intro _ (And.intro ex47 ?_)
      obtain ⟨q48, gq48, hM3⟩ := f0 hM3
      refine And.intro (l0 gq48) ?_
      refine And.intro (fun hc49 => ?_) (fun hc49 => ?_)
      ·replace hM3 := ifP hM3 hc49
       obtain ⟨q50, gq50, hM3⟩ := f0 hM3
       refine And.intro (R0 gq50 (by first | rw [F2.length fu43, F2.length (show F2 (Wp.int.R k44) ([[.int .i64 x47]] : List (List Value)) [x47] from ⟨⟨rfl, ix47⟩, trivial⟩)] | exact congrArg (· + 1) (F2.length fu43))) ?_
       refine And.intro rfl (And.intro (by repeat (first | exact trivial | refine And.intro rfl ?_)) (And.intro (by repeat (first | exact trivial | refine And.intro rfl ?_)) (Exists.intro m45 (And.intro ⟨(IntKind.i64.wrap (u41 + 1)), u42, (wu43 ++ ([[.int .i64 x47]] : List (List Value))), (u43 ++ [x47]), rfl, rfl, sX40, (B0 _), iu42, (F2.append fu43 (show F2 (Wp.int.R k44) ([[.int .i64 x47]] : List (List Value)) [x47] from ⟨⟨rfl, ix47⟩, trivial⟩)), hM3⟩ (Nat.lt_succ_self _)))))
      ·replace hM3 := ifN hM3 hc49
       refine And.intro rfl (And.intro (by repeat (first | exact trivial | refine And.intro rfl ?_)) (And.intro (by repeat (first | exact trivial | refine And.intro rfl ?_)) (Exists.intro m45 (And.intro ⟨(IntKind.i64.wrap (u41 + 1)), u42, wu43, u43, rfl, rfl, sX40, (B0 _), iu42, fu43, hM3⟩ (Nat.lt_succ_self _)))))
     ·replace hM3 := ifN hM3 hc46
      have hE := Option.some.inj hM3; subst hE
      try dsimp only [H0, I0] at hM2
      intro v51 k52 f53
      obtain ⟨az54, cz54, rfl, rz54, sz54, lz54⟩ := O0.out (r := Wp.int.toRp) f53 fu43
      obtain ⟨q55, gq55, hM2⟩ := f0 hM2
      refine And.intro (R0 gq55 (by first | rw [F2.length (F2.up (r := u0.toRp) (sX40.trans sz54) fu31), F2.length (show F2 (u0.R k52) ([[.int .i64 u42, .slice az54 u43.length cz54]] : List (List Value)) [(u42, u43)] from ⟨(V0 iu42 rz54), trivial⟩)] | exact congrArg (· + 1) (F2.length (F2.up (r := u0.toRp) (sX40.trans sz54) fu31)))) ?_
      refine And.intro rfl (And.intro (by repeat (first | exact trivial | refine And.intro rfl ?_)) (And.intro (by repeat (first | exact trivial | refine And.intro rfl ?_)) (Exists.intro m33 (And.intro ⟨(IntKind.i64.wrap (u30 + 1)), (wu31 ++ ([[.int .i64 u42, .slice az54 u43.length cz54]] : List (List Value))), (u31 ++ [(u42, u43)]), rfl, rfl, ((sX29.trans sX40).trans sz54), (B0 _), (F2.append (F2.up (r := u0.toRp) (sX40.trans sz54) fu31) (show F2 (u0.R k52) ([[.int .i64 u42, .slice az54 u43.length cz54]] : List (List Value)) [(u42, u43)] from ⟨(V0 iu42 rz54), trivial⟩)), hM2⟩ (Nat.lt_succ_self _)))))
    ·replace hM2 := ifN hM2 hc37
     have hE := Option.some.inj hM2; subst hE
     try dsimp only [H0, I0] at hM1
     refine And.intro rfl (And.intro (by repeat (first | exact trivial | refine And.intro rfl ?_)) (And.intro (by repeat (first | exact trivial | refine And.intro rfl ?_)) (Exists.intro m14 (And.intro ⟨(IntKind.i64.wrap (u11 + 1)), wu31, u31, rfl, rfl, (((sX10.trans sx17).trans sX20).trans sX29), (B0 _), fu31, hM1⟩ (Nat.lt_succ_self _)))))
  ·replace hM1 := ifN hM1 hc15
   have hE := Option.some.inj hM1; subst hE
   try dsimp only [H0, I0] at hM0
   intro v115 k116 f117
   obtain ⟨az118, cz118, rfl, rz118, sz118, lz118⟩ := O0.out (r := u0.toRp) f117 fu12
   have hE := Option.some.inj hM0; subst hE
   exact ⟨az118, u12.length, cz118, rfl, rz118, ((sx7.trans sX10).trans sz118)⟩
theorem b04 (h : Hp) (p0 : Int) (ip0 : D0 p0) (csp1 : List Value) (p1 : z0) (rp1 : u0.R h csp1 p1) (r : Bool) (hM0 : w8 p0 p1 = some r) :
  Tr Try.prog 71 #[.int .i64 p0, .agg csp1.toArray] h fun v h' => v = .bool r ∧ h' = h := by
 obtain ⟨p1_0, ap1_1, np1_1, cp1_1, p1_1, rfl, rfl, ip1_0, rp1_1⟩ := v4 rp1
 obtain ⟨rfl, lp1_1⟩ := Sl.len rp1_1
 unfold w8 at hM0
 dsimp only at hM0
 refine Tr.forget (S2 (args := [.int .i64 p0, .agg #[.int .i64 p1_0, .slice ap1_1 p1_1.length cp1_1]]) (fn := Try.f71) rfl ?_)
 obtain ⟨x1, gx1, hM0⟩ := f0 hM0
 refine Tr.val (U3 _ p0 ip0 1 (c64 (by decide) (by decide)) 3 (c64 (by decide) (by decide)) _  gx1) ?_
 obtain ⟨x2, gx2, hM0⟩ := f0 hM0
 refine Exists.intro (.bool x2) (And.intro (fun q => Q9 _ p0 ip0 p1_0 ip1_0 _  (Z2 gx2 q)) ?_)
 refine And.intro (fun hc3 => ?_) (fun hc3 => ?_)
 ·replace hM0 := ifP hM0 hc3
  have hE := Option.some.inj hM0; subst hE
  exact And.intro rfl (Sub.refl _)
 ·replace hM0 := ifN hM0 hc3
  obtain ⟨X4, hLX4, hM0⟩ := f0 hM0
  refine Exists.intro { vars := [20], boxes := [], owns := [], fuel := true } (Exists.intro (fun vs os h' => ∃ (u5 : Int), vs.tail = [.int .i64 u5] ∧ os = [] ∧ Sub h h' ∧ D0 u5 ∧ G5 p1_1 p0 p1_0 (F1 vs) u5 = some X4) (Exists.intro (fun _ _ => 0) ?_))
  refine And.intro (Exists.intro N0 ⟨0, rfl, rfl, (Sub.refl _), (c64 (by decide) (by decide)), hLX4⟩) ?_
  rintro v_0 m7 k6 ⟨u5, evX4, eoX4, sX4, iu5, hM1⟩
  cases evX4
  cases eoX4
  replace hM1 : G5 p1_1 p0 p1_0 m7 u5 = some X4 := hM1
  obtain _ | m7 := m7
  ·cases (show (none : Option _) = some X4 from hM1)
  rw [G5.eq_2] at hM1
  refine And.intro (fun hc8 => ?_) (fun hc8 => ?_)
  ·replace hM1 := ifP hM1 hc8
   obtain ⟨x9, gx9, hM1⟩ := f0 hM1
   obtain ⟨bx9, csx9, ex9, rx9⟩ := Sl.getI (r := Wp.int.toRp) (j0.mono sX4 rp1_1) gx9 (by decide)
   refine And.intro bx9 ?_
   obtain ⟨rfl, ix9⟩ := rx9
   refine Exists.intro _ (And.intro ex9 ?_)
   obtain ⟨x10, gx10, hM1⟩ := f0 hM1
   refine Tr.val (Q9 _ p0 ip0 x9 ix9 _  gx10) ?_
   obtain ⟨x11, gx11, hM1⟩ := f0 hM1
   obtain ⟨csx11, ex11, rx11⟩ := Sl.getG (r := Wp.int.toRp) (j0.mono sX4 rp1_1) gx11 (by decide) (d8 k6)
   refine And.intro (fun q => (ex11 q).1) ?_
   obtain ⟨rfl, ix11⟩ := rx11
   refine Exists.intro _ (And.intro (fun q => (ex11 q).2) ?_)
   obtain ⟨x12, gx12, hM1⟩ := f0 hM1
   refine Exists.intro (.int .i64 x12) (And.intro (fun q => Z8 _ x11 ix11 x9 ix9 _  (Z2 gx12 q)) ?_)
   obtain ⟨q13, gq13, hM1⟩ := f0 hM1
   have ix12 : D0 x12 := l0 gq13
   refine And.intro (fun hc14 => ?_) (fun hc14 => ?_)
   ·replace hM1 := ifP hM1 hc14
    have hE := Option.some.inj hM1; subst hE
    try dsimp only [D4, E4] at hM0
    have hE := Option.some.inj hM0; subst hE
    exact And.intro rfl sX4
   ·replace hM1 := ifN hM1 hc14
    refine And.intro rfl (And.intro (by repeat (first | exact trivial | refine And.intro rfl ?_)) (And.intro (by repeat (first | exact trivial | refine And.intro rfl ?_)) (Exists.intro m7 (And.intro ⟨(IntKind.i64.wrap (u5 + 1)), rfl, rfl, sX4, (B0 _), hM1⟩ (Nat.lt_succ_self _)))))
  ·replace hM1 := ifN hM1 hc8
   have hE := Option.some.inj hM1; subst hE
   try dsimp only [H0, I0] at hM0
   have hE := Option.some.inj hM0; subst hE
   exact And.intro rfl sX4
theorem C00 (h : Hp) (ap0 : Option Addr) (np0 cp0 : Nat) (p0 : i0) (rp0 : j0.R h [.slice ap0 np0 cp0] p0) (p1 : Int) (ip1 : D0 p1) (r : Int) (hM0 : C6 p0 p1 = some r) :
  Tr Try.prog 77 #[.slice ap0 np0 cp0, .int .i64 p1] h fun v h' => v = .int .i64 r ∧ h' = h := by
 obtain ⟨rfl, lp0⟩ := Sl.len rp0
 unfold C6 at hM0
 refine Tr.forget (S2 (args := [.slice ap0 p0.length cp0, .int .i64 p1]) (fn := Try.f77) rfl ?_)
 obtain ⟨X1, hLX1, hM0⟩ := f0 hM0
 refine Exists.intro { vars := [8], boxes := [], owns := [], fuel := true } (Exists.intro (fun vs os h' => ∃ (u2 : Int), vs.tail = [.int .i64 u2] ∧ os = [] ∧ Sub h h' ∧ D0 u2 ∧ V2 p0 p1 (F1 vs) u2 = some X1) (Exists.intro (fun _ _ => 0) ?_))
 refine And.intro (Exists.intro N0 ⟨0, rfl, rfl, (Sub.refl _), (c64 (by decide) (by decide)), hLX1⟩) ?_
 rintro v_0 m4 k3 ⟨u2, evX1, eoX1, sX1, iu2, hM1⟩
 cases evX1
 cases eoX1
 replace hM1 : V2 p0 p1 m4 u2 = some X1 := hM1
 obtain _ | m4 := m4
 ·cases (show (none : Option _) = some X1 from hM1)
 rw [V2.eq_2] at hM1
 refine And.intro (fun hc5 => ?_) (fun hc5 => ?_)
 ·replace hM1 := ifP hM1 hc5
  obtain ⟨x6, gx6, hM1⟩ := f0 hM1
  obtain ⟨bx6, csx6, ex6, rx6⟩ := Sl.getI (r := Wp.int.toRp) (j0.mono sX1 rp0) gx6 (by decide)
  refine And.intro bx6 ?_
  obtain ⟨rfl, ix6⟩ := rx6
  refine Exists.intro _ (And.intro ex6 ?_)
  refine And.intro (fun hc7 => ?_) (fun hc7 => ?_)
  ·replace hM1 := ifP hM1 hc7
   have hE := Option.some.inj hM1; subst hE
   try dsimp only [D4, E4] at hM0
   have hE := Option.some.inj hM0; subst hE
   exact And.intro rfl sX1
  ·replace hM1 := ifN hM1 hc7
   refine And.intro rfl (And.intro (by repeat (first | exact trivial | refine And.intro rfl ?_)) (And.intro (by repeat (first | exact trivial | refine And.intro rfl ?_)) (Exists.intro m4 (And.intro ⟨(IntKind.i64.wrap (u2 + 1)), rfl, rfl, sX1, (B0 _), hM1⟩ (Nat.lt_succ_self _)))))
 ·replace hM1 := ifN hM1 hc5
  have hE := Option.some.inj hM1; subst hE
  try dsimp only [H0, I0] at hM0
  have hE := Option.some.inj hM0; subst hE
  exact And.intro rfl sX1
theorem O5 (h : Hp) (ap0 : Option Addr) (np0 cp0 : Nat) (p0 : i0) (rp0 : j0.R h [.slice ap0 np0 cp0] p0) (p1 : Int) (ip1 : D0 p1) (r : Bool) (hM0 : M2 p0 p1 = some r) :
  Tr Try.prog 72 #[.slice ap0 np0 cp0, .int .i64 p1] h fun v h' => v = .bool r ∧ h' = h := by
 obtain ⟨rfl, lp0⟩ := Sl.len rp0
 unfold M2 at hM0
 refine Tr.forget (S2 (args := [.slice ap0 p0.length cp0, .int .i64 p1]) (fn := Try.f72) rfl ?_)
 obtain ⟨x1, gx1, hM0⟩ := f0 hM0
 refine Tr.val (C00 _ ap0 p0.length cp0 p0 rp0 p1 ip1 _  gx1) ?_
 obtain ⟨q2, gq2, hM0⟩ := f0 hM0
 have ix1 : D0 x1 := l0 gq2
 have hE := Option.some.inj hM0; subst hE
 exact And.intro rfl (Sub.refl _)
theorem f01 (h : Hp) (p0 : Int) (ip0 : D0 p0) (csp1 : List Value) (p1 : z0) (rp1 : u0.R h csp1 p1) (r : i9 × Bool) (hM0 : T3 p0 p1 = some r) :
  Tr Try.prog 62 #[.int .i64 p0, .agg csp1.toArray] h fun v h' => ∃ (cs0 : List Value), v = .tuple #[.agg cs0.toArray, .bool r.2] ∧ f03.R h' cs0 r.1 ∧ Sub h h' := by
 obtain ⟨p1_0, ap1_1, np1_1, cp1_1, p1_1, rfl, rfl, ip1_0, rp1_1⟩ := v4 rp1
 obtain ⟨rfl, lp1_1⟩ := Sl.len rp1_1
 unfold T3 at hM0
 dsimp only at hM0
 refine S2 (args := [.int .i64 p0, .agg #[.int .i64 p1_0, .slice ap1_1 p1_1.length cp1_1]]) (fn := Try.f62) rfl ?_
 obtain ⟨x1, gx1, hM0⟩ := f0 hM0
 refine Tr.val (b04 _ p0 ip0 [.int .i64 p1_0, .slice ap1_1 p1_1.length cp1_1] (p1_0, p1_1) (V0 ip1_0 rp1_1) _  gx1) ?_
 refine And.intro (fun hc2 => ?_) (fun hc2 => ?_)
 ·replace hM0 := ifP hM0 hc2
  have hE := Option.some.inj hM0; subst hE
  exact ⟨([.int .i64 0, .slice none 0 0]), rfl, (y9 (c64 (by decide) (by decide)) (E0d j0 h)), (Sub.refl _)⟩
 ·replace hM0 := ifN hM0 hc2
  obtain ⟨X3, hLX3, hM0⟩ := f0 hM0
  refine Exists.intro { vars := [7], boxes := [2], owns := [0], fuel := true, nilsB := [(2, 1, 22, 1, 24)] } (Exists.intro (fun vs os h' => ∃ (u4 : Int) (u5 : Int) (wu6 : List (List Value)) (u6 : List i0), vs.tail = [.int .i64 u4, .int .i64 u5] ∧ os = [wu6] ∧ Sub h h' ∧ D0 u4 ∧ D0 u5 ∧ F2 (j0.R h') wu6 u6 ∧ C1 p0 p1_1 p1_0 (F1 vs) u4 u5 u6 = some X3) (Exists.intro (fun _ _ => 0) ?_))
  refine And.intro (Exists.intro N0 ⟨1, p0, [], ([] : Q6), rfl, rfl, (Sub.refl _), (c64 (by decide) (by decide)), ip0, (show F2 (j0.R h) [] [] from trivial), hLX3⟩) ?_
  rintro v_0 v_1 wu6 m8 k7 ⟨u4, u5, zzu6, u6, evX3, eoX3, sX3, iu4, iu5, fu6, hM1⟩
  cases evX3
  cases eoX3
  replace hM1 : C1 p0 p1_1 p1_0 m8 u4 u5 u6 = some X3 := hM1
  obtain _ | m8 := m8
  ·cases (show (none : Option _) = some X3 from hM1)
  rw [C1.eq_2] at hM1
  refine And.intro (fun hc9 => ?_) (fun hc9 => ?_)
  ·replace hM1 := ifP hM1 hc9
   obtain ⟨x10, gx10, hM1⟩ := f0 hM1
   refine Tr.val (O5 _ ap1_1 p1_1.length cp1_1 p1_1 (j0.mono sX3 rp1_1) (IntKind.i64.wrap (0 - u4)) (B0 _) _  gx10) ?_
   refine And.intro (fun hc11 => ?_) (fun hc11 => ?_)
   ·replace hM1 := ifP hM1 hc11
    obtain ⟨q12, gq12, hM1⟩ := f0 hM1
    refine And.intro (R0 gq12 (by first | rw [F2.length (show F2 (Wp.int.R k7) ([] : List (List Value)) ([] : i0) from trivial), F2.length (show F2 (Wp.int.R k7) ([[.int .i64 (IntKind.i64.wrap (0 - p1_0))]] : List (List Value)) [(IntKind.i64.wrap (0 - p1_0))] from ⟨⟨rfl, (B0 _)⟩, trivial⟩)] | exact congrArg (· + 1) (F2.length (show F2 (Wp.int.R k7) ([] : List (List Value)) ([] : i0) from trivial)))) ?_
    obtain ⟨q13, gq13, hM1⟩ := f0 hM1
    refine And.intro (R0 gq13 (by first | rw [F2.length (F2.append (show F2 (Wp.int.R k7) ([] : List (List Value)) ([] : i0) from trivial) (show F2 (Wp.int.R k7) ([[.int .i64 (IntKind.i64.wrap (0 - p1_0))]] : List (List Value)) [(IntKind.i64.wrap (0 - p1_0))] from ⟨⟨rfl, (B0 _)⟩, trivial⟩)), F2.length (show F2 (Wp.int.R k7) ([[.int .i64 u4]] : List (List Value)) [u4] from ⟨⟨rfl, iu4⟩, trivial⟩)] | exact congrArg (· + 1) (F2.length (F2.append (show F2 (Wp.int.R k7) ([] : List (List Value)) ([] : i0) from trivial) (show F2 (Wp.int.R k7) ([[.int .i64 (IntKind.i64.wrap (0 - p1_0))]] : List (List Value)) [(IntKind.i64.wrap (0 - p1_0))] from ⟨⟨rfl, (B0 _)⟩, trivial⟩))))) ?_
    obtain ⟨x14, gx14, hM1⟩ := f0 hM1
    refine Tr.val (O5 _ ap1_1 p1_1.length cp1_1 p1_1 (j0.mono sX3 rp1_1) u4 iu4 _  gx14) ?_
    refine And.intro (fun hc15 => ?_) (fun hc15 => ?_)
    ·replace hM1 := ifP hM1 hc15
     obtain ⟨q16, gq16, hM1⟩ := f0 hM1
     refine And.intro (R0 gq16 (by first | rw [F2.length (F2.append (F2.append (show F2 (Wp.int.R k7) ([] : List (List Value)) ([] : i0) from trivial) (show F2 (Wp.int.R k7) ([[.int .i64 (IntKind.i64.wrap (0 - p1_0))]] : List (List Value)) [(IntKind.i64.wrap (0 - p1_0))] from ⟨⟨rfl, (B0 _)⟩, trivial⟩)) (show F2 (Wp.int.R k7) ([[.int .i64 u4]] : List (List Value)) [u4] from ⟨⟨rfl, iu4⟩, trivial⟩)), F2.length (show F2 (Wp.int.R k7) ([[.int .i64 p1_0]] : List (List Value)) [p1_0] from ⟨⟨rfl, ip1_0⟩, trivial⟩)] | exact congrArg (· + 1) (F2.length (F2.append (F2.append (show F2 (Wp.int.R k7) ([] : List (List Value)) ([] : i0) from trivial) (show F2 (Wp.int.R k7) ([[.int .i64 (IntKind.i64.wrap (0 - p1_0))]] : List (List Value)) [(IntKind.i64.wrap (0 - p1_0))] from ⟨⟨rfl, (B0 _)⟩, trivial⟩)) (show F2 (Wp.int.R k7) ([[.int .i64 u4]] : List (List Value)) [u4] from ⟨⟨rfl, iu4⟩, trivial⟩))))) ?_
     intro v17 k18 f19
     obtain ⟨az20, cz20, rfl, rz20, sz20, lz20⟩ := O0.out (r := Wp.int.toRp) f19 (F2.append (F2.append (F2.append (show F2 (Wp.int.R k7) ([] : List (List Value)) ([] : i0) from trivial) (show F2 (Wp.int.R k7) ([[.int .i64 (IntKind.i64.wrap (0 - p1_0))]] : List (List Value)) [(IntKind.i64.wrap (0 - p1_0))] from ⟨⟨rfl, (B0 _)⟩, trivial⟩)) (show F2 (Wp.int.R k7) ([[.int .i64 u4]] : List (List Value)) [u4] from ⟨⟨rfl, iu4⟩, trivial⟩)) (show F2 (Wp.int.R k7) ([[.int .i64 p1_0]] : List (List Value)) [p1_0] from ⟨⟨rfl, ip1_0⟩, trivial⟩))
     obtain ⟨q21, gq21, hM1⟩ := f0 hM1
     refine And.intro (R0 gq21 (by first | rw [F2.length (F2.up (r := j0.toRp) sz20 fu6), F2.length (show F2 (j0.R k18) ([[.slice az20 ((((([] : i0) ++ [(IntKind.i64.wrap (0 - p1_0))]) ++ [u4]) ++ [p1_0])).length cz20]] : List (List Value)) [(((([] : i0) ++ [(IntKind.i64.wrap (0 - p1_0))]) ++ [u4]) ++ [p1_0])] from ⟨rz20, trivial⟩)] | exact congrArg (· + 1) (F2.length (F2.up (r := j0.toRp) sz20 fu6)))) ?_
     refine And.intro rfl (And.intro (by repeat (first | exact trivial | refine And.intro rfl ?_)) (And.intro (by repeat (first | exact trivial | refine And.intro rfl ?_)) (Exists.intro m8 (And.intro ⟨(IntKind.i64.wrap (u4 + 1)), u5, (wu6 ++ ([[.slice az20 ((((([] : i0) ++ [(IntKind.i64.wrap (0 - p1_0))]) ++ [u4]) ++ [p1_0])).length cz20]] : List (List Value))), (u6 ++ [(((([] : i0) ++ [(IntKind.i64.wrap (0 - p1_0))]) ++ [u4]) ++ [p1_0])]), rfl, rfl, (sX3.trans sz20), (B0 _), iu5, (F2.append (F2.up (r := j0.toRp) sz20 fu6) (show F2 (j0.R k18) ([[.slice az20 ((((([] : i0) ++ [(IntKind.i64.wrap (0 - p1_0))]) ++ [u4]) ++ [p1_0])).length cz20]] : List (List Value)) [(((([] : i0) ++ [(IntKind.i64.wrap (0 - p1_0))]) ++ [u4]) ++ [p1_0])] from ⟨rz20, trivial⟩)), hM1⟩ (Nat.lt_succ_self _)))))
    ·replace hM1 := ifN hM1 hc15
     intro v22 k23 f24
     obtain ⟨az25, cz25, rfl, rz25, sz25, lz25⟩ := O0.out (r := Wp.int.toRp) f24 (F2.append (F2.append (show F2 (Wp.int.R k7) ([] : List (List Value)) ([] : i0) from trivial) (show F2 (Wp.int.R k7) ([[.int .i64 (IntKind.i64.wrap (0 - p1_0))]] : List (List Value)) [(IntKind.i64.wrap (0 - p1_0))] from ⟨⟨rfl, (B0 _)⟩, trivial⟩)) (show F2 (Wp.int.R k7) ([[.int .i64 u4]] : List (List Value)) [u4] from ⟨⟨rfl, iu4⟩, trivial⟩))
     obtain ⟨q26, gq26, hM1⟩ := f0 hM1
     refine And.intro (R0 gq26 (by first | rw [F2.length (F2.up (r := j0.toRp) sz25 fu6), F2.length (show F2 (j0.R k23) ([[.slice az25 (((([] : i0) ++ [(IntKind.i64.wrap (0 - p1_0))]) ++ [u4])).length cz25]] : List (List Value)) [((([] : i0) ++ [(IntKind.i64.wrap (0 - p1_0))]) ++ [u4])] from ⟨rz25, trivial⟩)] | exact congrArg (· + 1) (F2.length (F2.up (r := j0.toRp) sz25 fu6)))) ?_
     refine And.intro rfl (And.intro (by repeat (first | exact trivial | refine And.intro rfl ?_)) (And.intro (by repeat (first | exact trivial | refine And.intro rfl ?_)) (Exists.intro m8 (And.intro ⟨(IntKind.i64.wrap (u4 + 1)), u5, (wu6 ++ ([[.slice az25 (((([] : i0) ++ [(IntKind.i64.wrap (0 - p1_0))]) ++ [u4])).length cz25]] : List (List Value))), (u6 ++ [((([] : i0) ++ [(IntKind.i64.wrap (0 - p1_0))]) ++ [u4])]), rfl, rfl, (sX3.trans sz25), (B0 _), iu5, (F2.append (F2.up (r := j0.toRp) sz25 fu6) (show F2 (j0.R k23) ([[.slice az25 (((([] : i0) ++ [(IntKind.i64.wrap (0 - p1_0))]) ++ [u4])).length cz25]] : List (List Value)) [((([] : i0) ++ [(IntKind.i64.wrap (0 - p1_0))]) ++ [u4])] from ⟨rz25, trivial⟩)), hM1⟩ (Nat.lt_succ_self _)))))
   ·replace hM1 := ifN hM1 hc11
    obtain ⟨q27, gq27, hM1⟩ := f0 hM1
    refine And.intro (R0 gq27 (by first | rw [F2.length (show F2 (Wp.int.R k7) ([] : List (List Value)) ([] : i0) from trivial), F2.length (show F2 (Wp.int.R k7) ([[.int .i64 u4]] : List (List Value)) [u4] from ⟨⟨rfl, iu4⟩, trivial⟩)] | exact congrArg (· + 1) (F2.length (show F2 (Wp.int.R k7) ([] : List (List Value)) ([] : i0) from trivial)))) ?_
    obtain ⟨x28, gx28, hM1⟩ := f0 hM1
    refine Tr.val (O5 _ ap1_1 p1_1.length cp1_1 p1_1 (j0.mono sX3 rp1_1) u4 iu4 _  gx28) ?_
    refine And.intro (fun hc29 => ?_) (fun hc29 => ?_)
    ·replace hM1 := ifP hM1 hc29
     obtain ⟨q30, gq30, hM1⟩ := f0 hM1
     refine And.intro (R0 gq30 (by first | rw [F2.length (F2.append (show F2 (Wp.int.R k7) ([] : List (List Value)) ([] : i0) from trivial) (show F2 (Wp.int.R k7) ([[.int .i64 u4]] : List (List Value)) [u4] from ⟨⟨rfl, iu4⟩, trivial⟩)), F2.length (show F2 (Wp.int.R k7) ([[.int .i64 p1_0]] : List (List Value)) [p1_0] from ⟨⟨rfl, ip1_0⟩, trivial⟩)] | exact congrArg (· + 1) (F2.length (F2.append (show F2 (Wp.int.R k7) ([] : List (List Value)) ([] : i0) from trivial) (show F2 (Wp.int.R k7) ([[.int .i64 u4]] : List (List Value)) [u4] from ⟨⟨rfl, iu4⟩, trivial⟩))))) ?_
     intro v31 k32 f33
     obtain ⟨az34, cz34, rfl, rz34, sz34, lz34⟩ := O0.out (r := Wp.int.toRp) f33 (F2.append (F2.append (show F2 (Wp.int.R k7) ([] : List (List Value)) ([] : i0) from trivial) (show F2 (Wp.int.R k7) ([[.int .i64 u4]] : List (List Value)) [u4] from ⟨⟨rfl, iu4⟩, trivial⟩)) (show F2 (Wp.int.R k7) ([[.int .i64 p1_0]] : List (List Value)) [p1_0] from ⟨⟨rfl, ip1_0⟩, trivial⟩))
     obtain ⟨q35, gq35, hM1⟩ := f0 hM1
     refine And.intro (R0 gq35 (by first | rw [F2.length (F2.up (r := j0.toRp) sz34 fu6), F2.length (show F2 (j0.R k32) ([[.slice az34 (((([] : i0) ++ [u4]) ++ [p1_0])).length cz34]] : List (List Value)) [((([] : i0) ++ [u4]) ++ [p1_0])] from ⟨rz34, trivial⟩)] | exact congrArg (· + 1) (F2.length (F2.up (r := j0.toRp) sz34 fu6)))) ?_
     refine And.intro rfl (And.intro (by repeat (first | exact trivial | refine And.intro rfl ?_)) (And.intro (by repeat (first | exact trivial | refine And.intro rfl ?_)) (Exists.intro m8 (And.intro ⟨(IntKind.i64.wrap (u4 + 1)), u5, (wu6 ++ ([[.slice az34 (((([] : i0) ++ [u4]) ++ [p1_0])).length cz34]] : List (List Value))), (u6 ++ [((([] : i0) ++ [u4]) ++ [p1_0])]), rfl, rfl, (sX3.trans sz34), (B0 _), iu5, (F2.append (F2.up (r := j0.toRp) sz34 fu6) (show F2 (j0.R k32) ([[.slice az34 (((([] : i0) ++ [u4]) ++ [p1_0])).length cz34]] : List (List Value)) [((([] : i0) ++ [u4]) ++ [p1_0])] from ⟨rz34, trivial⟩)), hM1⟩ (Nat.lt_succ_self _)))))
    ·replace hM1 := ifN hM1 hc29
     intro v36 k37 f38
     obtain ⟨az39, cz39, rfl, rz39, sz39, lz39⟩ := O0.out (r := Wp.int.toRp) f38 (F2.append (show F2 (Wp.int.R k7) ([] : List (List Value)) ([] : i0) from trivial) (show F2 (Wp.int.R k7) ([[.int .i64 u4]] : List (List Value)) [u4] from ⟨⟨rfl, iu4⟩, trivial⟩))
     obtain ⟨q40, gq40, hM1⟩ := f0 hM1
     refine And.intro (R0 gq40 (by first | rw [F2.length (F2.up (r := j0.toRp) sz39 fu6), F2.length (show F2 (j0.R k37) ([[.slice az39 ((([] : i0) ++ [u4])).length cz39]] : List (List Value)) [(([] : i0) ++ [u4])] from ⟨rz39, trivial⟩)] | exact congrArg (· + 1) (F2.length (F2.up (r := j0.toRp) sz39 fu6)))) ?_
     refine And.intro rfl (And.intro (by repeat (first | exact trivial | refine And.intro rfl ?_)) (And.intro (by repeat (first | exact trivial | refine And.intro rfl ?_)) (Exists.intro m8 (And.intro ⟨(IntKind.i64.wrap (u4 + 1)), u5, (wu6 ++ ([[.slice az39 ((([] : i0) ++ [u4])).length cz39]] : List (List Value))), (u6 ++ [(([] : i0) ++ [u4])]), rfl, rfl, (sX3.trans sz39), (B0 _), iu5, (F2.append (F2.up (r := j0.toRp) sz39 fu6) (show F2 (j0.R k37) ([[.slice az39 ((([] : i0) ++ [u4])).length cz39]] : List (List Value)) [(([] : i0) ++ [u4])] from ⟨rz39, trivial⟩)), hM1⟩ (Nat.lt_succ_self _)))))
  ·replace hM1 := ifN hM1 hc9
   have hE := Option.some.inj hM1; subst hE
   try dsimp only [H0, I0] at hM0
   intro v41 k42 f43
   obtain ⟨az44, cz44, rfl, rz44, sz44, lz44⟩ := O0.out (r := j0.toRp) f43 fu6
   have hE := Option.some.inj hM0; subst hE
   exact ⟨([.int .i64 u5, .slice az44 u6.length cz44]), rfl, (y9 iu5 rz44), (sX3.trans sz44)⟩
theorem r03 (h : Hp) (ap0 : Option Addr) (np0 cp0 : Nat) (p0 : i0) (rp0 : j0.R h [.slice ap0 np0 cp0] p0) (r : Int) (hM0 : S5 p0 = some r) :
  Tr Try.prog 64 #[.slice ap0 np0 cp0] h fun v h' => v = .int .i64 r ∧ h' = h := by
 obtain ⟨rfl, lp0⟩ := Sl.len rp0
 unfold S5 at hM0
 refine Tr.forget (S2 (args := [.slice ap0 p0.length cp0]) (fn := Try.f64) rfl ?_)
 obtain ⟨x1, gx1, hM0⟩ := f0 hM0
 refine Tr.mono (A7 _ ap0 p0.length cp0 p0 rp0 _  gx1) ?_
 rintro v3 k2 ⟨ax1_0, nx1_0, cx1_0, ax1_1, nx1_1, cx1_1, rfl, rx1_0, rx1_1, sx1⟩
 obtain ⟨x1_0, x1_1⟩ := x1
 dsimp only at hM0 rx1_0 rx1_1
 obtain ⟨rfl, lx1_0⟩ := Sl.len rx1_0
 obtain ⟨rfl, lx1_1⟩ := Sl.len rx1_1
 have hE := Option.some.inj hM0; subst hE
 exact And.intro rfl sx1
theorem o07 (h : Hp) (p0 : Int) (ip0 : D0 p0) (ap1 : Option Addr) (np1 cp1 : Nat) (p1 : i0) (rp1 : j0.R h [.slice ap1 np1 cp1] p1) (r : z0 × i0 × Bool) (hM0 : M7 p0 p1 = some r) :
  Tr Try.prog 55 #[.int .i64 p0, .slice ap1 np1 cp1] h fun v h' => ∃ (cs0 : List Value) (a1 : Option Addr) (n1 c1 : Nat), v = .tuple #[.agg cs0.toArray, .slice a1 n1 c1, .bool r.2.2] ∧ u0.R h' cs0 r.1 ∧ j0.R h' [.slice a1 n1 c1] r.2.1 ∧ Sub h h' := by
 obtain ⟨rfl, lp1⟩ := Sl.len rp1
 unfold M7 at hM0
 refine S2 (args := [.int .i64 p0, .slice ap1 p1.length cp1]) (fn := Try.f55) rfl ?_
 obtain ⟨x1, gx1, hM0⟩ := f0 hM0
 refine Tr.mono (q03 _ p0 ip0 _  gx1) ?_
 rintro v3 k2 ⟨ax1, nx1, cx1, rfl, rx1, sx1⟩
 obtain ⟨rfl, lx1⟩ := Sl.len rx1
 obtain ⟨X4, hLX4, hM0⟩ := f0 hM0
 refine Exists.intro { vars := [15], boxes := [], owns := [], fuel := true } (Exists.intro (fun vs os h' => ∃ (u5 : Int), vs.tail = [.int .i64 u5] ∧ os = [] ∧ Sub k2 h' ∧ D0 u5 ∧ i4 x1 p0 p1 (F1 vs) u5 = some X4) (Exists.intro (fun _ _ => 0) ?_))
 refine And.intro (Exists.intro N0 ⟨0, rfl, rfl, (Sub.refl _), (c64 (by decide) (by decide)), hLX4⟩) ?_
 rintro v_0 m7 k6 ⟨u5, evX4, eoX4, sX4, iu5, hM1⟩
 cases evX4
 cases eoX4
 replace hM1 : i4 x1 p0 p1 m7 u5 = some X4 := hM1
 obtain _ | m7 := m7
 ·cases (show (none : Option _) = some X4 from hM1)
 rw [i4.eq_2] at hM1
 refine And.intro (fun hc8 => ?_) (fun hc8 => ?_)
 ·replace hM1 := ifP hM1 hc8
  obtain ⟨x9, gx9, hM1⟩ := f0 hM1
  obtain ⟨bx9, csx9, ex9, rx9⟩ := Sl.getI (r := u0.toRp) (J7.mono sX4 rx1) gx9 (by decide)
  refine And.intro bx9 ?_
  obtain ⟨x9_0, ax9_1, nx9_1, cx9_1, x9_1, rfl, rfl, ix9_0, rx9_1⟩ := v4 rx9
  obtain ⟨rfl, lx9_1⟩ := Sl.len rx9_1
  try dsimp only at hM1
  refine Exists.intro _ (And.intro ex9 ?_)
  obtain ⟨x10, gx10, hM1⟩ := f0 hM1
  refine Tr.mono (f01 _ p0 ip0 [.int .i64 x9_0, .slice ax9_1 x9_1.length cx9_1] (x9_0, x9_1) (V0 ix9_0 rx9_1) _  gx10) ?_
  rintro v12 k11 ⟨csx10_0, rfl, rx10_0, sx10⟩
  obtain ⟨x10_0, x10_1⟩ := x10
  dsimp only at hM1 rx10_0
  obtain ⟨x10_0_0, ax10_0_1, nx10_0_1, cx10_0_1, x10_0_1, rfl, rfl, ix10_0_0, rx10_0_1⟩ := I04 rx10_0
  obtain ⟨rfl, lx10_0_1⟩ := Sl.len rx10_0_1
  try dsimp only at hM1
  obtain ⟨x13, gx13, hM1⟩ := f0 hM1
  refine Tr.mono (a06 _ ax10_0_1 x10_0_1.length cx10_0_1 x10_0_1 rx10_0_1 ap1 p1.length cp1 p1 (j0.mono ((sx1.trans sX4).trans sx10) rp1) _  gx13) ?_
  rintro v15 k14 ⟨ax13, nx13, cx13, rfl, rx13, sx13⟩
  obtain ⟨rfl, lx13⟩ := Sl.len rx13
  obtain ⟨x16, gx16, hM1⟩ := f0 hM1
  refine Tr.val (r03 _ ax13 x13.length cx13 x13 rx13 _  gx16) ?_
  obtain ⟨q17, gq17, hM1⟩ := f0 hM1
  have ix16 : D0 x16 := l0 gq17
  refine And.intro (fun hc18 => ?_) (fun hc18 => ?_)
  ·replace hM1 := ifP hM1 hc18
   refine Or.inr (Or.inr (Or.inl (And.intro (And.intro (by kernel_rfl) (by kernel_rfl)) ?_)))
   refine Or.inr ?_
   refine Or.inr ?_
   refine Or.inr ?_
   refine Or.inl (Exists.intro 1 (And.intro (And.intro rfl rfl) ?_))
   obtain ⟨x19, gx19, hM1⟩ := f0 hM1
   refine Tr.mono (W00 _ ax13 x13.length cx13 x13 rx13 _  gx19) ?_
   rintro v21 k20 ⟨ax19, nx19, cx19, rfl, rx19, sx19⟩
   obtain ⟨rfl, lx19⟩ := Sl.len rx19
   refine And.intro (And.intro rfl sx19) (And.intro (by first | exact trivial | exact rfl) ?_)
   refine And.intro trivial (And.intro (by first | exact trivial | exact rfl) ?_)
   refine And.intro trivial (And.intro (by first | exact trivial | exact rfl) ?_)
   have hE := Option.some.inj hM1; subst hE
   try dsimp only [D4, E4] at hM0
   have hE := Option.some.inj hM0; subst hE
   exact ⟨([.int .i64 x9_0, .slice ax9_1 x9_1.length cx9_1]), ax19, x19.length, cx19, rfl, (V0 ix9_0 (j0.mono ((sx10.trans sx13).trans sx19) rx9_1)), rx19, ((((sx1.trans sX4).trans sx10).trans sx13).trans sx19)⟩
  ·replace hM1 := ifN hM1 hc18
   refine And.intro rfl (And.intro (by repeat (first | exact trivial | refine And.intro rfl ?_)) (And.intro (by repeat (first | exact trivial | refine And.intro rfl ?_)) (Exists.intro m7 (And.intro ⟨(IntKind.i64.wrap (u5 + 1)), rfl, rfl, ((sX4.trans sx10).trans sx13), (B0 _), hM1⟩ (Nat.lt_succ_self _)))))
 ·replace hM1 := ifN hM1 hc8
  have hE := Option.some.inj hM1; subst hE
  try dsimp only [H0, I0] at hM0
  intro v22 k23 f24
  obtain ⟨az25, cz25, rfl, rz25, sz25, lz25⟩ := O0.out (r := Wp.int.toRp) f24 (show F2 (Wp.int.R k6) ([] : List (List Value)) ([] : i0) from trivial)
  have hE := Option.some.inj hM0; subst hE
  exact ⟨([.int .i64 0, .slice none 0 0]), az25, (([] : i0)).length, cz25, rfl, (V0 (c64 (by decide) (by decide)) (E0d Wp.int k23)), rz25, ((sx1.trans sX4).trans sz25)⟩
theorem Y9 (h : Hp) (p0 : Int) (ip0 : D0 p0) (ap1 : Option Addr) (np1 cp1 : Nat) (p1 : i0) (rp1 : j0.R h [.slice ap1 np1 cp1] p1) (r : i0 × F0) (hM0 : O4 p0 p1 = some r) :
  Tr Try.prog 48 #[.int .i64 p0, .slice ap1 np1 cp1] h fun v h' => ∃ (a0 : Option Addr) (n0 c0 : Nat) (a1 : Option Addr) (n1 c1 : Nat), v = .tuple #[.slice a0 n0 c0, .slice a1 n1 c1] ∧ j0.R h' [.slice a0 n0 c0] r.1 ∧ J7.R h' [.slice a1 n1 c1] r.2 ∧ Sub h h' := by
 obtain ⟨rfl, lp1⟩ := Sl.len rp1
 unfold O4 at hM0
 refine S2 (args := [.int .i64 p0, .slice ap1 p1.length cp1]) (fn := Try.f48) rfl ?_
 obtain ⟨x1, gx1, hM0⟩ := f0 hM0
 refine Tr.val (B9 _ p0 ip0 ap1 p1.length cp1 p1 rp1 _  gx1) ?_
 refine And.intro (fun hc2 => ?_) (fun hc2 => ?_)
 ·replace hM0 := ifP hM0 hc2
  intro v3 k4 f5
  obtain ⟨az6, cz6, rfl, rz6, sz6, lz6⟩ := O0.out (r := Wp.int.toRp) f5 (show F2 (Wp.int.R h) ([] : List (List Value)) ([] : i0) from trivial)
  intro v7 k8 f9
  obtain ⟨az10, cz10, rfl, rz10, sz10, lz10⟩ := O0.out (r := u0.toRp) f9 (F2.up (r := u0.toRp) sz6 (show F2 (u0.R h) ([] : List (List Value)) ([] : F0) from trivial))
  have hE := Option.some.inj hM0; subst hE
  exact ⟨az6, (([] : i0)).length, cz6, az10, (([] : F0)).length, cz10, rfl, (j0.mono sz10 rz6), rz10, (sz6.trans sz10)⟩
 ·replace hM0 := ifN hM0 hc2
  obtain ⟨x11, gx11, hM0⟩ := f0 hM0
  refine Tr.mono (W00 _ ap1 p1.length cp1 p1 rp1 _  gx11) ?_
  rintro v13 k12 ⟨ax11, nx11, cx11, rfl, rx11, sx11⟩
  obtain ⟨rfl, lx11⟩ := Sl.len rx11
  obtain ⟨X14, hLX14, hM0⟩ := f0 hM0
  refine Exists.intro { vars := [7], boxes := [], owns := [0], fuel := true } (Exists.intro (fun vs os h' => ∃ (au15 : Option Addr) (nu15 cu15 : Nat) (u15 : i0) (wu16 : List (List Value)) (u16 : List z0), vs.tail = [.slice au15 nu15 cu15] ∧ os = [wu16] ∧ Sub k12 h' ∧ j0.R h' [.slice au15 nu15 cu15] u15 ∧ F2 (u0.R h') wu16 u16 ∧ j2 p0 (F1 vs) u15 u16 = some X14) (Exists.intro (fun _ _ => 0) ?_))
  refine And.intro (Exists.intro N0 ⟨ax11, x11.length, cx11, x11, [], ([] : F0), rfl, rfl, (Sub.refl _), rx11, (F2.up (r := u0.toRp) sx11 (show F2 (u0.R h) ([] : List (List Value)) ([] : F0) from trivial)), hLX14⟩) ?_
  rintro v_0 wu16 m18 k17 ⟨au15, nu15, cu15, u15, zzu16, u16, evX14, eoX14, sX14, ru15, fu16, hM1⟩
  cases evX14
  cases eoX14
  replace hM1 : j2 p0 m18 u15 u16 = some X14 := hM1
  obtain _ | m18 := m18
  ·cases (show (none : Option _) = some X14 from hM1)
  rw [j2.eq_2] at hM1
  obtain ⟨rfl, lu15⟩ := Sl.len ru15
  obtain ⟨m19, gm19, hM1⟩ := f0 hM1
  obtain rfl : wu16.length = m19 := (F2.length fu16).trans (Option.some.inj gm19)
  obtain ⟨q20, gq20, hM1⟩ := f0 hM1
  refine And.intro (fun hc21 => ?_) (fun hc21 => ?_)
  ·replace hM1 := ifP hM1 hc21
   obtain ⟨x22, gx22, hM1⟩ := f0 hM1
   refine Tr.mono (o07 _ p0 ip0 au15 u15.length cu15 u15 ru15 _  gx22) ?_
   rintro v24 k23 ⟨csx22_0, ax22_1, nx22_1, cx22_1, rfl, rx22_0, rx22_1, sx22⟩
   obtain ⟨x22_0, x22_1, x22_2⟩ := x22
   dsimp only at hM1 rx22_0 rx22_1
   obtain ⟨x22_0_0, ax22_0_1, nx22_0_1, cx22_0_1, x22_0_1, rfl, rfl, ix22_0_0, rx22_0_1⟩ := v4 rx22_0
   obtain ⟨rfl, lx22_0_1⟩ := Sl.len rx22_0_1
   try dsimp only at hM1
   obtain ⟨rfl, lx22_1⟩ := Sl.len rx22_1
   refine And.intro (fun hc25 => ?_) (fun hc25 => ?_)
   ·replace hM1 := ifP hM1 hc25
    have hE := Option.some.inj hM1; subst hE
    try dsimp only [H0, I0] at hM0
    intro v26 k27 f28
    obtain ⟨az29, cz29, rfl, rz29, sz29, lz29⟩ := O0.out (r := u0.toRp) f28 (F2.up (r := u0.toRp) sx22 fu16)
    have hE := Option.some.inj hM0; subst hE
    exact ⟨au15, u15.length, cu15, az29, u16.length, cz29, rfl, (j0.mono (sx22.trans sz29) ru15), rz29, (((sx11.trans sX14).trans sx22).trans sz29)⟩
   ·replace hM1 := ifN hM1 hc25
    obtain ⟨q30, gq30, hM1⟩ := f0 hM1
    refine And.intro (R0 gq30 (by first | rw [F2.length (F2.up (r := u0.toRp) sx22 fu16), F2.length (show F2 (u0.R k23) ([[.int .i64 x22_0_0, .slice ax22_0_1 x22_0_1.length cx22_0_1]] : List (List Value)) [(x22_0_0, x22_0_1)] from ⟨(V0 ix22_0_0 rx22_0_1), trivial⟩)] | exact congrArg (· + 1) (F2.length (F2.up (r := u0.toRp) sx22 fu16)))) ?_
    refine And.intro rfl (And.intro (by repeat (first | exact trivial | refine And.intro rfl ?_)) (And.intro (by repeat (first | exact trivial | refine And.intro rfl ?_)) (Exists.intro m18 (And.intro ⟨ax22_1, x22_1.length, cx22_1, x22_1, (wu16 ++ ([[.int .i64 x22_0_0, .slice ax22_0_1 x22_0_1.length cx22_0_1]] : List (List Value))), (u16 ++ [(x22_0_0, x22_0_1)]), rfl, rfl, (sX14.trans sx22), rx22_1, (F2.append (F2.up (r := u0.toRp) sx22 fu16) (show F2 (u0.R k23) ([[.int .i64 x22_0_0, .slice ax22_0_1 x22_0_1.length cx22_0_1]] : List (List Value)) [(x22_0_0, x22_0_1)] from ⟨(V0 ix22_0_0 rx22_0_1), trivial⟩)), hM1⟩ (Nat.lt_succ_self _)))))
  ·replace hM1 := ifN hM1 hc21
   have hE := Option.some.inj hM1; subst hE
   try dsimp only [H0, I0] at hM0
   intro v31 k32 f33
   obtain ⟨az34, cz34, rfl, rz34, sz34, lz34⟩ := O0.out (r := u0.toRp) f33 fu16
   have hE := Option.some.inj hM0; subst hE
   exact ⟨au15, u15.length, cu15, az34, u16.length, cz34, rfl, (j0.mono sz34 ru15), rz34, ((sx11.trans sX14).trans sz34)⟩
theorem c04 (h : Hp) (p0 : Int) (ip0 : D0 p0) (ap1 : Option Addr) (np1 cp1 : Nat) (p1 : i0) (rp1 : j0.R h [.slice ap1 np1 cp1] p1) (r : Int) (hM0 : t6 p0 p1 = some r) :
  Tr Try.prog 23 #[.int .i64 p0, .slice ap1 np1 cp1] h fun v h' => v = .int .i64 r ∧ h' = h := by
 obtain ⟨rfl, lp1⟩ := Sl.len rp1
 unfold t6 at hM0
 refine Tr.forget (S2 (args := [.int .i64 p0, .slice ap1 p1.length cp1]) (fn := Try.f23) rfl ?_)
 obtain ⟨x1, gx1, hM0⟩ := f0 hM0
 refine Tr.val (B9 _ p0 ip0 ap1 p1.length cp1 p1 rp1 _  gx1) ?_
 refine And.intro (fun hc2 => ?_) (fun hc2 => ?_)
 ·replace hM0 := ifP hM0 hc2
  have hE := Option.some.inj hM0; subst hE
  exact And.intro rfl (Sub.refl _)
 ·replace hM0 := ifN hM0 hc2
  obtain ⟨x3, gx3, hM0⟩ := f0 hM0
  refine Tr.mono (Y9 _ p0 ip0 ap1 p1.length cp1 p1 rp1 _  gx3) ?_
  rintro v5 k4 ⟨ax3_0, nx3_0, cx3_0, ax3_1, nx3_1, cx3_1, rfl, rx3_0, rx3_1, sx3⟩
  obtain ⟨x3_0, x3_1⟩ := x3
  dsimp only at hM0 rx3_0 rx3_1
  obtain ⟨rfl, lx3_0⟩ := Sl.len rx3_0
  obtain ⟨rfl, lx3_1⟩ := Sl.len rx3_1
  have hE := Option.some.inj hM0; subst hE
  exact And.intro rfl sx3
theorem d04 (h : Hp) (p0 : Int) (ip0 : D0 p0) (ap1 : Option Addr) (np1 cp1 : Nat) (p1 : i0) (rp1 : j0.R h [.slice ap1 np1 cp1] p1) (r : Bool) (hM0 : w6 p0 p1 = some r) :
  Tr Try.prog 24 #[.int .i64 p0, .slice ap1 np1 cp1] h fun v h' => v = .bool r ∧ h' = h := by
 obtain ⟨rfl, lp1⟩ := Sl.len rp1
 unfold w6 at hM0
 refine Tr.forget (S2 (args := [.int .i64 p0, .slice ap1 p1.length cp1]) (fn := Try.f24) rfl ?_)
 obtain ⟨x1, gx1, hM0⟩ := f0 hM0
 refine Tr.mono (Y9 _ p0 ip0 ap1 p1.length cp1 p1 rp1 _  gx1) ?_
 rintro v3 k2 ⟨ax1_0, nx1_0, cx1_0, ax1_1, nx1_1, cx1_1, rfl, rx1_0, rx1_1, sx1⟩
 obtain ⟨x1_0, x1_1⟩ := x1
 dsimp only at hM0 rx1_0 rx1_1
 obtain ⟨rfl, lx1_0⟩ := Sl.len rx1_0
 obtain ⟨rfl, lx1_1⟩ := Sl.len rx1_1
 have hE := Option.some.inj hM0; subst hE
 exact And.intro rfl sx1
theorem s03 (h : Hp) (p0 : Int) (ip0 : D0 p0) (ap1 : Option Addr) (np1 cp1 : Nat) (p1 : i0) (rp1 : j0.R h [.slice ap1 np1 cp1] p1) (r : i0) (hM0 : T5 p0 p1 = some r) :
  Tr Try.prog 49 #[.int .i64 p0, .slice ap1 np1 cp1] h fun v h' => ∃ (a0 : Option Addr) (n0 c0 : Nat), v = .slice a0 n0 c0 ∧ j0.R h' [.slice a0 n0 c0] r ∧ Sub h h' := by
 obtain ⟨rfl, lp1⟩ := Sl.len rp1
 unfold T5 at hM0
 refine S2 (args := [.int .i64 p0, .slice ap1 p1.length cp1]) (fn := Try.f49) rfl ?_
 obtain ⟨x1, gx1, hM0⟩ := f0 hM0
 refine Tr.val (U3 _ p0 ip0 1 (c64 (by decide) (by decide)) 3 (c64 (by decide) (by decide)) _  gx1) ?_
 refine And.intro (fun hc2 => ?_) (fun hc2 => ?_)
 ·replace hM0 := ifP hM0 hc2
  intro v3 k4 f5
  obtain ⟨az6, cz6, rfl, rz6, sz6, lz6⟩ := O0.out (r := Wp.int.toRp) f5 (show F2 (Wp.int.R h) ([] : List (List Value)) ([] : i0) from trivial)
  have hE := Option.some.inj hM0; subst hE
  exact ⟨az6, (([] : i0)).length, cz6, rfl, rz6, sz6⟩
 ·replace hM0 := ifN hM0 hc2
  obtain ⟨q7, gq7, hM0⟩ := f0 hM0
  refine And.intro (l0 gq7) ?_
  obtain ⟨X8, hLX8, hM0⟩ := f0 hM0
  refine Exists.intro { vars := [16], boxes := [], owns := [0], fuel := true, kept := [0] } (Exists.intro (fun vs os h' => ∃ (u9 : Int) (wu10 : List (List Value)) (u10 : List Int), vs.tail = [.int .i64 u9] ∧ os = [wu10] ∧ Sub h h' ∧ D0 u9 ∧ F2 (Wp.int.R h') wu10 u10 ∧ E1 p1 p0 (F1 vs) u9 u10 = some X8) (Exists.intro (fun _ _ => 0) ?_))
  refine And.intro (Exists.intro N0 ⟨0, (List.replicate p0.toNat ([.int .i64 0] : List Value)), (List.replicate p0.toNat (0 : Int)), rfl, rfl, (Sub.refl _), (c64 (by decide) (by decide)), (F2.rep (p := Wp.int.R h) (a := [.int .i64 0]) (b := 0) ⟨rfl, (c64 (by decide) (by decide))⟩ (p0.toNat)), hLX8⟩) ?_
  rintro v_0 wu10 m12 k11 ⟨u9, zzu10, u10, evX8, eoX8, sX8, iu9, fu10, hM1⟩
  cases evX8
  cases eoX8
  replace hM1 : E1 p1 p0 m12 u9 u10 = some X8 := hM1
  obtain _ | m12 := m12
  ·cases (show (none : Option _) = some X8 from hM1)
  rw [E1.eq_2] at hM1
  refine And.intro (fun hc13 => ?_) (fun hc13 => ?_)
  ·replace hM1 := ifP hM1 hc13
   obtain ⟨x14, gx14, hM1⟩ := f0 hM1
   obtain ⟨bx14, csx14, ex14, rx14⟩ := Sl.getI (r := Wp.int.toRp) (j0.mono sX8 rp1) gx14 (by decide)
   refine And.intro bx14 ?_
   obtain ⟨rfl, ix14⟩ := rx14
   refine Exists.intro _ (And.intro ex14 ?_)
   obtain ⟨x15, gx15, hM1⟩ := f0 hM1
   refine Tr.val (U3 _ x14 ix14 1 (c64 (by decide) (by decide)) p0 ip0 _  gx15) ?_
   refine And.intro (fun hc16 => ?_) (fun hc16 => ?_)
   ·replace hM1 := ifP hM1 hc16
    obtain ⟨x17, gx17, hM1⟩ := f0 hM1
    obtain ⟨bx17, csx17, ex17, rx17⟩ := j5 fu10 gx17
    refine And.intro bx17 ?_
    obtain ⟨rfl, ix17⟩ := rx17
    refine Exists.intro _ (And.intro ex17 ?_)
    obtain ⟨x18, gx18, hM1⟩ := f0 hM1
    obtain ⟨bx18, csx18, ex18, rx18⟩ := j5 fu10 gx18
    refine And.intro bx18 ?_
    obtain ⟨rfl, ix18⟩ := rx18
    refine Exists.intro _ (And.intro ex18 ?_)
    refine And.intro rfl (And.intro (by repeat (first | exact trivial | refine And.intro rfl ?_)) (And.intro (by repeat (first | exact trivial | refine And.intro rfl ?_)) (Exists.intro m12 (And.intro ⟨(IntKind.i64.wrap (u9 + 1)), (wu10.set (IntKind.i64.wrap (x14 - 1)).toNat [.int .i64 (IntKind.i64.wrap (x17 + 1))]), (u10.set (IntKind.i64.wrap (x14 - 1)).toNat (IntKind.i64.wrap (x17 + 1))), rfl, rfl, sX8, (B0 _), (F2.set (p := Wp.int.R k11) (a := [.int .i64 (IntKind.i64.wrap (x17 + 1))]) (b := (IntKind.i64.wrap (x17 + 1))) ⟨rfl, (B0 _)⟩ (IntKind.i64.wrap (x14 - 1)).toNat fu10), hM1⟩ (Nat.lt_succ_self _)))))
   ·replace hM1 := ifN hM1 hc16
    obtain ⟨x19, gx19, hM1⟩ := f0 hM1
    refine Tr.val (U3 _ x14 ix14 (IntKind.i64.wrap (0 - p0)) (B0 _) (-1) (c64 (by decide) (by decide)) _  gx19) ?_
    refine And.intro (fun hc20 => ?_) (fun hc20 => ?_)
    ·replace hM1 := ifP hM1 hc20
     obtain ⟨x21, gx21, hM1⟩ := f0 hM1
     obtain ⟨bx21, csx21, ex21, rx21⟩ := j5 fu10 gx21
     refine And.intro bx21 ?_
     obtain ⟨rfl, ix21⟩ := rx21
     refine Exists.intro _ (And.intro ex21 ?_)
     obtain ⟨x22, gx22, hM1⟩ := f0 hM1
     obtain ⟨bx22, csx22, ex22, rx22⟩ := j5 fu10 gx22
     refine And.intro bx22 ?_
     obtain ⟨rfl, ix22⟩ := rx22
     refine Exists.intro _ (And.intro ex22 ?_)
     refine And.intro rfl (And.intro (by repeat (first | exact trivial | refine And.intro rfl ?_)) (And.intro (by repeat (first | exact trivial | refine And.intro rfl ?_)) (Exists.intro m12 (And.intro ⟨(IntKind.i64.wrap (u9 + 1)), (wu10.set (IntKind.i64.wrap ((IntKind.i64.wrap (0 - x14)) - 1)).toNat [.int .i64 (IntKind.i64.wrap (x21 - 1))]), (u10.set (IntKind.i64.wrap ((IntKind.i64.wrap (0 - x14)) - 1)).toNat (IntKind.i64.wrap (x21 - 1))), rfl, rfl, sX8, (B0 _), (F2.set (p := Wp.int.R k11) (a := [.int .i64 (IntKind.i64.wrap (x21 - 1))]) (b := (IntKind.i64.wrap (x21 - 1))) ⟨rfl, (B0 _)⟩ (IntKind.i64.wrap ((IntKind.i64.wrap (0 - x14)) - 1)).toNat fu10), hM1⟩ (Nat.lt_succ_self _)))))
    ·replace hM1 := ifN hM1 hc20
     refine And.intro rfl (And.intro (by repeat (first | exact trivial | refine And.intro rfl ?_)) (And.intro (by repeat (first | exact trivial | refine And.intro rfl ?_)) (Exists.intro m12 (And.intro ⟨(IntKind.i64.wrap (u9 + 1)), wu10, u10, rfl, rfl, sX8, (B0 _), fu10, hM1⟩ (Nat.lt_succ_self _)))))
  ·replace hM1 := ifN hM1 hc13
   have hE := Option.some.inj hM1; subst hE
   try dsimp only [H0, I0] at hM0
   intro v23 k24 f25
   obtain ⟨az26, cz26, rfl, rz26, sz26, lz26⟩ := O0.out (r := Wp.int.toRp) f25 fu10
   have hE := Option.some.inj hM0; subst hE
   exact ⟨az26, u10.length, cz26, rfl, rz26, (sX8.trans sz26)⟩
theorem F01 (h : Hp) (p0 : Int) (ip0 : D0 p0) (ap1 : Option Addr) (np1 cp1 : Nat) (p1 : i0) (rp1 : j0.R h [.slice ap1 np1 cp1] p1) (r : Bool) (hM0 : X5 p0 p1 = some r) :
  Tr Try.prog 25 #[.int .i64 p0, .slice ap1 np1 cp1] h fun v h' => v = .bool r ∧ h' = h := by
 obtain ⟨rfl, lp1⟩ := Sl.len rp1
 unfold X5 at hM0
 refine Tr.forget (S2 (args := [.int .i64 p0, .slice ap1 p1.length cp1]) (fn := Try.f25) rfl ?_)
 obtain ⟨x1, gx1, hM0⟩ := f0 hM0
 refine Tr.val (B9 _ p0 ip0 ap1 p1.length cp1 p1 rp1 _  gx1) ?_
 refine And.intro (fun hc2 => ?_) (fun hc2 => ?_)
 ·replace hM0 := ifP hM0 hc2
  have hE := Option.some.inj hM0; subst hE
  exact And.intro rfl (Sub.refl _)
 ·replace hM0 := ifN hM0 hc2
  obtain ⟨x3, gx3, hM0⟩ := f0 hM0
  refine Tr.mono (s03 _ p0 ip0 ap1 p1.length cp1 p1 rp1 _  gx3) ?_
  rintro v5 k4 ⟨ax3, nx3, cx3, rfl, rx3, sx3⟩
  obtain ⟨rfl, lx3⟩ := Sl.len rx3
  obtain ⟨X6, hLX6, hM0⟩ := f0 hM0
  refine Exists.intro { vars := [15], boxes := [], owns := [], fuel := true } (Exists.intro (fun vs os h' => ∃ (u7 : Int), vs.tail = [.int .i64 u7] ∧ os = [] ∧ Sub k4 h' ∧ D0 u7 ∧ w3 x3 (F1 vs) u7 = some X6) (Exists.intro (fun _ _ => 0) ?_))
  refine And.intro (Exists.intro N0 ⟨0, rfl, rfl, (Sub.refl _), (c64 (by decide) (by decide)), hLX6⟩) ?_
  rintro v_0 m9 k8 ⟨u7, evX6, eoX6, sX6, iu7, hM1⟩
  cases evX6
  cases eoX6
  replace hM1 : w3 x3 m9 u7 = some X6 := hM1
  obtain _ | m9 := m9
  ·cases (show (none : Option _) = some X6 from hM1)
  rw [w3.eq_2] at hM1
  refine And.intro (fun hc10 => ?_) (fun hc10 => ?_)
  ·replace hM1 := ifP hM1 hc10
   obtain ⟨x11, gx11, hM1⟩ := f0 hM1
   obtain ⟨bx11, csx11, ex11, rx11⟩ := Sl.getI (r := Wp.int.toRp) (j0.mono sX6 rx3) gx11 (by decide)
   refine And.intro bx11 ?_
   obtain ⟨rfl, ix11⟩ := rx11
   refine Exists.intro _ (And.intro ex11 ?_)
   refine And.intro (fun hc12 => ?_) (fun hc12 => ?_)
   ·replace hM1 := ifP hM1 hc12
    have hE := Option.some.inj hM1; subst hE
    try dsimp only [D4, E4] at hM0
    have hE := Option.some.inj hM0; subst hE
    exact And.intro rfl (sx3.trans sX6)
   ·replace hM1 := ifN hM1 hc12
    refine And.intro rfl (And.intro (by repeat (first | exact trivial | refine And.intro rfl ?_)) (And.intro (by repeat (first | exact trivial | refine And.intro rfl ?_)) (Exists.intro m9 (And.intro ⟨(IntKind.i64.wrap (u7 + 1)), rfl, rfl, sX6, (B0 _), hM1⟩ (Nat.lt_succ_self _)))))
  ·replace hM1 := ifN hM1 hc10
   have hE := Option.some.inj hM1; subst hE
   try dsimp only [H0, I0] at hM0
   have hE := Option.some.inj hM0; subst hE
   exact And.intro rfl (sx3.trans sX6)
end Go.Proofs.Ytknoadmdnjaocaa
