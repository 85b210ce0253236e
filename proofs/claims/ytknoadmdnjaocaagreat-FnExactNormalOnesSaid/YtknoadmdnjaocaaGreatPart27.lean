/- Texts of the claim, joined: The walks of batch i1; The walks of batch b1; The walks of batch m1; The walks of batch g2; The walks of batch g3; The walks of batch g4; The walks of batch h3; The walks of batch i2. -/
import Derived.Test.YtknoadmdnjaocaaGreatPart18
import Derived.Test.YtknoadmdnjaocaaGreatChecked
import Derived.Test.YtknoadmdnjaocaaGreatH35
import Derived.Test.YtknoadmdnjaocaaGreatPart25
import Derived.Test.YtknoadmdnjaocaaGreatPart21
import Derived.Test.YtknoadmdnjaocaaGreatPart17
import Derived.Test.YtknoadmdnjaocaaGreatH36
import Derived.Test.YtknoadmdnjaocaaGreatSE
import Derived.Test.YtknoadmdnjaocaaGreatH40
import Derived.Test.YtknoadmdnjaocaaGreatH41
namespace Go.Proofs.YtknoadmdnjaocaaGreat
open Go.H
set_option linter.unusedVariables false
set_option linter.unusedSimpArgs false
set_option maxRecDepth 10000
theorem N07 (h : Hp) (csp0 : List Value) (p0 : j0) (rp0 : S0.R h csp0 p0) (r : j0 × D0) (hM0 : n8 p0 = some r) :
  Tr Tryz.prog 256 #[.agg csp0.toArray] h fun v h' => ∃ (cs0 : List Value) (a1 : Option Addr) (n1 c1 : Nat), v = .tuple #[.agg cs0.toArray, .slice a1 n1 c1] ∧ S0.R h' cs0 r.1 ∧ D1.R h' [.slice a1 n1 c1] r.2 ∧ Sub h h' := by
 obtain ⟨p0_0, p0_1, ap0_2, np0_2, cp0_2, p0_2, rfl, rfl, ip0_0, ip0_1, rp0_2⟩ := B0 rp0
 obtain ⟨rfl, lp0_2⟩ := Sl.len rp0_2
 unfold n8 at hM0
 dsimp only at hM0
 refine j3 (args := [.agg #[.int .i64 p0_0, .int .i64 p0_1, .slice ap0_2 p0_2.length cp0_2]]) (fn := Tryz.f256) rfl ?_
 obtain ⟨x1, gx1, hM0⟩ := l0 hM0
 refine Tr.mono (B7 _ [.int .i64 p0_0, .int .i64 p0_1, .slice ap0_2 p0_2.length cp0_2] (p0_0, p0_1, p0_2) (z0 ip0_0 ip0_1 rp0_2) _  gx1) ?_
 rintro v3 k2 ⟨csx1, rfl, rx1, sx1⟩
 obtain ⟨x1_0, x1_1, ax1_2, nx1_2, cx1_2, x1_2, rfl, rfl, ix1_0, ix1_1, rx1_2⟩ := B0 rx1
 obtain ⟨rfl, lx1_2⟩ := Sl.len rx1_2
 try dsimp only at hM0
 obtain ⟨X4, hLX4, hM0⟩ := l0 hM0
 refine Exists.intro { vars := [6], boxes := [], owns := [0], fuel := true } (Exists.intro (fun vs os h' => ∃ (u5 : Int) (wu6 : List (List Value)) (u6 : List Int), vs.tail = [.int .i64 u5] ∧ os = [wu6] ∧ Sub k2 h' ∧ N0 u5 ∧ F2 (Wp.int.R h') wu6 u6 ∧ R4 p0_1 p0_0 p0_2 (Y1 vs) u5 u6 = some X4) (Exists.intro (fun _ _ => 0) ?_))
 refine And.intro (Exists.intro U0 ⟨0, [], ([] : D0), rfl, rfl, (Sub.refl _), (c64 (by decide) (by decide)), (show F2 (Wp.int.R k2) ([] : List (List Value)) ([] : D0) from trivial), hLX4⟩) ?_
 rintro v_0 wu6 m8 k7 ⟨u5, zzu6, u6, evX4, eoX4, sX4, iu5, fu6, hM1⟩
 cases evX4
 cases eoX4
 replace hM1 : R4 p0_1 p0_0 p0_2 m8 u5 u6 = some X4 := hM1
 obtain _ | m8 := m8
 ·cases (show (none : Option _) = some X4 from hM1)
 rw [R4.eq_2] at hM1
 obtain ⟨x9, gx9, hM1⟩ := l0 hM1
 refine Exists.intro (.bool x9) (And.intro (fun q => c7 _ [.int .i64 p0_0, .int .i64 p0_1, .slice ap0_2 p0_2.length cp0_2] (p0_0, p0_1, p0_2) (z0 ip0_0 ip0_1 (J0.mono (sx1.trans sX4) rp0_2)) _  (E2 gx9 q)) ?_)
 refine And.intro (fun hc10 => ?_) (fun hc10 => ?_)
 ·replace hM1 := ifP hM1 hc10
  obtain ⟨q11, gq11, hM1⟩ := l0 hM1
  refine And.intro (N1 gq11 (by first | rw [F2.length fu6, F2.length (show F2 (Wp.int.R k7) ([[.int .i64 u5]] : List (List Value)) [u5] from ⟨⟨rfl, iu5⟩, trivial⟩)] | exact congrArg (· + 1) (F2.length fu6))) ?_
  refine And.intro rfl (And.intro (by repeat (first | exact trivial | refine And.intro rfl ?_)) (And.intro (by repeat (first | exact trivial | refine And.intro rfl ?_)) (Exists.intro m8 (And.intro ⟨(IntKind.i64.wrap (u5 + 1)), (wu6 ++ ([[.int .i64 u5]] : List (List Value))), (u6 ++ [u5]), rfl, rfl, sX4, (M0 _), (F2.append fu6 (show F2 (Wp.int.R k7) ([[.int .i64 u5]] : List (List Value)) [u5] from ⟨⟨rfl, iu5⟩, trivial⟩)), hM1⟩ (Nat.lt_succ_self _)))))
 ·replace hM1 := ifN hM1 hc10
  have hE := Option.some.inj hM1; subst hE
  try dsimp only [Y0, Z0] at hM0
  obtain ⟨X16, hLX16, hM0⟩ := l0 hM0
  refine Exists.intro { vars := [5, 7], boxes := [2], owns := [], fuel := true, pubs := [5] } (Exists.intro (fun vs os h' => ∃ (au17 : Option Addr) (nu17 cu17 : Nat) (u17 : D0) (u18 : Int) (u19 : Int) (u20 : Int) (au21 : Option Addr) (nu21 cu21 : Nat) (u21 : I0), vs.tail = [.slice au17 nu17 cu17, .int .i64 u18, .int .i64 u19, .int .i64 u20, .slice au21 nu21 cu21] ∧ os = [] ∧ Sub k7 h' ∧ D1.R h' [.slice au17 nu17 cu17] u17 ∧ N0 u18 ∧ N0 u19 ∧ N0 u20 ∧ J0.R h' [.slice au21 nu21 cu21] u21 ∧ Q4 p0_0 p0_1 p0_2 (Y1 vs) u17 u18 u19 u20 u21 = some X16) (Exists.intro (fun _ _ => 0) ?_))
  intro v12 k13 f14
  obtain ⟨az15, cz15, rfl, rz15, sz15, lz15⟩ := Q0.out (r := Wp.int.toRp) f14 fu6
  refine And.intro (Exists.intro U0 ⟨az15, u6.length, cz15, u6, 0, x1_0, x1_1, ax1_2, x1_2.length, cx1_2, x1_2, rfl, rfl, sz15, rz15, (c64 (by decide) (by decide)), ix1_0, ix1_1, (J0.mono (sX4.trans sz15) rx1_2), hLX16⟩) ?_
  rintro v_0 v_1 v_2 v_3 v_4 m23 k22 ⟨au17, nu17, cu17, u17, u18, u19, u20, au21, nu21, cu21, u21, evX16, eoX16, sX16, ru17, iu18, iu19, iu20, ru21, hM1⟩
  cases evX16
  cases eoX16
  replace hM1 : Q4 p0_0 p0_1 p0_2 m23 u17 u18 u19 u20 u21 = some X16 := hM1
  obtain _ | m23 := m23
  ·cases (show (none : Option _) = some X16 from hM1)
  rw [Q4.eq_2] at hM1
  obtain ⟨rfl, lu17⟩ := Sl.len ru17
  obtain ⟨rfl, lu21⟩ := Sl.len ru21
  obtain ⟨x24, gx24, hM1⟩ := l0 hM1
  refine Exists.intro (.bool x24) (And.intro (fun q => c7 _ [.int .i64 p0_0, .int .i64 p0_1, .slice ap0_2 p0_2.length cp0_2] (p0_0, p0_1, p0_2) (z0 ip0_0 ip0_1 (J0.mono ((sx1.trans sX4).trans sX16) rp0_2)) _  (E2 gx24 q)) ?_)
  refine And.intro (fun hc25 => ?_) (fun hc25 => ?_)
  ·replace hM1 := ifP hM1 hc25
   obtain ⟨x26, gx26, hM1⟩ := l0 hM1
   refine Tr.val (n05 _ [.int .i64 u19, .int .i64 u20, .slice au21 u21.length cu21] (u19, u20, u21) (z0 iu19 iu20 ru21) _  gx26) ?_
   obtain ⟨q27, gq27, hM1⟩ := l0 hM1
   have ix26 : N0 x26 := B3 gq27
   refine And.intro (fun hc28 => ?_) (fun hc28 => ?_)
   ·replace hM1 := ifP hM1 hc28
    have hE := Option.some.inj hM1; subst hE
    try dsimp only [P6, Q6] at hM0
    have hE := Option.some.inj hM0; subst hE
    exact ⟨([.int .i64 u19, .int .i64 u20, .slice au21 u21.length cu21]), au17, u17.length, cu17, rfl, (z0 iu19 iu20 ru21), ru17, ((sx1.trans sX4).trans sX16)⟩
   ·replace hM1 := ifN hM1 hc28
    obtain ⟨X29, hLX29, hM1⟩ := l0 hM1
    refine Exists.intro { vars := [11], boxes := [], owns := [1, 2], fuel := true } (Exists.intro (fun vs os h' => ∃ (u30 : Int) (wu31 : List (List Value)) (u31 : List Int) (wu32 : List (List Value)) (u32 : List Int), vs.tail = [.int .i64 u30] ∧ os = [wu31, wu32] ∧ Sub k22 h' ∧ N0 u30 ∧ F2 (Wp.int.R h') wu31 u31 ∧ F2 (Wp.int.R h') wu32 u32 ∧ A4 u20 x26 u17 (Y1 vs) u30 u31 u32 = some X29) (Exists.intro (fun _ _ => 0) ?_))
    refine And.intro (Exists.intro U0 ⟨0, [], ([] : D0), [], ([] : D0), rfl, rfl, (Sub.refl _), (c64 (by decide) (by decide)), (show F2 (Wp.int.R k22) ([] : List (List Value)) ([] : D0) from trivial), (show F2 (Wp.int.R k22) ([] : List (List Value)) ([] : D0) from trivial), hLX29⟩) ?_
    rintro v_0 wu31 wu32 m34 k33 ⟨u30, zzu31, u31, zzu32, u32, evX29, eoX29, sX29, iu30, fu31, fu32, hM2⟩
    cases evX29
    cases eoX29
    replace hM2 : A4 u20 x26 u17 m34 u30 u31 u32 = some X29 := hM2
    obtain _ | m34 := m34
    ·cases (show (none : Option _) = some X29 from hM2)
    rw [A4.eq_2] at hM2
    refine And.intro (fun hc35 => ?_) (fun hc35 => ?_)
    ·replace hM2 := ifP hM2 hc35
     refine And.intro (fun hc36 => ?_) (fun hc36 => ?_)
     ·replace hM2 := ifP hM2 hc36
      obtain ⟨q37, gq37, hM2⟩ := l0 hM2
      refine And.intro (N1 gq37 (by first | rw [F2.length fu31, F2.length (show F2 (Wp.int.R k33) ([[.int .i64 u30]] : List (List Value)) [u30] from ⟨⟨rfl, iu30⟩, trivial⟩)] | exact congrArg (· + 1) (F2.length fu31))) ?_
      obtain ⟨x38, gx38, hM2⟩ := l0 hM2
      obtain ⟨bx38, csx38, ex38, rx38⟩ := Sl.getI (r := Wp.int.toRp) (D1.mono sX29 ru17) gx38 (by decide)
      refine And.intro bx38 ?_
      obtain ⟨rfl, ix38⟩ := rx38
      refine Exists.intro _ (And.intro ex38 ?_)
      obtain ⟨q39, gq39, hM2⟩ := l0 hM2
      refine And.intro (N1 gq39 (by first | rw [F2.length fu32, F2.length (show F2 (Wp.int.R k33) ([[.int .i64 x38]] : List (List Value)) [x38] from ⟨⟨rfl, ix38⟩, trivial⟩)] | exact congrArg (· + 1) (F2.length fu32))) ?_
      refine And.intro rfl (And.intro (by repeat (first | exact trivial | refine And.intro rfl ?_)) (And.intro (by repeat (first | exact trivial | refine And.intro rfl ?_)) (Exists.intro m34 (And.intro ⟨(IntKind.i64.wrap (u30 + 1)), (wu31 ++ ([[.int .i64 u30]] : List (List Value))), (u31 ++ [u30]), (wu32 ++ ([[.int .i64 x38]] : List (List Value))), (u32 ++ [x38]), rfl, rfl, sX29, (M0 _), (F2.append fu31 (show F2 (Wp.int.R k33) ([[.int .i64 u30]] : List (List Value)) [u30] from ⟨⟨rfl, iu30⟩, trivial⟩)), (F2.append fu32 (show F2 (Wp.int.R k33) ([[.int .i64 x38]] : List (List Value)) [x38] from ⟨⟨rfl, ix38⟩, trivial⟩)), hM2⟩ (Nat.lt_succ_self _)))))
     ·replace hM2 := ifN hM2 hc36
      refine And.intro rfl (And.intro (by repeat (first | exact trivial | refine And.intro rfl ?_)) (And.intro (by repeat (first | exact trivial | refine And.intro rfl ?_)) (Exists.intro m34 (And.intro ⟨(IntKind.i64.wrap (u30 + 1)), wu31, u31, wu32, u32, rfl, rfl, sX29, (M0 _), fu31, fu32, hM2⟩ (Nat.lt_succ_self _)))))
    ·replace hM2 := ifN hM2 hc35
     have hE := Option.some.inj hM2; subst hE
     try dsimp only [Y0, Z0] at hM1
     refine Or.inl ?_
     intro v40 k41 f42
     obtain ⟨az43, cz43, rfl, rz43, sz43, lz43⟩ := Q0.out (r := Wp.int.toRp) f42 fu31
     obtain ⟨x44, gx44, hM1⟩ := l0 hM1
     refine Tr.mono (H9 _ [.int .i64 u19, .int .i64 u20, .slice au21 u21.length cu21] (u19, u20, u21) (z0 iu19 iu20 (J0.mono (sX29.trans sz43) ru21)) az43 u31.length cz43 u31 rz43 _  gx44) ?_
     rintro v46 k45 ⟨csx44_0, rfl, rx44_0, sx44⟩
     obtain ⟨x44_0, x44_1⟩ := x44
     dsimp only at hM1 rx44_0
     obtain ⟨x44_0_0, x44_0_1, ax44_0_2, nx44_0_2, cx44_0_2, x44_0_2, rfl, rfl, ix44_0_0, ix44_0_1, rx44_0_2⟩ := B0 rx44_0
     obtain ⟨rfl, lx44_0_2⟩ := Sl.len rx44_0_2
     try dsimp only at hM1
     intro v47 k48 f49
     obtain ⟨az50, cz50, rfl, rz50, sz50, lz50⟩ := Q0.out (r := Wp.int.toRp) f49 (F2.up (r := Wp.int.toRp) (sz43.trans sx44) fu32)
     refine And.intro rfl (And.intro (by repeat (first | exact trivial | refine And.intro rfl ?_)) (And.intro (by repeat (first | exact trivial | refine And.intro rfl ?_)) (Exists.intro m23 (And.intro ⟨az50, u32.length, cz50, u32, (IntKind.i64.wrap (u18 + 1)), x44_0_0, x44_0_1, ax44_0_2, x44_0_2.length, cx44_0_2, x44_0_2, rfl, rfl, ((((sX16.trans sX29).trans sz43).trans sx44).trans sz50), rz50, (M0 _), ix44_0_0, ix44_0_1, (J0.mono sz50 rx44_0_2), hM1⟩ (Nat.lt_succ_self _)))))
  ·replace hM1 := ifN hM1 hc25
   have hE := Option.some.inj hM1; subst hE
   try dsimp only [Y0, Z0] at hM0
   have hE := Option.some.inj hM0; subst hE
   exact ⟨([.int .i64 u19, .int .i64 u20, .slice au21 u21.length cu21]), au17, u17.length, cu17, rfl, (z0 iu19 iu20 ru21), ru17, ((sx1.trans sX4).trans sX16)⟩
theorem O07 (h : Hp) (csp0 : List Value) (p0 : j0) (rp0 : S0.R h csp0 p0) (r : j0) (hM0 : o8 p0 = some r) :
  Tr Tryz.prog 173 #[.agg csp0.toArray] h fun v h' => ∃ (cs0 : List Value), v = .agg cs0.toArray ∧ S0.R h' cs0 r ∧ Sub h h' := by
 obtain ⟨p0_0, p0_1, ap0_2, np0_2, cp0_2, p0_2, rfl, rfl, ip0_0, ip0_1, rp0_2⟩ := B0 rp0
 obtain ⟨rfl, lp0_2⟩ := Sl.len rp0_2
 unfold o8 at hM0
 dsimp only at hM0
 refine j3 (args := [.agg #[.int .i64 p0_0, .int .i64 p0_1, .slice ap0_2 p0_2.length cp0_2]]) (fn := Tryz.f173) rfl ?_
 obtain ⟨x1, gx1, hM0⟩ := l0 hM0
 refine Tr.mono (z0a _ [.int .i64 p0_0, .int .i64 p0_1, .slice ap0_2 p0_2.length cp0_2] (p0_0, p0_1, p0_2) (z0 ip0_0 ip0_1 rp0_2) _  gx1) ?_
 rintro v3 k2 ⟨csx1_0, ax1_1, nx1_1, cx1_1, rfl, rx1_0, rx1_1, sx1⟩
 obtain ⟨x1_0, x1_1⟩ := x1
 dsimp only at hM0 rx1_0 rx1_1
 obtain ⟨x1_0_0, x1_0_1, ax1_0_2, nx1_0_2, cx1_0_2, x1_0_2, rfl, rfl, ix1_0_0, ix1_0_1, rx1_0_2⟩ := B0 rx1_0
 obtain ⟨rfl, lx1_0_2⟩ := Sl.len rx1_0_2
 try dsimp only at hM0
 obtain ⟨rfl, lx1_1⟩ := Sl.len rx1_1
 obtain ⟨x4, gx4, hM0⟩ := l0 hM0
 refine Tr.mono (N07 _ [.int .i64 x1_0_0, .int .i64 x1_0_1, .slice ax1_0_2 x1_0_2.length cx1_0_2] (x1_0_0, x1_0_1, x1_0_2) (z0 ix1_0_0 ix1_0_1 rx1_0_2) _  gx4) ?_
 rintro v6 k5 ⟨csx4_0, ax4_1, nx4_1, cx4_1, rfl, rx4_0, rx4_1, sx4⟩
 obtain ⟨x4_0, x4_1⟩ := x4
 dsimp only at hM0 rx4_0 rx4_1
 obtain ⟨x4_0_0, x4_0_1, ax4_0_2, nx4_0_2, cx4_0_2, x4_0_2, rfl, rfl, ix4_0_0, ix4_0_1, rx4_0_2⟩ := B0 rx4_0
 obtain ⟨rfl, lx4_0_2⟩ := Sl.len rx4_0_2
 try dsimp only at hM0
 obtain ⟨rfl, lx4_1⟩ := Sl.len rx4_1
 obtain ⟨x7, gx7, hM0⟩ := l0 hM0
 refine Tr.mono (L00 _ [.int .i64 x4_0_0, .int .i64 x4_0_1, .slice ax4_0_2 x4_0_2.length cx4_0_2] (x4_0_0, x4_0_1, x4_0_2) (z0 ix4_0_0 ix4_0_1 rx4_0_2) _  gx7) ?_
 rintro v9 k8 ⟨csx7, rfl, rx7, sx7⟩
 obtain ⟨x7_0, x7_1, ax7_2, nx7_2, cx7_2, x7_2, rfl, rfl, ix7_0, ix7_1, rx7_2⟩ := B0 rx7
 obtain ⟨rfl, lx7_2⟩ := Sl.len rx7_2
 try dsimp only at hM0
 have hE := Option.some.inj hM0; subst hE
 exact ⟨([.int .i64 x7_0, .int .i64 x7_1, .slice ax7_2 x7_2.length cx7_2]), rfl, (z0 ix7_0 ix7_1 rx7_2), ((sx1.trans sx4).trans sx7)⟩
end Go.Proofs.YtknoadmdnjaocaaGreat
namespace Go.Proofs.YtknoadmdnjaocaaGreat
open Go.H
set_option linter.unusedVariables false
set_option linter.unusedSimpArgs false
set_option maxRecDepth 10000
theorem g01 (h : Hp) (csp0 : List Value) (p0 : j0) (rp0 : S0.R h csp0 p0) (r : Bool) (hM0 : Q5 p0 = some r) :
  Tr Tryz.prog 181 #[.agg csp0.toArray] h fun v h' => v = .bool r ∧ h' = h := by
 obtain ⟨p0_0, p0_1, ap0_2, np0_2, cp0_2, p0_2, rfl, rfl, ip0_0, ip0_1, rp0_2⟩ := B0 rp0
 obtain ⟨rfl, lp0_2⟩ := Sl.len rp0_2
 unfold Q5 at hM0
 dsimp only at hM0
 refine Tr.forget (j3 (args := [.agg #[.int .i64 p0_0, .int .i64 p0_1, .slice ap0_2 p0_2.length cp0_2]]) (fn := Tryz.f181) rfl ?_)
 refine And.intro (by kernel_rfl) ?_
 obtain ⟨x1, gx1, hM0⟩ := l0 hM0
 refine Or.inl (Exists.intro (.val (.bool x1)) (And.intro ?_ ?_))
 ·intro k2 s3
  exact Tr.val (o02 _ [.int .i64 p0_0, .int .i64 p0_1, .slice ap0_2 p0_2.length cp0_2] (p0_0, p0_1, p0_2) (z0 ip0_0 ip0_1 (J0.mono s3 rp0_2)) _ gx1) (And.intro rfl (And.intro rfl rfl))
 obtain ⟨x4, gx4, hM0⟩ := l0 hM0
 refine Or.inr (Exists.intro (fun v hh => ∃ (a : Option Addr) (c : Nat), v = .slice a x4.length c ∧ J0.R hh [.slice a x4.length c] x4 ∧ x4.length ≤ 9223372036854775807) (And.intro (fun v h1 h2 sb q => by obtain ⟨a, c, e, r, l⟩ := q; exact ⟨a, c, e, J0.mono sb r, l⟩) (And.intro ?_ ?_)))
 ·intro k5 s6 hq
  refine Tr.mono (V04 _ [.int .i64 p0_0, .int .i64 p0_1, .slice ap0_2 p0_2.length cp0_2] (p0_0, p0_1, p0_2) (z0 ip0_0 ip0_1 (J0.mono s6 rp0_2)) _ (E2 gx4 hq)) ?_
  rintro _ kk ⟨ax4, nx4, cx4, rfl, rx4, sb⟩
  obtain ⟨rfl, lx4⟩ := Sl.len rx4
  exact And.intro v06 (And.intro sb ⟨ax4, cx4, rfl, rx4, lx4⟩)
 obtain ⟨q7, gq7, hM0⟩ := l0 hM0
 refine Or.inl (Exists.intro (.val (.int .i64 ((x4.length : Nat) : Int))) (And.intro ?_ ?_))
 ·intro k8 s9 hq
  rintro _ ⟨az10, cz10, rfl, rz10, lz10⟩
  exact And.intro rfl (And.intro rfl rfl)
 refine Or.inl (Exists.intro (.val (.bool (decide (((x4.length : Nat) : Int) = 0)))) (And.intro ?_ ?_))
 ·intro k11 s12 hq
  exact And.intro rfl (And.intro rfl rfl)
 intro k13 s14
 have hE := Option.some.inj hM0; subst hE
 exact And.intro rfl s14
theorem y08 (h : Hp) (csp0 : List Value) (p0 : j0) (rp0 : S0.R h csp0 p0) (p1 : Int) (ip1 : N0 p1) (r : j0 × Bool) (hM0 : K8 p0 p1 = some r) :
  Tr Tryz.prog 186 #[.agg csp0.toArray, .int .i64 p1] h fun v h' => ∃ (cs0 : List Value), v = .tuple #[.agg cs0.toArray, .bool r.2] ∧ S0.R h' cs0 r.1 ∧ Sub h h' := by
 obtain ⟨p0_0, p0_1, ap0_2, np0_2, cp0_2, p0_2, rfl, rfl, ip0_0, ip0_1, rp0_2⟩ := B0 rp0
 obtain ⟨rfl, lp0_2⟩ := Sl.len rp0_2
 unfold K8 at hM0
 dsimp only at hM0
 refine j3 (args := [.agg #[.int .i64 p0_0, .int .i64 p0_1, .slice ap0_2 p0_2.length cp0_2], .int .i64 p1]) (fn := Tryz.f186) rfl ?_
 obtain ⟨x1, gx1, hM0⟩ := l0 hM0
 refine Tr.val (R8 _ [.int .i64 p0_0, .int .i64 p0_1, .slice ap0_2 p0_2.length cp0_2] (p0_0, p0_1, p0_2) (z0 ip0_0 ip0_1 rp0_2) _  gx1) ?_
 obtain ⟨x2, gx2, hM0⟩ := l0 hM0
 refine Exists.intro (.bool x2) (And.intro (fun q => A7 _ p1 ip1 0 (c64 (by decide) (by decide)) (IntKind.i64.wrap (p0_1 - 1)) (M0 _) _  (E2 gx2 q)) ?_)
 refine And.intro (fun hc3 => ?_) (fun hc3 => ?_)
 ·replace hM0 := ifP hM0 hc3
  obtain ⟨x4, gx4, hM0⟩ := l0 hM0
  refine Tr.mono (B7 _ [.int .i64 p0_0, .int .i64 p0_1, .slice ap0_2 p0_2.length cp0_2] (p0_0, p0_1, p0_2) (z0 ip0_0 ip0_1 rp0_2) _  gx4) ?_
  rintro v6 k5 ⟨csx4, rfl, rx4, sx4⟩
  obtain ⟨x4_0, x4_1, ax4_2, nx4_2, cx4_2, x4_2, rfl, rfl, ix4_0, ix4_1, rx4_2⟩ := B0 rx4
  obtain ⟨rfl, lx4_2⟩ := Sl.len rx4_2
  try dsimp only at hM0
  have hE := Option.some.inj hM0; subst hE
  exact ⟨([.int .i64 x4_0, .int .i64 x4_1, .slice ax4_2 x4_2.length cx4_2]), rfl, (z0 ix4_0 ix4_1 rx4_2), sx4⟩
 ·replace hM0 := ifN hM0 hc3
  obtain ⟨X7, hLX7, hM0⟩ := l0 hM0
  refine Exists.intro { vars := [7], boxes := [], owns := [0], fuel := true } (Exists.intro (fun vs os h' => ∃ (u8 : Int) (wu9 : List (List Value)) (u9 : List Int), vs.tail = [.int .i64 u8] ∧ os = [wu9] ∧ Sub h h' ∧ N0 u8 ∧ F2 (Wp.int.R h') wu9 u9 ∧ N3 p0_1 p1 (Y1 vs) u8 u9 = some X7) (Exists.intro (fun _ _ => 0) ?_))
  refine And.intro (Exists.intro U0 ⟨0, ([[.int .i64 p1]] : List (List Value)), [p1], rfl, rfl, (Sub.refl _), (c64 (by decide) (by decide)), (show F2 (Wp.int.R h) ([[.int .i64 p1]] : List (List Value)) [p1] from ⟨⟨rfl, ip1⟩, trivial⟩), hLX7⟩) ?_
  rintro v_0 wu9 m11 k10 ⟨u8, zzu9, u9, evX7, eoX7, sX7, iu8, fu9, hM1⟩
  cases evX7
  cases eoX7
  replace hM1 : N3 p0_1 p1 m11 u8 u9 = some X7 := hM1
  obtain _ | m11 := m11
  ·cases (show (none : Option _) = some X7 from hM1)
  rw [N3.eq_2] at hM1
  refine And.intro (fun hc12 => ?_) (fun hc12 => ?_)
  ·replace hM1 := ifP hM1 hc12
   refine And.intro (fun hc13 => ?_) (fun hc13 => ?_)
   ·replace hM1 := ifP hM1 hc13
    obtain ⟨q14, gq14, hM1⟩ := l0 hM1
    refine And.intro (N1 gq14 (by first | rw [F2.length fu9, F2.length (show F2 (Wp.int.R k10) ([[.int .i64 u8]] : List (List Value)) [u8] from ⟨⟨rfl, iu8⟩, trivial⟩)] | exact congrArg (· + 1) (F2.length fu9))) ?_
    refine And.intro rfl (And.intro (by repeat (first | exact trivial | refine And.intro rfl ?_)) (And.intro (by repeat (first | exact trivial | refine And.intro rfl ?_)) (Exists.intro m11 (And.intro ⟨(IntKind.i64.wrap (u8 + 1)), (wu9 ++ ([[.int .i64 u8]] : List (List Value))), (u9 ++ [u8]), rfl, rfl, sX7, (M0 _), (F2.append fu9 (show F2 (Wp.int.R k10) ([[.int .i64 u8]] : List (List Value)) [u8] from ⟨⟨rfl, iu8⟩, trivial⟩)), hM1⟩ (Nat.lt_succ_self _)))))
   ·replace hM1 := ifN hM1 hc13
    refine And.intro rfl (And.intro (by repeat (first | exact trivial | refine And.intro rfl ?_)) (And.intro (by repeat (first | exact trivial | refine And.intro rfl ?_)) (Exists.intro m11 (And.intro ⟨(IntKind.i64.wrap (u8 + 1)), wu9, u9, rfl, rfl, sX7, (M0 _), fu9, hM1⟩ (Nat.lt_succ_self _)))))
  ·replace hM1 := ifN hM1 hc12
   have hE := Option.some.inj hM1; subst hE
   try dsimp only [Y0, Z0] at hM0
   refine Or.inl ?_
   intro v15 k16 f17
   obtain ⟨az18, cz18, rfl, rz18, sz18, lz18⟩ := Q0.out (r := Wp.int.toRp) f17 fu9
   obtain ⟨x19, gx19, hM0⟩ := l0 hM0
   refine Tr.mono (H9 _ [.int .i64 p0_0, .int .i64 p0_1, .slice ap0_2 p0_2.length cp0_2] (p0_0, p0_1, p0_2) (z0 ip0_0 ip0_1 (J0.mono (sX7.trans sz18) rp0_2)) az18 u9.length cz18 u9 rz18 _  gx19) ?_
   rintro v21 k20 ⟨csx19_0, rfl, rx19_0, sx19⟩
   obtain ⟨x19_0, x19_1⟩ := x19
   dsimp only at hM0 rx19_0
   obtain ⟨x19_0_0, x19_0_1, ax19_0_2, nx19_0_2, cx19_0_2, x19_0_2, rfl, rfl, ix19_0_0, ix19_0_1, rx19_0_2⟩ := B0 rx19_0
   obtain ⟨rfl, lx19_0_2⟩ := Sl.len rx19_0_2
   try dsimp only at hM0
   obtain ⟨x22, gx22, hM0⟩ := l0 hM0
   refine Tr.mono (O07 _ [.int .i64 x19_0_0, .int .i64 x19_0_1, .slice ax19_0_2 x19_0_2.length cx19_0_2] (x19_0_0, x19_0_1, x19_0_2) (z0 ix19_0_0 ix19_0_1 rx19_0_2) _  gx22) ?_
   rintro v24 k23 ⟨csx22, rfl, rx22, sx22⟩
   obtain ⟨x22_0, x22_1, ax22_2, nx22_2, cx22_2, x22_2, rfl, rfl, ix22_0, ix22_1, rx22_2⟩ := B0 rx22
   obtain ⟨rfl, lx22_2⟩ := Sl.len rx22_2
   try dsimp only at hM0
   have hE := Option.some.inj hM0; subst hE
   exact ⟨([.int .i64 x22_0, .int .i64 x22_1, .slice ax22_2 x22_2.length cx22_2]), rfl, (z0 ix22_0 ix22_1 rx22_2), (((sX7.trans sz18).trans sx19).trans sx22)⟩
end Go.Proofs.YtknoadmdnjaocaaGreat
namespace Go.Proofs.YtknoadmdnjaocaaGreat
open Go.H
set_option linter.unusedVariables false
set_option linter.unusedSimpArgs false
set_option maxRecDepth 10000
set_option maxHeartbeats 0
theorem P07 (h : Hp) (csp0 : List Value) (p0 : j0) (rp0 : S0.R h csp0 p0) (r : Bool) (hM0 : r8 p0 = some r) :
  Tr Tryz.prog 180 #[.agg csp0.toArray] h fun v h' => v = .bool r ∧ h' = h := by
 obtain ⟨p0_0, p0_1, ap0_2, np0_2, cp0_2, p0_2, rfl, rfl, ip0_0, ip0_1, rp0_2⟩ := B0 rp0
 obtain ⟨rfl, lp0_2⟩ := Sl.len rp0_2
 unfold r8 at hM0
 dsimp only at hM0
 refine Tr.forget (j3 (args := [.agg #[.int .i64 p0_0, .int .i64 p0_1, .slice ap0_2 p0_2.length cp0_2]]) (fn := Tryz.f180) rfl ?_)
 obtain ⟨x1, gx1, hM0⟩ := l0 hM0
 refine Tr.val (o02 _ [.int .i64 p0_0, .int .i64 p0_1, .slice ap0_2 p0_2.length cp0_2] (p0_0, p0_1, p0_2) (z0 ip0_0 ip0_1 rp0_2) _  gx1) ?_
 have hE := Option.some.inj hM0; subst hE
 exact And.intro rfl (Sub.refl _)
theorem z08 (h : Hp) (csp0 : List Value) (p0 : j0) (rp0 : S0.R h csp0 p0) (p1 : Int) (ip1 : N0 p1) (r : (List Bool) × B8) (hM0 : M8 p0 p1 = some r) :
  Tr Tryz.prog 307 #[.agg csp0.toArray, .int .i64 p1] h fun v h' => ∃ (a0 : Option Addr) (n0 c0 : Nat) (a1 : Option Addr) (n1 c1 : Nat), v = .tuple #[.slice a0 n0 c0, .slice a1 n1 c1] ∧ (Wp.slice Wp.bool).R h' [.slice a0 n0 c0] r.1 ∧ l04.R h' [.slice a1 n1 c1] r.2 ∧ Sub h h' := by
 obtain ⟨p0_0, p0_1, ap0_2, np0_2, cp0_2, p0_2, rfl, rfl, ip0_0, ip0_1, rp0_2⟩ := B0 rp0
 obtain ⟨rfl, lp0_2⟩ := Sl.len rp0_2
 unfold M8 at hM0
 dsimp only at hM0
 refine j3 (args := [.agg #[.int .i64 p0_0, .int .i64 p0_1, .slice ap0_2 p0_2.length cp0_2], .int .i64 p1]) (fn := Tryz.f307) rfl ?_
 obtain ⟨q1, gq1, hM0⟩ := l0 hM0
 refine And.intro (B3 gq1) ?_
 obtain ⟨q2, gq2, hM0⟩ := l0 hM0
 refine And.intro (B3 gq2) ?_
 obtain ⟨x3, gx3, hM0⟩ := l0 hM0
 obtain ⟨bx3, csx3, ex3, rx3⟩ := G3 (F2.rep (p := Wp.bool.R h) (a := [.bool false]) (b := false) rfl (p0_1.toNat)) gx3
 refine And.intro bx3 ?_
 obtain rfl := rx3
 refine Exists.intro _ (And.intro ex3 ?_)
 obtain ⟨x4, gx4, hM0⟩ := l0 hM0
 obtain ⟨bx4, csx4, ex4, rx4⟩ := G3 (F2.rep (p := D1.R h) (a := [.slice none 0 0]) (b := []) (V0j Wp.int h) (p0_1.toNat)) gx4
 refine And.intro bx4 ?_
 obtain ⟨ax4, nx4, cx4, rfl⟩ := Wp.slice_cell rx4
 obtain ⟨rfl, lx4⟩ := Sl.len rx4
 intro v5 k6 f7
 obtain ⟨az8, cz8, rfl, rz8, sz8, lz8⟩ := Q0.out (r := Wp.int.toRp) f7 (show F2 (Wp.int.R h) ([] : List (List Value)) ([] : D0) from trivial)
 refine Exists.intro _ (And.intro ex4 ?_)
 obtain ⟨x9, gx9, hM0⟩ := l0 hM0
 refine Tr.mono (S00 _ p0_0 ip0_0 _  gx9) ?_
 rintro v11 k10 ⟨ax9, nx9, cx9, rfl, rx9, sx9⟩
 obtain ⟨rfl, lx9⟩ := Sl.len rx9
 obtain ⟨X12, hLX12, hM0⟩ := l0 hM0
 refine Exists.intro { vars := [10], boxes := [], owns := [0, 1, 3], fuel := true, kept := [0, 1] } (Exists.intro (fun vs os h' => ∃ (u13 : Int) (wu14 : List (List Value)) (u14 : List Bool) (wu15 : List (List Value)) (u15 : List D0) (wu16 : List (List Value)) (u16 : List Int), vs.tail = [.int .i64 u13] ∧ os = [wu14, wu15, wu16] ∧ Sub k10 h' ∧ N0 u13 ∧ F2 (Wp.bool.R h') wu14 u14 ∧ F2 (D1.R h') wu15 u15 ∧ F2 (Wp.int.R h') wu16 u16 ∧ d6 x9 p0_0 p0_1 p0_2 (Y1 vs) u13 u14 u15 u16 = some X12) (Exists.intro (fun _ _ => 0) ?_))
 refine And.intro (Exists.intro U0 ⟨0, ((List.replicate p0_1.toNat ([.bool false] : List Value)).set p1.toNat [.bool true]), ((List.replicate p0_1.toNat (false : Bool)).set p1.toNat true), ((List.replicate p0_1.toNat ([.slice none 0 0] : List Value)).set p1.toNat [.slice az8 (([] : D0)).length cz8]), ((List.replicate p0_1.toNat ([] : D0)).set p1.toNat ([] : D0)), ([[.int .i64 p1]] : List (List Value)), [p1], rfl, rfl, (Sub.refl _), (c64 (by decide) (by decide)), (F2.up (r := Wp.bool.toRp) (sz8.trans sx9) (F2.set (p := Wp.bool.R h) (a := [.bool true]) (b := true) rfl p1.toNat (F2.rep (p := Wp.bool.R h) (a := [.bool false]) (b := false) rfl (p0_1.toNat)))), (F2.up (r := D1.toRp) sx9 (F2.set (p := D1.R k6) (a := [.slice az8 (([] : D0)).length cz8]) (b := ([] : D0)) rz8 p1.toNat (F2.up (r := D1.toRp) sz8 (F2.rep (p := D1.R h) (a := [.slice none 0 0]) (b := []) (V0j Wp.int h) (p0_1.toNat))))), (F2.up (r := Wp.int.toRp) sx9 (show F2 (Wp.int.R k6) ([[.int .i64 p1]] : List (List Value)) [p1] from ⟨⟨rfl, ip1⟩, trivial⟩)), hLX12⟩) ?_
 rintro v_0 wu14 wu15 wu16 m18 k17 ⟨u13, zzu14, u14, zzu15, u15, zzu16, u16, evX12, eoX12, sX12, iu13, fu14, fu15, fu16, hM1⟩
 cases evX12
 cases eoX12
 replace hM1 : d6 x9 p0_0 p0_1 p0_2 m18 u13 u14 u15 u16 = some X12 := hM1
 obtain _ | m18 := m18
 ·cases (show (none : Option _) = some X12 from hM1)
 rw [d6.eq_2] at hM1
 obtain ⟨m19, gm19, hM1⟩ := l0 hM1
 obtain rfl : wu16.length = m19 := (F2.length fu16).trans (Option.some.inj gm19)
 obtain ⟨q20, gq20, hM1⟩ := l0 hM1
 refine And.intro (fun hc21 => ?_) (fun hc21 => ?_)
 ·replace hM1 := ifP hM1 hc21
  obtain ⟨X22, hLX22, hM1⟩ := l0 hM1
  refine Exists.intro { vars := [11], boxes := [], owns := [0, 1, 3], fuel := true, kept := [0, 1] } (Exists.intro (fun vs os h' => ∃ (u23 : Int) (wu24 : List (List Value)) (u24 : List Bool) (wu25 : List (List Value)) (u25 : List D0) (wu26 : List (List Value)) (u26 : List Int), vs.tail = [.int .i64 u23] ∧ os = [wu24, wu25, wu26] ∧ Sub k17 h' ∧ N0 u23 ∧ F2 (Wp.bool.R h') wu24 u24 ∧ F2 (D1.R h') wu25 u25 ∧ F2 (Wp.int.R h') wu26 u26 ∧ K4 x9 u13 p0_0 p0_1 p0_2 (Y1 vs) u23 u24 u25 u26 = some X22) (Exists.intro (fun _ _ => 0) ?_))
  refine And.intro (Exists.intro U0 ⟨0, wu14, u14, wu15, u15, wu16, u16, rfl, rfl, (Sub.refl _), (c64 (by decide) (by decide)), fu14, fu15, fu16, hLX22⟩) ?_
  rintro v_0 wu24 wu25 wu26 m28 k27 ⟨u23, zzu24, u24, zzu25, u25, zzu26, u26, evX22, eoX22, sX22, iu23, fu24, fu25, fu26, hM2⟩
  cases evX22
  cases eoX22
  replace hM2 : K4 x9 u13 p0_0 p0_1 p0_2 m28 u23 u24 u25 u26 = some X22 := hM2
  obtain _ | m28 := m28
  ·cases (show (none : Option _) = some X22 from hM2)
  rw [K4.eq_2] at hM2
  refine And.intro (fun hc29 => ?_) (fun hc29 => ?_)
  ·replace hM2 := ifP hM2 hc29
   refine Or.inl (And.intro (And.intro (by kernel_rfl) (by kernel_rfl)) ?_)
   obtain ⟨x30, gx30, hM2⟩ := l0 hM2
   obtain ⟨bx30, csx30, ex30, rx30⟩ := G3 fu26 gx30
   refine And.intro bx30 ?_
   obtain ⟨rfl, ix30⟩ := rx30
   refine Exists.intro _ (And.intro ex30 ?_)
   obtain ⟨x31, gx31, hM2⟩ := l0 hM2
   obtain ⟨bx31, csx31, ex31, rx31⟩ := Sl.getI (r := Wp.int.toRp) (D1.mono (sX12.trans sX22) rx9) gx31 (by decide)
   refine And.intro bx31 ?_
   obtain ⟨rfl, ix31⟩ := rx31
   refine Exists.intro _ (And.intro ex31 ?_)
   obtain ⟨x32, gx32, hM2⟩ := l0 hM2
   refine Exists.intro (.int .i64 x32) (And.intro (G00 _ [.int .i64 p0_0, .int .i64 p0_1, .slice ap0_2 p0_2.length cp0_2] (p0_0, p0_1, p0_2) (z0 ip0_0 ip0_1 (J0.mono (((sz8.trans sx9).trans sX12).trans sX22) rp0_2)) x30 ix30 x31 ix31 _  gx32) ?_)
   obtain ⟨q33, gq33, hM2⟩ := l0 hM2
   have ix32 : N0 x32 := B3 gq33
   obtain ⟨x34, gx34, hM2⟩ := l0 hM2
   obtain ⟨csx34, ex34, rx34⟩ := Q02 fu24 gx34 (K0i k27)
   refine And.intro (fun q => (ex34 q).1) ?_
   obtain rfl := rx34
   refine Exists.intro _ (And.intro (fun q => (ex34 q).2) ?_)
   refine And.intro (fun hc35 => ?_) (fun hc35 => ?_)
   ·replace hM2 := ifP hM2 hc35
    obtain ⟨x36, gx36, hM2⟩ := l0 hM2
    obtain ⟨bx36, csx36, ex36, rx36⟩ := G3 fu24 gx36
    refine And.intro bx36 ?_
    obtain rfl := rx36
    refine Exists.intro _ (And.intro ex36 ?_)
    refine Or.inr (Or.inr (Or.inr (Or.inr (Exists.intro 16 (And.intro (And.intro (by kernel_rfl) (by kernel_rfl)) ?_)))))
    refine Or.inr (Exists.intro (fun v hh => ∃ (g : Nat), v = .slice (some ⟨g, 0, none⟩) 0 0 ∧ k27 g = none ∧ ∃ e, hh g = some (.cells #[] e (0, 0))) (And.intro (fun v h1 h2 sb q => by obtain ⟨g, e, n, t, c⟩ := q; exact ⟨g, e, n, t, sb _ _ c⟩) (And.intro ?_ ?_)))
    ·intro k38 s39
     intro g hg
     exact And.intro v06 (And.intro (Sub.set hg) ⟨g, rfl, Sub.back s39 hg, _, Hp.set_same _ _ _⟩)
    obtain ⟨x40, gx40, hM2⟩ := l0 hM2
    obtain ⟨bx40, csx40, ex40, rx40⟩ := G3 fu26 gx40
    obtain ⟨rfl, ix40⟩ := rx40
    refine Or.inl ?_
    apply Exists.intro
    refine And.intro ?_ ?_
    ·intro k41 s42
     exact And.intro bx40 (And.intro rfl (And.intro rfl rfl))
    refine Or.inl (Exists.intro (.val (.int .i64 x40)) (And.intro ?_ ?_))
    ·intro k43 s44
     exact Exists.intro _ (And.intro ex40 (And.intro rfl (And.intro rfl rfl)))
    obtain ⟨x45, gx45, hM2⟩ := l0 hM2
    obtain ⟨bx45, csx45, ex45, rx45⟩ := G3 fu25 gx45
    obtain ⟨ax45, nx45, cx45, rfl⟩ := Wp.slice_cell rx45
    obtain ⟨rfl, lx45⟩ := Sl.len rx45
    refine Or.inl ?_
    apply Exists.intro
    refine And.intro ?_ ?_
    ·intro k46 s47
     exact And.intro bx45 (And.intro rfl (And.intro rfl rfl))
    refine Or.inl (Exists.intro (.val (.slice ax45 x45.length cx45)) (And.intro ?_ ?_))
    ·intro k48 s49
     exact Exists.intro _ (And.intro ex45 (And.intro rfl (And.intro rfl rfl)))
    obtain ⟨q50, gq50, hM2⟩ := l0 hM2
    refine Or.inr (Exists.intro (fun v hh => ∃ (g o c : Nat), v = .slice (some ⟨g, o, none⟩) x45.length c ∧ New D1 k27 hh [.slice (some ⟨g, o, none⟩) x45.length c] x45 ∧ x45.length ≤ 9223372036854775807) (And.intro (fun v h1 h2 sb q => by obtain ⟨g, o, c, e, r, l⟩ := q; exact ⟨g, o, c, e, New.mono r sb, l⟩) (And.intro ?_ ?_)))
    ·intro k52 s53
     rintro _ ⟨gz54, rfl, nz54, cz54⟩
     obtain ⟨vsz51, ez51, lnz51, zz51, fz51⟩ := New.appZ (r := Wp.int) nz54 cz54 s53 (D1.mono s53 rx45) (h08 _)
     exact Exists.intro vsz51 (And.intro ez51 (And.intro (N1 gq50 lnz51) (And.intro (fun hz => And.intro v06 (And.intro (Sub.refl _) (zz51 hz))) (fun v h9 hf => And.intro v06 (fz51 v h9 _ hf)))))
    obtain ⟨x55, gx55, hM2⟩ := l0 hM2
    obtain ⟨bx55, csx55, ex55, rx55⟩ := Sl.getI (r := Wp.int.toRp) (D1.mono (sX12.trans sX22) rx9) gx55 (by decide)
    obtain ⟨rfl, ix55⟩ := rx55
    refine Or.inl (Exists.intro (.hel (.slice ax9 x9.length cx9) u23 1 0) (And.intro ?_ ?_))
    ·intro k56 s57
     exact And.intro bx55 (And.intro rfl (And.intro rfl rfl))
    refine Or.inl (Exists.intro (.val (.int .i64 x55)) (And.intro ?_ ?_))
    ·intro k58 s59
     exact Exists.intro _ (And.intro (t00.up s59 ex55) (And.intro rfl (And.intro rfl rfl)))
    obtain ⟨x60, gx60, hM2⟩ := l0 hM2
    refine Or.inr (Exists.intro (fun v hh => ∃ (a : Option Addr) (c : Nat), v = .slice a x60.length c ∧ D1.R hh [.slice a x60.length c] x60 ∧ x60.length ≤ 9223372036854775807) (And.intro (fun v h1 h2 sb q => by obtain ⟨a, c, e, r, l⟩ := q; exact ⟨a, c, e, D1.mono sb r, l⟩) (And.intro ?_ ?_)))
    ·intro k61 s62
     have ex60 : [x55] = x60 := Option.some.inj gx60
     intro v k hf
     obtain ⟨a, c, rfl, r, sb, l⟩ := Q0.out (r := Wp.int.toRp) (xs := x60) hf (show F2 (Wp.int.R k61) [[.int .i64 x55]] x60 from ex60 ▸ (show F2 (Wp.int.R k61) [[.int .i64 x55]] [x55] from ⟨⟨rfl, ix55⟩, trivial⟩))
     exact And.intro ⟨rfl, rfl, rfl, [_], rfl⟩ (And.intro sb ⟨a, c, rfl, r, l⟩)
    intro k63 s64
    rintro _ ⟨az65, cz65, rfl, rz65, lz65⟩
    rintro _ ⟨gz66, oz66, cz66, rfl, rz66, lz66⟩
    rintro _ ⟨gz67, rfl, nz67, cz67⟩
    obtain ⟨vsy68, ey68, fy68⟩ := Sl.rows (r := Wp.int.toRp) rz65
    refine Exists.intro vsy68 (And.intro ey68 ?_)
    obtain ⟨q69, gq69, hM2⟩ := l0 hM2
    obtain ⟨vsz70, rxz70, lnz70, apz70⟩ := New.app rz66 (Sub.refl _)
    refine Exists.intro vsz70 (And.intro rxz70 (And.intro (N1 gq69 (by first | rw [lnz70, F2.length fy68] | (rw [lnz70]; rfl))) ?_))
    intro vz70 kz70 happz70
    obtain ⟨wz70, gz70, oz70, nz70, cz70, rfl⟩ := apz70 _ _ _ _ _ (F3.ofPlain (h08 _) fy68) O6.ofPlain happz70
    have rz70 := wz70.r
    obtain ⟨ez70, lz70⟩ := Sl.len rz70
    subst ez70
    obtain ⟨x71, gx71, hM2⟩ := l0 hM2
    obtain ⟨bx71, csx71, ex71, rx71⟩ := G3 (F2.up (r := D1.toRp) wz70.sub fu25) gx71
    refine And.intro bx71 ?_
    obtain ⟨ax71, nx71, cx71, rfl⟩ := Wp.slice_cell rx71
    obtain ⟨rfl, lx71⟩ := Sl.len rx71
    refine Exists.intro _ (And.intro ex71 ?_)
    obtain ⟨q72, gq72, hM2⟩ := l0 hM2
    refine And.intro (N1 gq72 (by first | rw [F2.length (F2.up (r := Wp.int.toRp) wz70.sub fu26), F2.length (show F2 (Wp.int.R kz70) ([[.int .i64 x32]] : List (List Value)) [x32] from ⟨⟨rfl, ix32⟩, trivial⟩)] | exact congrArg (· + 1) (F2.length (F2.up (r := Wp.int.toRp) wz70.sub fu26)))) ?_
    refine And.intro rfl (And.intro (by repeat (first | exact trivial | refine And.intro rfl ?_)) (And.intro (by repeat (first | exact trivial | refine And.intro rfl ?_)) (Exists.intro m28 (And.intro ⟨(IntKind.i64.wrap (u23 + 1)), (wu24.set x32.toNat [.bool true]), (u24.set x32.toNat true), (wu25.set x32.toNat [.slice (some ⟨gz70, oz70, none⟩) (x45 ++ x60).length cz70]), (u25.set x32.toNat (x45 ++ x60)), (wu26 ++ ([[.int .i64 x32]] : List (List Value))), (u26 ++ [x32]), rfl, rfl, (sX22.trans wz70.sub), (M0 _), (F2.up (r := Wp.bool.toRp) wz70.sub (F2.set (p := Wp.bool.R k27) (a := [.bool true]) (b := true) rfl x32.toNat fu24)), (F2.set (p := D1.R kz70) (a := [.slice (some ⟨gz70, oz70, none⟩) (x45 ++ x60).length cz70]) (b := (x45 ++ x60)) rz70 x32.toNat (F2.up (r := D1.toRp) wz70.sub fu25)), (F2.append (F2.up (r := Wp.int.toRp) wz70.sub fu26) (show F2 (Wp.int.R kz70) ([[.int .i64 x32]] : List (List Value)) [x32] from ⟨⟨rfl, ix32⟩, trivial⟩)), hM2⟩ (Nat.lt_succ_self _)))))
   ·replace hM2 := ifN hM2 hc35
    refine And.intro rfl (And.intro (by repeat (first | exact trivial | refine And.intro rfl ?_)) (And.intro (by repeat (first | exact trivial | refine And.intro rfl ?_)) (Exists.intro m28 (And.intro ⟨(IntKind.i64.wrap (u23 + 1)), wu24, u24, wu25, u25, wu26, u26, rfl, rfl, sX22, (M0 _), fu24, fu25, fu26, hM2⟩ (Nat.lt_succ_self _)))))
  ·replace hM2 := ifN hM2 hc29
   have hE := Option.some.inj hM2; subst hE
   try dsimp only [Y0, Z0] at hM1
   refine And.intro rfl (And.intro (by repeat (first | exact trivial | refine And.intro rfl ?_)) (And.intro (by repeat (first | exact trivial | refine And.intro rfl ?_)) (Exists.intro m18 (And.intro ⟨(IntKind.i64.wrap (u13 + 1)), wu24, u24, wu25, u25, wu26, u26, rfl, rfl, (sX12.trans sX22), (M0 _), fu24, fu25, fu26, hM1⟩ (Nat.lt_succ_self _)))))
 ·replace hM1 := ifN hM1 hc21
  have hE := Option.some.inj hM1; subst hE
  try dsimp only [Y0, Z0] at hM0
  intro v79 k80 f81
  obtain ⟨az82, cz82, rfl, rz82, sz82, lz82⟩ := Q0.out (r := Wp.bool.toRp) f81 fu14
  intro v83 k84 f85
  obtain ⟨az86, cz86, rfl, rz86, sz86, lz86⟩ := Q0.out (r := D1.toRp) f85 (F2.up (r := D1.toRp) sz82 fu15)
  have hE := Option.some.inj hM0; subst hE
  exact ⟨az82, u14.length, cz82, az86, u15.length, cz86, rfl, ((Wp.slice Wp.bool).mono sz86 rz82), rz86, ((((sz8.trans sx9).trans sX12).trans sz82).trans sz86)⟩
theorem A08 (h : Hp) (csp0 : List Value) (p0 : j0) (rp0 : S0.R h csp0 p0) (p1 : Int) (ip1 : N0 p1) (p2 : Int) (ip2 : N0 p2) (r : D0 × Bool) (hM0 : r6 p0 p1 p2 = some r) :
  Tr Tryz.prog 264 #[.agg csp0.toArray, .int .i64 p1, .int .i64 p2] h fun v h' => ∃ (a0 : Option Addr) (n0 c0 : Nat), v = .tuple #[.slice a0 n0 c0, .bool r.2] ∧ D1.R h' [.slice a0 n0 c0] r.1 ∧ Sub h h' := by
 obtain ⟨p0_0, p0_1, ap0_2, np0_2, cp0_2, p0_2, rfl, rfl, ip0_0, ip0_1, rp0_2⟩ := B0 rp0
 obtain ⟨rfl, lp0_2⟩ := Sl.len rp0_2
 unfold r6 at hM0
 dsimp only at hM0
 refine j3 (args := [.agg #[.int .i64 p0_0, .int .i64 p0_1, .slice ap0_2 p0_2.length cp0_2], .int .i64 p1, .int .i64 p2]) (fn := Tryz.f264) rfl ?_
 obtain ⟨x1, gx1, hM0⟩ := l0 hM0
 refine Tr.val (R8 _ [.int .i64 p0_0, .int .i64 p0_1, .slice ap0_2 p0_2.length cp0_2] (p0_0, p0_1, p0_2) (z0 ip0_0 ip0_1 rp0_2) _  gx1) ?_
 obtain ⟨x2, gx2, hM0⟩ := l0 hM0
 refine Exists.intro (.bool x2) (And.intro (fun q => A7 _ p1 ip1 0 (c64 (by decide) (by decide)) (IntKind.i64.wrap (p0_1 - 1)) (M0 _) _  (E2 gx2 q)) ?_)
 obtain ⟨x3, gx3, hM0⟩ := l0 hM0
 refine Exists.intro (.bool x3) (And.intro (fun q => A7 _ p2 ip2 0 (c64 (by decide) (by decide)) (IntKind.i64.wrap (p0_1 - 1)) (M0 _) _  (E2 gx3 q)) ?_)
 refine And.intro (fun hc4 => ?_) (fun hc4 => ?_)
 ·replace hM0 := ifP hM0 hc4
  intro v5 k6 f7
  obtain ⟨az8, cz8, rfl, rz8, sz8, lz8⟩ := Q0.out (r := Wp.int.toRp) f7 (show F2 (Wp.int.R h) ([] : List (List Value)) ([] : D0) from trivial)
  have hE := Option.some.inj hM0; subst hE
  exact ⟨az8, (([] : D0)).length, cz8, rfl, rz8, sz8⟩
 ·replace hM0 := ifN hM0 hc4
  obtain ⟨x9, gx9, hM0⟩ := l0 hM0
  refine Tr.mono (z08 _ [.int .i64 p0_0, .int .i64 p0_1, .slice ap0_2 p0_2.length cp0_2] (p0_0, p0_1, p0_2) (z0 ip0_0 ip0_1 rp0_2) p1 ip1 _  gx9) ?_
  rintro v11 k10 ⟨ax9_0, nx9_0, cx9_0, ax9_1, nx9_1, cx9_1, rfl, rx9_0, rx9_1, sx9⟩
  obtain ⟨x9_0, x9_1⟩ := x9
  dsimp only at hM0 rx9_0 rx9_1
  obtain ⟨rfl, lx9_0⟩ := Sl.len rx9_0
  obtain ⟨rfl, lx9_1⟩ := Sl.len rx9_1
  obtain ⟨x12, gx12, hM0⟩ := l0 hM0
  obtain ⟨bx12, csx12, ex12, rx12⟩ := Sl.getI (r := Wp.bool.toRp) rx9_0 gx12 (by decide)
  refine And.intro bx12 ?_
  obtain rfl := rx12
  refine Exists.intro _ (And.intro ex12 ?_)
  refine And.intro (fun hc13 => ?_) (fun hc13 => ?_)
  ·replace hM0 := ifP hM0 hc13
   intro v14 k15 f16
   obtain ⟨az17, cz17, rfl, rz17, sz17, lz17⟩ := Q0.out (r := Wp.int.toRp) f16 (show F2 (Wp.int.R k10) ([] : List (List Value)) ([] : D0) from trivial)
   have hE := Option.some.inj hM0; subst hE
   exact ⟨az17, (([] : D0)).length, cz17, rfl, rz17, (sx9.trans sz17)⟩
  ·replace hM0 := ifN hM0 hc13
   obtain ⟨x18, gx18, hM0⟩ := l0 hM0
   obtain ⟨bx18, csx18, ex18, rx18⟩ := Sl.getI (r := D1.toRp) rx9_1 gx18 (by decide)
   refine And.intro bx18 ?_
   obtain ⟨ax18, nx18, cx18, rfl⟩ := Wp.slice_cell rx18
   obtain ⟨rfl, lx18⟩ := Sl.len rx18
   refine Exists.intro _ (And.intro ex18 ?_)
   obtain ⟨vsy19, ey19, fy19⟩ := Sl.rows (r := Wp.int.toRp) rx18
   refine Exists.intro vsy19 (And.intro ey19 ?_)
   obtain ⟨q20, gq20, hM0⟩ := l0 hM0
   refine And.intro (N1 gq20 (by first | rw [F2.length (show F2 (Wp.int.R k10) ([] : List (List Value)) ([] : D0) from trivial), F2.length fy19] | exact congrArg (· + 1) (F2.length (show F2 (Wp.int.R k10) ([] : List (List Value)) ([] : D0) from trivial)))) ?_
   intro v21 k22 f23
   obtain ⟨az24, cz24, rfl, rz24, sz24, lz24⟩ := Q0.out (r := Wp.int.toRp) f23 (F2.append (show F2 (Wp.int.R k10) ([] : List (List Value)) ([] : D0) from trivial) fy19)
   have hE := Option.some.inj hM0; subst hE
   exact ⟨az24, ((([] : D0) ++ x18)).length, cz24, rfl, rz24, (sx9.trans sz24)⟩
theorem B08 (h : Hp) (csp0 : List Value) (p0 : j0) (rp0 : S0.R h csp0 p0) (p1 : Int) (ip1 : N0 p1) (r : D0) (hM0 : N8 p0 p1 = some r) :
  Tr Tryz.prog 188 #[.agg csp0.toArray, .int .i64 p1] h fun v h' => ∃ (a0 : Option Addr) (n0 c0 : Nat), v = .slice a0 n0 c0 ∧ D1.R h' [.slice a0 n0 c0] r ∧ Sub h h' := by
 obtain ⟨p0_0, p0_1, ap0_2, np0_2, cp0_2, p0_2, rfl, rfl, ip0_0, ip0_1, rp0_2⟩ := B0 rp0
 obtain ⟨rfl, lp0_2⟩ := Sl.len rp0_2
 unfold N8 at hM0
 dsimp only at hM0
 refine j3 (args := [.agg #[.int .i64 p0_0, .int .i64 p0_1, .slice ap0_2 p0_2.length cp0_2], .int .i64 p1]) (fn := Tryz.f188) rfl ?_
 obtain ⟨x1, gx1, hM0⟩ := l0 hM0
 refine Tr.mono (A08 _ [.int .i64 p0_0, .int .i64 p0_1, .slice ap0_2 p0_2.length cp0_2] (p0_0, p0_1, p0_2) (z0 ip0_0 ip0_1 rp0_2) 0 (c64 (by decide) (by decide)) p1 ip1 _  gx1) ?_
 rintro v3 k2 ⟨ax1_0, nx1_0, cx1_0, rfl, rx1_0, sx1⟩
 obtain ⟨x1_0, x1_1⟩ := x1
 dsimp only at hM0 rx1_0
 obtain ⟨rfl, lx1_0⟩ := Sl.len rx1_0
 have hE := Option.some.inj hM0; subst hE
 exact ⟨ax1_0, x1_0.length, cx1_0, rfl, rx1_0, sx1⟩
theorem x03 (h : Hp) (csp0 : List Value) (p0 : j0) (rp0 : S0.R h csp0 p0) (r : B8) (hM0 : W4 p0 = some r) :
  Tr Tryz.prog 182 #[.agg csp0.toArray] h fun v h' => ∃ (a0 : Option Addr) (n0 c0 : Nat), v = .slice a0 n0 c0 ∧ l04.R h' [.slice a0 n0 c0] r ∧ Sub h h' := by
 obtain ⟨p0_0, p0_1, ap0_2, np0_2, cp0_2, p0_2, rfl, rfl, ip0_0, ip0_1, rp0_2⟩ := B0 rp0
 obtain ⟨rfl, lp0_2⟩ := Sl.len rp0_2
 unfold W4 at hM0
 dsimp only at hM0
 refine j3 (args := [.agg #[.int .i64 p0_0, .int .i64 p0_1, .slice ap0_2 p0_2.length cp0_2]]) (fn := Tryz.f182) rfl ?_
 obtain ⟨X1, hLX1, hM0⟩ := l0 hM0
 refine Exists.intro { vars := [4], boxes := [], owns := [0], fuel := true } (Exists.intro (fun vs os h' => ∃ (u2 : Int) (wu3 : List (List Value)) (u3 : List D0), vs.tail = [.int .i64 u2] ∧ os = [wu3] ∧ Sub h h' ∧ N0 u2 ∧ F2 (D1.R h') wu3 u3 ∧ j2 p0_1 p0_0 p0_2 (Y1 vs) u2 u3 = some X1) (Exists.intro (fun _ _ => 0) ?_))
 refine And.intro (Exists.intro U0 ⟨0, [], ([] : B8), rfl, rfl, (Sub.refl _), (c64 (by decide) (by decide)), (show F2 (D1.R h) ([] : List (List Value)) ([] : B8) from trivial), hLX1⟩) ?_
 rintro v_0 wu3 m5 k4 ⟨u2, zzu3, u3, evX1, eoX1, sX1, iu2, fu3, hM1⟩
 cases evX1
 cases eoX1
 replace hM1 : j2 p0_1 p0_0 p0_2 m5 u2 u3 = some X1 := hM1
 obtain _ | m5 := m5
 ·cases (show (none : Option _) = some X1 from hM1)
 rw [j2.eq_2] at hM1
 obtain ⟨x6, gx6, hM1⟩ := l0 hM1
 refine Exists.intro (.bool x6) (And.intro (fun q => g01 _ [.int .i64 p0_0, .int .i64 p0_1, .slice ap0_2 p0_2.length cp0_2] (p0_0, p0_1, p0_2) (z0 ip0_0 ip0_1 (J0.mono sX1 rp0_2)) _  (E2 gx6 q)) ?_)
 refine And.intro (fun hc7 => ?_) (fun hc7 => ?_)
 ·replace hM1 := ifP hM1 hc7
  obtain ⟨x8, gx8, hM1⟩ := l0 hM1
  refine Tr.mono (y08 _ [.int .i64 p0_0, .int .i64 p0_1, .slice ap0_2 p0_2.length cp0_2] (p0_0, p0_1, p0_2) (z0 ip0_0 ip0_1 (J0.mono sX1 rp0_2)) u2 iu2 _  gx8) ?_
  rintro v10 k9 ⟨csx8_0, rfl, rx8_0, sx8⟩
  obtain ⟨x8_0, x8_1⟩ := x8
  dsimp only at hM1 rx8_0
  obtain ⟨x8_0_0, x8_0_1, ax8_0_2, nx8_0_2, cx8_0_2, x8_0_2, rfl, rfl, ix8_0_0, ix8_0_1, rx8_0_2⟩ := B0 rx8_0
  obtain ⟨rfl, lx8_0_2⟩ := Sl.len rx8_0_2
  try dsimp only at hM1
  obtain ⟨x11, gx11, hM1⟩ := l0 hM1
  refine Tr.val (T01 _ [.int .i64 x8_0_0, .int .i64 x8_0_1, .slice ax8_0_2 x8_0_2.length cx8_0_2] (x8_0_0, x8_0_1, x8_0_2) (z0 ix8_0_0 ix8_0_1 rx8_0_2) [.int .i64 p0_0, .int .i64 p0_1, .slice ap0_2 p0_2.length cp0_2] (p0_0, p0_1, p0_2) (z0 ip0_0 ip0_1 (J0.mono (sX1.trans sx8) rp0_2)) _  gx11) ?_
  refine And.intro (fun hc12 => ?_) (fun hc12 => ?_)
  ·replace hM1 := ifP hM1 hc12
   obtain ⟨x13, gx13, hM1⟩ := l0 hM1
   refine Tr.mono (B08 _ [.int .i64 p0_0, .int .i64 p0_1, .slice ap0_2 p0_2.length cp0_2] (p0_0, p0_1, p0_2) (z0 ip0_0 ip0_1 (J0.mono (sX1.trans sx8) rp0_2)) u2 iu2 _  gx13) ?_
   rintro v15 k14 ⟨ax13, nx13, cx13, rfl, rx13, sx13⟩
   obtain ⟨rfl, lx13⟩ := Sl.len rx13
   obtain ⟨q16, gq16, hM1⟩ := l0 hM1
   refine And.intro (N1 gq16 (by first | rw [F2.length (F2.up (r := D1.toRp) (sx8.trans sx13) fu3), F2.length (show F2 (D1.R k14) ([[.slice ax13 x13.length cx13]] : List (List Value)) [x13] from ⟨rx13, trivial⟩)] | exact congrArg (· + 1) (F2.length (F2.up (r := D1.toRp) (sx8.trans sx13) fu3)))) ?_
   refine And.intro rfl (And.intro (by repeat (first | exact trivial | refine And.intro rfl ?_)) (And.intro (by repeat (first | exact trivial | refine And.intro rfl ?_)) (Exists.intro m5 (And.intro ⟨(IntKind.i64.wrap (u2 + 1)), (wu3 ++ ([[.slice ax13 x13.length cx13]] : List (List Value))), (u3 ++ [x13]), rfl, rfl, ((sX1.trans sx8).trans sx13), (M0 _), (F2.append (F2.up (r := D1.toRp) (sx8.trans sx13) fu3) (show F2 (D1.R k14) ([[.slice ax13 x13.length cx13]] : List (List Value)) [x13] from ⟨rx13, trivial⟩)), hM1⟩ (Nat.lt_succ_self _)))))
  ·replace hM1 := ifN hM1 hc12
   refine And.intro rfl (And.intro (by repeat (first | exact trivial | refine And.intro rfl ?_)) (And.intro (by repeat (first | exact trivial | refine And.intro rfl ?_)) (Exists.intro m5 (And.intro ⟨(IntKind.i64.wrap (u2 + 1)), wu3, u3, rfl, rfl, (sX1.trans sx8), (M0 _), (F2.up (r := D1.toRp) sx8 fu3), hM1⟩ (Nat.lt_succ_self _)))))
 ·replace hM1 := ifN hM1 hc7
  have hE := Option.some.inj hM1; subst hE
  try dsimp only [Y0, Z0] at hM0
  intro v17 k18 f19
  obtain ⟨az20, cz20, rfl, rz20, sz20, lz20⟩ := Q0.out (r := D1.toRp) f19 fu3
  have hE := Option.some.inj hM0; subst hE
  exact ⟨az20, u3.length, cz20, rfl, rz20, (sX1.trans sz20)⟩
theorem C08 (h : Hp) (csp0 : List Value) (p0 : j0) (rp0 : S0.R h csp0 p0) (r : Bool) (hM0 : O8 p0 = some r) :
  Tr Tryz.prog 98 #[.agg csp0.toArray] h fun v h' => v = .bool r ∧ h' = h := by
 obtain ⟨p0_0, p0_1, ap0_2, np0_2, cp0_2, p0_2, rfl, rfl, ip0_0, ip0_1, rp0_2⟩ := B0 rp0
 obtain ⟨rfl, lp0_2⟩ := Sl.len rp0_2
 unfold O8 at hM0
 dsimp only at hM0
 refine Tr.forget (j3 (args := [.agg #[.int .i64 p0_0, .int .i64 p0_1, .slice ap0_2 p0_2.length cp0_2]]) (fn := Tryz.f98) rfl ?_)
 refine Or.inr (Or.inr (Or.inr (Or.inl (And.intro (And.intro (by kernel_rfl) (by kernel_rfl)) ?_))))
 obtain ⟨x1, gx1, hM0⟩ := l0 hM0
 refine Or.inl (Exists.intro (.val (.bool x1)) (And.intro ?_ ?_))
 ·intro k2 s3
  exact Tr.val (P07 _ [.int .i64 p0_0, .int .i64 p0_1, .slice ap0_2 p0_2.length cp0_2] (p0_0, p0_1, p0_2) (z0 ip0_0 ip0_1 (J0.mono s3 rp0_2)) _ gx1) (And.intro rfl (And.intro rfl rfl))
 obtain ⟨x4, gx4, hM0⟩ := l0 hM0
 refine Or.inl (Exists.intro (.val (.bool x4)) (And.intro ?_ ?_))
 ·intro k5 s6 hq
  exact Tr.val (g01 _ [.int .i64 p0_0, .int .i64 p0_1, .slice ap0_2 p0_2.length cp0_2] (p0_0, p0_1, p0_2) (z0 ip0_0 ip0_1 (J0.mono s6 rp0_2)) _ (E2 gx4 hq)) (And.intro rfl (And.intro rfl rfl))
 obtain ⟨x7, gx7, hM0⟩ := l0 hM0
 refine Or.inr (Exists.intro (fun v hh => ∃ (a : Option Addr) (c : Nat), v = .slice a x7.length c ∧ l04.R hh [.slice a x7.length c] x7 ∧ x7.length ≤ 9223372036854775807) (And.intro (fun v h1 h2 sb q => by obtain ⟨a, c, e, r, l⟩ := q; exact ⟨a, c, e, l04.mono sb r, l⟩) (And.intro ?_ ?_)))
 ·intro k8 s9 hq
  refine Tr.mono (x03 _ [.int .i64 p0_0, .int .i64 p0_1, .slice ap0_2 p0_2.length cp0_2] (p0_0, p0_1, p0_2) (z0 ip0_0 ip0_1 (J0.mono s9 rp0_2)) _ (E2 gx7 hq)) ?_
  rintro _ kk ⟨ax7, nx7, cx7, rfl, rx7, sb⟩
  obtain ⟨rfl, lx7⟩ := Sl.len rx7
  exact And.intro v06 (And.intro sb ⟨ax7, cx7, rfl, rx7, lx7⟩)
 obtain ⟨q10, gq10, hM0⟩ := l0 hM0
 refine Or.inl (Exists.intro (.val (.int .i64 ((x7.length : Nat) : Int))) (And.intro ?_ ?_))
 ·intro k11 s12 hq
  rintro _ ⟨az13, cz13, rfl, rz13, lz13⟩
  exact And.intro rfl (And.intro rfl rfl)
 refine Or.inl (Exists.intro (.val (.bool (decide (((x7.length : Nat) : Int) = p0_1)))) (And.intro ?_ ?_))
 ·intro k14 s15 hq
  exact And.intro rfl (And.intro rfl rfl)
 intro k16 s17
 have hE := Option.some.inj hM0; subst hE
 exact And.intro rfl s17
theorem R06 (h : Hp) (ap0 : Option Addr) (np0 cp0 : Nat) (p0 : V5) (rp0 : C5.R h [.slice ap0 np0 cp0] p0) (r : D0) (hM0 : i9 p0 = some r) :
  Tr Tryz.prog 36 #[.slice ap0 np0 cp0] h fun v h' => ∃ (a0 : Option Addr) (n0 c0 : Nat), v = .slice a0 n0 c0 ∧ D1.R h' [.slice a0 n0 c0] r ∧ Sub h h' := by
 obtain ⟨rfl, lp0⟩ := Sl.len rp0
 unfold i9 at hM0
 refine j3 (args := [.slice ap0 p0.length cp0]) (fn := Tryz.f36) rfl ?_
 obtain ⟨X1, hLX1, hM0⟩ := l0 hM0
 refine Exists.intro { vars := [4], boxes := [], owns := [0], fuel := true } (Exists.intro (fun vs os h' => ∃ (u2 : Int) (wu3 : List (List Value)) (u3 : List Int), vs.tail = [.int .i64 u2] ∧ os = [wu3] ∧ Sub h h' ∧ N0 u2 ∧ F2 (Wp.int.R h') wu3 u3 ∧ V3 p0 (Y1 vs) u2 u3 = some X1) (Exists.intro (fun _ _ => 0) ?_))
 refine And.intro (Exists.intro U0 ⟨0, [], ([] : D0), rfl, rfl, (Sub.refl _), (c64 (by decide) (by decide)), (show F2 (Wp.int.R h) ([] : List (List Value)) ([] : D0) from trivial), hLX1⟩) ?_
 rintro v_0 wu3 m5 k4 ⟨u2, zzu3, u3, evX1, eoX1, sX1, iu2, fu3, hM1⟩
 cases evX1
 cases eoX1
 replace hM1 : V3 p0 m5 u2 u3 = some X1 := hM1
 obtain _ | m5 := m5
 ·cases (show (none : Option _) = some X1 from hM1)
 rw [V3.eq_2] at hM1
 refine And.intro (fun hc6 => ?_) (fun hc6 => ?_)
 ·replace hM1 := ifP hM1 hc6
  obtain ⟨x7, gx7, hM1⟩ := l0 hM1
  obtain ⟨bx7, csx7, ex7, rx7⟩ := Sl.getI (r := S0.toRp) (C5.mono sX1 rp0) gx7 (by decide)
  refine And.intro bx7 ?_
  obtain ⟨x7_0, x7_1, ax7_2, nx7_2, cx7_2, x7_2, rfl, rfl, ix7_0, ix7_1, rx7_2⟩ := B0 rx7
  obtain ⟨rfl, lx7_2⟩ := Sl.len rx7_2
  try dsimp only at hM1
  refine Exists.intro _ (And.intro ex7 ?_)
  obtain ⟨x8, gx8, hM1⟩ := l0 hM1
  refine Tr.val (C08 _ [.int .i64 x7_0, .int .i64 x7_1, .slice ax7_2 x7_2.length cx7_2] (x7_0, x7_1, x7_2) (z0 ix7_0 ix7_1 rx7_2) _  gx8) ?_
  refine And.intro (fun hc9 => ?_) (fun hc9 => ?_)
  ·replace hM1 := ifP hM1 hc9
   obtain ⟨q10, gq10, hM1⟩ := l0 hM1
   refine And.intro (N1 gq10 (by first | rw [F2.length fu3, F2.length (show F2 (Wp.int.R k4) ([[.int .i64 u2]] : List (List Value)) [u2] from ⟨⟨rfl, iu2⟩, trivial⟩)] | exact congrArg (· + 1) (F2.length fu3))) ?_
   refine And.intro rfl (And.intro (by repeat (first | exact trivial | refine And.intro rfl ?_)) (And.intro (by repeat (first | exact trivial | refine And.intro rfl ?_)) (Exists.intro m5 (And.intro ⟨(IntKind.i64.wrap (u2 + 1)), (wu3 ++ ([[.int .i64 u2]] : List (List Value))), (u3 ++ [u2]), rfl, rfl, sX1, (M0 _), (F2.append fu3 (show F2 (Wp.int.R k4) ([[.int .i64 u2]] : List (List Value)) [u2] from ⟨⟨rfl, iu2⟩, trivial⟩)), hM1⟩ (Nat.lt_succ_self _)))))
  ·replace hM1 := ifN hM1 hc9
   refine And.intro rfl (And.intro (by repeat (first | exact trivial | refine And.intro rfl ?_)) (And.intro (by repeat (first | exact trivial | refine And.intro rfl ?_)) (Exists.intro m5 (And.intro ⟨(IntKind.i64.wrap (u2 + 1)), wu3, u3, rfl, rfl, sX1, (M0 _), fu3, hM1⟩ (Nat.lt_succ_self _)))))
 ·replace hM1 := ifN hM1 hc6
  have hE := Option.some.inj hM1; subst hE
  try dsimp only [Y0, Z0] at hM0
  intro v11 k12 f13
  obtain ⟨az14, cz14, rfl, rz14, sz14, lz14⟩ := Q0.out (r := Wp.int.toRp) f13 fu3
  have hE := Option.some.inj hM0; subst hE
  exact ⟨az14, u3.length, cz14, rfl, rz14, (sX1.trans sz14)⟩
end Go.Proofs.YtknoadmdnjaocaaGreat
namespace Go.Proofs.YtknoadmdnjaocaaGreat
open Go.H
set_option linter.unusedVariables false
set_option linter.unusedSimpArgs false
set_option maxRecDepth 10000
theorem F7 (h : Hp) (csp0 : List Value) (p0 : j0) (rp0 : S0.R h csp0 p0) (r : j0) (hM0 : E4 p0 = some r) :
  Tr Tryz.prog 83 #[.agg csp0.toArray] h fun v h' => ∃ (g0 : Nat) (n0 c0 : Nat), v = .agg ([.int .i64 r.1, .int .i64 r.2.1, .slice (some ⟨g0, 0, none⟩) n0 c0] : List Value).toArray ∧ New S0 h h' [.int .i64 r.1, .int .i64 r.2.1, .slice (some ⟨g0, 0, none⟩) n0 c0] r := by
 obtain ⟨p0_0, p0_1, ap0_2, np0_2, cp0_2, p0_2, rfl, rfl, ip0_0, ip0_1, rp0_2⟩ := B0 rp0
 obtain ⟨rfl, lp0_2⟩ := Sl.len rp0_2
 unfold E4 at hM0
 dsimp only at hM0
 refine j3 (args := [.agg #[.int .i64 p0_0, .int .i64 p0_1, .slice ap0_2 p0_2.length cp0_2]]) (fn := Tryz.f83) rfl ?_
 refine Or.inr (Or.inr (Or.inl (And.intro (And.intro (by kernel_rfl) (by kernel_rfl)) ?_)))
 refine Or.inr ?_
 refine Or.inr ?_
 refine Or.inr ?_
 refine Or.inr ?_
 refine Exists.intro 0 (And.intro (And.intro rfl rfl) ?_)
 refine And.intro trivial (And.intro (by first | exact trivial | exact rfl) ?_)
 obtain ⟨vsy1, ey1, fy1⟩ := Sl.rows (r := P0.toRp) rp0_2
 refine Exists.intro vsy1 (And.intro ey1 ?_)
 obtain ⟨q2, gq2, hM0⟩ := l0 hM0
 refine And.intro (N1 gq2 (by first | rw [F2.length (show F2 (P0.R h) ([] : List (List Value)) ([] : I0) from trivial), F2.length fy1] | exact congrArg (· + 1) (F2.length (show F2 (P0.R h) ([] : List (List Value)) ([] : I0) from trivial)))) ?_
 refine And.intro trivial (And.intro (by first | exact trivial | exact rfl) ?_)
 refine And.intro trivial (And.intro (by first | exact trivial | exact rfl) ?_)
 refine And.intro trivial (And.intro (by first | exact trivial | exact rfl) ?_)
 intro v3 k4 f5
 obtain ⟨gz6, cz6, rfl, rz6, sz6, lz6⟩ := Q0.outS (r := P0.toRp) f5 (F2.append (show F2 (P0.R h) ([] : List (List Value)) ([] : I0) from trivial) fy1)
 have hE := Option.some.inj hM0; subst hE
 exact ⟨gz6, ((([] : I0) ++ p0_2)).length, cz6, rfl, (New.pair (New.int ip0_0) (New.pair (New.int ip0_1) (Q0.newPlain (r := P0) f5 (F2.append (show F2 (P0.R h) ([] : List (List Value)) ([] : I0) from trivial) fy1) (O0f _))))⟩
theorem D08 (h : Hp) (csp0 : List Value) (p0 : j0) (rp0 : S0.R h csp0 p0) (p1 : Int) (ip1 : N0 p1) (r : Int) (hM0 : G8 p0 p1 = some r) :
  Tr Tryz.prog 250 #[.agg csp0.toArray, .int .i64 p1] h fun v h' => v = .int .i64 r ∧ h' = h := by
 obtain ⟨p0_0, p0_1, ap0_2, np0_2, cp0_2, p0_2, rfl, rfl, ip0_0, ip0_1, rp0_2⟩ := B0 rp0
 obtain ⟨rfl, lp0_2⟩ := Sl.len rp0_2
 unfold G8 at hM0
 dsimp only at hM0
 refine Tr.forget (j3 (args := [.agg #[.int .i64 p0_0, .int .i64 p0_1, .slice ap0_2 p0_2.length cp0_2], .int .i64 p1]) (fn := Tryz.f250) rfl ?_)
 obtain ⟨X1, hLX1, hM0⟩ := l0 hM0
 refine Exists.intro { vars := [5, 11], boxes := [], owns := [], fuel := true } (Exists.intro (fun vs os h' => ∃ (u2 : Int) (u3 : Int), vs.tail = [.int .i64 u2, .int .i64 u3] ∧ os = [] ∧ Sub h h' ∧ N0 u2 ∧ N0 u3 ∧ i4 p0_2 p1 (Y1 vs) u2 u3 = some X1) (Exists.intro (fun _ _ => 0) ?_))
 refine And.intro (Exists.intro U0 ⟨0, 0, rfl, rfl, (Sub.refl _), (c64 (by decide) (by decide)), (c64 (by decide) (by decide)), hLX1⟩) ?_
 rintro v_0 v_1 m5 k4 ⟨u2, u3, evX1, eoX1, sX1, iu2, iu3, hM1⟩
 cases evX1
 cases eoX1
 replace hM1 : i4 p0_2 p1 m5 u2 u3 = some X1 := hM1
 obtain _ | m5 := m5
 ·cases (show (none : Option _) = some X1 from hM1)
 rw [i4.eq_2] at hM1
 refine And.intro (fun hc6 => ?_) (fun hc6 => ?_)
 ·replace hM1 := ifP hM1 hc6
  obtain ⟨x7, gx7, hM1⟩ := l0 hM1
  obtain ⟨bx7, csx7, ex7, rx7⟩ := Sl.getI (r := P0.toRp) (J0.mono sX1 rp0_2) gx7 (by decide)
  refine And.intro bx7 ?_
  obtain ⟨x7_0, x7_1, x7_2, rfl, rfl, ix7_0, ix7_1, ix7_2⟩ := E1 rx7
  try dsimp only at hM1
  refine Exists.intro _ (And.intro ex7 ?_)
  refine And.intro (fun hc8 => ?_) (fun hc8 => ?_)
  ·replace hM1 := ifP hM1 hc8
   refine And.intro (fun hc9 => ?_) (fun hc9 => ?_)
   ·replace hM1 := ifP hM1 hc9
    refine And.intro rfl (And.intro (by repeat (first | exact trivial | refine And.intro rfl ?_)) (And.intro (by repeat (first | exact trivial | refine And.intro rfl ?_)) (Exists.intro m5 (And.intro ⟨(IntKind.i64.wrap ((IntKind.i64.wrap (u2 + 1)) + 1)), (IntKind.i64.wrap (u3 + 1)), rfl, rfl, sX1, (M0 _), (M0 _), hM1⟩ (Nat.lt_succ_self _)))))
   ·replace hM1 := ifN hM1 hc9
    refine And.intro rfl (And.intro (by repeat (first | exact trivial | refine And.intro rfl ?_)) (And.intro (by repeat (first | exact trivial | refine And.intro rfl ?_)) (Exists.intro m5 (And.intro ⟨(IntKind.i64.wrap (u2 + 1)), (IntKind.i64.wrap (u3 + 1)), rfl, rfl, sX1, (M0 _), (M0 _), hM1⟩ (Nat.lt_succ_self _)))))
  ·replace hM1 := ifN hM1 hc8
   refine And.intro (fun hc10 => ?_) (fun hc10 => ?_)
   ·replace hM1 := ifP hM1 hc10
    refine And.intro rfl (And.intro (by repeat (first | exact trivial | refine And.intro rfl ?_)) (And.intro (by repeat (first | exact trivial | refine And.intro rfl ?_)) (Exists.intro m5 (And.intro ⟨(IntKind.i64.wrap (u2 + 1)), (IntKind.i64.wrap (u3 + 1)), rfl, rfl, sX1, (M0 _), (M0 _), hM1⟩ (Nat.lt_succ_self _)))))
   ·replace hM1 := ifN hM1 hc10
    refine And.intro rfl (And.intro (by repeat (first | exact trivial | refine And.intro rfl ?_)) (And.intro (by repeat (first | exact trivial | refine And.intro rfl ?_)) (Exists.intro m5 (And.intro ⟨u2, (IntKind.i64.wrap (u3 + 1)), rfl, rfl, sX1, iu2, (M0 _), hM1⟩ (Nat.lt_succ_self _)))))
 ·replace hM1 := ifN hM1 hc6
  have hE := Option.some.inj hM1; subst hE
  try dsimp only [Y0, Z0] at hM0
  have hE := Option.some.inj hM0; subst hE
  exact And.intro rfl sX1
theorem S9 (h : Hp) (ap0 : Option Addr) (np0 cp0 : Nat) (p0 : I0) (rp0 : J0.R h [.slice ap0 np0 cp0] p0) (ap1 : Option Addr) (np1 cp1 : Nat) (p1 : I0) (rp1 : J0.R h [.slice ap1 np1 cp1] p1) (r : Bool) (hM0 : Z1 p0 p1 = some r) :
  Tr Tryz.prog 252 #[.slice ap0 np0 cp0, .slice ap1 np1 cp1] h fun v h' => v = .bool r ∧ h' = h := by
 obtain ⟨rfl, lp0⟩ := Sl.len rp0
 obtain ⟨rfl, lp1⟩ := Sl.len rp1
 unfold Z1 at hM0
 refine Tr.forget (j3 (args := [.slice ap0 p0.length cp0, .slice ap1 p1.length cp1]) (fn := Tryz.f252) rfl ?_)
 refine And.intro (fun hc1 => ?_) (fun hc1 => ?_)
 ·replace hM0 := ifP hM0 hc1
  have hE := Option.some.inj hM0; subst hE
  exact And.intro rfl (Sub.refl _)
 ·replace hM0 := ifN hM0 hc1
  obtain ⟨X2, hLX2, hM0⟩ := l0 hM0
  refine Exists.intro { vars := [13], boxes := [], owns := [], fuel := true } (Exists.intro (fun vs os h' => ∃ (u3 : Int), vs.tail = [.int .i64 u3] ∧ os = [] ∧ Sub h h' ∧ N0 u3 ∧ V0 p0 p1 (Y1 vs) u3 = some X2) (Exists.intro (fun _ _ => 0) ?_))
  refine And.intro (Exists.intro U0 ⟨0, rfl, rfl, (Sub.refl _), (c64 (by decide) (by decide)), hLX2⟩) ?_
  rintro v_0 m5 k4 ⟨u3, evX2, eoX2, sX2, iu3, hM1⟩
  cases evX2
  cases eoX2
  replace hM1 : V0 p0 p1 m5 u3 = some X2 := hM1
  obtain _ | m5 := m5
  ·cases (show (none : Option _) = some X2 from hM1)
  rw [V0.eq_2] at hM1
  refine And.intro (fun hc6 => ?_) (fun hc6 => ?_)
  ·replace hM1 := ifP hM1 hc6
   refine Or.inl (And.intro (And.intro (by kernel_rfl) (by kernel_rfl)) ?_)
   obtain ⟨x7, gx7, hM1⟩ := l0 hM1
   obtain ⟨bx7, csx7, ex7, rx7⟩ := Sl.getI (r := P0.toRp) (J0.mono sX2 rp0) gx7 (by decide)
   refine And.intro bx7 ?_
   obtain ⟨x7_0, x7_1, x7_2, rfl, rfl, ix7_0, ix7_1, ix7_2⟩ := E1 rx7
   try dsimp only at hM1
   refine Exists.intro _ (And.intro ex7 ?_)
   obtain ⟨x8, gx8, hM1⟩ := l0 hM1
   obtain ⟨bx8, csx8, ex8, rx8⟩ := Sl.getI (r := P0.toRp) (J0.mono sX2 rp1) gx8 (by decide)
   refine And.intro bx8 ?_
   obtain ⟨x8_0, x8_1, x8_2, rfl, rfl, ix8_0, ix8_1, ix8_2⟩ := E1 rx8
   try dsimp only at hM1
   refine Exists.intro _ (And.intro ex8 ?_)
   refine Exists.intro (!eqE (x7_0, x7_1, x7_2) (x8_0, x8_1, x8_2)) (And.intro (S0c _ _ _ rfl _ _ _ _ _ _) ?_)
   refine And.intro (fun hc9 => ?_) (fun hc9 => ?_)
   ·replace hM1 := ifP hM1 hc9
    have hE := Option.some.inj hM1; subst hE
    try dsimp only [P6, Q6] at hM0
    have hE := Option.some.inj hM0; subst hE
    exact And.intro rfl sX2
   ·replace hM1 := ifN hM1 hc9
    refine And.intro rfl (And.intro (by repeat (first | exact trivial | refine And.intro rfl ?_)) (And.intro (by repeat (first | exact trivial | refine And.intro rfl ?_)) (Exists.intro m5 (And.intro ⟨(IntKind.i64.wrap (u3 + 1)), rfl, rfl, sX2, (M0 _), hM1⟩ (Nat.lt_succ_self _)))))
  ·replace hM1 := ifN hM1 hc6
   have hE := Option.some.inj hM1; subst hE
   try dsimp only [Y0, Z0] at hM0
   have hE := Option.some.inj hM0; subst hE
   exact And.intro rfl sX2
theorem U01 (h : Hp) (csp0 : List Value) (p0 : j0) (rp0 : S0.R h csp0 p0) (csp1 : List Value) (p1 : j0) (rp1 : S0.R h csp1 p1) (r : Bool) (hM0 : G6 p0 p1 = some r) :
  Tr Tryz.prog 168 #[.agg csp0.toArray, .agg csp1.toArray] h fun v h' => v = .bool r ∧ h' = h := by
 obtain ⟨p0_0, p0_1, ap0_2, np0_2, cp0_2, p0_2, rfl, rfl, ip0_0, ip0_1, rp0_2⟩ := B0 rp0
 obtain ⟨rfl, lp0_2⟩ := Sl.len rp0_2
 obtain ⟨p1_0, p1_1, ap1_2, np1_2, cp1_2, p1_2, rfl, rfl, ip1_0, ip1_1, rp1_2⟩ := B0 rp1
 obtain ⟨rfl, lp1_2⟩ := Sl.len rp1_2
 unfold G6 at hM0
 dsimp only at hM0
 refine Tr.forget (j3 (args := [.agg #[.int .i64 p0_0, .int .i64 p0_1, .slice ap0_2 p0_2.length cp0_2], .agg #[.int .i64 p1_0, .int .i64 p1_1, .slice ap1_2 p1_2.length cp1_2]]) (fn := Tryz.f168) rfl ?_)
 obtain ⟨x1, gx1, hM0⟩ := l0 hM0
 refine Exists.intro (.bool x1) (And.intro (fun q => S9 _ ap0_2 p0_2.length cp0_2 p0_2 rp0_2 ap1_2 p1_2.length cp1_2 p1_2 rp1_2 _  (E2 gx1 q)) ?_)
 have hE := Option.some.inj hM0; subst hE
 exact And.intro rfl (Sub.refl _)
theorem W04 (h : Hp) (csp0 : List Value) (p0 : j0) (rp0 : S0.R h csp0 p0) (p1 : Int) (ip1 : N0 p1) (r : (List Bool)) (hM0 : o7 p0 p1 = some r) :
  Tr Tryz.prog 249 #[.agg csp0.toArray, .int .i64 p1] h fun v h' => ∃ (a0 : Option Addr) (n0 c0 : Nat), v = .slice a0 n0 c0 ∧ (Wp.slice Wp.bool).R h' [.slice a0 n0 c0] r ∧ Sub h h' := by
 obtain ⟨p0_0, p0_1, ap0_2, np0_2, cp0_2, p0_2, rfl, rfl, ip0_0, ip0_1, rp0_2⟩ := B0 rp0
 obtain ⟨rfl, lp0_2⟩ := Sl.len rp0_2
 unfold o7 at hM0
 dsimp only at hM0
 refine j3 (args := [.agg #[.int .i64 p0_0, .int .i64 p0_1, .slice ap0_2 p0_2.length cp0_2], .int .i64 p1]) (fn := Tryz.f249) rfl ?_
 obtain ⟨q1, gq1, hM0⟩ := l0 hM0
 refine And.intro (B3 gq1) ?_
 obtain ⟨x2, gx2, hM0⟩ := l0 hM0
 obtain ⟨bx2, csx2, ex2, rx2⟩ := G3 (F2.rep (p := Wp.bool.R h) (a := [.bool false]) (b := false) rfl (p0_1.toNat)) gx2
 refine And.intro bx2 ?_
 obtain rfl := rx2
 refine Exists.intro _ (And.intro ex2 ?_)
 obtain ⟨X3, hLX3, hM0⟩ := l0 hM0
 refine Exists.intro { vars := [6], boxes := [], owns := [0], fuel := true, kept := [0] } (Exists.intro (fun vs os h' => ∃ (u4 : Bool) (wu5 : List (List Value)) (u5 : List Bool), vs.tail = [.bool u4] ∧ os = [wu5] ∧ Sub h h' ∧ F2 (Wp.bool.R h') wu5 u5 ∧ S3 p0_2 (Y1 vs) u4 u5 = some X3) (Exists.intro (fun _ _ => 0) ?_))
 refine And.intro (Exists.intro U0 ⟨true, ((List.replicate p0_1.toNat ([.bool false] : List Value)).set p1.toNat [.bool true]), ((List.replicate p0_1.toNat (false : Bool)).set p1.toNat true), rfl, rfl, (Sub.refl _), (F2.set (p := Wp.bool.R h) (a := [.bool true]) (b := true) rfl p1.toNat (F2.rep (p := Wp.bool.R h) (a := [.bool false]) (b := false) rfl (p0_1.toNat))), hLX3⟩) ?_
 rintro v_0 wu5 m7 k6 ⟨u4, zzu5, u5, evX3, eoX3, sX3, fu5, hM1⟩
 cases evX3
 cases eoX3
 replace hM1 : S3 p0_2 m7 u4 u5 = some X3 := hM1
 obtain _ | m7 := m7
 ·cases (show (none : Option _) = some X3 from hM1)
 rw [S3.eq_2] at hM1
 refine And.intro (fun hc8 => ?_) (fun hc8 => ?_)
 ·replace hM1 := ifP hM1 hc8
  obtain ⟨X9, hLX9, hM1⟩ := l0 hM1
  refine Exists.intro { vars := [6, 19], boxes := [], owns := [0], fuel := true, kept := [0] } (Exists.intro (fun vs os h' => ∃ (u10 : Bool) (u11 : Int) (wu12 : List (List Value)) (u12 : List Bool), vs.tail = [.bool u10, .int .i64 u11] ∧ os = [wu12] ∧ Sub k6 h' ∧ N0 u11 ∧ F2 (Wp.bool.R h') wu12 u12 ∧ A3 p0_2 (Y1 vs) u10 u11 u12 = some X9) (Exists.intro (fun _ _ => 0) ?_))
  refine And.intro (Exists.intro U0 ⟨false, 0, wu5, u5, rfl, rfl, (Sub.refl _), (c64 (by decide) (by decide)), fu5, hLX9⟩) ?_
  rintro v_0 v_1 wu12 m14 k13 ⟨u10, u11, zzu12, u12, evX9, eoX9, sX9, iu11, fu12, hM2⟩
  cases evX9
  cases eoX9
  replace hM2 : A3 p0_2 m14 u10 u11 u12 = some X9 := hM2
  obtain _ | m14 := m14
  ·cases (show (none : Option _) = some X9 from hM2)
  rw [A3.eq_2] at hM2
  refine And.intro (fun hc15 => ?_) (fun hc15 => ?_)
  ·replace hM2 := ifP hM2 hc15
   obtain ⟨x16, gx16, hM2⟩ := l0 hM2
   obtain ⟨bx16, csx16, ex16, rx16⟩ := Sl.getI (r := P0.toRp) (J0.mono (sX3.trans sX9) rp0_2) gx16 (by decide)
   refine And.intro bx16 ?_
   obtain ⟨x16_0, x16_1, x16_2, rfl, rfl, ix16_0, ix16_1, ix16_2⟩ := E1 rx16
   try dsimp only at hM2
   refine Exists.intro _ (And.intro ex16 ?_)
   refine Or.inl (And.intro (And.intro (by kernel_rfl) (by kernel_rfl)) ?_)
   obtain ⟨x17, gx17, hM2⟩ := l0 hM2
   obtain ⟨bx17, csx17, ex17, rx17⟩ := G3 fu12 gx17
   refine And.intro bx17 ?_
   obtain rfl := rx17
   refine Exists.intro _ (And.intro ex17 ?_)
   obtain ⟨x18, gx18, hM2⟩ := l0 hM2
   obtain ⟨bx18, csx18, ex18, rx18⟩ := G3 fu12 gx18
   refine And.intro bx18 ?_
   obtain rfl := rx18
   refine Exists.intro _ (And.intro ex18 ?_)
   refine And.intro (fun hc19 => ?_) (fun hc19 => ?_)
   ·replace hM2 := ifP hM2 hc19
    obtain ⟨x20, gx20, hM2⟩ := l0 hM2
    obtain ⟨bx20, csx20, ex20, rx20⟩ := G3 fu12 gx20
    refine And.intro bx20 ?_
    obtain rfl := rx20
    refine Exists.intro _ (And.intro ex20 ?_)
    obtain ⟨x21, gx21, hM2⟩ := l0 hM2
    obtain ⟨bx21, csx21, ex21, rx21⟩ := G3 (F2.set (p := Wp.bool.R k13) (a := [.bool true]) (b := true) rfl x16_0.toNat fu12) gx21
    refine And.intro bx21 ?_
    obtain rfl := rx21
    refine Exists.intro _ (And.intro ex21 ?_)
    refine And.intro rfl (And.intro (by repeat (first | exact trivial | refine And.intro rfl ?_)) (And.intro (by repeat (first | exact trivial | refine And.intro rfl ?_)) (Exists.intro m14 (And.intro ⟨true, (IntKind.i64.wrap (u11 + 1)), ((wu12.set x16_0.toNat [.bool true]).set x16_2.toNat [.bool true]), ((u12.set x16_0.toNat true).set x16_2.toNat true), rfl, rfl, sX9, (M0 _), (F2.set (p := Wp.bool.R k13) (a := [.bool true]) (b := true) rfl x16_2.toNat (F2.set (p := Wp.bool.R k13) (a := [.bool true]) (b := true) rfl x16_0.toNat fu12)), hM2⟩ (Nat.lt_succ_self _)))))
   ·replace hM2 := ifN hM2 hc19
    refine And.intro rfl (And.intro (by repeat (first | exact trivial | refine And.intro rfl ?_)) (And.intro (by repeat (first | exact trivial | refine And.intro rfl ?_)) (Exists.intro m14 (And.intro ⟨u10, (IntKind.i64.wrap (u11 + 1)), wu12, u12, rfl, rfl, sX9, (M0 _), fu12, hM2⟩ (Nat.lt_succ_self _)))))
  ·replace hM2 := ifN hM2 hc15
   have hE := Option.some.inj hM2; subst hE
   try dsimp only [Y0, Z0] at hM1
   refine And.intro rfl (And.intro (by repeat (first | exact trivial | refine And.intro rfl ?_)) (And.intro (by repeat (first | exact trivial | refine And.intro rfl ?_)) (Exists.intro m7 (And.intro ⟨u10, wu12, u12, rfl, rfl, (sX3.trans sX9), fu12, hM1⟩ (Nat.lt_succ_self _)))))
 ·replace hM1 := ifN hM1 hc8
  have hE := Option.some.inj hM1; subst hE
  try dsimp only [Y0, Z0] at hM0
  intro v27 k28 f29
  obtain ⟨az30, cz30, rfl, rz30, sz30, lz30⟩ := Q0.out (r := Wp.bool.toRp) f29 fu5
  have hE := Option.some.inj hM0; subst hE
  exact ⟨az30, u5.length, cz30, rfl, rz30, (sX3.trans sz30)⟩
theorem V01 (h : Hp) (p0 : Int) (ip0 : N0 p0) (r : D0) (hM0 : Z5 p0 = some r) :
  Tr Tryz.prog 265 #[.int .i64 p0] h fun v h' => ∃ (a0 : Option Addr) (n0 c0 : Nat), v = .slice a0 n0 c0 ∧ D1.R h' [.slice a0 n0 c0] r ∧ Sub h h' := by
 unfold Z5 at hM0
 refine j3 (args := [.int .i64 p0]) (fn := Tryz.f265) rfl ?_
 obtain ⟨X1, hLX1, hM0⟩ := l0 hM0
 refine Exists.intro { vars := [4], boxes := [], owns := [0], fuel := true } (Exists.intro (fun vs os h' => ∃ (u2 : Int) (wu3 : List (List Value)) (u3 : List Int), vs.tail = [.int .i64 u2] ∧ os = [wu3] ∧ Sub h h' ∧ N0 u2 ∧ F2 (Wp.int.R h') wu3 u3 ∧ K5 p0 (Y1 vs) u2 u3 = some X1) (Exists.intro (fun _ _ => 0) ?_))
 refine And.intro (Exists.intro U0 ⟨1, [], ([] : D0), rfl, rfl, (Sub.refl _), (c64 (by decide) (by decide)), (show F2 (Wp.int.R h) ([] : List (List Value)) ([] : D0) from trivial), hLX1⟩) ?_
 rintro v_0 wu3 m5 k4 ⟨u2, zzu3, u3, evX1, eoX1, sX1, iu2, fu3, hM1⟩
 cases evX1
 cases eoX1
 replace hM1 : K5 p0 m5 u2 u3 = some X1 := hM1
 obtain _ | m5 := m5
 ·cases (show (none : Option _) = some X1 from hM1)
 rw [K5.eq_2] at hM1
 refine And.intro (fun hc6 => ?_) (fun hc6 => ?_)
 ·replace hM1 := ifP hM1 hc6
  obtain ⟨q7, gq7, hM1⟩ := l0 hM1
  refine And.intro (N1 gq7 (by first | rw [F2.length fu3, F2.length (show F2 (Wp.int.R k4) ([[.int .i64 u2], [.int .i64 (IntKind.i64.wrap (0 - u2))]] : List (List Value)) [u2, (IntKind.i64.wrap (0 - u2))] from ⟨⟨rfl, iu2⟩, ⟨⟨rfl, (M0 _)⟩, trivial⟩⟩)] | exact congrArg (· + 2) (F2.length fu3))) ?_
  refine And.intro rfl (And.intro (by repeat (first | exact trivial | refine And.intro rfl ?_)) (And.intro (by repeat (first | exact trivial | refine And.intro rfl ?_)) (Exists.intro m5 (And.intro ⟨(IntKind.i64.wrap (u2 + 1)), (wu3 ++ ([[.int .i64 u2], [.int .i64 (IntKind.i64.wrap (0 - u2))]] : List (List Value))), (u3 ++ [u2, (IntKind.i64.wrap (0 - u2))]), rfl, rfl, sX1, (M0 _), (F2.append fu3 (show F2 (Wp.int.R k4) ([[.int .i64 u2], [.int .i64 (IntKind.i64.wrap (0 - u2))]] : List (List Value)) [u2, (IntKind.i64.wrap (0 - u2))] from ⟨⟨rfl, iu2⟩, ⟨⟨rfl, (M0 _)⟩, trivial⟩⟩)), hM1⟩ (Nat.lt_succ_self _)))))
 ·replace hM1 := ifN hM1 hc6
  have hE := Option.some.inj hM1; subst hE
  try dsimp only [Y0, Z0] at hM0
  intro v8 k9 f10
  obtain ⟨az11, cz11, rfl, rz11, sz11, lz11⟩ := Q0.out (r := Wp.int.toRp) f10 fu3
  have hE := Option.some.inj hM0; subst hE
  exact ⟨az11, u3.length, cz11, rfl, rz11, (sX1.trans sz11)⟩
theorem o05 (h : Hp) (ap0 : Option Addr) (np0 cp0 : Nat) (p0 : I0) (rp0 : J0.R h [.slice ap0 np0 cp0] p0) (r : I0) (hM0 : W8 p0 = some r) :
  Tr Tryz.prog 178 #[.slice ap0 np0 cp0] h fun v h' => ∃ (a0 : Option Addr) (n0 c0 : Nat), v = .slice a0 n0 c0 ∧ New J0 h h' [.slice a0 n0 c0] r := by
 obtain ⟨rfl, lp0⟩ := Sl.len rp0
 unfold W8 at hM0
 refine j3 (args := [.slice ap0 p0.length cp0]) (fn := Tryz.f178) rfl ?_
 obtain ⟨vsy1, ey1, fy1⟩ := Sl.rows (r := P0.toRp) rp0
 refine Exists.intro vsy1 (And.intro ey1 ?_)
 obtain ⟨q2, gq2, hM0⟩ := l0 hM0
 refine And.intro (N1 gq2 (by first | rw [F2.length (show F2 (P0.R h) ([] : List (List Value)) ([] : I0) from trivial), F2.length fy1] | exact congrArg (· + 1) (F2.length (show F2 (P0.R h) ([] : List (List Value)) ([] : I0) from trivial)))) ?_
 refine Or.inl ?_
 intro v3 k4 f5
 obtain ⟨q6, gq6, hM0⟩ := l0 hM0
 refine Tr.mono (M0e _ f5 (F2.append (show F2 (P0.R h) ([] : List (List Value)) ([] : I0) from trivial) fy1) (B3 gq6)) ?_
 rintro _ kz7 ⟨rfl, vsz7, fz7, qz7⟩
 obtain ⟨az7, cz7, rfl, rz7, sz7, lz7⟩ := Q0.out (r := P0.toRp) fz7 qz7
 refine Tr.mono (N0e _ fz7 qz7) ?_
 rintro _ kz8 ⟨vsz8, fz8, qz8⟩
 obtain ⟨az8, cz8, rfl, rz8, sz8, lz8⟩ := Q0.out (r := P0.toRp) fz8 qz8
 have hE := Option.some.inj hM0; subst hE
 exact ⟨az8, ((K00 eqE (R02 O0 (([] : I0) ++ p0)))).length, cz8, rfl, (Q0.newPlain (r := P0) fz8 qz8 (O0f _))⟩
theorem A04 (h : Hp) (csp0 : List Value) (p0 : j0) (rp0 : S0.R h csp0 p0) (ap1 : Option Addr) (np1 cp1 : Nat) (p1 : D0) (rp1 : D1.R h [.slice ap1 np1 cp1] p1) (r : j0) (hM0 : z9 p0 p1 = some r) :
  Tr Tryz.prog 251 #[.agg csp0.toArray, .slice ap1 np1 cp1] h fun v h' => ∃ (cs0 : List Value), v = .agg cs0.toArray ∧ New S0 h h' cs0 r := by
 obtain ⟨p0_0, p0_1, ap0_2, np0_2, cp0_2, p0_2, rfl, rfl, ip0_0, ip0_1, rp0_2⟩ := B0 rp0
 obtain ⟨rfl, lp0_2⟩ := Sl.len rp0_2
 obtain ⟨rfl, lp1⟩ := Sl.len rp1
 unfold z9 at hM0
 dsimp only at hM0
 refine j3 (args := [.agg #[.int .i64 p0_0, .int .i64 p0_1, .slice ap0_2 p0_2.length cp0_2], .slice ap1 p1.length cp1]) (fn := Tryz.f251) rfl ?_
 obtain ⟨q1, gq1, hM0⟩ := l0 hM0
 refine And.intro (B3 gq1) ?_
 obtain ⟨m2, gm2, hM0⟩ := l0 hM0
 obtain rfl : (List.replicate p0_1.toNat ([.int .i64 0] : List Value)).length = m2 := (F2.length (F2.rep (p := Wp.int.R h) (a := [.int .i64 0]) (b := 0) ⟨rfl, (c64 (by decide) (by decide))⟩ (p0_1.toNat))).trans (Option.some.inj gm2)
 obtain ⟨q3, gq3, hM0⟩ := l0 hM0
 obtain ⟨X4, hLX4, hM0⟩ := l0 hM0
 refine Exists.intro { vars := [17], boxes := [], owns := [0], fuel := true, kept := [0] } (Exists.intro (fun vs os h' => ∃ (u5 : Int) (wu6 : List (List Value)) (u6 : List Int), vs.tail = [.int .i64 u5] ∧ os = [wu6] ∧ Sub h h' ∧ N0 u5 ∧ F2 (Wp.int.R h') wu6 u6 ∧ y7 ((List.replicate p0_1.toNat ([.int .i64 0] : List Value))).length (Y1 vs) u5 u6 = some X4) (Exists.intro (fun _ _ => 0) ?_))
 refine And.intro (Exists.intro U0 ⟨0, (List.replicate p0_1.toNat ([.int .i64 0] : List Value)), (List.replicate p0_1.toNat (0 : Int)), rfl, rfl, (Sub.refl _), (c64 (by decide) (by decide)), (F2.rep (p := Wp.int.R h) (a := [.int .i64 0]) (b := 0) ⟨rfl, (c64 (by decide) (by decide))⟩ (p0_1.toNat)), hLX4⟩) ?_
 rintro v_0 wu6 m8 k7 ⟨u5, zzu6, u6, evX4, eoX4, sX4, iu5, fu6, hM1⟩
 cases evX4
 cases eoX4
 replace hM1 : y7 ((List.replicate p0_1.toNat ([.int .i64 0] : List Value))).length m8 u5 u6 = some X4 := hM1
 obtain _ | m8 := m8
 ·cases (show (none : Option _) = some X4 from hM1)
 rw [y7.eq_2] at hM1
 refine And.intro (fun hc9 => ?_) (fun hc9 => ?_)
 ·replace hM1 := ifP hM1 hc9
  obtain ⟨x10, gx10, hM1⟩ := l0 hM1
  obtain ⟨bx10, csx10, ex10, rx10⟩ := G3 fu6 gx10
  refine And.intro bx10 ?_
  obtain ⟨rfl, ix10⟩ := rx10
  refine Exists.intro _ (And.intro ex10 ?_)
  refine And.intro rfl (And.intro (by repeat (first | exact trivial | refine And.intro rfl ?_)) (And.intro (by repeat (first | exact trivial | refine And.intro rfl ?_)) (Exists.intro m8 (And.intro ⟨(IntKind.i64.wrap (u5 + 1)), (wu6.set u5.toNat [.int .i64 (-1)]), (u6.set u5.toNat (-1)), rfl, rfl, sX4, (M0 _), (F2.set (p := Wp.int.R k7) (a := [.int .i64 (-1)]) (b := (-1)) ⟨rfl, (c64 (by decide) (by decide))⟩ u5.toNat fu6), hM1⟩ (Nat.lt_succ_self _)))))
 ·replace hM1 := ifN hM1 hc9
  have hE := Option.some.inj hM1; subst hE
  try dsimp only [Y0, Z0] at hM0
  obtain ⟨X11, hLX11, hM0⟩ := l0 hM0
  refine Exists.intro { vars := [26], boxes := [], owns := [0], fuel := true, kept := [0] } (Exists.intro (fun vs os h' => ∃ (u12 : Int) (wu13 : List (List Value)) (u13 : List Int), vs.tail = [.int .i64 u12] ∧ os = [wu13] ∧ Sub k7 h' ∧ N0 u12 ∧ F2 (Wp.int.R h') wu13 u13 ∧ w7 p1 (Y1 vs) u12 u13 = some X11) (Exists.intro (fun _ _ => 0) ?_))
  refine And.intro (Exists.intro U0 ⟨0, wu6, u6, rfl, rfl, (Sub.refl _), (c64 (by decide) (by decide)), fu6, hLX11⟩) ?_
  rintro v_0 wu13 m15 k14 ⟨u12, zzu13, u13, evX11, eoX11, sX11, iu12, fu13, hM1⟩
  cases evX11
  cases eoX11
  replace hM1 : w7 p1 m15 u12 u13 = some X11 := hM1
  obtain _ | m15 := m15
  ·cases (show (none : Option _) = some X11 from hM1)
  rw [w7.eq_2] at hM1
  refine And.intro (fun hc16 => ?_) (fun hc16 => ?_)
  ·replace hM1 := ifP hM1 hc16
   obtain ⟨x17, gx17, hM1⟩ := l0 hM1
   obtain ⟨bx17, csx17, ex17, rx17⟩ := Sl.getI (r := Wp.int.toRp) (D1.mono (sX4.trans sX11) rp1) gx17 (by decide)
   refine And.intro bx17 ?_
   obtain ⟨rfl, ix17⟩ := rx17
   refine Exists.intro _ (And.intro ex17 ?_)
   obtain ⟨x18, gx18, hM1⟩ := l0 hM1
   obtain ⟨bx18, csx18, ex18, rx18⟩ := G3 fu13 gx18
   refine And.intro bx18 ?_
   obtain ⟨rfl, ix18⟩ := rx18
   refine Exists.intro _ (And.intro ex18 ?_)
   refine And.intro rfl (And.intro (by repeat (first | exact trivial | refine And.intro rfl ?_)) (And.intro (by repeat (first | exact trivial | refine And.intro rfl ?_)) (Exists.intro m15 (And.intro ⟨(IntKind.i64.wrap (u12 + 1)), (wu13.set x17.toNat [.int .i64 u12]), (u13.set x17.toNat u12), rfl, rfl, sX11, (M0 _), (F2.set (p := Wp.int.R k14) (a := [.int .i64 u12]) (b := u12) ⟨rfl, iu12⟩ x17.toNat fu13), hM1⟩ (Nat.lt_succ_self _)))))
  ·replace hM1 := ifN hM1 hc16
   have hE := Option.some.inj hM1; subst hE
   try dsimp only [Y0, Z0] at hM0
   obtain ⟨X19, hLX19, hM0⟩ := l0 hM0
   refine Exists.intro { vars := [44], boxes := [2], owns := [1], fuel := true, nilsB := [(2, 2, 141, 3, 24)] } (Exists.intro (fun vs os h' => ∃ (u20 : Int) (u21 : Int) (u22 : Int) (wu23 : List (List Value)) (u23 : List C0), vs.tail = [.int .i64 u20, .int .i64 u21, .int .i64 u22] ∧ os = [wu23] ∧ Sub k14 h' ∧ N0 u20 ∧ N0 u21 ∧ N0 u22 ∧ F2 (P0.R h') wu23 u23 ∧ J6 p0_2 u13 (Y1 vs) u20 u21 u22 u23 = some X19) (Exists.intro (fun _ _ => 0) ?_))
   refine And.intro (Exists.intro U0 ⟨0, p0_0, ((p1.length : Nat) : Int), [], ([] : I0), rfl, rfl, (Sub.refl _), (c64 (by decide) (by decide)), ip0_0, (r0k lp1), (show F2 (P0.R k14) [] [] from trivial), hLX19⟩) ?_
   rintro v_0 v_1 v_2 wu23 m25 k24 ⟨u20, u21, u22, zzu23, u23, evX19, eoX19, sX19, iu20, iu21, iu22, fu23, hM1⟩
   cases evX19
   cases eoX19
   replace hM1 : J6 p0_2 u13 m25 u20 u21 u22 u23 = some X19 := hM1
   obtain _ | m25 := m25
   ·cases (show (none : Option _) = some X19 from hM1)
   rw [J6.eq_2] at hM1
   refine And.intro (fun hc26 => ?_) (fun hc26 => ?_)
   ·replace hM1 := ifP hM1 hc26
    obtain ⟨x27, gx27, hM1⟩ := l0 hM1
    obtain ⟨bx27, csx27, ex27, rx27⟩ := Sl.getI (r := P0.toRp) (J0.mono ((sX4.trans sX11).trans sX19) rp0_2) gx27 (by decide)
    refine And.intro bx27 ?_
    obtain ⟨x27_0, x27_1, x27_2, rfl, rfl, ix27_0, ix27_1, ix27_2⟩ := E1 rx27
    try dsimp only at hM1
    refine Exists.intro _ (And.intro ex27 ?_)
    obtain ⟨x28, gx28, hM1⟩ := l0 hM1
    obtain ⟨bx28, csx28, ex28, rx28⟩ := G3 (F2.up (r := Wp.int.toRp) sX19 fu13) gx28
    refine And.intro bx28 ?_
    obtain ⟨rfl, ix28⟩ := rx28
    refine Exists.intro _ (And.intro ex28 ?_)
    obtain ⟨x29, gx29, hM1⟩ := l0 hM1
    obtain ⟨csx29, ex29, rx29⟩ := Q02 (F2.up (r := Wp.int.toRp) sX19 fu13) gx29 (u0g k24)
    refine And.intro (fun q => (ex29 q).1) ?_
    obtain ⟨rfl, ix29⟩ := rx29
    refine Exists.intro _ (And.intro (fun q => (ex29 q).2) ?_)
    refine And.intro (fun hc30 => ?_) (fun hc30 => ?_)
    ·replace hM1 := ifP hM1 hc30
     refine Or.inr (Or.inr (Or.inl (And.intro (And.intro (by kernel_rfl) (by kernel_rfl)) ?_)))
     obtain ⟨x31, gx31, hM1⟩ := l0 hM1
     obtain ⟨bx31, csx31, ex31, rx31⟩ := G3 (F2.up (r := Wp.int.toRp) sX19 fu13) gx31
     obtain ⟨rfl, ix31⟩ := rx31
     refine Or.inl ?_
     apply Exists.intro
     refine And.intro ?_ ?_
     ·intro k32 s33
      exact And.intro bx31 (And.intro rfl (And.intro rfl rfl))
     refine Or.inl (Exists.intro (.val (.int .i64 x31)) (And.intro ?_ ?_))
     ·intro k34 s35
      exact Exists.intro _ (And.intro ex31 (And.intro rfl (And.intro rfl rfl)))
     obtain ⟨x36, gx36, hM1⟩ := l0 hM1
     obtain ⟨bx36, csx36, ex36, rx36⟩ := G3 (F2.up (r := Wp.int.toRp) sX19 fu13) gx36
     obtain ⟨rfl, ix36⟩ := rx36
     refine Or.inl ?_
     apply Exists.intro
     refine And.intro ?_ ?_
     ·intro k37 s38
      exact And.intro bx36 (And.intro rfl (And.intro rfl rfl))
     refine Or.inl (Exists.intro (.val (.int .i64 x36)) (And.intro ?_ ?_))
     ·intro k39 s40
      exact Exists.intro _ (And.intro ex36 (And.intro rfl (And.intro rfl rfl)))
     refine Or.inl (Exists.intro (.agg [.val (.int .i64 x31), .val (.int .i64 x27_1), .val (.int .i64 x36)]) (And.intro ?_ ?_))
     ·intro k41 s42
      exact And.intro rfl (And.intro rfl rfl)
     refine Or.inr ?_
     refine Or.inr ?_
     refine Or.inr ?_
     refine Exists.intro 0 (And.intro (And.intro rfl rfl) ?_)
     refine And.intro trivial (And.intro (by first | exact trivial | exact rfl) ?_)
     obtain ⟨q43, gq43, hM1⟩ := l0 hM1
     refine And.intro (N1 gq43 (by first | rw [F2.length fu23, F2.length (show F2 (P0.R k24) ([[.int .i64 x31, .int .i64 x27_1, .int .i64 x36]] : List (List Value)) [(x31, x27_1, x36)] from ⟨(K1 ix31 ix27_1 ix36), trivial⟩)] | exact congrArg (· + 1) (F2.length fu23))) ?_
     refine And.intro trivial (And.intro (by first | exact trivial | exact rfl) ?_)
     refine And.intro trivial (And.intro (by first | exact trivial | exact rfl) ?_)
     refine And.intro rfl (And.intro (by repeat (first | exact trivial | refine And.intro rfl ?_)) (And.intro (by repeat (first | exact trivial | refine And.intro rfl ?_)) (Exists.intro m25 (And.intro ⟨(IntKind.i64.wrap (u20 + 1)), u21, u22, (wu23 ++ ([[.int .i64 x31, .int .i64 x27_1, .int .i64 x36]] : List (List Value))), (u23 ++ [(x31, x27_1, x36)]), rfl, rfl, sX19, (M0 _), iu21, iu22, (F2.append fu23 (show F2 (P0.R k24) ([[.int .i64 x31, .int .i64 x27_1, .int .i64 x36]] : List (List Value)) [(x31, x27_1, x36)] from ⟨(K1 ix31 ix27_1 ix36), trivial⟩)), hM1⟩ (Nat.lt_succ_self _)))))
    ·replace hM1 := ifN hM1 hc30
     refine And.intro rfl (And.intro (by repeat (first | exact trivial | refine And.intro rfl ?_)) (And.intro (by repeat (first | exact trivial | refine And.intro rfl ?_)) (Exists.intro m25 (And.intro ⟨(IntKind.i64.wrap (u20 + 1)), u21, u22, wu23, u23, rfl, rfl, sX19, (M0 _), iu21, iu22, fu23, hM1⟩ (Nat.lt_succ_self _)))))
   ·replace hM1 := ifN hM1 hc26
    have hE := Option.some.inj hM1; subst hE
    try dsimp only [Y0, Z0] at hM0
    refine Or.inl ?_
    intro v44 k45 f46
    obtain ⟨az47, cz47, rfl, rz47, sz47, lz47⟩ := Q0.out (r := P0.toRp) f46 fu23
    obtain ⟨x48, gx48, hM0⟩ := l0 hM0
    refine Tr.mono (o05 _ az47 u23.length cz47 u23 rz47 _  gx48) ?_
    rintro v50 k49 ⟨ax48, nx48, cx48, rfl, wx48⟩
    have sx48 : Sub k45 k49 := wx48.sub
    have rx48 := wx48.r
    obtain ⟨rfl, lx48⟩ := Sl.len rx48
    have hE := Option.some.inj hM0; subst hE
    exact ⟨([.int .i64 u21, .int .i64 u22, .slice ax48 x48.length cx48]), rfl, (New.pair (New.int iu21) (New.pair (New.int iu22) (New.from wx48 (((sX4.trans sX11).trans sX19).trans sz47))))⟩
end Go.Proofs.YtknoadmdnjaocaaGreat
namespace Go.Proofs.YtknoadmdnjaocaaGreat
open Go.H
set_option linter.unusedVariables false
set_option linter.unusedSimpArgs false
set_option maxRecDepth 10000
theorem F03 (h : Hp) (ap0 : Option Addr) (np0 cp0 : Nat) (p0 : D0) (rp0 : D1.R h [.slice ap0 np0 cp0] p0) (r : D0) (hM0 : U7 p0 = some r) :
  Tr Tryz.prog 176 #[.slice ap0 np0 cp0] h fun v h' => ∃ (g0 : Nat) (n0 c0 : Nat), v = .slice (some ⟨g0, 0, none⟩) n0 c0 ∧ New D1 h h' [.slice (some ⟨g0, 0, none⟩) n0 c0] r := by
 obtain ⟨rfl, lp0⟩ := Sl.len rp0
 unfold U7 at hM0
 refine j3 (args := [.slice ap0 p0.length cp0]) (fn := Tryz.f176) rfl ?_
 obtain ⟨vsy1, ey1, fy1⟩ := Sl.rows (r := Wp.int.toRp) rp0
 refine Exists.intro vsy1 (And.intro ey1 ?_)
 obtain ⟨q2, gq2, hM0⟩ := l0 hM0
 refine And.intro (N1 gq2 (by first | rw [F2.length (show F2 (Wp.int.R h) ([] : List (List Value)) ([] : D0) from trivial), F2.length fy1] | exact congrArg (· + 1) (F2.length (show F2 (Wp.int.R h) ([] : List (List Value)) ([] : D0) from trivial)))) ?_
 intro v3 k4 f5
 obtain ⟨gz6, cz6, rfl, rz6, sz6, lz6⟩ := Q0.outS (r := Wp.int.toRp) f5 (F2.append (show F2 (Wp.int.R h) ([] : List (List Value)) ([] : D0) from trivial) fy1)
 have hE := Option.some.inj hM0; subst hE
 exact ⟨gz6, ((([] : D0) ++ p0)).length, cz6, rfl, (Q0.newPlain (r := Wp.int) f5 (F2.append (show F2 (Wp.int.R h) ([] : List (List Value)) ([] : D0) from trivial) fy1) (h08 _))⟩
theorem S06 (h : Hp) (csp0 : List Value) (p0 : j0) (rp0 : S0.R h csp0 p0) (p1 : Int) (ip1 : N0 p1) (r : D0 × B8) (hM0 : c9 p0 p1 = some r) :
  Tr Tryz.prog 229 #[.agg csp0.toArray, .int .i64 p1] h fun v h' => ∃ (a0 : Option Addr) (n0 c0 : Nat) (a1 : Option Addr) (n1 c1 : Nat), v = .tuple #[.slice a0 n0 c0, .slice a1 n1 c1] ∧ D1.R h' [.slice a0 n0 c0] r.1 ∧ l04.R h' [.slice a1 n1 c1] r.2 ∧ Sub h h' := by
 obtain ⟨p0_0, p0_1, ap0_2, np0_2, cp0_2, p0_2, rfl, rfl, ip0_0, ip0_1, rp0_2⟩ := B0 rp0
 obtain ⟨rfl, lp0_2⟩ := Sl.len rp0_2
 unfold c9 at hM0
 dsimp only at hM0
 refine j3 (args := [.agg #[.int .i64 p0_0, .int .i64 p0_1, .slice ap0_2 p0_2.length cp0_2], .int .i64 p1]) (fn := Tryz.f229) rfl ?_
 obtain ⟨q1, gq1, hM0⟩ := l0 hM0
 refine And.intro (B3 gq1) ?_
 obtain ⟨x2, gx2, hM0⟩ := l0 hM0
 obtain ⟨bx2, csx2, ex2, rx2⟩ := G3 (F2.rep (p := Wp.opt.R h) (a := [.slice none 0 0]) (b := none) (T0g h) (p0_1.toNat)) gx2
 refine And.intro bx2 ?_
 obtain ⟨ax2, nx2, cx2, rfl, ox2, qx2⟩ := rx2
 obtain ⟨rfl, lx2⟩ := Sl.len qx2
 intro v3 k4 f5
 obtain ⟨gz6, cz6, rfl, rz6, sz6, lz6⟩ := Q0.outS (r := Wp.int.toRp) f5 (show F2 (Wp.int.R h) ([] : List (List Value)) ([] : D0) from trivial)
 refine Exists.intro _ (And.intro ex2 ?_)
 obtain ⟨X7, hLX7, hM0⟩ := l0 hM0
 refine Exists.intro { vars := [8], boxes := [], owns := [0, 2], fuel := true, kept := [0] } (Exists.intro (fun vs os h' => ∃ (u8 : Int) (wu9 : List (List Value)) (u9 : List (Option D0)) (wu10 : List (List Value)) (u10 : List Int), vs.tail = [.int .i64 u8] ∧ os = [wu9, wu10] ∧ Sub k4 h' ∧ N0 u8 ∧ F2 (Wp.opt.R h') wu9 u9 ∧ F2 (Wp.int.R h') wu10 u10 ∧ Y2 p0_0 p0_1 p0_2 (Y1 vs) u8 u9 u10 = some X7) (Exists.intro (fun _ _ => 0) ?_))
 refine And.intro (Exists.intro U0 ⟨0, ((List.replicate p0_1.toNat ([.slice none 0 0] : List Value)).set p1.toNat [.slice (some ⟨gz6, 0, none⟩) (([] : D0)).length cz6]), ((List.replicate p0_1.toNat (none : Option D0)).set p1.toNat (some ([] : D0))), ([[.int .i64 p1]] : List (List Value)), [p1], rfl, rfl, (Sub.refl _), (c64 (by decide) (by decide)), (F2.set (p := Wp.opt.R k4) (a := [.slice (some ⟨gz6, 0, none⟩) (([] : D0)).length cz6]) (b := some ([] : D0)) (U0g rz6) p1.toNat (F2.up (r := Wp.opt.toRp) sz6 (F2.rep (p := Wp.opt.R h) (a := [.slice none 0 0]) (b := none) (T0g h) (p0_1.toNat)))), (show F2 (Wp.int.R k4) ([[.int .i64 p1]] : List (List Value)) [p1] from ⟨⟨rfl, ip1⟩, trivial⟩), hLX7⟩) ?_
 rintro v_0 wu9 wu10 m12 k11 ⟨u8, zzu9, u9, zzu10, u10, evX7, eoX7, sX7, iu8, fu9, fu10, hM1⟩
 cases evX7
 cases eoX7
 replace hM1 : Y2 p0_0 p0_1 p0_2 m12 u8 u9 u10 = some X7 := hM1
 obtain _ | m12 := m12
 ·cases (show (none : Option _) = some X7 from hM1)
 rw [Y2.eq_2] at hM1
 obtain ⟨m13, gm13, hM1⟩ := l0 hM1
 obtain rfl : wu10.length = m13 := (F2.length fu10).trans (Option.some.inj gm13)
 obtain ⟨q14, gq14, hM1⟩ := l0 hM1
 refine And.intro (fun hc15 => ?_) (fun hc15 => ?_)
 ·replace hM1 := ifP hM1 hc15
  obtain ⟨x16, gx16, hM1⟩ := l0 hM1
  obtain ⟨bx16, csx16, ex16, rx16⟩ := G3 fu10 gx16
  refine And.intro bx16 ?_
  obtain ⟨rfl, ix16⟩ := rx16
  refine Exists.intro _ (And.intro ex16 ?_)
  obtain ⟨x17, gx17, hM1⟩ := l0 hM1
  refine Tr.mono (V01 _ p0_0 ip0_0 _  gx17) ?_
  rintro v19 k18 ⟨ax17, nx17, cx17, rfl, rx17, sx17⟩
  obtain ⟨rfl, lx17⟩ := Sl.len rx17
  obtain ⟨X20, hLX20, hM1⟩ := l0 hM1
  refine Exists.intro { vars := [36], boxes := [], owns := [0, 2], fuel := true, kept := [0] } (Exists.intro (fun vs os h' => ∃ (u21 : Int) (wu22 : List (List Value)) (u22 : List (Option D0)) (wu23 : List (List Value)) (u23 : List Int), vs.tail = [.int .i64 u21] ∧ os = [wu22, wu23] ∧ Sub k18 h' ∧ N0 u21 ∧ F2 (Wp.opt.R h') wu22 u22 ∧ F2 (Wp.int.R h') wu23 u23 ∧ Q1 x17 p0_0 p0_1 p0_2 x16 (Y1 vs) u21 u22 u23 = some X20) (Exists.intro (fun _ _ => 0) ?_))
  refine And.intro (Exists.intro U0 ⟨0, wu9, u9, wu10, u10, rfl, rfl, (Sub.refl _), (c64 (by decide) (by decide)), (F2.up (r := Wp.opt.toRp) sx17 fu9), (F2.up (r := Wp.int.toRp) sx17 fu10), hLX20⟩) ?_
  rintro v_0 wu22 wu23 m25 k24 ⟨u21, zzu22, u22, zzu23, u23, evX20, eoX20, sX20, iu21, fu22, fu23, hM2⟩
  cases evX20
  cases eoX20
  replace hM2 : Q1 x17 p0_0 p0_1 p0_2 x16 m25 u21 u22 u23 = some X20 := hM2
  obtain _ | m25 := m25
  ·cases (show (none : Option _) = some X20 from hM2)
  rw [Q1.eq_2] at hM2
  refine And.intro (fun hc26 => ?_) (fun hc26 => ?_)
  ·replace hM2 := ifP hM2 hc26
   obtain ⟨x27, gx27, hM2⟩ := l0 hM2
   obtain ⟨bx27, csx27, ex27, rx27⟩ := Sl.getI (r := Wp.int.toRp) (D1.mono sX20 rx17) gx27 (by decide)
   refine And.intro bx27 ?_
   obtain ⟨rfl, ix27⟩ := rx27
   refine Exists.intro _ (And.intro ex27 ?_)
   obtain ⟨x28, gx28, hM2⟩ := l0 hM2
   refine Tr.val (H00 _ [.int .i64 p0_0, .int .i64 p0_1, .slice ap0_2 p0_2.length cp0_2] (p0_0, p0_1, p0_2) (z0 ip0_0 ip0_1 (J0.mono (((sz6.trans sX7).trans sx17).trans sX20) rp0_2)) x16 ix16 x27 ix27 _  gx28) ?_
   obtain ⟨q29, gq29, hM2⟩ := l0 hM2
   have ix28 : N0 x28 := B3 gq29
   obtain ⟨x30, gx30, hM2⟩ := l0 hM2
   obtain ⟨csx30, ex30, rx30⟩ := Q02 fu22 gx30 (I0k k24)
   refine And.intro (fun q => (ex30 q).1) ?_
   obtain ⟨ax30, nx30, cx30, rfl, ox30, qx30⟩ := rx30
   obtain ⟨rfl, lx30⟩ := Sl.len qx30
   refine Exists.intro _ (And.intro (fun q => (ex30 q).2) ?_)
   refine Exists.intro (x30.isNone) (And.intro (fun _ => by rw [← ox30]; exact v0j _ _ _ rfl _ _ _) ?_)
   refine And.intro (fun hc31 => ?_) (fun hc31 => ?_)
   ·replace hM2 := ifP hM2 hc31
    obtain ⟨x32, gx32, hM2⟩ := l0 hM2
    obtain ⟨bx32, csx32, ex32, rx32⟩ := G3 fu22 gx32
    refine And.intro bx32 ?_
    obtain ⟨ax32, nx32, cx32, rfl, ox32, qx32⟩ := rx32
    obtain ⟨rfl, lx32⟩ := Sl.len qx32
    refine Exists.intro _ (And.intro ex32 ?_)
    obtain ⟨x33, gx33, hM2⟩ := l0 hM2
    refine Tr.mono (F03 _ ax32 (x32.getD []).length cx32 (x32.getD []) qx32 _  gx33) ?_
    rintro v35 k34 ⟨gx33, nx33, cx33, rfl, wx33⟩
    have sx33 : Sub k24 k34 := wx33.sub
    have rx33 := wx33.r
    obtain ⟨rfl, lx33⟩ := Sl.len rx33
    obtain ⟨q36, gq36, hM2⟩ := l0 hM2
    obtain ⟨vsz37, rxz37, lnz37, apz37⟩ := New.app wx33 (Sub.refl _)
    refine Exists.intro vsz37 (And.intro rxz37 (And.intro (N1 gq36 (by first | rw [lnz37, F2.length (show F2 (Wp.int.R k34) ([[.int .i64 x27]] : List (List Value)) [x27] from ⟨⟨rfl, ix27⟩, trivial⟩)] | (rw [lnz37]; rfl))) ?_))
    intro vz37 kz37 happz37
    obtain ⟨wz37, gz37, oz37, nz37, cz37, rfl⟩ := apz37 _ _ _ _ _ (F3.ofPlain (h08 _) (show F2 (Wp.int.R k34) ([[.int .i64 x27]] : List (List Value)) [x27] from ⟨⟨rfl, ix27⟩, trivial⟩)) O6.ofPlain happz37
    have rz37 := wz37.r
    obtain ⟨ez37, lz37⟩ := Sl.len rz37
    subst ez37
    obtain ⟨x38, gx38, hM2⟩ := l0 hM2
    obtain ⟨bx38, csx38, ex38, rx38⟩ := G3 (F2.up (r := Wp.opt.toRp) wz37.sub fu22) gx38
    refine And.intro bx38 ?_
    obtain ⟨ax38, nx38, cx38, rfl, ox38, qx38⟩ := rx38
    obtain ⟨rfl, lx38⟩ := Sl.len qx38
    refine Exists.intro _ (And.intro ex38 ?_)
    obtain ⟨q39, gq39, hM2⟩ := l0 hM2
    refine And.intro (N1 gq39 (by first | rw [F2.length (F2.up (r := Wp.int.toRp) wz37.sub fu23), F2.length (show F2 (Wp.int.R kz37) ([[.int .i64 x28]] : List (List Value)) [x28] from ⟨⟨rfl, ix28⟩, trivial⟩)] | exact congrArg (· + 1) (F2.length (F2.up (r := Wp.int.toRp) wz37.sub fu23)))) ?_
    refine And.intro rfl (And.intro (by repeat (first | exact trivial | refine And.intro rfl ?_)) (And.intro (by repeat (first | exact trivial | refine And.intro rfl ?_)) (Exists.intro m25 (And.intro ⟨(IntKind.i64.wrap (u21 + 1)), (wu22.set x28.toNat [.slice (some ⟨gz37, oz37, none⟩) (x33 ++ [x27]).length cz37]), (u22.set x28.toNat (some (x33 ++ [x27]))), (wu23 ++ ([[.int .i64 x28]] : List (List Value))), (u23 ++ [x28]), rfl, rfl, (sX20.trans wz37.sub), (M0 _), (F2.set (p := Wp.opt.R kz37) (a := [.slice (some ⟨gz37, oz37, none⟩) (x33 ++ [x27]).length cz37]) (b := some (x33 ++ [x27])) (U0g rz37) x28.toNat (F2.up (r := Wp.opt.toRp) wz37.sub fu22)), (F2.append (F2.up (r := Wp.int.toRp) wz37.sub fu23) (show F2 (Wp.int.R kz37) ([[.int .i64 x28]] : List (List Value)) [x28] from ⟨⟨rfl, ix28⟩, trivial⟩)), hM2⟩ (Nat.lt_succ_self _)))))
   ·replace hM2 := ifN hM2 hc31
    refine And.intro rfl (And.intro (by repeat (first | exact trivial | refine And.intro rfl ?_)) (And.intro (by repeat (first | exact trivial | refine And.intro rfl ?_)) (Exists.intro m25 (And.intro ⟨(IntKind.i64.wrap (u21 + 1)), wu22, u22, wu23, u23, rfl, rfl, sX20, (M0 _), fu22, fu23, hM2⟩ (Nat.lt_succ_self _)))))
  ·replace hM2 := ifN hM2 hc26
   have hE := Option.some.inj hM2; subst hE
   try dsimp only [Y0, Z0] at hM1
   refine And.intro rfl (And.intro (by repeat (first | exact trivial | refine And.intro rfl ?_)) (And.intro (by repeat (first | exact trivial | refine And.intro rfl ?_)) (Exists.intro m12 (And.intro ⟨(IntKind.i64.wrap (u8 + 1)), wu22, u22, wu23, u23, rfl, rfl, ((sX7.trans sx17).trans sX20), (M0 _), fu22, fu23, hM1⟩ (Nat.lt_succ_self _)))))
 ·replace hM1 := ifN hM1 hc15
  have hE := Option.some.inj hM1; subst hE
  try dsimp only [Y0, Z0] at hM0
  intro v45 k46 f47
  obtain ⟨az48, cz48, rfl, rz48, sz48, lz48⟩ := Q0.out (r := Wp.int.toRp) f47 fu10
  intro v49 k50 f51
  obtain ⟨az52, cz52, rfl, rz52, sz52, lz52⟩ := Q0.out (r := D1.toRp) f51 (F2.ofOpt (F2.up (r := Wp.opt.toRp) sz48 fu9))
  have hE := Option.some.inj hM0; subst hE
  exact ⟨az48, u10.length, cz48, az52, (List.map (fun o : Option D0 => o.getD ([] : D0)) u9).length, cz52, rfl, (D1.mono sz52 rz48), rz52, (((sz6.trans sX7).trans sz48).trans sz52)⟩
theorem J03 (h : Hp) (csp0 : List Value) (p0 : j0) (rp0 : S0.R h csp0 p0) (r : D0) (hM0 : D6 p0 = some r) :
  Tr Tryz.prog 253 #[.agg csp0.toArray] h fun v h' => ∃ (a0 : Option Addr) (n0 c0 : Nat), v = .slice a0 n0 c0 ∧ D1.R h' [.slice a0 n0 c0] r ∧ Sub h h' := by
 obtain ⟨p0_0, p0_1, ap0_2, np0_2, cp0_2, p0_2, rfl, rfl, ip0_0, ip0_1, rp0_2⟩ := B0 rp0
 obtain ⟨rfl, lp0_2⟩ := Sl.len rp0_2
 unfold D6 at hM0
 dsimp only at hM0
 refine j3 (args := [.agg #[.int .i64 p0_0, .int .i64 p0_1, .slice ap0_2 p0_2.length cp0_2]]) (fn := Tryz.f253) rfl ?_
 obtain ⟨x1, gx1, hM0⟩ := l0 hM0
 refine Tr.val (V7 _ [.int .i64 p0_0, .int .i64 p0_1, .slice ap0_2 p0_2.length cp0_2] (p0_0, p0_1, p0_2) (z0 ip0_0 ip0_1 rp0_2) _  gx1) ?_
 refine And.intro (fun hc2 => ?_) (fun hc2 => ?_)
 ·replace hM0 := ifP hM0 hc2
  intro v3 k4 f5
  obtain ⟨az6, cz6, rfl, rz6, sz6, lz6⟩ := Q0.out (r := Wp.int.toRp) f5 (show F2 (Wp.int.R h) ([] : List (List Value)) ([] : D0) from trivial)
  have hE := Option.some.inj hM0; subst hE
  exact ⟨az6, (([] : D0)).length, cz6, rfl, rz6, sz6⟩
 ·replace hM0 := ifN hM0 hc2
  obtain ⟨x7, gx7, hM0⟩ := l0 hM0
  refine Tr.mono (S06 _ [.int .i64 p0_0, .int .i64 p0_1, .slice ap0_2 p0_2.length cp0_2] (p0_0, p0_1, p0_2) (z0 ip0_0 ip0_1 rp0_2) 0 (c64 (by decide) (by decide)) _  gx7) ?_
  rintro v9 k8 ⟨ax7_0, nx7_0, cx7_0, ax7_1, nx7_1, cx7_1, rfl, rx7_0, rx7_1, sx7⟩
  obtain ⟨x7_0, x7_1⟩ := x7
  dsimp only at hM0 rx7_0 rx7_1
  obtain ⟨rfl, lx7_0⟩ := Sl.len rx7_0
  obtain ⟨rfl, lx7_1⟩ := Sl.len rx7_1
  have hE := Option.some.inj hM0; subst hE
  exact ⟨ax7_0, x7_0.length, cx7_0, rfl, rx7_0, sx7⟩
theorem M00 (h : Hp) (csp0 : List Value) (p0 : j0) (rp0 : S0.R h csp0 p0) (r : j0) (hM0 : w5 p0 = some r) :
  Tr Tryz.prog 169 #[.agg csp0.toArray] h fun v h' => ∃ (cs0 : List Value), v = .agg cs0.toArray ∧ New S0 h h' cs0 r := by
 obtain ⟨p0_0, p0_1, ap0_2, np0_2, cp0_2, p0_2, rfl, rfl, ip0_0, ip0_1, rp0_2⟩ := B0 rp0
 obtain ⟨rfl, lp0_2⟩ := Sl.len rp0_2
 unfold w5 at hM0
 dsimp only at hM0
 refine j3 (args := [.agg #[.int .i64 p0_0, .int .i64 p0_1, .slice ap0_2 p0_2.length cp0_2]]) (fn := Tryz.f169) rfl ?_
 obtain ⟨x1, gx1, hM0⟩ := l0 hM0
 refine Tr.val (V7 _ [.int .i64 p0_0, .int .i64 p0_1, .slice ap0_2 p0_2.length cp0_2] (p0_0, p0_1, p0_2) (z0 ip0_0 ip0_1 rp0_2) _  gx1) ?_
 refine And.intro (fun hc2 => ?_) (fun hc2 => ?_)
 ·replace hM0 := ifP hM0 hc2
  obtain ⟨x3, gx3, hM0⟩ := l0 hM0
  refine Tr.mono (F7 _ [.int .i64 p0_0, .int .i64 p0_1, .slice ap0_2 p0_2.length cp0_2] (p0_0, p0_1, p0_2) (z0 ip0_0 ip0_1 rp0_2) _  gx3) ?_
  rintro v5 k4 ⟨gx3_2, nx3_2, cx3_2, rfl, wx3⟩
  have sx3 : Sub h k4 := wx3.sub
  have rx3 := wx3.r
  obtain ⟨x3_0, x3_1, x3_2⟩ := x3
  dsimp only at hM0 wx3 rx3
  obtain ⟨_, _, _, _, _, _, ecx3, exx3, ix3_0, ix3_1, rx3_2⟩ := B0 rx3
  cases ecx3
  cases exx3
  obtain ⟨rfl, lx3_2⟩ := Sl.len rx3_2
  try dsimp only at hM0
  have we6 := New.sndI (New.sndI (wx3))
  have hE := Option.some.inj hM0; subst hE
  exact ⟨([.int .i64 x3_0, .int .i64 x3_1, .slice (some ⟨gx3_2, 0, none⟩) x3_2.length cx3_2]), rfl, (New.pair (New.int ix3_0) (New.pair (New.int ix3_1) we6))⟩
 ·replace hM0 := ifN hM0 hc2
  refine Or.inr (Or.inr (Or.inl (And.intro (And.intro (by kernel_rfl) (by kernel_rfl)) ?_)))
  refine Or.inr ?_
  refine Or.inr ?_
  refine Or.inr ?_
  refine Exists.intro 2 (And.intro (And.intro rfl rfl) ?_)
  obtain ⟨x7, gx7, hM0⟩ := l0 hM0
  refine Tr.mono (J03 _ [.int .i64 p0_0, .int .i64 p0_1, .slice ap0_2 p0_2.length cp0_2] (p0_0, p0_1, p0_2) (z0 ip0_0 ip0_1 rp0_2) _  gx7) ?_
  rintro v9 k8 ⟨ax7, nx7, cx7, rfl, rx7, sx7⟩
  obtain ⟨rfl, lx7⟩ := Sl.len rx7
  refine And.intro (And.intro rfl sx7) (And.intro (by first | exact trivial | exact rfl) ?_)
  obtain ⟨x10, gx10, hM0⟩ := l0 hM0
  refine Tr.mono (A04 _ [.int .i64 p0_0, .int .i64 p0_1, .slice ap0_2 p0_2.length cp0_2] (p0_0, p0_1, p0_2) (z0 ip0_0 ip0_1 (J0.mono sx7 rp0_2)) ax7 x7.length cx7 x7 rx7 _  gx10) ?_
  rintro v12 k11 ⟨csx10, rfl, wx10⟩
  have sx10 : Sub k8 k11 := wx10.sub
  have rx10 := wx10.r
  obtain ⟨x10_0, x10_1, ax10_2, nx10_2, cx10_2, x10_2, rfl, rfl, ix10_0, ix10_1, rx10_2⟩ := B0 rx10
  obtain ⟨rfl, lx10_2⟩ := Sl.len rx10_2
  try dsimp only at hM0
  have we13 := New.sndI (New.sndI (wx10))
  refine And.intro (And.intro rfl sx10) (And.intro (by first | exact trivial | exact rfl) ?_)
  refine And.intro trivial (And.intro (by first | exact trivial | exact rfl) ?_)
  have hE := Option.some.inj hM0; subst hE
  exact ⟨([.int .i64 x10_0, .int .i64 x10_1, .slice ax10_2 x10_2.length cx10_2]), rfl, (New.pair (New.int ix10_0) (New.pair (New.int ix10_1) (New.from we13 sx7)))⟩
end Go.Proofs.YtknoadmdnjaocaaGreat
namespace Go.Proofs.YtknoadmdnjaocaaGreat
open Go.H
set_option linter.unusedVariables false
set_option linter.unusedSimpArgs false
set_option maxRecDepth 10000
theorem W02 (h : Hp) (csp0 : List Value) (p0 : j0) (rp0 : S0.R h csp0 p0) (r : j0 × D0) (hM0 : L5 p0 = some r) :
  Tr Tryz.prog 167 #[.agg csp0.toArray] h fun v h' => ∃ (cs0 : List Value) (a1 : Option Addr) (n1 c1 : Nat), v = .tuple #[.agg cs0.toArray, .slice a1 n1 c1] ∧ New S0 h h' cs0 r.1 ∧ D1.R h' [.slice a1 n1 c1] r.2 := by
 obtain ⟨p0_0, p0_1, ap0_2, np0_2, cp0_2, p0_2, rfl, rfl, ip0_0, ip0_1, rp0_2⟩ := B0 rp0
 obtain ⟨rfl, lp0_2⟩ := Sl.len rp0_2
 unfold L5 at hM0
 dsimp only at hM0
 refine j3 (args := [.agg #[.int .i64 p0_0, .int .i64 p0_1, .slice ap0_2 p0_2.length cp0_2]]) (fn := Tryz.f167) rfl ?_
 obtain ⟨x1, gx1, hM0⟩ := l0 hM0
 refine Tr.mono (F7 _ [.int .i64 p0_0, .int .i64 p0_1, .slice ap0_2 p0_2.length cp0_2] (p0_0, p0_1, p0_2) (z0 ip0_0 ip0_1 rp0_2) _  gx1) ?_
 rintro v3 k2 ⟨gx1_2, nx1_2, cx1_2, rfl, wx1⟩
 have sx1 : Sub h k2 := wx1.sub
 have rx1 := wx1.r
 obtain ⟨x1_0, x1_1, x1_2⟩ := x1
 dsimp only at hM0 wx1 rx1
 obtain ⟨_, _, _, _, _, _, ecx1, exx1, ix1_0, ix1_1, rx1_2⟩ := B0 rx1
 cases ecx1
 cases exx1
 obtain ⟨rfl, lx1_2⟩ := Sl.len rx1_2
 try dsimp only at hM0
 have we4 := New.sndI (New.sndI (wx1))
 obtain ⟨x5, gx5, hM0⟩ := l0 hM0
 refine Tr.val (E00 _ [.int .i64 p0_0, .int .i64 p0_1, .slice ap0_2 p0_2.length cp0_2] (p0_0, p0_1, p0_2) (z0 ip0_0 ip0_1 (J0.mono sx1 rp0_2)) _  gx5) ?_
 refine And.intro (fun hc6 => ?_) (fun hc6 => ?_)
 ·replace hM0 := ifP hM0 hc6
  intro v7 k8 f9
  obtain ⟨az10, cz10, rfl, rz10, sz10, lz10⟩ := Q0.out (r := Wp.int.toRp) f9 (show F2 (Wp.int.R k2) ([] : List (List Value)) ([] : D0) from trivial)
  have hE := Option.some.inj hM0; subst hE
  exact ⟨([.int .i64 x1_0, .int .i64 x1_1, .slice (some ⟨gx1_2, 0, none⟩) x1_2.length cx1_2]), az10, (([] : D0)).length, cz10, rfl, (New.pair (New.int ix1_0) (New.pair (New.int ix1_1) (New.mono we4 sz10))), rz10⟩
 ·replace hM0 := ifN hM0 hc6
  obtain ⟨X11, hLX11, hM0⟩ := l0 hM0
  refine Exists.intro { vars := [6], boxes := [], owns := [0], fuel := true } (Exists.intro (fun vs os h' => ∃ (u12 : Int) (wu13 : List (List Value)) (u13 : List Int), vs.tail = [.int .i64 u12] ∧ os = [wu13] ∧ Sub k2 h' ∧ N0 u12 ∧ F2 (Wp.int.R h') wu13 u13 ∧ P4 p0_1 (Y1 vs) u12 u13 = some X11) (Exists.intro (fun _ _ => 0) ?_))
  refine And.intro (Exists.intro U0 ⟨0, [], ([] : D0), rfl, rfl, (Sub.refl _), (c64 (by decide) (by decide)), (show F2 (Wp.int.R k2) ([] : List (List Value)) ([] : D0) from trivial), hLX11⟩) ?_
  rintro v_0 wu13 m15 k14 ⟨u12, zzu13, u13, evX11, eoX11, sX11, iu12, fu13, hM1⟩
  cases evX11
  cases eoX11
  replace hM1 : P4 p0_1 m15 u12 u13 = some X11 := hM1
  obtain _ | m15 := m15
  ·cases (show (none : Option _) = some X11 from hM1)
  rw [P4.eq_2] at hM1
  refine And.intro (fun hc16 => ?_) (fun hc16 => ?_)
  ·replace hM1 := ifP hM1 hc16
   obtain ⟨q17, gq17, hM1⟩ := l0 hM1
   refine And.intro (N1 gq17 (by first | rw [F2.length fu13, F2.length (show F2 (Wp.int.R k14) ([[.int .i64 u12]] : List (List Value)) [u12] from ⟨⟨rfl, iu12⟩, trivial⟩)] | exact congrArg (· + 1) (F2.length fu13))) ?_
   refine And.intro rfl (And.intro (by repeat (first | exact trivial | refine And.intro rfl ?_)) (And.intro (by repeat (first | exact trivial | refine And.intro rfl ?_)) (Exists.intro m15 (And.intro ⟨(IntKind.i64.wrap (u12 + 1)), (wu13 ++ ([[.int .i64 u12]] : List (List Value))), (u13 ++ [u12]), rfl, rfl, sX11, (M0 _), (F2.append fu13 (show F2 (Wp.int.R k14) ([[.int .i64 u12]] : List (List Value)) [u12] from ⟨⟨rfl, iu12⟩, trivial⟩)), hM1⟩ (Nat.lt_succ_self _)))))
  ·replace hM1 := ifN hM1 hc16
   have hE := Option.some.inj hM1; subst hE
   try dsimp only [Y0, Z0] at hM0
   obtain ⟨X22, hLX22, hM0⟩ := l0 hM0
   refine Exists.intro { vars := [5], boxes := [2], owns := [], fuel := true, pubs := [5] } (Exists.intro (fun vs os h' => ∃ (au23 : Option Addr) (nu23 cu23 : Nat) (u23 : D0) (u24 : Int) (u25 : Int) (au26 : Option Addr) (nu26 cu26 : Nat) (u26 : I0), vs.tail = [.slice au23 nu23 cu23, .int .i64 u24, .int .i64 u25, .slice au26 nu26 cu26] ∧ os = [] ∧ Sub h h' ∧ New D1 h h' [.slice au23 nu23 cu23] u23 ∧ N0 u24 ∧ N0 u25 ∧ New J0 h h' [.slice au26 nu26 cu26] u26 ∧ w4 (Y1 vs) u23 u24 u25 u26 = some X22) (Exists.intro (fun _ _ => 0) ?_))
   intro v18 k19 f20
   obtain ⟨az21, cz21, rfl, rz21, sz21, lz21⟩ := Q0.out (r := Wp.int.toRp) f20 fu13
   refine And.intro (Exists.intro U0 ⟨az21, u13.length, cz21, u13, x1_0, x1_1, (some ⟨gx1_2, 0, none⟩), x1_2.length, cx1_2, x1_2, rfl, rfl, ((sx1.trans sX11).trans sz21), (New.from (Q0.newPlain (r := Wp.int) f20 fu13 (h08 _)) (sx1.trans sX11)), ix1_0, ix1_1, (New.mono we4 (sX11.trans sz21)), hLX22⟩) ?_
   rintro v_0 v_1 v_2 v_3 m28 k27 ⟨au23, nu23, cu23, u23, u24, u25, au26, nu26, cu26, u26, evX22, eoX22, sX22, wwu23, iu24, iu25, wwu26, hM1⟩
   cases evX22
   cases eoX22
   replace hM1 : w4 m28 u23 u24 u25 u26 = some X22 := hM1
   obtain _ | m28 := m28
   ·cases (show (none : Option _) = some X22 from hM1)
   rw [w4.eq_2] at hM1
   have ru23 := wwu23.r
   obtain ⟨rfl, lu23⟩ := Sl.len ru23
   have ru26 := wwu26.r
   obtain ⟨rfl, lu26⟩ := Sl.len ru26
   obtain ⟨x29, gx29, hM1⟩ := l0 hM1
   refine Tr.mono (W04 _ [.int .i64 u24, .int .i64 u25, .slice au26 u26.length cu26] (u24, u25, u26) (z0 iu24 iu25 ru26) 0 (c64 (by decide) (by decide)) _  gx29) ?_
   rintro v31 k30 ⟨ax29, nx29, cx29, rfl, rx29, sx29⟩
   obtain ⟨rfl, lx29⟩ := Sl.len rx29
   obtain ⟨X32, hLX32, hM1⟩ := l0 hM1
   refine Exists.intro { vars := [8, 9], boxes := [], owns := [], fuel := true } (Exists.intro (fun vs os h' => ∃ (u33 : Int) (u34 : Int), vs.tail = [.int .i64 u33, .int .i64 u34] ∧ os = [] ∧ Sub k30 h' ∧ N0 u33 ∧ N0 u34 ∧ n3 u25 u24 u26 x29 (Y1 vs) u33 u34 = some X32) (Exists.intro (fun _ _ => 0) ?_))
   refine And.intro (Exists.intro U0 ⟨0, 1, rfl, rfl, (Sub.refl _), (c64 (by decide) (by decide)), (c64 (by decide) (by decide)), hLX32⟩) ?_
   rintro v_0 v_1 m36 k35 ⟨u33, u34, evX32, eoX32, sX32, iu33, iu34, hM2⟩
   cases evX32
   cases eoX32
   replace hM2 : n3 u25 u24 u26 x29 m36 u33 u34 = some X32 := hM2
   obtain _ | m36 := m36
   ·cases (show (none : Option _) = some X32 from hM2)
   rw [n3.eq_2] at hM2
   refine And.intro (fun hc37 => ?_) (fun hc37 => ?_)
   ·replace hM2 := ifP hM2 hc37
    obtain ⟨x38, gx38, hM2⟩ := l0 hM2
    refine Tr.val (D08 _ [.int .i64 u24, .int .i64 u25, .slice au26 u26.length cu26] (u24, u25, u26) (z0 iu24 iu25 (J0.mono (sx29.trans sX32) ru26)) u34 iu34 _  gx38) ?_
    obtain ⟨q39, gq39, hM2⟩ := l0 hM2
    have ix38 : N0 x38 := B3 gq39
    obtain ⟨x40, gx40, hM2⟩ := l0 hM2
    obtain ⟨csx40, ex40, rx40⟩ := Sl.getG (r := Wp.bool.toRp) ((Wp.slice Wp.bool).mono sX32 rx29) gx40 (by decide) (K0i k35)
    refine And.intro (fun q => (ex40 q).1) ?_
    obtain rfl := rx40
    refine Exists.intro _ (And.intro (fun q => (ex40 q).2) ?_)
    refine And.intro (fun hc41 => ?_) (fun hc41 => ?_)
    ·replace hM2 := ifP hM2 hc41
     refine And.intro rfl (And.intro (by repeat (first | exact trivial | refine And.intro rfl ?_)) (And.intro (by repeat (first | exact trivial | refine And.intro rfl ?_)) (Exists.intro m36 (And.intro ⟨u34, (IntKind.i64.wrap (u34 + 1)), rfl, rfl, sX32, iu34, (M0 _), hM2⟩ (Nat.lt_succ_self _)))))
    ·replace hM2 := ifN hM2 hc41
     refine And.intro rfl (And.intro (by repeat (first | exact trivial | refine And.intro rfl ?_)) (And.intro (by repeat (first | exact trivial | refine And.intro rfl ?_)) (Exists.intro m36 (And.intro ⟨u33, (IntKind.i64.wrap (u34 + 1)), rfl, rfl, sX32, iu33, (M0 _), hM2⟩ (Nat.lt_succ_self _)))))
   ·replace hM2 := ifN hM2 hc37
    have hE := Option.some.inj hM2; subst hE
    try dsimp only [Y0, Z0] at hM1
    refine And.intro (fun hc42 => ?_) (fun hc42 => ?_)
    ·replace hM1 := ifP hM1 hc42
     have hE := Option.some.inj hM1; subst hE
     try dsimp only [P6, Q6] at hM0
     have hE := Option.some.inj hM0; subst hE
     exact ⟨([.int .i64 u24, .int .i64 u25, .slice au26 u26.length cu26]), au23, u23.length, cu23, rfl, (New.pair (New.int iu24) (New.pair (New.int iu25) (New.mono wwu26 (sx29.trans sX32)))), (D1.mono (sx29.trans sX32) ru23)⟩
    ·replace hM1 := ifN hM1 hc42
     obtain ⟨X43, hLX43, hM1⟩ := l0 hM1
     refine Exists.intro { vars := [11], boxes := [], owns := [1], fuel := true } (Exists.intro (fun vs os h' => ∃ (u44 : Int) (wu45 : List (List Value)) (u45 : List Int), vs.tail = [.int .i64 u44] ∧ os = [wu45] ∧ Sub k35 h' ∧ N0 u44 ∧ F2 (Wp.int.R h') wu45 u45 ∧ n4 u25 u33 (Y1 vs) u44 u45 = some X43) (Exists.intro (fun _ _ => 0) ?_))
     refine And.intro (Exists.intro U0 ⟨0, [], ([] : D0), rfl, rfl, (Sub.refl _), (c64 (by decide) (by decide)), (show F2 (Wp.int.R k35) ([] : List (List Value)) ([] : D0) from trivial), hLX43⟩) ?_
     rintro v_0 wu45 m47 k46 ⟨u44, zzu45, u45, evX43, eoX43, sX43, iu44, fu45, hM2⟩
     cases evX43
     cases eoX43
     replace hM2 : n4 u25 u33 m47 u44 u45 = some X43 := hM2
     obtain _ | m47 := m47
     ·cases (show (none : Option _) = some X43 from hM2)
     rw [n4.eq_2] at hM2
     refine And.intro (fun hc48 => ?_) (fun hc48 => ?_)
     ·replace hM2 := ifP hM2 hc48
      refine And.intro (fun hc49 => ?_) (fun hc49 => ?_)
      ·replace hM2 := ifP hM2 hc49
       obtain ⟨q50, gq50, hM2⟩ := l0 hM2
       refine And.intro (N1 gq50 (by first | rw [F2.length fu45, F2.length (show F2 (Wp.int.R k46) ([[.int .i64 u44]] : List (List Value)) [u44] from ⟨⟨rfl, iu44⟩, trivial⟩)] | exact congrArg (· + 1) (F2.length fu45))) ?_
       refine And.intro rfl (And.intro (by repeat (first | exact trivial | refine And.intro rfl ?_)) (And.intro (by repeat (first | exact trivial | refine And.intro rfl ?_)) (Exists.intro m47 (And.intro ⟨(IntKind.i64.wrap (u44 + 1)), (wu45 ++ ([[.int .i64 u44]] : List (List Value))), (u45 ++ [u44]), rfl, rfl, sX43, (M0 _), (F2.append fu45 (show F2 (Wp.int.R k46) ([[.int .i64 u44]] : List (List Value)) [u44] from ⟨⟨rfl, iu44⟩, trivial⟩)), hM2⟩ (Nat.lt_succ_self _)))))
      ·replace hM2 := ifN hM2 hc49
       refine And.intro rfl (And.intro (by repeat (first | exact trivial | refine And.intro rfl ?_)) (And.intro (by repeat (first | exact trivial | refine And.intro rfl ?_)) (Exists.intro m47 (And.intro ⟨(IntKind.i64.wrap (u44 + 1)), wu45, u45, rfl, rfl, sX43, (M0 _), fu45, hM2⟩ (Nat.lt_succ_self _)))))
     ·replace hM2 := ifN hM2 hc48
      have hE := Option.some.inj hM2; subst hE
      try dsimp only [Y0, Z0] at hM1
      refine Or.inl ?_
      intro v51 k52 f53
      obtain ⟨az54, cz54, rfl, rz54, sz54, lz54⟩ := Q0.out (r := Wp.int.toRp) f53 fu45
      obtain ⟨x55, gx55, hM1⟩ := l0 hM1
      refine Tr.mono (A04 _ [.int .i64 u24, .int .i64 u25, .slice au26 u26.length cu26] (u24, u25, u26) (z0 iu24 iu25 (J0.mono (((sx29.trans sX32).trans sX43).trans sz54) ru26)) az54 u45.length cz54 u45 rz54 _  gx55) ?_
      rintro v57 k56 ⟨csx55, rfl, wx55⟩
      have sx55 : Sub k52 k56 := wx55.sub
      have rx55 := wx55.r
      obtain ⟨x55_0, x55_1, ax55_2, nx55_2, cx55_2, x55_2, rfl, rfl, ix55_0, ix55_1, rx55_2⟩ := B0 rx55
      obtain ⟨rfl, lx55_2⟩ := Sl.len rx55_2
      try dsimp only at hM1
      have we58 := New.sndI (New.sndI (wx55))
      obtain ⟨x61, gx61, hM1⟩ := l0 hM1
      obtain ⟨x62, gx62, hM1⟩ := l0 hM1
      obtain ⟨q63, gq63, hM1⟩ := l0 hM1
      obtain ⟨qaz64, baz64, eaz64, gz64, oz64, Az64, Cz64, usz64, vsz64, eqz64, qbz64, bbz64, lcz64, mcz64, rxz64, sxz64, luz64, lvz64, apz64⟩ := New.drop wwu23 ((((sx29.trans sX32).trans sX43).trans sz54).trans sx55) gx61 gx62 (g0l lu23 gx61 gx62)
      subst eqz64
      refine Or.inr (Or.inr (Or.inl (And.intro (And.intro (by kernel_rfl) (by kernel_rfl)) ?_)))
      refine Or.inl (Exists.intro (.val (.slice (some ⟨gz64, oz64, none⟩) x61.length cu23)) (And.intro ?_ ?_))
      ·intro hh sb
       obtain ⟨vs, e⟩ := eaz64 hh sb
       exact And.intro baz64 (Exists.intro vs (And.intro e (fun v _ hv => And.intro (congrArg AV.val (qaz64 v hv)) (And.intro rfl rfl))))
      refine Or.inl (Exists.intro (.val (.int .i64 (IntKind.i64.wrap (u33 + 1)))) (And.intro ?_ ?_))
      ·intro k59 s60
       exact And.intro rfl (And.intro rfl rfl)
      refine Or.inl (Exists.intro (.val (.slice Az64 x62.length Cz64)) (And.intro ?_ ?_))
      ·intro hh sb
       obtain ⟨vs, e⟩ := eaz64 hh sb
       exact And.intro bbz64 (Exists.intro vs (And.intro e (fun v _ hv => And.intro (congrArg AV.val (qbz64 v hv)) (And.intro rfl rfl))))
      refine Or.inr ?_
      refine Exists.intro 0 (And.intro (And.intro rfl rfl) ?_)
      refine Exists.intro vsz64 (And.intro sxz64 (Exists.intro usz64 (And.intro rxz64 (And.intro (N1 gq63 (by rw [luz64, lvz64])) ?_))))
      intro vz64 kz64 happz64
      obtain ⟨wz64, ⟨az64, nz64, cz64, rfl⟩, kpz64⟩ := apz64 _ _ happz64
      have rz64 := wz64.r
      obtain ⟨ez64, lz64⟩ := Sl.len rz64
      subst ez64
      refine And.intro trivial (And.intro (by first | exact trivial | exact rfl) ?_)
      have wy65 := kpz64 P0.slice _ _ _ we58 (((sx29.trans sX32).trans sX43).trans sz54)
      refine And.intro rfl (And.intro (by repeat (first | exact trivial | refine And.intro rfl ?_)) (And.intro (by repeat (first | exact trivial | refine And.intro rfl ?_)) (Exists.intro m28 (And.intro ⟨az64, (x61 ++ x62).length, cz64, (x61 ++ x62), x55_0, x55_1, ax55_2, x55_2.length, cx55_2, x55_2, rfl, rfl, wz64.sub, wz64, ix55_0, ix55_1, wy65, hM1⟩ (Nat.lt_succ_self _)))))
theorem p05 (h : Hp) (csp0 : List Value) (p0 : j0) (rp0 : S0.R h csp0 p0) (r : Bool) (hM0 : f8 p0 = some r) :
  Tr Tryz.prog 82 #[.agg csp0.toArray] h fun v h' => v = .bool r ∧ h' = h := by
 obtain ⟨p0_0, p0_1, ap0_2, np0_2, cp0_2, p0_2, rfl, rfl, ip0_0, ip0_1, rp0_2⟩ := B0 rp0
 obtain ⟨rfl, lp0_2⟩ := Sl.len rp0_2
 unfold f8 at hM0
 dsimp only at hM0
 refine Tr.forget (j3 (args := [.agg #[.int .i64 p0_0, .int .i64 p0_1, .slice ap0_2 p0_2.length cp0_2]]) (fn := Tryz.f82) rfl ?_)
 obtain ⟨x1, gx1, hM0⟩ := l0 hM0
 refine Tr.val (V7 _ [.int .i64 p0_0, .int .i64 p0_1, .slice ap0_2 p0_2.length cp0_2] (p0_0, p0_1, p0_2) (z0 ip0_0 ip0_1 rp0_2) _  gx1) ?_
 refine And.intro (fun hc2 => ?_) (fun hc2 => ?_)
 ·replace hM0 := ifP hM0 hc2
  have hE := Option.some.inj hM0; subst hE
  exact And.intro rfl (Sub.refl _)
 ·replace hM0 := ifN hM0 hc2
  obtain ⟨x3, gx3, hM0⟩ := l0 hM0
  refine Tr.mono (W02 _ [.int .i64 p0_0, .int .i64 p0_1, .slice ap0_2 p0_2.length cp0_2] (p0_0, p0_1, p0_2) (z0 ip0_0 ip0_1 rp0_2) _  gx3) ?_
  rintro v5 k4 ⟨csx3_0, ax3_1, nx3_1, cx3_1, rfl, wx3_0, rx3_1⟩
  obtain ⟨x3_0, x3_1⟩ := x3
  dsimp only at hM0 wx3_0 rx3_1
  have sx3 : Sub h k4 := wx3_0.sub
  have rx3_0 := wx3_0.r
  obtain ⟨x3_0_0, x3_0_1, ax3_0_2, nx3_0_2, cx3_0_2, x3_0_2, rfl, rfl, ix3_0_0, ix3_0_1, rx3_0_2⟩ := B0 rx3_0
  obtain ⟨rfl, lx3_0_2⟩ := Sl.len rx3_0_2
  try dsimp only at hM0
  obtain ⟨rfl, lx3_1⟩ := Sl.len rx3_1
  refine Or.inr (Or.inr (Or.inr (Or.inl (And.intro (And.intro (by kernel_rfl) (by kernel_rfl)) ?_))))
  refine Or.inl (Exists.intro (.val (.bool (decide (x3_0_1 = p0_1)))) (And.intro ?_ ?_))
  ·intro k6 s7
   exact And.intro rfl (And.intro rfl rfl)
  obtain ⟨x8, gx8, hM0⟩ := l0 hM0
  obtain ⟨x8_0, x8_1, x8_2⟩ := x8
  try dsimp only at hM0
  refine Or.inr (Exists.intro (fun v hh => ∃ (ax8_2 : Option Addr) (cx8_2 : Nat), v = .agg #[.int .i64 x8_0, .int .i64 x8_1, .slice ax8_2 x8_2.length cx8_2] ∧ N0 x8_0 ∧ N0 x8_1 ∧ J0.R hh [.slice ax8_2 x8_2.length cx8_2] x8_2 ∧ x8_2.length ≤ 9223372036854775807) (And.intro (fun v h1 h2 sb q => by obtain ⟨ax8_2, cx8_2, e, f0, f1, f2, f3⟩ := q; exact ⟨ax8_2, cx8_2, e, f0, f1, J0.mono sb f2, f3⟩) (And.intro ?_ ?_)))
  ·intro k9 s10 hq
   refine Tr.mono (M00 _ [.int .i64 p0_0, .int .i64 p0_1, .slice ap0_2 p0_2.length cp0_2] (p0_0, p0_1, p0_2) (z0 ip0_0 ip0_1 (J0.mono (sx3.trans s10) rp0_2)) _ (E2 gx8 hq)) ?_
   rintro _ kk ⟨csx8, rfl, wx8⟩
   have sb := wx8.sub
   have rx8 := wx8.r
   obtain ⟨yx8_0, yx8_1, ayx8_2, nyx8_2, cyx8_2, yx8_2, rfl, ey, iyx8_0, iyx8_1, ryx8_2⟩ := B0 rx8
   cases ey
   obtain ⟨rfl, lyx8_2⟩ := Sl.len ryx8_2
   exact And.intro v06 (And.intro sb ⟨ayx8_2, cyx8_2, rfl, iyx8_0, iyx8_1, ryx8_2, lyx8_2⟩)
  obtain ⟨x11, gx11, hM0⟩ := l0 hM0
  refine Or.inl (Exists.intro (.val (.bool x11)) (And.intro ?_ ?_))
  ·intro k12 s13 hq
   rintro _ ⟨az142, cz142, rfl, iz140, iz141, rz142, lz142⟩
   exact Tr.val (U01 _ [.int .i64 x8_0, .int .i64 x8_1, .slice az142 x8_2.length cz142] (x8_0, x8_1, x8_2) (z0 iz140 iz141 rz142) [.int .i64 p0_0, .int .i64 p0_1, .slice ap0_2 p0_2.length cp0_2] (p0_0, p0_1, p0_2) (z0 ip0_0 ip0_1 (J0.mono (sx3.trans s13) rp0_2)) _ (E2 gx11 hq)) (And.intro rfl (And.intro rfl rfl))
  intro k15 s16
  have hE := Option.some.inj hM0; subst hE
  exact And.intro rfl (sx3.trans s16)
end Go.Proofs.YtknoadmdnjaocaaGreat
namespace Go.Proofs.YtknoadmdnjaocaaGreat
open Go.H
set_option linter.unusedVariables false
set_option linter.unusedSimpArgs false
set_option maxRecDepth 10000
theorem I00 (h : Hp) (p0 : Int) (ip0 : N0 p0) (bp1 : Nat) (typ1 : TypeId) (p1_0 : Int) (ip1_0 : N0 p1_0) (p1_1 : Int) (ip1_1 : N0 p1_1) (hbp1 : h bp1 = some (.cells #[.int .i64 p1_0, .int .i64 p1_1] typ1 (0, 0))) (r : Int) (hM0 : V4 p0 (p1_0, p1_1) = some r) :
  Tr Tryz.prog 352 #[.int .i64 p0, ptr bp1 0] h fun v h' => v = .int .i64 r ∧ h' = h := by
 unfold V4 at hM0
 dsimp only at hM0
 refine Tr.forget (j3 (args := [.int .i64 p0, ptr bp1 0]) (fn := Tryz.f352) rfl ?_)
 refine Exists.intro (.int .i64 p1_1) (And.intro ⟨rfl, by simp [Hp.cell, (hbp1)]⟩ ?_)
 refine And.intro (fun hc1 => ?_) (fun hc1 => ?_)
 ·replace hM0 := ifP hM0 hc1
  refine Exists.intro (.int .i64 p1_0) (And.intro ⟨rfl, by simp [Hp.cell, (hbp1)]⟩ ?_)
  have hE := Option.some.inj hM0; subst hE
  exact And.intro rfl (Sub.refl _)
 ·replace hM0 := ifN hM0 hc1
  refine Exists.intro (.int .i64 p1_1) (And.intro ⟨rfl, by simp [Hp.cell, (hbp1)]⟩ ?_)
  refine And.intro (fun hc2 => ?_) (fun hc2 => ?_)
  ·replace hM0 := ifP hM0 hc2
   have hE := Option.some.inj hM0; subst hE
   exact And.intro rfl (Sub.refl _)
  ·replace hM0 := ifN hM0 hc2
   have hE := Option.some.inj hM0; subst hE
   exact And.intro rfl (Sub.refl _)
theorem T0c (h : Hp) (csp0 : List Value) (p0 : j0) (rp0 : S0.R h csp0 p0) (r : R6) (hM0 : C00 p0 = some r) :
  Tr Tryz.prog 351 #[.agg csp0.toArray] h fun v h' => ∃ (a0 : Option Addr) (n0 c0 : Nat), v = .slice a0 n0 c0 ∧ w0c.R h' [.slice a0 n0 c0] r ∧ Sub h h' := by
 obtain ⟨p0_0, p0_1, ap0_2, np0_2, cp0_2, p0_2, rfl, rfl, ip0_0, ip0_1, rp0_2⟩ := B0 rp0
 obtain ⟨rfl, lp0_2⟩ := Sl.len rp0_2
 unfold C00 at hM0
 dsimp only at hM0
 refine j3 (args := [.agg #[.int .i64 p0_0, .int .i64 p0_1, .slice ap0_2 p0_2.length cp0_2]]) (fn := Tryz.f351) rfl ?_
 obtain ⟨X1, hLX1, hM0⟩ := l0 hM0
 refine Exists.intro { vars := [12], boxes := [], owns := [0], fuel := true } (Exists.intro (fun vs os h' => ∃ (u2 : Int) (wu3 : List (List Value)) (u3 : List R3), vs.tail = [.int .i64 u2] ∧ os = [wu3] ∧ Sub h h' ∧ N0 u2 ∧ F2 (Q3.R h') wu3 u3 ∧ Y6 p0_2 (Y1 vs) u2 u3 = some X1) (Exists.intro (fun _ _ => 0) ?_))
 refine And.intro (Exists.intro U0 ⟨0, [], ([] : R6), rfl, rfl, (Sub.refl _), (c64 (by decide) (by decide)), (show F2 (Q3.R h) ([] : List (List Value)) ([] : R6) from trivial), hLX1⟩) ?_
 rintro v_0 wu3 m5 k4 ⟨u2, zzu3, u3, evX1, eoX1, sX1, iu2, fu3, hM1⟩
 cases evX1
 cases eoX1
 replace hM1 : Y6 p0_2 m5 u2 u3 = some X1 := hM1
 obtain _ | m5 := m5
 ·cases (show (none : Option _) = some X1 from hM1)
 rw [Y6.eq_2] at hM1
 refine And.intro (fun hc6 => ?_) (fun hc6 => ?_)
 ·replace hM1 := ifP hM1 hc6
  obtain ⟨x7, gx7, hM1⟩ := l0 hM1
  obtain ⟨bx7, csx7, ex7, rx7⟩ := Sl.getI (r := P0.toRp) (J0.mono sX1 rp0_2) gx7 (by decide)
  refine And.intro bx7 ?_
  obtain ⟨x7_0, x7_1, x7_2, rfl, rfl, ix7_0, ix7_1, ix7_2⟩ := E1 rx7
  try dsimp only at hM1
  refine Exists.intro _ (And.intro ex7 ?_)
  obtain ⟨x8, gx8, hM1⟩ := l0 hM1
  obtain ⟨qx8, vsx8, ex8, fx8⟩ := Sl.cutI (r := P0.toRp) (J0.mono sX1 rp0_2) gx8
  refine And.intro qx8 (Exists.intro vsx8 (And.intro ex8 ?_))
  intro vx8 hvx8 _
  obtain ⟨ax8, cx8, rfl, rx8⟩ := fx8 vx8 hvx8
  have lx8 := (Sl.len rx8).2
  obtain ⟨X9, hLX9, hM1⟩ := l0 hM1
  refine Exists.intro { vars := [23], boxes := [], owns := [0], fuel := true } (Exists.intro (fun vs os h' => ∃ (u10 : Int) (wu11 : List (List Value)) (u11 : List R3), vs.tail = [.int .i64 u10] ∧ os = [wu11] ∧ Sub k4 h' ∧ N0 u10 ∧ F2 (Q3.R h') wu11 u11 ∧ d4 x8 x7_1 x7_0 x7_2 (Y1 vs) u10 u11 = some X9) (Exists.intro (fun _ _ => 0) ?_))
  refine And.intro (Exists.intro U0 ⟨0, wu3, u3, rfl, rfl, (Sub.refl _), (c64 (by decide) (by decide)), fu3, hLX9⟩) ?_
  rintro v_0 wu11 m13 k12 ⟨u10, zzu11, u11, evX9, eoX9, sX9, iu10, fu11, hM2⟩
  cases evX9
  cases eoX9
  replace hM2 : d4 x8 x7_1 x7_0 x7_2 m13 u10 u11 = some X9 := hM2
  obtain _ | m13 := m13
  ·cases (show (none : Option _) = some X9 from hM2)
  rw [d4.eq_2] at hM2
  refine And.intro (fun hc14 => ?_) (fun hc14 => ?_)
  ·replace hM2 := ifP hM2 hc14
   obtain ⟨x15, gx15, hM2⟩ := l0 hM2
   obtain ⟨bx15, csx15, ex15, rx15⟩ := Sl.getI (r := P0.toRp) (J0.mono sX9 rx8) gx15 (by decide)
   refine And.intro bx15 ?_
   obtain ⟨x15_0, x15_1, x15_2, rfl, rfl, ix15_0, ix15_1, ix15_2⟩ := E1 rx15
   try dsimp only at hM2
   refine Exists.intro _ (And.intro ex15 ?_)
   refine And.intro (fun hc16 => ?_) (fun hc16 => ?_)
   ·replace hM2 := ifP hM2 hc16
    refine And.intro rfl (And.intro (by repeat (first | exact trivial | refine And.intro rfl ?_)) (And.intro (by repeat (first | exact trivial | refine And.intro rfl ?_)) (Exists.intro m13 (And.intro ⟨(IntKind.i64.wrap (u10 + 1)), wu11, u11, rfl, rfl, sX9, (M0 _), fu11, hM2⟩ (Nat.lt_succ_self _)))))
   ·replace hM2 := ifN hM2 hc16
    refine And.intro (fun hc17 => ?_) (fun hc17 => ?_)
    ·replace hM2 := ifP hM2 hc17
     obtain ⟨q18, gq18, hM2⟩ := l0 hM2
     refine And.intro (N1 gq18 (by first | rw [F2.length fu11, F2.length (show F2 (Q3.R k12) ([[.int .i64 (if x15_2 < x7_2 then x15_2 else x7_2), .int .i64 (if x15_2 > x7_2 then x15_2 else x7_2)]] : List (List Value)) [((if x15_2 < x7_2 then x15_2 else x7_2), (if x15_2 > x7_2 then x15_2 else x7_2))] from ⟨(O1 (H6 ix15_2 ix7_2) (H6 ix15_2 ix7_2)), trivial⟩)] | exact congrArg (· + 1) (F2.length fu11))) ?_
     refine And.intro (fun hc19 => ?_) (fun hc19 => ?_)
     ·replace hM2 := ifP hM2 hc19
      obtain ⟨q20, gq20, hM2⟩ := l0 hM2
      refine And.intro (N1 gq20 (by first | rw [F2.length (F2.append fu11 (show F2 (Q3.R k12) ([[.int .i64 (if x15_2 < x7_2 then x15_2 else x7_2), .int .i64 (if x15_2 > x7_2 then x15_2 else x7_2)]] : List (List Value)) [((if x15_2 < x7_2 then x15_2 else x7_2), (if x15_2 > x7_2 then x15_2 else x7_2))] from ⟨(O1 (H6 ix15_2 ix7_2) (H6 ix15_2 ix7_2)), trivial⟩)), F2.length (show F2 (Q3.R k12) ([[.int .i64 (if x15_0 < x7_0 then x15_0 else x7_0), .int .i64 (if x15_0 > x7_0 then x15_0 else x7_0)]] : List (List Value)) [((if x15_0 < x7_0 then x15_0 else x7_0), (if x15_0 > x7_0 then x15_0 else x7_0))] from ⟨(O1 (H6 ix15_0 ix7_0) (H6 ix15_0 ix7_0)), trivial⟩)] | exact congrArg (· + 1) (F2.length (F2.append fu11 (show F2 (Q3.R k12) ([[.int .i64 (if x15_2 < x7_2 then x15_2 else x7_2), .int .i64 (if x15_2 > x7_2 then x15_2 else x7_2)]] : List (List Value)) [((if x15_2 < x7_2 then x15_2 else x7_2), (if x15_2 > x7_2 then x15_2 else x7_2))] from ⟨(O1 (H6 ix15_2 ix7_2) (H6 ix15_2 ix7_2)), trivial⟩))))) ?_
      refine And.intro rfl (And.intro (by repeat (first | exact trivial | refine And.intro rfl ?_)) (And.intro (by repeat (first | exact trivial | refine And.intro rfl ?_)) (Exists.intro m13 (And.intro ⟨(IntKind.i64.wrap (u10 + 1)), ((wu11 ++ ([[.int .i64 (if x15_2 < x7_2 then x15_2 else x7_2), .int .i64 (if x15_2 > x7_2 then x15_2 else x7_2)]] : List (List Value))) ++ ([[.int .i64 (if x15_0 < x7_0 then x15_0 else x7_0), .int .i64 (if x15_0 > x7_0 then x15_0 else x7_0)]] : List (List Value))), ((u11 ++ [((if x15_2 < x7_2 then x15_2 else x7_2), (if x15_2 > x7_2 then x15_2 else x7_2))]) ++ [((if x15_0 < x7_0 then x15_0 else x7_0), (if x15_0 > x7_0 then x15_0 else x7_0))]), rfl, rfl, sX9, (M0 _), (F2.append (F2.append fu11 (show F2 (Q3.R k12) ([[.int .i64 (if x15_2 < x7_2 then x15_2 else x7_2), .int .i64 (if x15_2 > x7_2 then x15_2 else x7_2)]] : List (List Value)) [((if x15_2 < x7_2 then x15_2 else x7_2), (if x15_2 > x7_2 then x15_2 else x7_2))] from ⟨(O1 (H6 ix15_2 ix7_2) (H6 ix15_2 ix7_2)), trivial⟩)) (show F2 (Q3.R k12) ([[.int .i64 (if x15_0 < x7_0 then x15_0 else x7_0), .int .i64 (if x15_0 > x7_0 then x15_0 else x7_0)]] : List (List Value)) [((if x15_0 < x7_0 then x15_0 else x7_0), (if x15_0 > x7_0 then x15_0 else x7_0))] from ⟨(O1 (H6 ix15_0 ix7_0) (H6 ix15_0 ix7_0)), trivial⟩)), hM2⟩ (Nat.lt_succ_self _)))))
     ·replace hM2 := ifN hM2 hc19
      refine And.intro rfl (And.intro (by repeat (first | exact trivial | refine And.intro rfl ?_)) (And.intro (by repeat (first | exact trivial | refine And.intro rfl ?_)) (Exists.intro m13 (And.intro ⟨(IntKind.i64.wrap (u10 + 1)), (wu11 ++ ([[.int .i64 (if x15_2 < x7_2 then x15_2 else x7_2), .int .i64 (if x15_2 > x7_2 then x15_2 else x7_2)]] : List (List Value))), (u11 ++ [((if x15_2 < x7_2 then x15_2 else x7_2), (if x15_2 > x7_2 then x15_2 else x7_2))]), rfl, rfl, sX9, (M0 _), (F2.append fu11 (show F2 (Q3.R k12) ([[.int .i64 (if x15_2 < x7_2 then x15_2 else x7_2), .int .i64 (if x15_2 > x7_2 then x15_2 else x7_2)]] : List (List Value)) [((if x15_2 < x7_2 then x15_2 else x7_2), (if x15_2 > x7_2 then x15_2 else x7_2))] from ⟨(O1 (H6 ix15_2 ix7_2) (H6 ix15_2 ix7_2)), trivial⟩)), hM2⟩ (Nat.lt_succ_self _)))))
    ·replace hM2 := ifN hM2 hc17
     refine And.intro (fun hc21 => ?_) (fun hc21 => ?_)
     ·replace hM2 := ifP hM2 hc21
      obtain ⟨q22, gq22, hM2⟩ := l0 hM2
      refine And.intro (N1 gq22 (by first | rw [F2.length fu11, F2.length (show F2 (Q3.R k12) ([[.int .i64 (if x15_0 < x7_0 then x15_0 else x7_0), .int .i64 (if x15_0 > x7_0 then x15_0 else x7_0)]] : List (List Value)) [((if x15_0 < x7_0 then x15_0 else x7_0), (if x15_0 > x7_0 then x15_0 else x7_0))] from ⟨(O1 (H6 ix15_0 ix7_0) (H6 ix15_0 ix7_0)), trivial⟩)] | exact congrArg (· + 1) (F2.length fu11))) ?_
      refine And.intro rfl (And.intro (by repeat (first | exact trivial | refine And.intro rfl ?_)) (And.intro (by repeat (first | exact trivial | refine And.intro rfl ?_)) (Exists.intro m13 (And.intro ⟨(IntKind.i64.wrap (u10 + 1)), (wu11 ++ ([[.int .i64 (if x15_0 < x7_0 then x15_0 else x7_0), .int .i64 (if x15_0 > x7_0 then x15_0 else x7_0)]] : List (List Value))), (u11 ++ [((if x15_0 < x7_0 then x15_0 else x7_0), (if x15_0 > x7_0 then x15_0 else x7_0))]), rfl, rfl, sX9, (M0 _), (F2.append fu11 (show F2 (Q3.R k12) ([[.int .i64 (if x15_0 < x7_0 then x15_0 else x7_0), .int .i64 (if x15_0 > x7_0 then x15_0 else x7_0)]] : List (List Value)) [((if x15_0 < x7_0 then x15_0 else x7_0), (if x15_0 > x7_0 then x15_0 else x7_0))] from ⟨(O1 (H6 ix15_0 ix7_0) (H6 ix15_0 ix7_0)), trivial⟩)), hM2⟩ (Nat.lt_succ_self _)))))
     ·replace hM2 := ifN hM2 hc21
      refine And.intro rfl (And.intro (by repeat (first | exact trivial | refine And.intro rfl ?_)) (And.intro (by repeat (first | exact trivial | refine And.intro rfl ?_)) (Exists.intro m13 (And.intro ⟨(IntKind.i64.wrap (u10 + 1)), wu11, u11, rfl, rfl, sX9, (M0 _), fu11, hM2⟩ (Nat.lt_succ_self _)))))
  ·replace hM2 := ifN hM2 hc14
   have hE := Option.some.inj hM2; subst hE
   try dsimp only [Y0, Z0] at hM1
   refine And.intro rfl (And.intro (by repeat (first | exact trivial | refine And.intro rfl ?_)) (And.intro (by repeat (first | exact trivial | refine And.intro rfl ?_)) (Exists.intro m5 (And.intro ⟨(IntKind.i64.wrap (u2 + 1)), wu11, u11, rfl, rfl, (sX1.trans sX9), (M0 _), fu11, hM1⟩ (Nat.lt_succ_self _)))))
 ·replace hM1 := ifN hM1 hc6
  have hE := Option.some.inj hM1; subst hE
  try dsimp only [Y0, Z0] at hM0
  intro v27 k28 f29
  obtain ⟨az30, cz30, rfl, rz30, sz30, lz30⟩ := Q0.out (r := Q3.toRp) f29 fu3
  have hE := Option.some.inj hM0; subst hE
  exact ⟨az30, u3.length, cz30, rfl, rz30, (sX1.trans sz30)⟩
theorem Q07 (h : Hp) (csp0 : List Value) (p0 : j0) (rp0 : S0.R h csp0 p0) (r : R3 × Bool) (hM0 : E7 p0 = some r) :
  Tr Tryz.prog 336 #[.agg csp0.toArray] h fun v h' => ∃ (cs0 : List Value), v = .tuple #[.agg cs0.toArray, .bool r.2] ∧ Q3.R h' cs0 r.1 ∧ Sub h h' := by
 obtain ⟨p0_0, p0_1, ap0_2, np0_2, cp0_2, p0_2, rfl, rfl, ip0_0, ip0_1, rp0_2⟩ := B0 rp0
 obtain ⟨rfl, lp0_2⟩ := Sl.len rp0_2
 unfold E7 at hM0
 dsimp only at hM0
 refine j3 (args := [.agg #[.int .i64 p0_0, .int .i64 p0_1, .slice ap0_2 p0_2.length cp0_2]]) (fn := Tryz.f336) rfl ?_
 obtain ⟨x1, gx1, hM0⟩ := l0 hM0
 refine Tr.val (E00 _ [.int .i64 p0_0, .int .i64 p0_1, .slice ap0_2 p0_2.length cp0_2] (p0_0, p0_1, p0_2) (z0 ip0_0 ip0_1 rp0_2) _  gx1) ?_
 refine And.intro (fun hc2 => ?_) (fun hc2 => ?_)
 ·replace hM0 := ifP hM0 hc2
  have hE := Option.some.inj hM0; subst hE
  exact ⟨([.int .i64 0, .int .i64 0]), rfl, (O1 (c64 (by decide) (by decide)) (c64 (by decide) (by decide))), (Sub.refl _)⟩
 ·replace hM0 := ifN hM0 hc2
  obtain ⟨x3, gx3, hM0⟩ := l0 hM0
  refine Tr.mono (T0c _ [.int .i64 p0_0, .int .i64 p0_1, .slice ap0_2 p0_2.length cp0_2] (p0_0, p0_1, p0_2) (z0 ip0_0 ip0_1 rp0_2) _  gx3) ?_
  rintro v5 k4 ⟨ax3, nx3, cx3, rfl, rx3, sx3⟩
  obtain ⟨rfl, lx3⟩ := Sl.len rx3
  refine And.intro (fun hc6 => ?_) (fun hc6 => ?_)
  ·replace hM0 := ifP hM0 hc6
   have hE := Option.some.inj hM0; subst hE
   exact ⟨([.int .i64 0, .int .i64 0]), rfl, (O1 (c64 (by decide) (by decide)) (c64 (by decide) (by decide))), sx3⟩
  ·replace hM0 := ifN hM0 hc6
   obtain ⟨x7, gx7, hM0⟩ := l0 hM0
   obtain ⟨bx7, csx7, ex7, rx7⟩ := Sl.getI (r := Q3.toRp) rx3 gx7 (by decide)
   refine And.intro bx7 ?_
   obtain ⟨x7_0, x7_1, rfl, rfl, ix7_0, ix7_1⟩ := A00 rx7
   try dsimp only at hM0
   refine Exists.intro _ (And.intro ex7 ?_)
   have hE := Option.some.inj hM0; subst hE
   exact ⟨([.int .i64 x7_0, .int .i64 x7_1]), rfl, (O1 ix7_0 ix7_1), sx3⟩
theorem B04 (h : Hp) (csp0 : List Value) (p0 : j0) (rp0 : S0.R h csp0 p0) (csp1 : List Value) (p1 : R3) (rp1 : Q3.R h csp1 p1) (r : j0 × Bool) (hM0 : O5 p0 p1 = some r) :
  Tr Tryz.prog 337 #[.agg csp0.toArray, .agg csp1.toArray] h fun v h' => ∃ (cs0 : List Value), v = .tuple #[.agg cs0.toArray, .bool r.2] ∧ New S0 h h' cs0 r.1 := by
 obtain ⟨p0_0, p0_1, ap0_2, np0_2, cp0_2, p0_2, rfl, rfl, ip0_0, ip0_1, rp0_2⟩ := B0 rp0
 obtain ⟨rfl, lp0_2⟩ := Sl.len rp0_2
 obtain ⟨p1_0, p1_1, rfl, rfl, ip1_0, ip1_1⟩ := A00 rp1
 unfold O5 at hM0
 dsimp only at hM0
 refine j3 (args := [.agg #[.int .i64 p0_0, .int .i64 p0_1, .slice ap0_2 p0_2.length cp0_2], .agg #[.int .i64 p1_0, .int .i64 p1_1]]) (fn := Tryz.f337) rfl ?_
 obtain ⟨x1, gx1, hM0⟩ := l0 hM0
 refine Tr.mono (F7 _ [.int .i64 p0_0, .int .i64 p0_1, .slice ap0_2 p0_2.length cp0_2] (p0_0, p0_1, p0_2) (z0 ip0_0 ip0_1 rp0_2) _  gx1) ?_
 rintro v3 k2 ⟨gx1_2, nx1_2, cx1_2, rfl, wx1⟩
 have sx1 : Sub h k2 := wx1.sub
 have rx1 := wx1.r
 obtain ⟨x1_0, x1_1, x1_2⟩ := x1
 dsimp only at hM0 wx1 rx1
 obtain ⟨_, _, _, _, _, _, ecx1, exx1, ix1_0, ix1_1, rx1_2⟩ := B0 rx1
 cases ecx1
 cases exx1
 obtain ⟨rfl, lx1_2⟩ := Sl.len rx1_2
 try dsimp only at hM0
 have we4 := New.sndI (New.sndI (wx1))
 obtain ⟨x5, gx5, hM0⟩ := l0 hM0
 refine Tr.val (E00 _ [.int .i64 p0_0, .int .i64 p0_1, .slice ap0_2 p0_2.length cp0_2] (p0_0, p0_1, p0_2) (z0 ip0_0 ip0_1 (J0.mono sx1 rp0_2)) _  gx5) ?_
 refine And.intro (fun hc6 => ?_) (fun hc6 => ?_)
 ·replace hM0 := ifP hM0 hc6
  have hE := Option.some.inj hM0; subst hE
  exact ⟨([.int .i64 x1_0, .int .i64 x1_1, .slice (some ⟨gx1_2, 0, none⟩) x1_2.length cx1_2]), rfl, (New.pair (New.int ix1_0) (New.pair (New.int ix1_1) we4))⟩
 ·replace hM0 := ifN hM0 hc6
  intro b7 hb7
  have gb7 : (Hp.set k2 b7 (.cells #[.int .i64 p1_0, .int .i64 p1_1] 214 (0, 0))) b7 = some (.cells #[.int .i64 p1_0, .int .i64 p1_1] 214 (0, 0)) := Hp.set_same _ _ _
  have neb7gx1_2 : b7 ≠ gx1_2 := fun e => New.blk we4 (Sub.refl _) (e ▸ hb7)
  obtain ⟨X8, hLX8, hM0⟩ := l0 hM0
  refine Exists.intro { vars := [39], boxes := [], owns := [], fuel := true } (Exists.intro (fun vs os h' => ∃ (u9 : Int) (u10 : I0), vs.tail = [.int .i64 u9] ∧ os = [] ∧ Sub h h' ∧ N0 u9 ∧ New J0 h h' [.slice (some ⟨gx1_2, 0, none⟩) x1_2.length cx1_2] u10 ∧ h' b7 = some (.cells #[.int .i64 p1_0, .int .i64 p1_1] 214 (0, 0)) ∧ M3 x1_2 p1_0 p1_1 (Y1 vs) u9 u10 = some X8) (Exists.intro (fun _ _ => 0) ?_))
  refine And.intro (Exists.intro U0 ⟨0, x1_2, rfl, rfl, (sx1.trans (Sub.set hb7)), (c64 (by decide) (by decide)), (New.mono we4 (Sub.set hb7)), gb7, hLX8⟩) ?_
  rintro v_0 m13 k12 ⟨u9, u10, evX8, eoX8, sX8, iu9, wwu10, hq11, hM1⟩
  cases evX8
  cases eoX8
  replace hM1 : M3 x1_2 p1_0 p1_1 m13 u9 u10 = some X8 := hM1
  obtain _ | m13 := m13
  ·cases (show (none : Option _) = some X8 from hM1)
  rw [M3.eq_2] at hM1
  have ru10 := wwu10.r
  refine And.intro (fun hc14 => ?_) (fun hc14 => ?_)
  ·replace hM1 := ifP hM1 hc14
   obtain ⟨x15, gx15, hM1⟩ := l0 hM1
   obtain ⟨bx15, csx15, ex15, rx15⟩ := Sl.getI (r := P0.toRp) ru10 gx15 (by decide)
   refine And.intro bx15 ?_
   obtain ⟨x15_0, x15_1, x15_2, rfl, rfl, ix15_0, ix15_1, ix15_2⟩ := E1 rx15
   try dsimp only at hM1
   refine Exists.intro _ (And.intro ex15 ?_)
   refine Or.inr (Or.inr (Or.inl (And.intro (And.intro (by kernel_rfl) (by kernel_rfl)) ?_)))
   obtain ⟨x16, gx16, hM1⟩ := l0 hM1
   obtain ⟨q17, gq17, hM1⟩ := l0 hM1
   have ix16 : N0 x16 := B3 gq17
   refine Or.inl (Exists.intro (.val (.int .i64 x16)) (And.intro ?_ ?_))
   ·intro k18 s19
    exact Tr.val (I00 _ x15_0 ix15_0 b7 214 p1_0 ip1_0 p1_1 ip1_1 (s19 _ _ hq11) _ gx16) (And.intro rfl (And.intro rfl rfl))
   obtain ⟨x20, gx20, hM1⟩ := l0 hM1
   obtain ⟨q21, gq21, hM1⟩ := l0 hM1
   have ix20 : N0 x20 := B3 gq21
   refine Or.inl (Exists.intro (.val (.int .i64 x20)) (And.intro ?_ ?_))
   ·intro k22 s23
    exact Tr.val (I00 _ x15_2 ix15_2 b7 214 p1_0 ip1_0 p1_1 ip1_1 (s23 _ _ hq11) _ gx20) (And.intro rfl (And.intro rfl rfl))
   refine Or.inl (Exists.intro (.agg [.val (.int .i64 x16), .val (.int .i64 x15_1), .val (.int .i64 x20)]) (And.intro ?_ ?_))
   ·intro k24 s25
    exact And.intro rfl (And.intro rfl rfl)
   refine Or.inr ?_
   refine Or.inr ?_
   refine Exists.intro 0 (And.intro (And.intro rfl rfl) ?_)
   obtain ⟨x26, gx26, hM1⟩ := l0 hM1
   obtain ⟨bx26, csx26, ex26, rx26⟩ := Sl.getI (r := P0.toRp) ru10 gx26 (by decide)
   refine And.intro bx26 ?_
   obtain ⟨x26_0, x26_1, x26_2, rfl, rfl, ix26_0, ix26_1, ix26_2⟩ := E1 rx26
   try dsimp only at hM1
   refine And.intro trivial (And.intro (by first | exact trivial | exact rfl) ?_)
   refine New.put (r := P0) wwu10 (Sub.refl _) (t0k gx26).1 (new := [.int .i64 x16, .int .i64 x15_1, .int .i64 x20]) (By := []) (O0f _ _ _ (K1 ix16 ix15_1 ix20)) (O6.nil _) rfl (t0k gx26).2 ?_
   intro k27 w28 kpw28 _
   have rw28 := w28.r
   have hpw28b7 : k27 b7 = some (.cells #[.int .i64 p1_0, .int .i64 p1_1] 214 (0, 0)) := (kpw28 b7 neb7gx1_2).trans hq11
   refine And.intro trivial (And.intro (by first | exact trivial | exact rfl) ?_)
   refine And.intro rfl (And.intro (by repeat (first | exact trivial | refine And.intro rfl ?_)) (And.intro (by repeat (first | exact trivial | refine And.intro rfl ?_)) (Exists.intro m13 (And.intro ⟨(IntKind.i64.wrap (u9 + 1)), (u10.set u9.toNat (x16, x15_1, x20)), rfl, rfl, w28.sub, (M0 _), w28, (hpw28b7), hM1⟩ (Nat.lt_succ_self _)))))
  ·replace hM1 := ifN hM1 hc14
   have hE := Option.some.inj hM1; subst hE
   try dsimp only [Y0, Z0] at hM0
   obtain ⟨x29, gx29, hM0⟩ := l0 hM0
   refine Tr.mono (o05 _ (some ⟨gx1_2, 0, none⟩) x1_2.length cx1_2 u10 ru10 _  gx29) ?_
   rintro v31 k30 ⟨ax29, nx29, cx29, rfl, wx29⟩
   have sx29 : Sub k12 k30 := wx29.sub
   have rx29 := wx29.r
   obtain ⟨rfl, lx29⟩ := Sl.len rx29
   have hE := Option.some.inj hM0; subst hE
   exact ⟨([.int .i64 x1_0, .int .i64 (IntKind.i64.wrap (x1_1 - 1)), .slice ax29 x29.length cx29]), rfl, (New.pair (New.int ix1_0) (New.pair (New.int (M0 _)) (New.from wx29 sX8)))⟩
theorem E08 (h : Hp) (csp0 : List Value) (p0 : j0) (rp0 : S0.R h csp0 p0) (r : j0 × R3 × Bool) (hM0 : J8 p0 = some r) :
  Tr Tryz.prog 306 #[.agg csp0.toArray] h fun v h' => ∃ (cs0 : List Value) (cs1 : List Value), v = .tuple #[.agg cs0.toArray, .agg cs1.toArray, .bool r.2.2] ∧ New S0 h h' cs0 r.1 ∧ Q3.R h' cs1 r.2.1 := by
 obtain ⟨p0_0, p0_1, ap0_2, np0_2, cp0_2, p0_2, rfl, rfl, ip0_0, ip0_1, rp0_2⟩ := B0 rp0
 obtain ⟨rfl, lp0_2⟩ := Sl.len rp0_2
 unfold J8 at hM0
 dsimp only at hM0
 refine j3 (args := [.agg #[.int .i64 p0_0, .int .i64 p0_1, .slice ap0_2 p0_2.length cp0_2]]) (fn := Tryz.f306) rfl ?_
 obtain ⟨x1, gx1, hM0⟩ := l0 hM0
 refine Tr.mono (Q07 _ [.int .i64 p0_0, .int .i64 p0_1, .slice ap0_2 p0_2.length cp0_2] (p0_0, p0_1, p0_2) (z0 ip0_0 ip0_1 rp0_2) _  gx1) ?_
 rintro v3 k2 ⟨csx1_0, rfl, rx1_0, sx1⟩
 obtain ⟨x1_0, x1_1⟩ := x1
 dsimp only at hM0 rx1_0
 obtain ⟨x1_0_0, x1_0_1, rfl, rfl, ix1_0_0, ix1_0_1⟩ := A00 rx1_0
 try dsimp only at hM0
 refine And.intro (fun hc4 => ?_) (fun hc4 => ?_)
 ·replace hM0 := ifP hM0 hc4
  obtain ⟨x5, gx5, hM0⟩ := l0 hM0
  refine Tr.mono (F7 _ [.int .i64 p0_0, .int .i64 p0_1, .slice ap0_2 p0_2.length cp0_2] (p0_0, p0_1, p0_2) (z0 ip0_0 ip0_1 (J0.mono sx1 rp0_2)) _  gx5) ?_
  rintro v7 k6 ⟨gx5_2, nx5_2, cx5_2, rfl, wx5⟩
  have sx5 : Sub k2 k6 := wx5.sub
  have rx5 := wx5.r
  obtain ⟨x5_0, x5_1, x5_2⟩ := x5
  dsimp only at hM0 wx5 rx5
  obtain ⟨_, _, _, _, _, _, ecx5, exx5, ix5_0, ix5_1, rx5_2⟩ := B0 rx5
  cases ecx5
  cases exx5
  obtain ⟨rfl, lx5_2⟩ := Sl.len rx5_2
  try dsimp only at hM0
  have we8 := New.sndI (New.sndI (wx5))
  have hE := Option.some.inj hM0; subst hE
  exact ⟨([.int .i64 x5_0, .int .i64 x5_1, .slice (some ⟨gx5_2, 0, none⟩) x5_2.length cx5_2]), ([.int .i64 0, .int .i64 0]), rfl, (New.pair (New.int ix5_0) (New.pair (New.int ix5_1) (New.from we8 sx1))), (O1 (c64 (by decide) (by decide)) (c64 (by decide) (by decide)))⟩
 ·replace hM0 := ifN hM0 hc4
  obtain ⟨x9, gx9, hM0⟩ := l0 hM0
  refine Tr.mono (B04 _ [.int .i64 p0_0, .int .i64 p0_1, .slice ap0_2 p0_2.length cp0_2] (p0_0, p0_1, p0_2) (z0 ip0_0 ip0_1 (J0.mono sx1 rp0_2)) [.int .i64 x1_0_0, .int .i64 x1_0_1] (x1_0_0, x1_0_1) (O1 ix1_0_0 ix1_0_1) _  gx9) ?_
  rintro v11 k10 ⟨csx9_0, rfl, wx9_0⟩
  obtain ⟨x9_0, x9_1⟩ := x9
  dsimp only at hM0 wx9_0
  have sx9 : Sub k2 k10 := wx9_0.sub
  have rx9_0 := wx9_0.r
  obtain ⟨x9_0_0, x9_0_1, ax9_0_2, nx9_0_2, cx9_0_2, x9_0_2, rfl, rfl, ix9_0_0, ix9_0_1, rx9_0_2⟩ := B0 rx9_0
  obtain ⟨rfl, lx9_0_2⟩ := Sl.len rx9_0_2
  try dsimp only at hM0
  have we12 := New.sndI (New.sndI (wx9_0))
  refine Or.inr (Or.inr (Or.inl (And.intro (And.intro (by kernel_rfl) (by kernel_rfl)) ?_)))
  refine Or.inr ?_
  refine Or.inr ?_
  refine Exists.intro 0 (And.intro (And.intro rfl rfl) ?_)
  refine And.intro trivial (And.intro (by first | exact trivial | exact rfl) ?_)
  refine And.intro trivial (And.intro (by first | exact trivial | exact rfl) ?_)
  have hE := Option.some.inj hM0; subst hE
  exact ⟨([.int .i64 x9_0_0, .int .i64 x9_0_1, .slice ax9_0_2 x9_0_2.length cx9_0_2]), ([.int .i64 x1_0_0, .int .i64 x1_0_1]), rfl, (New.pair (New.int ix9_0_0) (New.pair (New.int ix9_0_1) (New.from we12 sx1))), (O1 ix1_0_0 ix1_0_1)⟩
theorem A0a (h : Hp) (csp0 : List Value) (p0 : j0) (rp0 : S0.R h csp0 p0) (r : j0 × R6) (hM0 : E9 p0 = some r) :
  Tr Tryz.prog 260 #[.agg csp0.toArray] h fun v h' => ∃ (cs0 : List Value) (a1 : Option Addr) (n1 c1 : Nat), v = .tuple #[.agg cs0.toArray, .slice a1 n1 c1] ∧ New S0 h h' cs0 r.1 ∧ w0c.R h' [.slice a1 n1 c1] r.2 := by
 obtain ⟨p0_0, p0_1, ap0_2, np0_2, cp0_2, p0_2, rfl, rfl, ip0_0, ip0_1, rp0_2⟩ := B0 rp0
 obtain ⟨rfl, lp0_2⟩ := Sl.len rp0_2
 unfold E9 at hM0
 dsimp only at hM0
 refine j3 (args := [.agg #[.int .i64 p0_0, .int .i64 p0_1, .slice ap0_2 p0_2.length cp0_2]]) (fn := Tryz.f260) rfl ?_
 obtain ⟨x1, gx1, hM0⟩ := l0 hM0
 refine Tr.mono (F7 _ [.int .i64 p0_0, .int .i64 p0_1, .slice ap0_2 p0_2.length cp0_2] (p0_0, p0_1, p0_2) (z0 ip0_0 ip0_1 rp0_2) _  gx1) ?_
 rintro v3 k2 ⟨gx1_2, nx1_2, cx1_2, rfl, wx1⟩
 have sx1 : Sub h k2 := wx1.sub
 have rx1 := wx1.r
 obtain ⟨x1_0, x1_1, x1_2⟩ := x1
 dsimp only at hM0 wx1 rx1
 obtain ⟨_, _, _, _, _, _, ecx1, exx1, ix1_0, ix1_1, rx1_2⟩ := B0 rx1
 cases ecx1
 cases exx1
 obtain ⟨rfl, lx1_2⟩ := Sl.len rx1_2
 try dsimp only at hM0
 have we4 := New.sndI (New.sndI (wx1))
 obtain ⟨X5, hLX5, hM0⟩ := l0 hM0
 refine Exists.intro { vars := [], boxes := [2], owns := [0], fuel := true } (Exists.intro (fun vs os h' => ∃ (u6 : Int) (u7 : Int) (au8 : Option Addr) (nu8 cu8 : Nat) (u8 : I0) (wu9 : List (List Value)) (u9 : List R3), vs.tail = [.int .i64 u6, .int .i64 u7, .slice au8 nu8 cu8] ∧ os = [wu9] ∧ Sub k2 h' ∧ N0 u6 ∧ N0 u7 ∧ New J0 h h' [.slice au8 nu8 cu8] u8 ∧ F2 (Q3.R h') wu9 u9 ∧ P5 (Y1 vs) u6 u7 u8 u9 = some X5) (Exists.intro (fun _ _ => 0) ?_))
 refine And.intro (Exists.intro U0 ⟨x1_0, x1_1, (some ⟨gx1_2, 0, none⟩), x1_2.length, cx1_2, x1_2, [], ([] : R6), rfl, rfl, (Sub.refl _), ix1_0, ix1_1, we4, (show F2 (Q3.R k2) ([] : List (List Value)) ([] : R6) from trivial), hLX5⟩) ?_
 rintro v_0 v_1 v_2 wu9 m11 k10 ⟨u6, u7, au8, nu8, cu8, u8, zzu9, u9, evX5, eoX5, sX5, iu6, iu7, wwu8, fu9, hM1⟩
 cases evX5
 cases eoX5
 replace hM1 : P5 m11 u6 u7 u8 u9 = some X5 := hM1
 obtain _ | m11 := m11
 ·cases (show (none : Option _) = some X5 from hM1)
 rw [P5.eq_2] at hM1
 have ru8 := wwu8.r
 obtain ⟨rfl, lu8⟩ := Sl.len ru8
 obtain ⟨x12, gx12, hM1⟩ := l0 hM1
 refine Tr.mono (E08 _ [.int .i64 u6, .int .i64 u7, .slice au8 u8.length cu8] (u6, u7, u8) (z0 iu6 iu7 ru8) _  gx12) ?_
 rintro v14 k13 ⟨csx12_0, csx12_1, rfl, wx12_0, rx12_1⟩
 obtain ⟨x12_0, x12_1, x12_2⟩ := x12
 dsimp only at hM1 wx12_0 rx12_1
 have sx12 : Sub k10 k13 := wx12_0.sub
 have rx12_0 := wx12_0.r
 obtain ⟨x12_0_0, x12_0_1, ax12_0_2, nx12_0_2, cx12_0_2, x12_0_2, rfl, rfl, ix12_0_0, ix12_0_1, rx12_0_2⟩ := B0 rx12_0
 obtain ⟨rfl, lx12_0_2⟩ := Sl.len rx12_0_2
 try dsimp only at hM1
 have we15 := New.sndI (New.sndI (wx12_0))
 obtain ⟨x12_1_0, x12_1_1, rfl, rfl, ix12_1_0, ix12_1_1⟩ := A00 rx12_1
 try dsimp only at hM1
 refine And.intro (fun hc16 => ?_) (fun hc16 => ?_)
 ·replace hM1 := ifP hM1 hc16
  intro v17 k18 f19
  obtain ⟨az20, cz20, rfl, rz20, sz20, lz20⟩ := Q0.out (r := Q3.toRp) f19 (F2.up (r := Q3.toRp) sx12 fu9)
  have hE := Option.some.inj hM1; subst hE
  try dsimp only [P6, Q6] at hM0
  have hE := Option.some.inj hM0; subst hE
  exact ⟨([.int .i64 u6, .int .i64 u7, .slice au8 u8.length cu8]), az20, u9.length, cz20, rfl, (New.pair (New.int iu6) (New.pair (New.int iu7) (New.mono wwu8 (sx12.trans sz20)))), rz20⟩
 ·replace hM1 := ifN hM1 hc16
  obtain ⟨q21, gq21, hM1⟩ := l0 hM1
  refine And.intro (N1 gq21 (by first | rw [F2.length (F2.up (r := Q3.toRp) sx12 fu9), F2.length (show F2 (Q3.R k13) ([[.int .i64 x12_1_0, .int .i64 x12_1_1]] : List (List Value)) [(x12_1_0, x12_1_1)] from ⟨(O1 ix12_1_0 ix12_1_1), trivial⟩)] | exact congrArg (· + 1) (F2.length (F2.up (r := Q3.toRp) sx12 fu9)))) ?_
  refine And.intro rfl (And.intro (by repeat (first | exact trivial | refine And.intro rfl ?_)) (And.intro (by repeat (first | exact trivial | refine And.intro rfl ?_)) (Exists.intro m11 (And.intro ⟨x12_0_0, x12_0_1, ax12_0_2, x12_0_2.length, cx12_0_2, x12_0_2, (wu9 ++ ([[.int .i64 x12_1_0, .int .i64 x12_1_1]] : List (List Value))), (u9 ++ [(x12_1_0, x12_1_1)]), rfl, rfl, (sX5.trans sx12), ix12_0_0, ix12_0_1, (New.from we15 (sx1.trans sX5)), (F2.append (F2.up (r := Q3.toRp) sx12 fu9) (show F2 (Q3.R k13) ([[.int .i64 x12_1_0, .int .i64 x12_1_1]] : List (List Value)) [(x12_1_0, x12_1_1)] from ⟨(O1 ix12_1_0 ix12_1_1), trivial⟩)), hM1⟩ (Nat.lt_succ_self _)))))
theorem X04 (h : Hp) (csp0 : List Value) (p0 : j0) (rp0 : S0.R h csp0 p0) (r : I0) (hM0 : o6 p0 = some r) :
  Tr Tryz.prog 196 #[.agg csp0.toArray] h fun v h' => ∃ (a0 : Option Addr) (n0 c0 : Nat), v = .slice a0 n0 c0 ∧ J0.R h' [.slice a0 n0 c0] r ∧ Sub h h' := by
 obtain ⟨p0_0, p0_1, ap0_2, np0_2, cp0_2, p0_2, rfl, rfl, ip0_0, ip0_1, rp0_2⟩ := B0 rp0
 obtain ⟨rfl, lp0_2⟩ := Sl.len rp0_2
 unfold o6 at hM0
 dsimp only at hM0
 refine j3 (args := [.agg #[.int .i64 p0_0, .int .i64 p0_1, .slice ap0_2 p0_2.length cp0_2]]) (fn := Tryz.f196) rfl ?_
 obtain ⟨x1, gx1, hM0⟩ := l0 hM0
 refine Tr.val (V7 _ [.int .i64 p0_0, .int .i64 p0_1, .slice ap0_2 p0_2.length cp0_2] (p0_0, p0_1, p0_2) (z0 ip0_0 ip0_1 rp0_2) _  gx1) ?_
 refine And.intro (fun hc2 => ?_) (fun hc2 => ?_)
 ·replace hM0 := ifP hM0 hc2
  intro v3 k4 f5
  obtain ⟨az6, cz6, rfl, rz6, sz6, lz6⟩ := Q0.out (r := P0.toRp) f5 (show F2 (P0.R h) ([] : List (List Value)) ([] : I0) from trivial)
  have hE := Option.some.inj hM0; subst hE
  exact ⟨az6, (([] : I0)).length, cz6, rfl, rz6, sz6⟩
 ·replace hM0 := ifN hM0 hc2
  obtain ⟨X7, hLX7, hM0⟩ := l0 hM0
  refine Exists.intro { vars := [4], boxes := [], owns := [0], fuel := true } (Exists.intro (fun vs os h' => ∃ (u8 : Int) (wu9 : List (List Value)) (u9 : List C0), vs.tail = [.int .i64 u8] ∧ os = [wu9] ∧ Sub h h' ∧ N0 u8 ∧ F2 (P0.R h') wu9 u9 ∧ U3 p0_1 p0_0 p0_2 (Y1 vs) u8 u9 = some X7) (Exists.intro (fun _ _ => 0) ?_))
  refine And.intro (Exists.intro U0 ⟨0, [], ([] : I0), rfl, rfl, (Sub.refl _), (c64 (by decide) (by decide)), (show F2 (P0.R h) ([] : List (List Value)) ([] : I0) from trivial), hLX7⟩) ?_
  rintro v_0 wu9 m11 k10 ⟨u8, zzu9, u9, evX7, eoX7, sX7, iu8, fu9, hM1⟩
  cases evX7
  cases eoX7
  replace hM1 : U3 p0_1 p0_0 p0_2 m11 u8 u9 = some X7 := hM1
  obtain _ | m11 := m11
  ·cases (show (none : Option _) = some X7 from hM1)
  rw [U3.eq_2] at hM1
  refine And.intro (fun hc12 => ?_) (fun hc12 => ?_)
  ·replace hM1 := ifP hM1 hc12
   obtain ⟨x13, gx13, hM1⟩ := l0 hM1
   refine Tr.mono (V01 _ p0_0 ip0_0 _  gx13) ?_
   rintro v15 k14 ⟨ax13, nx13, cx13, rfl, rx13, sx13⟩
   obtain ⟨rfl, lx13⟩ := Sl.len rx13
   obtain ⟨X16, hLX16, hM1⟩ := l0 hM1
   refine Exists.intro { vars := [22], boxes := [], owns := [0], fuel := true } (Exists.intro (fun vs os h' => ∃ (u17 : Int) (wu18 : List (List Value)) (u18 : List C0), vs.tail = [.int .i64 u17] ∧ os = [wu18] ∧ Sub k14 h' ∧ N0 u17 ∧ F2 (P0.R h') wu18 u18 ∧ T2 x13 p0_0 p0_1 p0_2 u8 (Y1 vs) u17 u18 = some X16) (Exists.intro (fun _ _ => 0) ?_))
   refine And.intro (Exists.intro U0 ⟨0, wu9, u9, rfl, rfl, (Sub.refl _), (c64 (by decide) (by decide)), (F2.up (r := P0.toRp) sx13 fu9), hLX16⟩) ?_
   rintro v_0 wu18 m20 k19 ⟨u17, zzu18, u18, evX16, eoX16, sX16, iu17, fu18, hM2⟩
   cases evX16
   cases eoX16
   replace hM2 : T2 x13 p0_0 p0_1 p0_2 u8 m20 u17 u18 = some X16 := hM2
   obtain _ | m20 := m20
   ·cases (show (none : Option _) = some X16 from hM2)
   rw [T2.eq_2] at hM2
   refine And.intro (fun hc21 => ?_) (fun hc21 => ?_)
   ·replace hM2 := ifP hM2 hc21
    obtain ⟨x22, gx22, hM2⟩ := l0 hM2
    obtain ⟨bx22, csx22, ex22, rx22⟩ := Sl.getI (r := Wp.int.toRp) (D1.mono sX16 rx13) gx22 (by decide)
    refine And.intro bx22 ?_
    obtain ⟨rfl, ix22⟩ := rx22
    refine Exists.intro _ (And.intro ex22 ?_)
    obtain ⟨x23, gx23, hM2⟩ := l0 hM2
    refine Tr.val (H00 _ [.int .i64 p0_0, .int .i64 p0_1, .slice ap0_2 p0_2.length cp0_2] (p0_0, p0_1, p0_2) (z0 ip0_0 ip0_1 (J0.mono ((sX7.trans sx13).trans sX16) rp0_2)) u8 iu8 x22 ix22 _  gx23) ?_
    obtain ⟨q24, gq24, hM2⟩ := l0 hM2
    have ix23 : N0 x23 := B3 gq24
    refine And.intro (fun hc25 => ?_) (fun hc25 => ?_)
    ·replace hM2 := ifP hM2 hc25
     obtain ⟨q26, gq26, hM2⟩ := l0 hM2
     refine And.intro (N1 gq26 (by first | rw [F2.length fu18, F2.length (show F2 (P0.R k19) ([[.int .i64 u8, .int .i64 x22, .int .i64 (-1)]] : List (List Value)) [(u8, x22, (-1))] from ⟨(K1 iu8 ix22 (c64 (by decide) (by decide))), trivial⟩)] | exact congrArg (· + 1) (F2.length fu18))) ?_
     refine And.intro rfl (And.intro (by repeat (first | exact trivial | refine And.intro rfl ?_)) (And.intro (by repeat (first | exact trivial | refine And.intro rfl ?_)) (Exists.intro m20 (And.intro ⟨(IntKind.i64.wrap (u17 + 1)), (wu18 ++ ([[.int .i64 u8, .int .i64 x22, .int .i64 (-1)]] : List (List Value))), (u18 ++ [(u8, x22, (-1))]), rfl, rfl, sX16, (M0 _), (F2.append fu18 (show F2 (P0.R k19) ([[.int .i64 u8, .int .i64 x22, .int .i64 (-1)]] : List (List Value)) [(u8, x22, (-1))] from ⟨(K1 iu8 ix22 (c64 (by decide) (by decide))), trivial⟩)), hM2⟩ (Nat.lt_succ_self _)))))
    ·replace hM2 := ifN hM2 hc25
     refine And.intro rfl (And.intro (by repeat (first | exact trivial | refine And.intro rfl ?_)) (And.intro (by repeat (first | exact trivial | refine And.intro rfl ?_)) (Exists.intro m20 (And.intro ⟨(IntKind.i64.wrap (u17 + 1)), wu18, u18, rfl, rfl, sX16, (M0 _), fu18, hM2⟩ (Nat.lt_succ_self _)))))
   ·replace hM2 := ifN hM2 hc21
    have hE := Option.some.inj hM2; subst hE
    try dsimp only [Y0, Z0] at hM1
    refine And.intro rfl (And.intro (by repeat (first | exact trivial | refine And.intro rfl ?_)) (And.intro (by repeat (first | exact trivial | refine And.intro rfl ?_)) (Exists.intro m11 (And.intro ⟨(IntKind.i64.wrap (u8 + 1)), wu18, u18, rfl, rfl, ((sX7.trans sx13).trans sX16), (M0 _), fu18, hM1⟩ (Nat.lt_succ_self _)))))
  ·replace hM1 := ifN hM1 hc12
   have hE := Option.some.inj hM1; subst hE
   try dsimp only [Y0, Z0] at hM0
   intro v31 k32 f33
   obtain ⟨az34, cz34, rfl, rz34, sz34, lz34⟩ := Q0.out (r := P0.toRp) f33 fu9
   have hE := Option.some.inj hM0; subst hE
   exact ⟨az34, u9.length, cz34, rfl, rz34, (sX7.trans sz34)⟩
end Go.Proofs.YtknoadmdnjaocaaGreat
namespace Go.Proofs.YtknoadmdnjaocaaGreat
open Go.H
set_option linter.unusedVariables false
set_option linter.unusedSimpArgs false
set_option maxRecDepth 10000
theorem R07 (h : Hp) (csp0 : List Value) (p0 : j0) (rp0 : S0.R h csp0 p0) (r : j0) (hM0 : p8 p0 = some r) :
  Tr Tryz.prog 179 #[.agg csp0.toArray] h fun v h' => ∃ (cs0 : List Value), v = .agg cs0.toArray ∧ New S0 h h' cs0 r := by
 obtain ⟨p0_0, p0_1, ap0_2, np0_2, cp0_2, p0_2, rfl, rfl, ip0_0, ip0_1, rp0_2⟩ := B0 rp0
 obtain ⟨rfl, lp0_2⟩ := Sl.len rp0_2
 unfold p8 at hM0
 dsimp only at hM0
 refine j3 (args := [.agg #[.int .i64 p0_0, .int .i64 p0_1, .slice ap0_2 p0_2.length cp0_2]]) (fn := Tryz.f179) rfl ?_
 obtain ⟨x1, gx1, hM0⟩ := l0 hM0
 refine Tr.mono (A0a _ [.int .i64 p0_0, .int .i64 p0_1, .slice ap0_2 p0_2.length cp0_2] (p0_0, p0_1, p0_2) (z0 ip0_0 ip0_1 rp0_2) _  gx1) ?_
 rintro v3 k2 ⟨csx1_0, ax1_1, nx1_1, cx1_1, rfl, wx1_0, rx1_1⟩
 obtain ⟨x1_0, x1_1⟩ := x1
 dsimp only at hM0 wx1_0 rx1_1
 have sx1 : Sub h k2 := wx1_0.sub
 have rx1_0 := wx1_0.r
 obtain ⟨x1_0_0, x1_0_1, ax1_0_2, nx1_0_2, cx1_0_2, x1_0_2, rfl, rfl, ix1_0_0, ix1_0_1, rx1_0_2⟩ := B0 rx1_0
 obtain ⟨rfl, lx1_0_2⟩ := Sl.len rx1_0_2
 try dsimp only at hM0
 have we4 := New.sndI (New.sndI (wx1_0))
 obtain ⟨rfl, lx1_1⟩ := Sl.len rx1_1
 obtain ⟨x5, gx5, hM0⟩ := l0 hM0
 refine Tr.mono (W02 _ [.int .i64 x1_0_0, .int .i64 x1_0_1, .slice ax1_0_2 x1_0_2.length cx1_0_2] (x1_0_0, x1_0_1, x1_0_2) (z0 ix1_0_0 ix1_0_1 rx1_0_2) _  gx5) ?_
 rintro v7 k6 ⟨csx5_0, ax5_1, nx5_1, cx5_1, rfl, wx5_0, rx5_1⟩
 obtain ⟨x5_0, x5_1⟩ := x5
 dsimp only at hM0 wx5_0 rx5_1
 have sx5 : Sub k2 k6 := wx5_0.sub
 have rx5_0 := wx5_0.r
 obtain ⟨x5_0_0, x5_0_1, ax5_0_2, nx5_0_2, cx5_0_2, x5_0_2, rfl, rfl, ix5_0_0, ix5_0_1, rx5_0_2⟩ := B0 rx5_0
 obtain ⟨rfl, lx5_0_2⟩ := Sl.len rx5_0_2
 try dsimp only at hM0
 have we8 := New.sndI (New.sndI (wx5_0))
 obtain ⟨rfl, lx5_1⟩ := Sl.len rx5_1
 obtain ⟨x9, gx9, hM0⟩ := l0 hM0
 refine Tr.mono (M00 _ [.int .i64 x5_0_0, .int .i64 x5_0_1, .slice ax5_0_2 x5_0_2.length cx5_0_2] (x5_0_0, x5_0_1, x5_0_2) (z0 ix5_0_0 ix5_0_1 rx5_0_2) _  gx9) ?_
 rintro v11 k10 ⟨csx9, rfl, wx9⟩
 have sx9 : Sub k6 k10 := wx9.sub
 have rx9 := wx9.r
 obtain ⟨x9_0, x9_1, ax9_2, nx9_2, cx9_2, x9_2, rfl, rfl, ix9_0, ix9_1, rx9_2⟩ := B0 rx9
 obtain ⟨rfl, lx9_2⟩ := Sl.len rx9_2
 try dsimp only at hM0
 have we12 := New.sndI (New.sndI (wx9))
 have hE := Option.some.inj hM0; subst hE
 exact ⟨([.int .i64 x9_0, .int .i64 x9_1, .slice ax9_2 x9_2.length cx9_2]), rfl, (New.pair (New.int ix9_0) (New.pair (New.int ix9_1) (New.from we12 (sx1.trans sx5))))⟩
end Go.Proofs.YtknoadmdnjaocaaGreat
