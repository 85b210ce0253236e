/- Texts of the claim, joined: The walks of batch h1; The walks of batch h2; The walks of batch i1; The walks of batch i3; The walks of batch g2; The walks of batch g3. -/
import Derived.Test.YtfdlgbfeceodeaaGreatPart18
import Derived.Test.YtfdlgbfeceodeaaGreatChecked
import Derived.Test.YtfdlgbfeceodeaaGreatH35
import Derived.Test.YtfdlgbfeceodeaaGreatPart25
import Derived.Test.YtfdlgbfeceodeaaGreatPart17
import Derived.Test.YtfdlgbfeceodeaaGreatH36
import Derived.Test.YtfdlgbfeceodeaaGreatSE
import Derived.Test.YtfdlgbfeceodeaaGreatPart21
import Derived.Test.YtfdlgbfeceodeaaGreatH40
import Derived.Test.YtfdlgbfeceodeaaGreatH41
namespace Go.Proofs.YtfdlgbfeceodeaaGreat
open Go.H
set_option linter.unusedVariables false
set_option linter.unusedSimpArgs false
set_option maxRecDepth 10000
theorem t09 (h : Hp) (p0 : Int) (ip0 : F0 p0) (r : l0 × Bool) (hM0 : j9 p0 = some r) :
  Tr Tryz.prog 186 #[.int .i64 p0] h fun v h' => ∃ (cs0 : List Value), v = .tuple #[.agg cs0.toArray, .bool r.2] ∧ Y0.R h' cs0 r.1 ∧ Sub h h' := by
 unfold j9 at hM0
 refine U2 (args := [.int .i64 p0]) (fn := Tryz.f186) rfl ?_
 obtain ⟨x1, gx1, hM0⟩ := j0 hM0
 refine Tr.val (K5 _ p0 ip0 1 (c64 (by decide) (by decide)) 3 (c64 (by decide) (by decide)) _  gx1) ?_
 refine And.intro (fun hc2 => ?_) (fun hc2 => ?_)
 ·replace hM0 := ifP hM0 hc2
  have hE := Option.some.inj hM0; subst hE
  exact ⟨([.int .i64 0, .int .i64 0, .slice none 0 0]), rfl, (z0 (c64 (by decide) (by decide)) (c64 (by decide) (by decide)) (X0c Q0 h)), (Sub.refl _)⟩
 ·replace hM0 := ifN hM0 hc2
  have hE := Option.some.inj hM0; subst hE
  exact ⟨([.int .i64 p0, .int .i64 1, .slice none 0 0]), rfl, (z0 ip0 (c64 (by decide) (by decide)) (X0c Q0 h)), (Sub.refl _)⟩
theorem f05 (h : Hp) (csp0 : List Value) (p0 : l0) (rp0 : Y0.R h csp0 p0) (p1 : Int) (ip1 : F0 p1) (ap2 : Option Addr) (np2 cp2 : Nat) (p2 : O0) (rp2 : I1.R h [.slice ap2 np2 cp2] p2) (p3 : Int) (ip3 : F0 p3) (r : l0 × Bool) (hM0 : d8 p0 p1 p2 p3 = some r) :
  Tr Tryz.prog 90 #[.agg csp0.toArray, .int .i64 p1, .slice ap2 np2 cp2, .int .i64 p3] h fun v h' => ∃ (cs0 : List Value), v = .tuple #[.agg cs0.toArray, .bool r.2] ∧ Y0.R h' cs0 r.1 ∧ Sub h h' := by
 obtain ⟨p0_0, p0_1, ap0_2, np0_2, cp0_2, p0_2, rfl, rfl, ip0_0, ip0_1, rp0_2⟩ := B0 rp0
 obtain ⟨rfl, lp0_2⟩ := Sl.len rp0_2
 obtain ⟨rfl, lp2⟩ := Sl.len rp2
 unfold d8 at hM0
 dsimp only at hM0
 refine U2 (args := [.agg #[.int .i64 p0_0, .int .i64 p0_1, .slice ap0_2 p0_2.length cp0_2], .int .i64 p1, .slice ap2 p2.length cp2, .int .i64 p3]) (fn := Tryz.f90) rfl ?_
 obtain ⟨x1, gx1, hM0⟩ := j0 hM0
 refine Tr.mono (P3 _ [.int .i64 p0_0, .int .i64 p0_1, .slice ap0_2 p0_2.length cp0_2] (p0_0, p0_1, p0_2) (z0 ip0_0 ip0_1 rp0_2) _  gx1) ?_
 rintro v3 k2 ⟨csx1, rfl, rx1, sx1⟩
 obtain ⟨x1_0, x1_1, ax1_2, nx1_2, cx1_2, x1_2, rfl, rfl, ix1_0, ix1_1, rx1_2⟩ := B0 rx1
 obtain ⟨rfl, lx1_2⟩ := Sl.len rx1_2
 try dsimp only at hM0
 obtain ⟨x4, gx4, hM0⟩ := j0 hM0
 refine Tr.val (l5 _ [.int .i64 p0_0, .int .i64 p0_1, .slice ap0_2 p0_2.length cp0_2] (p0_0, p0_1, p0_2) (z0 ip0_0 ip0_1 (I0.mono sx1 rp0_2)) _  gx4) ?_
 obtain ⟨x5, gx5, hM0⟩ := j0 hM0
 refine Exists.intro (.bool x5) (And.intro (fun q => K5 _ p1 ip1 0 (c64 (by decide) (by decide)) (IntKind.i64.wrap (p0_1 - 1)) (H0 _) _  (I2 gx5 q)) ?_)
 obtain ⟨x6, gx6, hM0⟩ := j0 hM0
 refine Exists.intro (.bool x6) (And.intro (fun q => K5 _ p3 ip3 0 (c64 (by decide) (by decide)) (IntKind.i64.wrap (p0_1 - 1)) (H0 _) _  (I2 gx6 q)) ?_)
 obtain ⟨x7, gx7, hM0⟩ := j0 hM0
 refine Exists.intro (.bool x7) (And.intro (fun q => X05 _ p0_0 ip0_0 ap2 p2.length cp2 p2 (I1.mono sx1 rp2) _  (I2 gx7 q)) ?_)
 refine And.intro (fun hc8 => ?_) (fun hc8 => ?_)
 ·replace hM0 := ifP hM0 hc8
  have hE := Option.some.inj hM0; subst hE
  exact ⟨([.int .i64 x1_0, .int .i64 x1_1, .slice ax1_2 x1_2.length cx1_2]), rfl, (z0 ix1_0 ix1_1 rx1_2), sx1⟩
 ·replace hM0 := ifN hM0 hc8
  obtain ⟨X9, hLX9, hM0⟩ := j0 hM0
  refine Exists.intro { vars := [11, 12], boxes := [2], owns := [], fuel := true } (Exists.intro (fun vs os h' => ∃ (u10 : Int) (u11 : Int) (u12 : Int) (u13 : Int) (au14 : Option Addr) (nu14 cu14 : Nat) (u14 : J0), vs.tail = [.int .i64 u10, .int .i64 u11, .int .i64 u12, .int .i64 u13, .slice au14 nu14 cu14] ∧ os = [] ∧ Sub k2 h' ∧ F0 u10 ∧ F0 u11 ∧ F0 u12 ∧ F0 u13 ∧ I0.R h' [.slice au14 nu14 cu14] u14 ∧ D4 p2 p3 (M1 vs) u10 u11 u12 u13 u14 = some X9) (Exists.intro (fun _ _ => 0) ?_))
  refine And.intro (Exists.intro S0 ⟨p1, 0, x1_0, x1_1, ax1_2, x1_2.length, cx1_2, x1_2, rfl, rfl, (Sub.refl _), ip1, (c64 (by decide) (by decide)), ix1_0, ix1_1, rx1_2, hLX9⟩) ?_
  rintro v_0 v_1 v_2 v_3 v_4 m16 k15 ⟨u10, u11, u12, u13, au14, nu14, cu14, u14, evX9, eoX9, sX9, iu10, iu11, iu12, iu13, ru14, hM1⟩
  cases evX9
  cases eoX9
  replace hM1 : D4 p2 p3 m16 u10 u11 u12 u13 u14 = some X9 := hM1
  obtain _ | m16 := m16
  ·cases (show (none : Option _) = some X9 from hM1)
  rw [D4.eq_2] at hM1
  obtain ⟨rfl, lu14⟩ := Sl.len ru14
  refine And.intro (fun hc17 => ?_) (fun hc17 => ?_)
  ·replace hM1 := ifP hM1 hc17
   refine And.intro (fun hc18 => ?_) (fun hc18 => ?_)
   ·replace hM1 := ifP hM1 hc18
    obtain ⟨x19, gx19, hM1⟩ := j0 hM1
    obtain ⟨bx19, csx19, ex19, rx19⟩ := Sl.getI (r := Wp.int.toRp) (I1.mono (sx1.trans sX9) rp2) gx19 (by decide)
    refine And.intro bx19 ?_
    obtain ⟨rfl, ix19⟩ := rx19
    refine Exists.intro _ (And.intro ex19 ?_)
    refine And.intro (fun hc20 => ?_) (fun hc20 => ?_)
    ·replace hM1 := ifP hM1 hc20
     refine Or.inr (Or.inr (Or.inl (And.intro (And.intro (by kernel_rfl) (by kernel_rfl)) ?_)))
     obtain ⟨x21, gx21, hM1⟩ := j0 hM1
     obtain ⟨bx21, csx21, ex21, rx21⟩ := Sl.getI (r := Wp.int.toRp) (I1.mono (sx1.trans sX9) rp2) gx21 (by decide)
     obtain ⟨rfl, ix21⟩ := rx21
     refine Or.inl (Exists.intro (.hel (.slice ap2 p2.length cp2) u11 1 0) (And.intro ?_ ?_))
     ·intro k22 s23
      exact And.intro bx21 (And.intro rfl (And.intro rfl rfl))
     refine Or.inl (Exists.intro (.val (.int .i64 x21)) (And.intro ?_ ?_))
     ·intro k24 s25
      exact Exists.intro _ (And.intro (V6.up s25 ex21) (And.intro rfl (And.intro rfl rfl)))
     refine Or.inl (Exists.intro (.agg [.val (.int .i64 u10), .val (.int .i64 x21), .val (.int .i64 u13)]) (And.intro ?_ ?_))
     ·intro k26 s27
      exact And.intro rfl (And.intro rfl rfl)
     refine Or.inr ?_
     refine Or.inr ?_
     refine Exists.intro 1 (And.intro (And.intro rfl rfl) ?_)
     obtain ⟨x28, gx28, hM1⟩ := j0 hM1
     refine Tr.mono (a9 _ au14 u14.length cu14 u14 ru14 [.int .i64 u10, .int .i64 x21, .int .i64 u13] (u10, x21, u13) (V0 iu10 ix21 iu13) _  gx28) ?_
     rintro v30 k29 ⟨ax28, nx28, cx28, rfl, rx28, sx28⟩
     obtain ⟨rfl, lx28⟩ := Sl.len rx28
     refine And.intro (And.intro rfl sx28) (And.intro (by first | exact trivial | exact rfl) ?_)
     refine And.intro trivial (And.intro (by first | exact trivial | exact rfl) ?_)
     refine And.intro rfl (And.intro (by repeat (first | exact trivial | refine And.intro rfl ?_)) (And.intro (by repeat (first | exact trivial | refine And.intro rfl ?_)) (Exists.intro m16 (And.intro ⟨u13, (IntKind.i64.wrap (u11 + 1)), u12, (IntKind.i64.wrap (u13 + 1)), ax28, x28.length, cx28, x28, rfl, rfl, (sX9.trans sx28), iu13, (H0 _), iu12, (H0 _), rx28, hM1⟩ (Nat.lt_succ_self _)))))
    ·replace hM1 := ifN hM1 hc20
     refine Or.inr (Or.inr (Or.inl (And.intro (And.intro (by kernel_rfl) (by kernel_rfl)) ?_)))
     obtain ⟨x31, gx31, hM1⟩ := j0 hM1
     obtain ⟨bx31, csx31, ex31, rx31⟩ := Sl.getI (r := Wp.int.toRp) (I1.mono (sx1.trans sX9) rp2) gx31 (by decide)
     obtain ⟨rfl, ix31⟩ := rx31
     refine Or.inl (Exists.intro (.hel (.slice ap2 p2.length cp2) u11 1 0) (And.intro ?_ ?_))
     ·intro k32 s33
      exact And.intro bx31 (And.intro rfl (And.intro rfl rfl))
     refine Or.inl (Exists.intro (.val (.int .i64 x31)) (And.intro ?_ ?_))
     ·intro k34 s35
      exact Exists.intro _ (And.intro (V6.up s35 ex31) (And.intro rfl (And.intro rfl rfl)))
     refine Or.inl (Exists.intro (.val (.int .i64 (IntKind.i64.wrap (0 - x31)))) (And.intro ?_ ?_))
     ·intro k36 s37
      exact And.intro rfl (And.intro rfl rfl)
     refine Or.inl (Exists.intro (.agg [.val (.int .i64 u13), .val (.int .i64 (IntKind.i64.wrap (0 - x31))), .val (.int .i64 u10)]) (And.intro ?_ ?_))
     ·intro k38 s39
      exact And.intro rfl (And.intro rfl rfl)
     refine Or.inr ?_
     refine Or.inr ?_
     refine Exists.intro 1 (And.intro (And.intro rfl rfl) ?_)
     obtain ⟨x40, gx40, hM1⟩ := j0 hM1
     refine Tr.mono (a9 _ au14 u14.length cu14 u14 ru14 [.int .i64 u13, .int .i64 (IntKind.i64.wrap (0 - x31)), .int .i64 u10] (u13, (IntKind.i64.wrap (0 - x31)), u10) (V0 iu13 (H0 _) iu10) _  gx40) ?_
     rintro v42 k41 ⟨ax40, nx40, cx40, rfl, rx40, sx40⟩
     obtain ⟨rfl, lx40⟩ := Sl.len rx40
     refine And.intro (And.intro rfl sx40) (And.intro (by first | exact trivial | exact rfl) ?_)
     refine And.intro trivial (And.intro (by first | exact trivial | exact rfl) ?_)
     refine And.intro rfl (And.intro (by repeat (first | exact trivial | refine And.intro rfl ?_)) (And.intro (by repeat (first | exact trivial | refine And.intro rfl ?_)) (Exists.intro m16 (And.intro ⟨u13, (IntKind.i64.wrap (u11 + 1)), u12, (IntKind.i64.wrap (u13 + 1)), ax40, x40.length, cx40, x40, rfl, rfl, (sX9.trans sx40), iu13, (H0 _), iu12, (H0 _), rx40, hM1⟩ (Nat.lt_succ_self _)))))
   ·replace hM1 := ifN hM1 hc18
    obtain ⟨x43, gx43, hM1⟩ := j0 hM1
    obtain ⟨bx43, csx43, ex43, rx43⟩ := Sl.getI (r := Wp.int.toRp) (I1.mono (sx1.trans sX9) rp2) gx43 (by decide)
    refine And.intro bx43 ?_
    obtain ⟨rfl, ix43⟩ := rx43
    refine Exists.intro _ (And.intro ex43 ?_)
    refine And.intro (fun hc44 => ?_) (fun hc44 => ?_)
    ·replace hM1 := ifP hM1 hc44
     refine Or.inr (Or.inr (Or.inl (And.intro (And.intro (by kernel_rfl) (by kernel_rfl)) ?_)))
     obtain ⟨x45, gx45, hM1⟩ := j0 hM1
     obtain ⟨bx45, csx45, ex45, rx45⟩ := Sl.getI (r := Wp.int.toRp) (I1.mono (sx1.trans sX9) rp2) gx45 (by decide)
     obtain ⟨rfl, ix45⟩ := rx45
     refine Or.inl (Exists.intro (.hel (.slice ap2 p2.length cp2) u11 1 0) (And.intro ?_ ?_))
     ·intro k46 s47
      exact And.intro bx45 (And.intro rfl (And.intro rfl rfl))
     refine Or.inl (Exists.intro (.val (.int .i64 x45)) (And.intro ?_ ?_))
     ·intro k48 s49
      exact Exists.intro _ (And.intro (V6.up s49 ex45) (And.intro rfl (And.intro rfl rfl)))
     refine Or.inl (Exists.intro (.agg [.val (.int .i64 u10), .val (.int .i64 x45), .val (.int .i64 p3)]) (And.intro ?_ ?_))
     ·intro k50 s51
      exact And.intro rfl (And.intro rfl rfl)
     refine Or.inr ?_
     refine Or.inr ?_
     refine Exists.intro 1 (And.intro (And.intro rfl rfl) ?_)
     obtain ⟨x52, gx52, hM1⟩ := j0 hM1
     refine Tr.mono (a9 _ au14 u14.length cu14 u14 ru14 [.int .i64 u10, .int .i64 x45, .int .i64 p3] (u10, x45, p3) (V0 iu10 ix45 ip3) _  gx52) ?_
     rintro v54 k53 ⟨ax52, nx52, cx52, rfl, rx52, sx52⟩
     obtain ⟨rfl, lx52⟩ := Sl.len rx52
     refine And.intro (And.intro rfl sx52) (And.intro (by first | exact trivial | exact rfl) ?_)
     refine And.intro trivial (And.intro (by first | exact trivial | exact rfl) ?_)
     refine And.intro rfl (And.intro (by repeat (first | exact trivial | refine And.intro rfl ?_)) (And.intro (by repeat (first | exact trivial | refine And.intro rfl ?_)) (Exists.intro m16 (And.intro ⟨p3, (IntKind.i64.wrap (u11 + 1)), u12, u13, ax52, x52.length, cx52, x52, rfl, rfl, (sX9.trans sx52), ip3, (H0 _), iu12, iu13, rx52, hM1⟩ (Nat.lt_succ_self _)))))
    ·replace hM1 := ifN hM1 hc44
     refine Or.inr (Or.inr (Or.inl (And.intro (And.intro (by kernel_rfl) (by kernel_rfl)) ?_)))
     obtain ⟨x55, gx55, hM1⟩ := j0 hM1
     obtain ⟨bx55, csx55, ex55, rx55⟩ := Sl.getI (r := Wp.int.toRp) (I1.mono (sx1.trans sX9) rp2) gx55 (by decide)
     obtain ⟨rfl, ix55⟩ := rx55
     refine Or.inl (Exists.intro (.hel (.slice ap2 p2.length cp2) u11 1 0) (And.intro ?_ ?_))
     ·intro k56 s57
      exact And.intro bx55 (And.intro rfl (And.intro rfl rfl))
     refine Or.inl (Exists.intro (.val (.int .i64 x55)) (And.intro ?_ ?_))
     ·intro k58 s59
      exact Exists.intro _ (And.intro (V6.up s59 ex55) (And.intro rfl (And.intro rfl rfl)))
     refine Or.inl (Exists.intro (.val (.int .i64 (IntKind.i64.wrap (0 - x55)))) (And.intro ?_ ?_))
     ·intro k60 s61
      exact And.intro rfl (And.intro rfl rfl)
     refine Or.inl (Exists.intro (.agg [.val (.int .i64 p3), .val (.int .i64 (IntKind.i64.wrap (0 - x55))), .val (.int .i64 u10)]) (And.intro ?_ ?_))
     ·intro k62 s63
      exact And.intro rfl (And.intro rfl rfl)
     refine Or.inr ?_
     refine Or.inr ?_
     refine Exists.intro 1 (And.intro (And.intro rfl rfl) ?_)
     obtain ⟨x64, gx64, hM1⟩ := j0 hM1
     refine Tr.mono (a9 _ au14 u14.length cu14 u14 ru14 [.int .i64 p3, .int .i64 (IntKind.i64.wrap (0 - x55)), .int .i64 u10] (p3, (IntKind.i64.wrap (0 - x55)), u10) (V0 ip3 (H0 _) iu10) _  gx64) ?_
     rintro v66 k65 ⟨ax64, nx64, cx64, rfl, rx64, sx64⟩
     obtain ⟨rfl, lx64⟩ := Sl.len rx64
     refine And.intro (And.intro rfl sx64) (And.intro (by first | exact trivial | exact rfl) ?_)
     refine And.intro trivial (And.intro (by first | exact trivial | exact rfl) ?_)
     refine And.intro rfl (And.intro (by repeat (first | exact trivial | refine And.intro rfl ?_)) (And.intro (by repeat (first | exact trivial | refine And.intro rfl ?_)) (Exists.intro m16 (And.intro ⟨p3, (IntKind.i64.wrap (u11 + 1)), u12, u13, ax64, x64.length, cx64, x64, rfl, rfl, (sX9.trans sx64), ip3, (H0 _), iu12, iu13, rx64, hM1⟩ (Nat.lt_succ_self _)))))
  ·replace hM1 := ifN hM1 hc17
   have hE := Option.some.inj hM1; subst hE
   try dsimp only [T0, U0] at hM0
   have hE := Option.some.inj hM0; subst hE
   exact ⟨([.int .i64 u12, .int .i64 u13, .slice au14 u14.length cu14]), rfl, (z0 iu12 iu13 ru14), (sx1.trans sX9)⟩
theorem u09 (h : Hp) (csp0 : List Value) (p0 : l0) (rp0 : Y0.R h csp0 p0) (ap1 : Option Addr) (np1 cp1 : Nat) (p1 : O0) (rp1 : I1.R h [.slice ap1 np1 cp1] p1) (r : l0 × Bool) (hM0 : l9 p0 p1 = some r) :
  Tr Tryz.prog 187 #[.agg csp0.toArray, .slice ap1 np1 cp1] h fun v h' => ∃ (cs0 : List Value), v = .tuple #[.agg cs0.toArray, .bool r.2] ∧ Y0.R h' cs0 r.1 ∧ Sub h h' := by
 obtain ⟨p0_0, p0_1, ap0_2, np0_2, cp0_2, p0_2, rfl, rfl, ip0_0, ip0_1, rp0_2⟩ := B0 rp0
 obtain ⟨rfl, lp0_2⟩ := Sl.len rp0_2
 obtain ⟨rfl, lp1⟩ := Sl.len rp1
 unfold l9 at hM0
 dsimp only at hM0
 refine U2 (args := [.agg #[.int .i64 p0_0, .int .i64 p0_1, .slice ap0_2 p0_2.length cp0_2], .slice ap1 p1.length cp1]) (fn := Tryz.f187) rfl ?_
 obtain ⟨x1, gx1, hM0⟩ := j0 hM0
 refine Tr.mono (f05 _ [.int .i64 p0_0, .int .i64 p0_1, .slice ap0_2 p0_2.length cp0_2] (p0_0, p0_1, p0_2) (z0 ip0_0 ip0_1 rp0_2) 0 (c64 (by decide) (by decide)) ap1 p1.length cp1 p1 rp1 0 (c64 (by decide) (by decide)) _  gx1) ?_
 rintro v3 k2 ⟨csx1_0, rfl, rx1_0, sx1⟩
 obtain ⟨x1_0, x1_1⟩ := x1
 dsimp only at hM0 rx1_0
 obtain ⟨x1_0_0, x1_0_1, ax1_0_2, nx1_0_2, cx1_0_2, x1_0_2, rfl, rfl, ix1_0_0, ix1_0_1, rx1_0_2⟩ := B0 rx1_0
 obtain ⟨rfl, lx1_0_2⟩ := Sl.len rx1_0_2
 try dsimp only at hM0
 have hE := Option.some.inj hM0; subst hE
 exact ⟨([.int .i64 x1_0_0, .int .i64 x1_0_1, .slice ax1_0_2 x1_0_2.length cx1_0_2]), rfl, (z0 ix1_0_0 ix1_0_1 rx1_0_2), sx1⟩
theorem v09 (h : Hp) (p0 : Int) (ip0 : F0 p0) (ap1 : Option Addr) (np1 cp1 : Nat) (p1 : j3) (rp1 : P4.R h [.slice ap1 np1 cp1] p1) (r : l0 × Bool) (hM0 : n9 p0 p1 = some r) :
  Tr Tryz.prog 128 #[.int .i64 p0, .slice ap1 np1 cp1] h fun v h' => ∃ (cs0 : List Value), v = .tuple #[.agg cs0.toArray, .bool r.2] ∧ Y0.R h' cs0 r.1 ∧ Sub h h' := by
 obtain ⟨rfl, lp1⟩ := Sl.len rp1
 unfold n9 at hM0
 refine U2 (args := [.int .i64 p0, .slice ap1 p1.length cp1]) (fn := Tryz.f128) rfl ?_
 obtain ⟨x1, gx1, hM0⟩ := j0 hM0
 refine Tr.val (l04 _ p0 ip0 ap1 p1.length cp1 p1 rp1 _  gx1) ?_
 refine And.intro (fun hc2 => ?_) (fun hc2 => ?_)
 ·replace hM0 := ifP hM0 hc2
  have hE := Option.some.inj hM0; subst hE
  exact ⟨([.int .i64 0, .int .i64 0, .slice none 0 0]), rfl, (z0 (c64 (by decide) (by decide)) (c64 (by decide) (by decide)) (X0c Q0 h)), (Sub.refl _)⟩
 ·replace hM0 := ifN hM0 hc2
  obtain ⟨x3, gx3, hM0⟩ := j0 hM0
  refine Tr.mono (t09 _ p0 ip0 _  gx3) ?_
  rintro v5 k4 ⟨csx3_0, rfl, rx3_0, sx3⟩
  obtain ⟨x3_0, x3_1⟩ := x3
  dsimp only at hM0 rx3_0
  obtain ⟨x3_0_0, x3_0_1, ax3_0_2, nx3_0_2, cx3_0_2, x3_0_2, rfl, rfl, ix3_0_0, ix3_0_1, rx3_0_2⟩ := B0 rx3_0
  obtain ⟨rfl, lx3_0_2⟩ := Sl.len rx3_0_2
  try dsimp only at hM0
  obtain ⟨X6, hLX6, hM0⟩ := j0 hM0
  refine Exists.intro { vars := [8], boxes := [1], owns := [], fuel := true } (Exists.intro (fun vs os h' => ∃ (u7 : Int) (u8 : Int) (u9 : Int) (au10 : Option Addr) (nu10 cu10 : Nat) (u10 : J0), vs.tail = [.int .i64 u7, .int .i64 u8, .int .i64 u9, .slice au10 nu10 cu10] ∧ os = [] ∧ Sub k4 h' ∧ F0 u7 ∧ F0 u8 ∧ F0 u9 ∧ I0.R h' [.slice au10 nu10 cu10] u10 ∧ J5 p1 (M1 vs) u7 u8 u9 u10 = some X6) (Exists.intro (fun _ _ => 0) ?_))
  refine And.intro (Exists.intro S0 ⟨0, x3_0_0, x3_0_1, ax3_0_2, x3_0_2.length, cx3_0_2, x3_0_2, rfl, rfl, (Sub.refl _), (c64 (by decide) (by decide)), ix3_0_0, ix3_0_1, rx3_0_2, hLX6⟩) ?_
  rintro v_0 v_1 v_2 v_3 m12 k11 ⟨u7, u8, u9, au10, nu10, cu10, u10, evX6, eoX6, sX6, iu7, iu8, iu9, ru10, hM1⟩
  cases evX6
  cases eoX6
  replace hM1 : J5 p1 m12 u7 u8 u9 u10 = some X6 := hM1
  obtain _ | m12 := m12
  ·cases (show (none : Option _) = some X6 from hM1)
  rw [J5.eq_2] at hM1
  obtain ⟨rfl, lu10⟩ := Sl.len ru10
  refine And.intro (fun hc13 => ?_) (fun hc13 => ?_)
  ·replace hM1 := ifP hM1 hc13
   refine Or.inr (Or.inr (Or.inr (Or.inr (Exists.intro 10 (And.intro (And.intro (by kernel_rfl) (by kernel_rfl)) ?_)))))
   obtain ⟨x14, gx14, hM1⟩ := j0 hM1
   obtain ⟨bx14, csx14, ex14, rx14⟩ := Sl.getI (r := I1.toRp) (P4.mono (sx3.trans sX6) rp1) gx14 (by decide)
   obtain ⟨ax14, nx14, cx14, rfl⟩ := Wp.slice_cell rx14
   obtain ⟨rfl, lx14⟩ := Sl.len rx14
   refine Or.inl (Exists.intro (.hel (.slice ap1 p1.length cp1) u7 1 0) (And.intro ?_ ?_))
   ·intro k15 s16
    exact And.intro bx14 (And.intro rfl (And.intro rfl rfl))
   refine Or.inl (Exists.intro (.val (.slice ax14 x14.length cx14)) (And.intro ?_ ?_))
   ·intro k17 s18
    exact Exists.intro _ (And.intro (V6.up s18 ex14) (And.intro rfl (And.intro rfl rfl)))
   obtain ⟨x19, gx19, hM1⟩ := j0 hM1
   obtain ⟨x19_0, x19_1⟩ := x19
   try dsimp only at hM1
   obtain ⟨x19_0_0, x19_0_1, x19_0_2⟩ := x19_0
   try dsimp only at hM1
   refine Or.inr (Exists.intro (fun v hh => ∃ (ux19_0 : Value), v = .tuple #[ux19_0, .bool x19_1] ∧ (fun v hh => ∃ (ax19_0_2 : Option Addr) (cx19_0_2 : Nat), v = .agg #[.int .i64 x19_0_0, .int .i64 x19_0_1, .slice ax19_0_2 x19_0_2.length cx19_0_2] ∧ F0 x19_0_0 ∧ F0 x19_0_1 ∧ I0.R hh [.slice ax19_0_2 x19_0_2.length cx19_0_2] x19_0_2 ∧ x19_0_2.length ≤ 9223372036854775807) ux19_0 hh) (And.intro (fun v h1 h2 sb q => by obtain ⟨ux19_0, e, fux19_0⟩ := q; exact ⟨ux19_0, e, (by obtain ⟨ax19_0_2, cx19_0_2, e, f0, f1, f2, f3⟩ := fux19_0; exact ⟨ax19_0_2, cx19_0_2, e, f0, f1, I0.mono sb f2, f3⟩)⟩) (And.intro ?_ ?_)))
   ·intro k20 s21
    refine Tr.mono (u09 _ [.int .i64 u8, .int .i64 u9, .slice au10 u10.length cu10] (u8, u9, u10) (z0 iu8 iu9 (I0.mono s21 ru10)) ax14 x14.length cx14 x14 (I1.mono s21 rx14) _ gx19) ?_
    rintro _ kk ⟨csx19_0, rfl, rx19_0, sb⟩
    obtain ⟨yx19_0_0, yx19_0_1, ayx19_0_2, nyx19_0_2, cyx19_0_2, yx19_0_2, rfl, ey, iyx19_0_0, iyx19_0_1, ryx19_0_2⟩ := B0 rx19_0
    cases ey
    obtain ⟨rfl, lyx19_0_2⟩ := Sl.len ryx19_0_2
    exact And.intro p03 (And.intro sb ⟨(.agg #[.int .i64 x19_0_0, .int .i64 x19_0_1, .slice ayx19_0_2 x19_0_2.length cyx19_0_2]), rfl, ⟨ayx19_0_2, cyx19_0_2, rfl, iyx19_0_0, iyx19_0_1, ryx19_0_2, lyx19_0_2⟩⟩)
   refine Or.inr (Exists.intro (fun v hh => ∃ (ux19_0 : Value), v = .tuple #[ux19_0, .bool x19_1] ∧ (fun v hh => ∃ (ax19_0_2 : Option Addr) (cx19_0_2 : Nat), v = .agg #[.int .i64 x19_0_0, .int .i64 x19_0_1, .slice ax19_0_2 x19_0_2.length cx19_0_2] ∧ F0 x19_0_0 ∧ F0 x19_0_1 ∧ I0.R hh [.slice ax19_0_2 x19_0_2.length cx19_0_2] x19_0_2 ∧ x19_0_2.length ≤ 9223372036854775807) ux19_0 hh) (And.intro (fun v h1 h2 sb q => by obtain ⟨ux19_0, e, fux19_0⟩ := q; exact ⟨ux19_0, e, (by obtain ⟨ax19_0_2, cx19_0_2, e, f0, f1, f2, f3⟩ := fux19_0; exact ⟨ax19_0_2, cx19_0_2, e, f0, f1, I0.mono sb f2, f3⟩)⟩) (And.intro ?_ ?_)))
   ·intro k22 s23
    rintro _ ⟨_, rfl, ⟨az24p02, cz24p02, rfl, iz24p00, iz24p01, rz24p02, lz24p02⟩⟩
    exact And.intro p03 (And.intro (Sub.refl _) ⟨(.agg #[.int .i64 x19_0_0, .int .i64 x19_0_1, .slice az24p02 x19_0_2.length cz24p02]), rfl, ⟨az24p02, cz24p02, rfl, iz24p00, iz24p01, rz24p02, lz24p02⟩⟩)
   refine Or.inr (Exists.intro (fun v hh => ∃ (ax19_0_2 : Option Addr) (cx19_0_2 : Nat), v = .agg #[.int .i64 x19_0_0, .int .i64 x19_0_1, .slice ax19_0_2 x19_0_2.length cx19_0_2] ∧ F0 x19_0_0 ∧ F0 x19_0_1 ∧ I0.R hh [.slice ax19_0_2 x19_0_2.length cx19_0_2] x19_0_2 ∧ x19_0_2.length ≤ 9223372036854775807) (And.intro (fun v h1 h2 sb q => by obtain ⟨ax19_0_2, cx19_0_2, e, f0, f1, f2, f3⟩ := q; exact ⟨ax19_0_2, cx19_0_2, e, f0, f1, I0.mono sb f2, f3⟩) (And.intro ?_ ?_)))
   ·intro k25 s26
    rintro _ ⟨_, rfl, ⟨az27p02, cz27p02, rfl, iz27p00, iz27p01, rz27p02, lz27p02⟩⟩
    exact And.intro p03 (And.intro (Sub.refl _) ⟨az27p02, cz27p02, rfl, iz27p00, iz27p01, rz27p02, lz27p02⟩)
   refine Or.inl (Exists.intro (.val (.bool x19_1)) (And.intro ?_ ?_))
   ·intro k28 s29
    rintro _ ⟨_, rfl, ⟨az30p02, cz30p02, rfl, iz30p00, iz30p01, rz30p02, lz30p02⟩⟩
    exact And.intro rfl (And.intro rfl rfl)
   intro k31 s32
   rintro _ ⟨az332, cz332, rfl, iz330, iz331, rz332, lz332⟩
   rintro _ ⟨_, rfl, ⟨az34p02, cz34p02, rfl, iz34p00, iz34p01, rz34p02, lz34p02⟩⟩
   rintro _ ⟨_, rfl, ⟨az35p02, cz35p02, rfl, iz35p00, iz35p01, rz35p02, lz35p02⟩⟩
   refine And.intro rfl (And.intro (by repeat (first | exact trivial | refine And.intro rfl ?_)) (And.intro (by repeat (first | exact trivial | refine And.intro rfl ?_)) (Exists.intro m12 (And.intro ⟨(IntKind.i64.wrap (u7 + 1)), x19_0_0, x19_0_1, az332, x19_0_2.length, cz332, x19_0_2, rfl, rfl, (sX6.trans s32), (H0 _), iz330, iz331, rz332, hM1⟩ (Nat.lt_succ_self _)))))
  ·replace hM1 := ifN hM1 hc13
   have hE := Option.some.inj hM1; subst hE
   try dsimp only [T0, U0] at hM0
   have hE := Option.some.inj hM0; subst hE
   exact ⟨([.int .i64 u8, .int .i64 u9, .slice au10 u10.length cu10]), rfl, (z0 iu8 iu9 ru10), (sx3.trans sX6)⟩
theorem m0b (h : Hp) (csp0 : List Value) (p0 : l0) (rp0 : Y0.R h csp0 p0) (r : z7) (hM0 : c00 p0 = some r) :
  Tr Tryz.prog 220 #[.agg csp0.toArray] h fun v h' => ∃ (a0 : Option Addr) (n0 c0 : Nat), v = .slice a0 n0 c0 ∧ Y0c.R h' [.slice a0 n0 c0] r ∧ Sub h h' := by
 obtain ⟨p0_0, p0_1, ap0_2, np0_2, cp0_2, p0_2, rfl, rfl, ip0_0, ip0_1, rp0_2⟩ := B0 rp0
 obtain ⟨rfl, lp0_2⟩ := Sl.len rp0_2
 unfold c00 at hM0
 dsimp only at hM0
 refine U2 (args := [.agg #[.int .i64 p0_0, .int .i64 p0_1, .slice ap0_2 p0_2.length cp0_2]]) (fn := Tryz.f220) rfl ?_
 obtain ⟨X1, hLX1, hM0⟩ := j0 hM0
 refine Exists.intro { vars := [4], boxes := [], owns := [0], fuel := true } (Exists.intro (fun vs os h' => ∃ (u2 : Int) (wu3 : List (List Value)) (u3 : List f4), vs.tail = [.int .i64 u2] ∧ os = [wu3] ∧ Sub h h' ∧ F0 u2 ∧ F2 (c4.R h') wu3 u3 ∧ j6 p0_2 (M1 vs) u2 u3 = some X1) (Exists.intro (fun _ _ => 0) ?_))
 refine And.intro (Exists.intro S0 ⟨0, [], ([] : z7), rfl, rfl, (Sub.refl _), (c64 (by decide) (by decide)), (show F2 (c4.R h) ([] : List (List Value)) ([] : z7) from trivial), hLX1⟩) ?_
 rintro v_0 wu3 m5 k4 ⟨u2, zzu3, u3, evX1, eoX1, sX1, iu2, fu3, hM1⟩
 cases evX1
 cases eoX1
 replace hM1 : j6 p0_2 m5 u2 u3 = some X1 := hM1
 obtain _ | m5 := m5
 ·cases (show (none : Option _) = some X1 from hM1)
 rw [j6.eq_2] at hM1
 refine And.intro (fun hc6 => ?_) (fun hc6 => ?_)
 ·replace hM1 := ifP hM1 hc6
  obtain ⟨X7, hLX7, hM1⟩ := j0 hM1
  refine Exists.intro { vars := [5], boxes := [], owns := [0], fuel := true } (Exists.intro (fun vs os h' => ∃ (u8 : Int) (wu9 : List (List Value)) (u9 : List f4), vs.tail = [.int .i64 u8] ∧ os = [wu9] ∧ Sub k4 h' ∧ F0 u8 ∧ F2 (c4.R h') wu9 u9 ∧ Q3 p0_2 u2 (M1 vs) u8 u9 = some X7) (Exists.intro (fun _ _ => 0) ?_))
  refine And.intro (Exists.intro S0 ⟨(IntKind.i64.wrap (u2 + 1)), wu3, u3, rfl, rfl, (Sub.refl _), (H0 _), fu3, hLX7⟩) ?_
  rintro v_0 wu9 m11 k10 ⟨u8, zzu9, u9, evX7, eoX7, sX7, iu8, fu9, hM2⟩
  cases evX7
  cases eoX7
  replace hM2 : Q3 p0_2 u2 m11 u8 u9 = some X7 := hM2
  obtain _ | m11 := m11
  ·cases (show (none : Option _) = some X7 from hM2)
  rw [Q3.eq_2] at hM2
  refine And.intro (fun hc12 => ?_) (fun hc12 => ?_)
  ·replace hM2 := ifP hM2 hc12
   obtain ⟨x13, gx13, hM2⟩ := j0 hM2
   obtain ⟨bx13, csx13, ex13, rx13⟩ := Sl.getI (r := Q0.toRp) (I0.mono (sX1.trans sX7) rp0_2) gx13 (by decide)
   refine And.intro bx13 ?_
   obtain ⟨x13_0, x13_1, x13_2, rfl, rfl, ix13_0, ix13_1, ix13_2⟩ := j1 rx13
   try dsimp only at hM2
   refine Exists.intro _ (And.intro ex13 ?_)
   obtain ⟨x14, gx14, hM2⟩ := j0 hM2
   obtain ⟨bx14, csx14, ex14, rx14⟩ := Sl.getI (r := Q0.toRp) (I0.mono (sX1.trans sX7) rp0_2) gx14 (by decide)
   refine And.intro bx14 ?_
   obtain ⟨x14_0, x14_1, x14_2, rfl, rfl, ix14_0, ix14_1, ix14_2⟩ := j1 rx14
   try dsimp only at hM2
   refine Exists.intro _ (And.intro ex14 ?_)
   refine And.intro (fun hc15 => ?_) (fun hc15 => ?_)
   ·replace hM2 := ifP hM2 hc15
    obtain ⟨q16, gq16, hM2⟩ := j0 hM2
    refine And.intro (E2 gq16 (by first | rw [F2.length fu9, F2.length (show F2 (c4.R k10) ([[.int .i64 (if x14_2 < x13_2 then x14_2 else x13_2), .int .i64 (if x14_2 > x13_2 then x14_2 else x13_2)]] : List (List Value)) [((if x14_2 < x13_2 then x14_2 else x13_2), (if x14_2 > x13_2 then x14_2 else x13_2))] from ⟨(U1 (i7 ix14_2 ix13_2) (i7 ix14_2 ix13_2)), trivial⟩)] | exact congrArg (· + 1) (F2.length fu9))) ?_
    refine And.intro (fun hc17 => ?_) (fun hc17 => ?_)
    ·replace hM2 := ifP hM2 hc17
     obtain ⟨q18, gq18, hM2⟩ := j0 hM2
     refine And.intro (E2 gq18 (by first | rw [F2.length (F2.append fu9 (show F2 (c4.R k10) ([[.int .i64 (if x14_2 < x13_2 then x14_2 else x13_2), .int .i64 (if x14_2 > x13_2 then x14_2 else x13_2)]] : List (List Value)) [((if x14_2 < x13_2 then x14_2 else x13_2), (if x14_2 > x13_2 then x14_2 else x13_2))] from ⟨(U1 (i7 ix14_2 ix13_2) (i7 ix14_2 ix13_2)), trivial⟩)), F2.length (show F2 (c4.R k10) ([[.int .i64 (if x14_0 < x13_0 then x14_0 else x13_0), .int .i64 (if x14_0 > x13_0 then x14_0 else x13_0)]] : List (List Value)) [((if x14_0 < x13_0 then x14_0 else x13_0), (if x14_0 > x13_0 then x14_0 else x13_0))] from ⟨(U1 (i7 ix14_0 ix13_0) (i7 ix14_0 ix13_0)), trivial⟩)] | exact congrArg (· + 1) (F2.length (F2.append fu9 (show F2 (c4.R k10) ([[.int .i64 (if x14_2 < x13_2 then x14_2 else x13_2), .int .i64 (if x14_2 > x13_2 then x14_2 else x13_2)]] : List (List Value)) [((if x14_2 < x13_2 then x14_2 else x13_2), (if x14_2 > x13_2 then x14_2 else x13_2))] from ⟨(U1 (i7 ix14_2 ix13_2) (i7 ix14_2 ix13_2)), trivial⟩))))) ?_
     refine And.intro rfl (And.intro (by repeat (first | exact trivial | refine And.intro rfl ?_)) (And.intro (by repeat (first | exact trivial | refine And.intro rfl ?_)) (Exists.intro m11 (And.intro ⟨(IntKind.i64.wrap (u8 + 1)), ((wu9 ++ ([[.int .i64 (if x14_2 < x13_2 then x14_2 else x13_2), .int .i64 (if x14_2 > x13_2 then x14_2 else x13_2)]] : List (List Value))) ++ ([[.int .i64 (if x14_0 < x13_0 then x14_0 else x13_0), .int .i64 (if x14_0 > x13_0 then x14_0 else x13_0)]] : List (List Value))), ((u9 ++ [((if x14_2 < x13_2 then x14_2 else x13_2), (if x14_2 > x13_2 then x14_2 else x13_2))]) ++ [((if x14_0 < x13_0 then x14_0 else x13_0), (if x14_0 > x13_0 then x14_0 else x13_0))]), rfl, rfl, sX7, (H0 _), (F2.append (F2.append fu9 (show F2 (c4.R k10) ([[.int .i64 (if x14_2 < x13_2 then x14_2 else x13_2), .int .i64 (if x14_2 > x13_2 then x14_2 else x13_2)]] : List (List Value)) [((if x14_2 < x13_2 then x14_2 else x13_2), (if x14_2 > x13_2 then x14_2 else x13_2))] from ⟨(U1 (i7 ix14_2 ix13_2) (i7 ix14_2 ix13_2)), trivial⟩)) (show F2 (c4.R k10) ([[.int .i64 (if x14_0 < x13_0 then x14_0 else x13_0), .int .i64 (if x14_0 > x13_0 then x14_0 else x13_0)]] : List (List Value)) [((if x14_0 < x13_0 then x14_0 else x13_0), (if x14_0 > x13_0 then x14_0 else x13_0))] from ⟨(U1 (i7 ix14_0 ix13_0) (i7 ix14_0 ix13_0)), trivial⟩)), hM2⟩ (Nat.lt_succ_self _)))))
    ·replace hM2 := ifN hM2 hc17
     refine And.intro rfl (And.intro (by repeat (first | exact trivial | refine And.intro rfl ?_)) (And.intro (by repeat (first | exact trivial | refine And.intro rfl ?_)) (Exists.intro m11 (And.intro ⟨(IntKind.i64.wrap (u8 + 1)), (wu9 ++ ([[.int .i64 (if x14_2 < x13_2 then x14_2 else x13_2), .int .i64 (if x14_2 > x13_2 then x14_2 else x13_2)]] : List (List Value))), (u9 ++ [((if x14_2 < x13_2 then x14_2 else x13_2), (if x14_2 > x13_2 then x14_2 else x13_2))]), rfl, rfl, sX7, (H0 _), (F2.append fu9 (show F2 (c4.R k10) ([[.int .i64 (if x14_2 < x13_2 then x14_2 else x13_2), .int .i64 (if x14_2 > x13_2 then x14_2 else x13_2)]] : List (List Value)) [((if x14_2 < x13_2 then x14_2 else x13_2), (if x14_2 > x13_2 then x14_2 else x13_2))] from ⟨(U1 (i7 ix14_2 ix13_2) (i7 ix14_2 ix13_2)), trivial⟩)), hM2⟩ (Nat.lt_succ_self _)))))
   ·replace hM2 := ifN hM2 hc15
    refine And.intro (fun hc19 => ?_) (fun hc19 => ?_)
    ·replace hM2 := ifP hM2 hc19
     obtain ⟨q20, gq20, hM2⟩ := j0 hM2
     refine And.intro (E2 gq20 (by first | rw [F2.length fu9, F2.length (show F2 (c4.R k10) ([[.int .i64 (if x14_0 < x13_0 then x14_0 else x13_0), .int .i64 (if x14_0 > x13_0 then x14_0 else x13_0)]] : List (List Value)) [((if x14_0 < x13_0 then x14_0 else x13_0), (if x14_0 > x13_0 then x14_0 else x13_0))] from ⟨(U1 (i7 ix14_0 ix13_0) (i7 ix14_0 ix13_0)), trivial⟩)] | exact congrArg (· + 1) (F2.length fu9))) ?_
     refine And.intro rfl (And.intro (by repeat (first | exact trivial | refine And.intro rfl ?_)) (And.intro (by repeat (first | exact trivial | refine And.intro rfl ?_)) (Exists.intro m11 (And.intro ⟨(IntKind.i64.wrap (u8 + 1)), (wu9 ++ ([[.int .i64 (if x14_0 < x13_0 then x14_0 else x13_0), .int .i64 (if x14_0 > x13_0 then x14_0 else x13_0)]] : List (List Value))), (u9 ++ [((if x14_0 < x13_0 then x14_0 else x13_0), (if x14_0 > x13_0 then x14_0 else x13_0))]), rfl, rfl, sX7, (H0 _), (F2.append fu9 (show F2 (c4.R k10) ([[.int .i64 (if x14_0 < x13_0 then x14_0 else x13_0), .int .i64 (if x14_0 > x13_0 then x14_0 else x13_0)]] : List (List Value)) [((if x14_0 < x13_0 then x14_0 else x13_0), (if x14_0 > x13_0 then x14_0 else x13_0))] from ⟨(U1 (i7 ix14_0 ix13_0) (i7 ix14_0 ix13_0)), trivial⟩)), hM2⟩ (Nat.lt_succ_self _)))))
    ·replace hM2 := ifN hM2 hc19
     refine And.intro rfl (And.intro (by repeat (first | exact trivial | refine And.intro rfl ?_)) (And.intro (by repeat (first | exact trivial | refine And.intro rfl ?_)) (Exists.intro m11 (And.intro ⟨(IntKind.i64.wrap (u8 + 1)), wu9, u9, rfl, rfl, sX7, (H0 _), fu9, hM2⟩ (Nat.lt_succ_self _)))))
  ·replace hM2 := ifN hM2 hc12
   have hE := Option.some.inj hM2; subst hE
   try dsimp only [T0, U0] at hM1
   refine And.intro rfl (And.intro (by repeat (first | exact trivial | refine And.intro rfl ?_)) (And.intro (by repeat (first | exact trivial | refine And.intro rfl ?_)) (Exists.intro m5 (And.intro ⟨(IntKind.i64.wrap (u2 + 1)), wu9, u9, rfl, rfl, (sX1.trans sX7), (H0 _), fu9, hM1⟩ (Nat.lt_succ_self _)))))
 ·replace hM1 := ifN hM1 hc6
  have hE := Option.some.inj hM1; subst hE
  try dsimp only [T0, U0] at hM0
  intro v25 k26 f27
  obtain ⟨az28, cz28, rfl, rz28, sz28, lz28⟩ := Z0.out (r := c4.toRp) f27 fu3
  have hE := Option.some.inj hM0; subst hE
  exact ⟨az28, u3.length, cz28, rfl, rz28, (sX1.trans sz28)⟩
theorem G08 (h : Hp) (csp0 : List Value) (p0 : l0) (rp0 : Y0.R h csp0 p0) (r : f4 × Bool) (hM0 : P7 p0 = some r) :
  Tr Tryz.prog 200 #[.agg csp0.toArray] h fun v h' => ∃ (cs0 : List Value), v = .tuple #[.agg cs0.toArray, .bool r.2] ∧ c4.R h' cs0 r.1 ∧ Sub h h' := by
 obtain ⟨p0_0, p0_1, ap0_2, np0_2, cp0_2, p0_2, rfl, rfl, ip0_0, ip0_1, rp0_2⟩ := B0 rp0
 obtain ⟨rfl, lp0_2⟩ := Sl.len rp0_2
 unfold P7 at hM0
 dsimp only at hM0
 refine U2 (args := [.agg #[.int .i64 p0_0, .int .i64 p0_1, .slice ap0_2 p0_2.length cp0_2]]) (fn := Tryz.f200) rfl ?_
 obtain ⟨x1, gx1, hM0⟩ := j0 hM0
 refine Tr.val (l5 _ [.int .i64 p0_0, .int .i64 p0_1, .slice ap0_2 p0_2.length cp0_2] (p0_0, p0_1, p0_2) (z0 ip0_0 ip0_1 rp0_2) _  gx1) ?_
 refine And.intro (fun hc2 => ?_) (fun hc2 => ?_)
 ·replace hM0 := ifP hM0 hc2
  have hE := Option.some.inj hM0; subst hE
  exact ⟨([.int .i64 0, .int .i64 0]), rfl, (U1 (c64 (by decide) (by decide)) (c64 (by decide) (by decide))), (Sub.refl _)⟩
 ·replace hM0 := ifN hM0 hc2
  obtain ⟨x3, gx3, hM0⟩ := j0 hM0
  refine Tr.mono (m0b _ [.int .i64 p0_0, .int .i64 p0_1, .slice ap0_2 p0_2.length cp0_2] (p0_0, p0_1, p0_2) (z0 ip0_0 ip0_1 rp0_2) _  gx3) ?_
  rintro v5 k4 ⟨ax3, nx3, cx3, rfl, rx3, sx3⟩
  obtain ⟨rfl, lx3⟩ := Sl.len rx3
  refine And.intro (fun hc6 => ?_) (fun hc6 => ?_)
  ·replace hM0 := ifP hM0 hc6
   have hE := Option.some.inj hM0; subst hE
   exact ⟨([.int .i64 0, .int .i64 0]), rfl, (U1 (c64 (by decide) (by decide)) (c64 (by decide) (by decide))), sx3⟩
  ·replace hM0 := ifN hM0 hc6
   obtain ⟨x7, gx7, hM0⟩ := j0 hM0
   obtain ⟨bx7, csx7, ex7, rx7⟩ := Sl.getI (r := c4.toRp) rx3 gx7 (by decide)
   refine And.intro bx7 ?_
   obtain ⟨x7_0, x7_1, rfl, rfl, ix7_0, ix7_1⟩ := P00 rx7
   try dsimp only at hM0
   refine Exists.intro _ (And.intro ex7 ?_)
   have hE := Option.some.inj hM0; subst hE
   exact ⟨([.int .i64 x7_0, .int .i64 x7_1]), rfl, (U1 ix7_0 ix7_1), sx3⟩
theorem M07 (h : Hp) (p0 : Int) (ip0 : F0 p0) (csp1 : List Value) (p1 : f4) (rp1 : c4.R h csp1 p1) (r : Int) (hM0 : m00 p0 p1 = some r) :
  Tr Tryz.prog 221 #[.int .i64 p0, .agg csp1.toArray] h fun v h' => v = .int .i64 r ∧ h' = h := by
 obtain ⟨p1_0, p1_1, rfl, rfl, ip1_0, ip1_1⟩ := P00 rp1
 unfold m00 at hM0
 dsimp only at hM0
 refine Tr.forget (U2 (args := [.int .i64 p0, .agg #[.int .i64 p1_0, .int .i64 p1_1]]) (fn := Tryz.f221) rfl ?_)
 refine And.intro (fun hc1 => ?_) (fun hc1 => ?_)
 ·replace hM0 := ifP hM0 hc1
  refine And.intro (fun hc2 => ?_) (fun hc2 => ?_)
  ·replace hM0 := ifP hM0 hc2
   have hE := Option.some.inj hM0; subst hE
   exact And.intro rfl (Sub.refl _)
  ·replace hM0 := ifN hM0 hc2
   have hE := Option.some.inj hM0; subst hE
   exact And.intro rfl (Sub.refl _)
 ·replace hM0 := ifN hM0 hc1
  refine And.intro (fun hc3 => ?_) (fun hc3 => ?_)
  ·replace hM0 := ifP hM0 hc3
   have hE := Option.some.inj hM0; subst hE
   exact And.intro rfl (Sub.refl _)
  ·replace hM0 := ifN hM0 hc3
   have hE := Option.some.inj hM0; subst hE
   exact And.intro rfl (Sub.refl _)
theorem g05 (h : Hp) (csp0 : List Value) (p0 : l0) (rp0 : Y0.R h csp0 p0) (csp1 : List Value) (p1 : f4) (rp1 : c4.R h csp1 p1) (r : l0 × Bool) (hM0 : l6 p0 p1 = some r) :
  Tr Tryz.prog 201 #[.agg csp0.toArray, .agg csp1.toArray] h fun v h' => ∃ (cs0 : List Value), v = .tuple #[.agg cs0.toArray, .bool r.2] ∧ Y0.R h' cs0 r.1 ∧ Sub h h' := by
 obtain ⟨p0_0, p0_1, ap0_2, np0_2, cp0_2, p0_2, rfl, rfl, ip0_0, ip0_1, rp0_2⟩ := B0 rp0
 obtain ⟨rfl, lp0_2⟩ := Sl.len rp0_2
 obtain ⟨p1_0, p1_1, rfl, rfl, ip1_0, ip1_1⟩ := P00 rp1
 unfold l6 at hM0
 dsimp only at hM0
 refine U2 (args := [.agg #[.int .i64 p0_0, .int .i64 p0_1, .slice ap0_2 p0_2.length cp0_2], .agg #[.int .i64 p1_0, .int .i64 p1_1]]) (fn := Tryz.f201) rfl ?_
 obtain ⟨x1, gx1, hM0⟩ := j0 hM0
 refine Tr.val (l5 _ [.int .i64 p0_0, .int .i64 p0_1, .slice ap0_2 p0_2.length cp0_2] (p0_0, p0_1, p0_2) (z0 ip0_0 ip0_1 rp0_2) _  gx1) ?_
 refine And.intro (fun hc2 => ?_) (fun hc2 => ?_)
 ·replace hM0 := ifP hM0 hc2
  obtain ⟨x3, gx3, hM0⟩ := j0 hM0
  refine Tr.mono (P3 _ [.int .i64 p0_0, .int .i64 p0_1, .slice ap0_2 p0_2.length cp0_2] (p0_0, p0_1, p0_2) (z0 ip0_0 ip0_1 rp0_2) _  gx3) ?_
  rintro v5 k4 ⟨csx3, rfl, rx3, sx3⟩
  obtain ⟨x3_0, x3_1, ax3_2, nx3_2, cx3_2, x3_2, rfl, rfl, ix3_0, ix3_1, rx3_2⟩ := B0 rx3
  obtain ⟨rfl, lx3_2⟩ := Sl.len rx3_2
  try dsimp only at hM0
  have hE := Option.some.inj hM0; subst hE
  exact ⟨([.int .i64 x3_0, .int .i64 x3_1, .slice ax3_2 x3_2.length cx3_2]), rfl, (z0 ix3_0 ix3_1 rx3_2), sx3⟩
 ·replace hM0 := ifN hM0 hc2
  obtain ⟨X6, hLX6, hM0⟩ := j0 hM0
  refine Exists.intro { vars := [7], boxes := [3], owns := [], fuel := true } (Exists.intro (fun vs os h' => ∃ (u7 : Int) (u8 : Int) (u9 : Int) (au10 : Option Addr) (nu10 cu10 : Nat) (u10 : J0), vs.tail = [.int .i64 u7, .int .i64 u8, .int .i64 u9, .slice au10 nu10 cu10] ∧ os = [] ∧ Sub h h' ∧ F0 u7 ∧ F0 u8 ∧ F0 u9 ∧ I0.R h' [.slice au10 nu10 cu10] u10 ∧ U3 p0_2 p1_0 p1_1 (M1 vs) u7 u8 u9 u10 = some X6) (Exists.intro (fun _ _ => 0) ?_))
  refine And.intro (Exists.intro S0 ⟨0, p0_0, (IntKind.i64.wrap (p0_1 - 1)), none, 0, 0, [], rfl, rfl, (Sub.refl _), (c64 (by decide) (by decide)), ip0_0, (H0 _), (X0c Q0 h), hLX6⟩) ?_
  rintro v_0 v_1 v_2 v_3 m12 k11 ⟨u7, u8, u9, au10, nu10, cu10, u10, evX6, eoX6, sX6, iu7, iu8, iu9, ru10, hM1⟩
  cases evX6
  cases eoX6
  replace hM1 : U3 p0_2 p1_0 p1_1 m12 u7 u8 u9 u10 = some X6 := hM1
  obtain _ | m12 := m12
  ·cases (show (none : Option _) = some X6 from hM1)
  rw [U3.eq_2] at hM1
  obtain ⟨rfl, lu10⟩ := Sl.len ru10
  refine And.intro (fun hc13 => ?_) (fun hc13 => ?_)
  ·replace hM1 := ifP hM1 hc13
   obtain ⟨x14, gx14, hM1⟩ := j0 hM1
   obtain ⟨bx14, csx14, ex14, rx14⟩ := Sl.getI (r := Q0.toRp) (I0.mono sX6 rp0_2) gx14 (by decide)
   refine And.intro bx14 ?_
   obtain ⟨x14_0, x14_1, x14_2, rfl, rfl, ix14_0, ix14_1, ix14_2⟩ := j1 rx14
   try dsimp only at hM1
   refine Exists.intro _ (And.intro ex14 ?_)
   refine Or.inr (Or.inr (Or.inl (And.intro (And.intro (by kernel_rfl) (by kernel_rfl)) ?_)))
   obtain ⟨x15, gx15, hM1⟩ := j0 hM1
   obtain ⟨q16, gq16, hM1⟩ := j0 hM1
   have ix15 : F0 x15 := G2 gq16
   refine Or.inl (Exists.intro (.val (.int .i64 x15)) (And.intro ?_ ?_))
   ·intro k17 s18
    exact Tr.val (M07 _ x14_0 ix14_0 [.int .i64 p1_0, .int .i64 p1_1] (p1_0, p1_1) (U1 ip1_0 ip1_1) _ gx15) (And.intro rfl (And.intro rfl rfl))
   obtain ⟨x19, gx19, hM1⟩ := j0 hM1
   obtain ⟨q20, gq20, hM1⟩ := j0 hM1
   have ix19 : F0 x19 := G2 gq20
   refine Or.inl (Exists.intro (.val (.int .i64 x19)) (And.intro ?_ ?_))
   ·intro k21 s22
    exact Tr.val (M07 _ x14_2 ix14_2 [.int .i64 p1_0, .int .i64 p1_1] (p1_0, p1_1) (U1 ip1_0 ip1_1) _ gx19) (And.intro rfl (And.intro rfl rfl))
   refine Or.inl (Exists.intro (.agg [.val (.int .i64 x15), .val (.int .i64 x14_1), .val (.int .i64 x19)]) (And.intro ?_ ?_))
   ·intro k23 s24
    exact And.intro rfl (And.intro rfl rfl)
   refine Or.inr ?_
   refine Or.inr ?_
   refine Exists.intro 1 (And.intro (And.intro rfl rfl) ?_)
   obtain ⟨x25, gx25, hM1⟩ := j0 hM1
   refine Tr.mono (a9 _ au10 u10.length cu10 u10 ru10 [.int .i64 x15, .int .i64 x14_1, .int .i64 x19] (x15, x14_1, x19) (V0 ix15 ix14_1 ix19) _  gx25) ?_
   rintro v27 k26 ⟨ax25, nx25, cx25, rfl, rx25, sx25⟩
   obtain ⟨rfl, lx25⟩ := Sl.len rx25
   refine And.intro (And.intro rfl sx25) (And.intro (by first | exact trivial | exact rfl) ?_)
   refine And.intro trivial (And.intro (by first | exact trivial | exact rfl) ?_)
   refine And.intro rfl (And.intro (by repeat (first | exact trivial | refine And.intro rfl ?_)) (And.intro (by repeat (first | exact trivial | refine And.intro rfl ?_)) (Exists.intro m12 (And.intro ⟨(IntKind.i64.wrap (u7 + 1)), u8, u9, ax25, x25.length, cx25, x25, rfl, rfl, (sX6.trans sx25), (H0 _), iu8, iu9, rx25, hM1⟩ (Nat.lt_succ_self _)))))
  ·replace hM1 := ifN hM1 hc13
   have hE := Option.some.inj hM1; subst hE
   try dsimp only [T0, U0] at hM0
   have hE := Option.some.inj hM0; subst hE
   exact ⟨([.int .i64 u8, .int .i64 u9, .slice au10 u10.length cu10]), rfl, (z0 iu8 iu9 ru10), sX6⟩
theorem w09 (h : Hp) (csp0 : List Value) (p0 : l0) (rp0 : Y0.R h csp0 p0) (r : l0 × f4 × Bool) (hM0 : o9 p0 = some r) :
  Tr Tryz.prog 145 #[.agg csp0.toArray] h fun v h' => ∃ (cs0 : List Value) (cs1 : List Value), v = .tuple #[.agg cs0.toArray, .agg cs1.toArray, .bool r.2.2] ∧ Y0.R h' cs0 r.1 ∧ c4.R h' cs1 r.2.1 ∧ Sub h h' := by
 obtain ⟨p0_0, p0_1, ap0_2, np0_2, cp0_2, p0_2, rfl, rfl, ip0_0, ip0_1, rp0_2⟩ := B0 rp0
 obtain ⟨rfl, lp0_2⟩ := Sl.len rp0_2
 unfold o9 at hM0
 dsimp only at hM0
 refine U2 (args := [.agg #[.int .i64 p0_0, .int .i64 p0_1, .slice ap0_2 p0_2.length cp0_2]]) (fn := Tryz.f145) rfl ?_
 obtain ⟨x1, gx1, hM0⟩ := j0 hM0
 refine Tr.mono (G08 _ [.int .i64 p0_0, .int .i64 p0_1, .slice ap0_2 p0_2.length cp0_2] (p0_0, p0_1, p0_2) (z0 ip0_0 ip0_1 rp0_2) _  gx1) ?_
 rintro v3 k2 ⟨csx1_0, rfl, rx1_0, sx1⟩
 obtain ⟨x1_0, x1_1⟩ := x1
 dsimp only at hM0 rx1_0
 obtain ⟨x1_0_0, x1_0_1, rfl, rfl, ix1_0_0, ix1_0_1⟩ := P00 rx1_0
 try dsimp only at hM0
 refine And.intro (fun hc4 => ?_) (fun hc4 => ?_)
 ·replace hM0 := ifP hM0 hc4
  obtain ⟨x5, gx5, hM0⟩ := j0 hM0
  refine Tr.mono (P3 _ [.int .i64 p0_0, .int .i64 p0_1, .slice ap0_2 p0_2.length cp0_2] (p0_0, p0_1, p0_2) (z0 ip0_0 ip0_1 (I0.mono sx1 rp0_2)) _  gx5) ?_
  rintro v7 k6 ⟨csx5, rfl, rx5, sx5⟩
  obtain ⟨x5_0, x5_1, ax5_2, nx5_2, cx5_2, x5_2, rfl, rfl, ix5_0, ix5_1, rx5_2⟩ := B0 rx5
  obtain ⟨rfl, lx5_2⟩ := Sl.len rx5_2
  try dsimp only at hM0
  have hE := Option.some.inj hM0; subst hE
  exact ⟨([.int .i64 x5_0, .int .i64 x5_1, .slice ax5_2 x5_2.length cx5_2]), ([.int .i64 0, .int .i64 0]), rfl, (z0 ix5_0 ix5_1 rx5_2), (U1 (c64 (by decide) (by decide)) (c64 (by decide) (by decide))), (sx1.trans sx5)⟩
 ·replace hM0 := ifN hM0 hc4
  obtain ⟨x8, gx8, hM0⟩ := j0 hM0
  refine Tr.mono (g05 _ [.int .i64 p0_0, .int .i64 p0_1, .slice ap0_2 p0_2.length cp0_2] (p0_0, p0_1, p0_2) (z0 ip0_0 ip0_1 (I0.mono sx1 rp0_2)) [.int .i64 x1_0_0, .int .i64 x1_0_1] (x1_0_0, x1_0_1) (U1 ix1_0_0 ix1_0_1) _  gx8) ?_
  rintro v10 k9 ⟨csx8_0, rfl, rx8_0, sx8⟩
  obtain ⟨x8_0, x8_1⟩ := x8
  dsimp only at hM0 rx8_0
  obtain ⟨x8_0_0, x8_0_1, ax8_0_2, nx8_0_2, cx8_0_2, x8_0_2, rfl, rfl, ix8_0_0, ix8_0_1, rx8_0_2⟩ := B0 rx8_0
  obtain ⟨rfl, lx8_0_2⟩ := Sl.len rx8_0_2
  try dsimp only at hM0
  refine Or.inr (Or.inr (Or.inl (And.intro (And.intro (by kernel_rfl) (by kernel_rfl)) ?_)))
  refine Or.inr ?_
  refine Or.inr ?_
  refine Exists.intro 0 (And.intro (And.intro rfl rfl) ?_)
  refine And.intro trivial (And.intro (by first | exact trivial | exact rfl) ?_)
  refine And.intro trivial (And.intro (by first | exact trivial | exact rfl) ?_)
  have hE := Option.some.inj hM0; subst hE
  exact ⟨([.int .i64 x8_0_0, .int .i64 x8_0_1, .slice ax8_0_2 x8_0_2.length cx8_0_2]), ([.int .i64 x1_0_0, .int .i64 x1_0_1]), rfl, (z0 ix8_0_0 ix8_0_1 rx8_0_2), (U1 ix1_0_0 ix1_0_1), (sx1.trans sx8)⟩
theorem q02 (h : Hp) (csp0 : List Value) (p0 : l0) (rp0 : Y0.R h csp0 p0) (r : l0 × z7) (hM0 : E6 p0 = some r) :
  Tr Tryz.prog 91 #[.agg csp0.toArray] h fun v h' => ∃ (cs0 : List Value) (a1 : Option Addr) (n1 c1 : Nat), v = .tuple #[.agg cs0.toArray, .slice a1 n1 c1] ∧ Y0.R h' cs0 r.1 ∧ Y0c.R h' [.slice a1 n1 c1] r.2 ∧ Sub h h' := by
 obtain ⟨p0_0, p0_1, ap0_2, np0_2, cp0_2, p0_2, rfl, rfl, ip0_0, ip0_1, rp0_2⟩ := B0 rp0
 obtain ⟨rfl, lp0_2⟩ := Sl.len rp0_2
 unfold E6 at hM0
 dsimp only at hM0
 refine U2 (args := [.agg #[.int .i64 p0_0, .int .i64 p0_1, .slice ap0_2 p0_2.length cp0_2]]) (fn := Tryz.f91) rfl ?_
 obtain ⟨x1, gx1, hM0⟩ := j0 hM0
 refine Tr.mono (P3 _ [.int .i64 p0_0, .int .i64 p0_1, .slice ap0_2 p0_2.length cp0_2] (p0_0, p0_1, p0_2) (z0 ip0_0 ip0_1 rp0_2) _  gx1) ?_
 rintro v3 k2 ⟨csx1, rfl, rx1, sx1⟩
 obtain ⟨x1_0, x1_1, ax1_2, nx1_2, cx1_2, x1_2, rfl, rfl, ix1_0, ix1_1, rx1_2⟩ := B0 rx1
 obtain ⟨rfl, lx1_2⟩ := Sl.len rx1_2
 try dsimp only at hM0
 obtain ⟨X4, hLX4, hM0⟩ := j0 hM0
 refine Exists.intro { vars := [6], boxes := [2], owns := [0], fuel := true } (Exists.intro (fun vs os h' => ∃ (u5 : Int) (u6 : Int) (u7 : Int) (au8 : Option Addr) (nu8 cu8 : Nat) (u8 : J0) (wu9 : List (List Value)) (u9 : List f4), vs.tail = [.int .i64 u5, .int .i64 u6, .int .i64 u7, .slice au8 nu8 cu8] ∧ os = [wu9] ∧ Sub k2 h' ∧ F0 u5 ∧ F0 u6 ∧ F0 u7 ∧ I0.R h' [.slice au8 nu8 cu8] u8 ∧ F2 (c4.R h') wu9 u9 ∧ o5 (M1 vs) u5 u6 u7 u8 u9 = some X4) (Exists.intro (fun _ _ => 0) ?_))
 refine And.intro (Exists.intro S0 ⟨0, x1_0, x1_1, ax1_2, x1_2.length, cx1_2, x1_2, [], ([] : z7), rfl, rfl, (Sub.refl _), (c64 (by decide) (by decide)), ix1_0, ix1_1, rx1_2, (show F2 (c4.R k2) ([] : List (List Value)) ([] : z7) from trivial), hLX4⟩) ?_
 rintro v_0 v_1 v_2 v_3 wu9 m11 k10 ⟨u5, u6, u7, au8, nu8, cu8, u8, zzu9, u9, evX4, eoX4, sX4, iu5, iu6, iu7, ru8, fu9, hM1⟩
 cases evX4
 cases eoX4
 replace hM1 : o5 m11 u5 u6 u7 u8 u9 = some X4 := hM1
 obtain _ | m11 := m11
 ·cases (show (none : Option _) = some X4 from hM1)
 rw [o5.eq_2] at hM1
 obtain ⟨rfl, lu8⟩ := Sl.len ru8
 refine And.intro (fun hc12 => ?_) (fun hc12 => ?_)
 ·replace hM1 := ifP hM1 hc12
  obtain ⟨x13, gx13, hM1⟩ := j0 hM1
  refine Tr.mono (w09 _ [.int .i64 u6, .int .i64 u7, .slice au8 u8.length cu8] (u6, u7, u8) (z0 iu6 iu7 ru8) _  gx13) ?_
  rintro v15 k14 ⟨csx13_0, csx13_1, rfl, rx13_0, rx13_1, sx13⟩
  obtain ⟨x13_0, x13_1, x13_2⟩ := x13
  dsimp only at hM1 rx13_0 rx13_1
  obtain ⟨x13_0_0, x13_0_1, ax13_0_2, nx13_0_2, cx13_0_2, x13_0_2, rfl, rfl, ix13_0_0, ix13_0_1, rx13_0_2⟩ := B0 rx13_0
  obtain ⟨rfl, lx13_0_2⟩ := Sl.len rx13_0_2
  try dsimp only at hM1
  obtain ⟨x13_1_0, x13_1_1, rfl, rfl, ix13_1_0, ix13_1_1⟩ := P00 rx13_1
  try dsimp only at hM1
  refine And.intro (fun hc16 => ?_) (fun hc16 => ?_)
  ·replace hM1 := ifP hM1 hc16
   intro v17 k18 f19
   obtain ⟨az20, cz20, rfl, rz20, sz20, lz20⟩ := Z0.out (r := c4.toRp) f19 (F2.up (r := c4.toRp) sx13 fu9)
   have hE := Option.some.inj hM1; subst hE
   try dsimp only [n3, B3] at hM0
   have hE := Option.some.inj hM0; subst hE
   exact ⟨([.int .i64 u6, .int .i64 u7, .slice au8 u8.length cu8]), az20, u9.length, cz20, rfl, (z0 iu6 iu7 (I0.mono (sx13.trans sz20) ru8)), rz20, (((sx1.trans sX4).trans sx13).trans sz20)⟩
  ·replace hM1 := ifN hM1 hc16
   obtain ⟨q21, gq21, hM1⟩ := j0 hM1
   refine And.intro (E2 gq21 (by first | rw [F2.length (F2.up (r := c4.toRp) sx13 fu9), F2.length (show F2 (c4.R k14) ([[.int .i64 x13_1_0, .int .i64 x13_1_1]] : List (List Value)) [(x13_1_0, x13_1_1)] from ⟨(U1 ix13_1_0 ix13_1_1), trivial⟩)] | exact congrArg (· + 1) (F2.length (F2.up (r := c4.toRp) sx13 fu9)))) ?_
   refine And.intro rfl (And.intro (by repeat (first | exact trivial | refine And.intro rfl ?_)) (And.intro (by repeat (first | exact trivial | refine And.intro rfl ?_)) (Exists.intro m11 (And.intro ⟨(IntKind.i64.wrap (u5 + 1)), x13_0_0, x13_0_1, ax13_0_2, x13_0_2.length, cx13_0_2, x13_0_2, (wu9 ++ ([[.int .i64 x13_1_0, .int .i64 x13_1_1]] : List (List Value))), (u9 ++ [(x13_1_0, x13_1_1)]), rfl, rfl, (sX4.trans sx13), (H0 _), ix13_0_0, ix13_0_1, rx13_0_2, (F2.append (F2.up (r := c4.toRp) sx13 fu9) (show F2 (c4.R k14) ([[.int .i64 x13_1_0, .int .i64 x13_1_1]] : List (List Value)) [(x13_1_0, x13_1_1)] from ⟨(U1 ix13_1_0 ix13_1_1), trivial⟩)), hM1⟩ (Nat.lt_succ_self _)))))
 ·replace hM1 := ifN hM1 hc12
  have hE := Option.some.inj hM1; subst hE
  try dsimp only [T0, U0] at hM0
  intro v22 k23 f24
  obtain ⟨az25, cz25, rfl, rz25, sz25, lz25⟩ := Z0.out (r := c4.toRp) f24 fu9
  have hE := Option.some.inj hM0; subst hE
  exact ⟨([.int .i64 u6, .int .i64 u7, .slice au8 u8.length cu8]), az25, u9.length, cz25, rfl, (z0 iu6 iu7 (I0.mono sz25 ru8)), rz25, ((sx1.trans sX4).trans sz25)⟩
theorem H08 (h : Hp) (csp0 : List Value) (p0 : l0) (rp0 : Y0.R h csp0 p0) (r : l0 × Bool) (hM0 : Q7 p0 = some r) :
  Tr Tryz.prog 93 #[.agg csp0.toArray] h fun v h' => ∃ (cs0 : List Value), v = .tuple #[.agg cs0.toArray, .bool r.2] ∧ Y0.R h' cs0 r.1 ∧ Sub h h' := by
 obtain ⟨p0_0, p0_1, ap0_2, np0_2, cp0_2, p0_2, rfl, rfl, ip0_0, ip0_1, rp0_2⟩ := B0 rp0
 obtain ⟨rfl, lp0_2⟩ := Sl.len rp0_2
 unfold Q7 at hM0
 dsimp only at hM0
 refine U2 (args := [.agg #[.int .i64 p0_0, .int .i64 p0_1, .slice ap0_2 p0_2.length cp0_2]]) (fn := Tryz.f93) rfl ?_
 obtain ⟨x1, gx1, hM0⟩ := j0 hM0
 refine Tr.mono (P3 _ [.int .i64 p0_0, .int .i64 p0_1, .slice ap0_2 p0_2.length cp0_2] (p0_0, p0_1, p0_2) (z0 ip0_0 ip0_1 rp0_2) _  gx1) ?_
 rintro v3 k2 ⟨csx1, rfl, rx1, sx1⟩
 obtain ⟨x1_0, x1_1, ax1_2, nx1_2, cx1_2, x1_2, rfl, rfl, ix1_0, ix1_1, rx1_2⟩ := B0 rx1
 obtain ⟨rfl, lx1_2⟩ := Sl.len rx1_2
 try dsimp only at hM0
 obtain ⟨x4, gx4, hM0⟩ := j0 hM0
 refine Tr.val (l5 _ [.int .i64 p0_0, .int .i64 p0_1, .slice ap0_2 p0_2.length cp0_2] (p0_0, p0_1, p0_2) (z0 ip0_0 ip0_1 (I0.mono sx1 rp0_2)) _  gx4) ?_
 refine And.intro (fun hc5 => ?_) (fun hc5 => ?_)
 ·replace hM0 := ifP hM0 hc5
  have hE := Option.some.inj hM0; subst hE
  exact ⟨([.int .i64 x1_0, .int .i64 x1_1, .slice ax1_2 x1_2.length cx1_2]), rfl, (z0 ix1_0 ix1_1 rx1_2), sx1⟩
 ·replace hM0 := ifN hM0 hc5
  have hE := Option.some.inj hM0; subst hE
  exact ⟨([.int .i64 x1_0, .int .i64 (IntKind.i64.wrap (p0_1 + 1)), .slice ax1_2 x1_2.length cx1_2]), rfl, (z0 ix1_0 (H0 _) rx1_2), sx1⟩
theorem h05 (h : Hp) (csp0 : List Value) (p0 : l0) (rp0 : Y0.R h csp0 p0) (csp1 : List Value) (p1 : D0) (rp1 : Q0.R h csp1 p1) (r : l0 × Bool) (hM0 : f8 p0 p1 = some r) :
  Tr Tryz.prog 94 #[.agg csp0.toArray, .agg csp1.toArray] h fun v h' => ∃ (cs0 : List Value), v = .tuple #[.agg cs0.toArray, .bool r.2] ∧ Y0.R h' cs0 r.1 ∧ Sub h h' := by
 obtain ⟨p0_0, p0_1, ap0_2, np0_2, cp0_2, p0_2, rfl, rfl, ip0_0, ip0_1, rp0_2⟩ := B0 rp0
 obtain ⟨rfl, lp0_2⟩ := Sl.len rp0_2
 obtain ⟨p1_0, p1_1, p1_2, rfl, rfl, ip1_0, ip1_1, ip1_2⟩ := j1 rp1
 unfold f8 at hM0
 dsimp only at hM0
 refine U2 (args := [.agg #[.int .i64 p0_0, .int .i64 p0_1, .slice ap0_2 p0_2.length cp0_2], .agg #[.int .i64 p1_0, .int .i64 p1_1, .int .i64 p1_2]]) (fn := Tryz.f94) rfl ?_
 obtain ⟨x1, gx1, hM0⟩ := j0 hM0
 refine Tr.mono (P3 _ [.int .i64 p0_0, .int .i64 p0_1, .slice ap0_2 p0_2.length cp0_2] (p0_0, p0_1, p0_2) (z0 ip0_0 ip0_1 rp0_2) _  gx1) ?_
 rintro v3 k2 ⟨csx1, rfl, rx1, sx1⟩
 obtain ⟨x1_0, x1_1, ax1_2, nx1_2, cx1_2, x1_2, rfl, rfl, ix1_0, ix1_1, rx1_2⟩ := B0 rx1
 obtain ⟨rfl, lx1_2⟩ := Sl.len rx1_2
 try dsimp only at hM0
 obtain ⟨x4, gx4, hM0⟩ := j0 hM0
 refine Tr.val (l5 _ [.int .i64 p0_0, .int .i64 p0_1, .slice ap0_2 p0_2.length cp0_2] (p0_0, p0_1, p0_2) (z0 ip0_0 ip0_1 (I0.mono sx1 rp0_2)) _  gx4) ?_
 obtain ⟨x5, gx5, hM0⟩ := j0 hM0
 refine Exists.intro (.bool x5) (And.intro (fun q => Z05 _ [.int .i64 p0_0, .int .i64 p0_1, .slice ap0_2 p0_2.length cp0_2] (p0_0, p0_1, p0_2) (z0 ip0_0 ip0_1 (I0.mono sx1 rp0_2)) [.int .i64 p1_0, .int .i64 p1_1, .int .i64 p1_2] (p1_0, p1_1, p1_2) (V0 ip1_0 ip1_1 ip1_2) _  (I2 gx5 q)) ?_)
 refine And.intro (fun hc6 => ?_) (fun hc6 => ?_)
 ·replace hM0 := ifP hM0 hc6
  have hE := Option.some.inj hM0; subst hE
  exact ⟨([.int .i64 x1_0, .int .i64 x1_1, .slice ax1_2 x1_2.length cx1_2]), rfl, (z0 ix1_0 ix1_1 rx1_2), sx1⟩
 ·replace hM0 := ifN hM0 hc6
  obtain ⟨x7, gx7, hM0⟩ := j0 hM0
  refine Tr.mono (a9 _ ap0_2 p0_2.length cp0_2 p0_2 (I0.mono sx1 rp0_2) [.int .i64 p1_0, .int .i64 p1_1, .int .i64 p1_2] (p1_0, p1_1, p1_2) (V0 ip1_0 ip1_1 ip1_2) _  gx7) ?_
  rintro v9 k8 ⟨ax7, nx7, cx7, rfl, rx7, sx7⟩
  obtain ⟨rfl, lx7⟩ := Sl.len rx7
  refine Or.inr (Or.inr (Or.inl (And.intro (And.intro (by kernel_rfl) (by kernel_rfl)) ?_)))
  refine Or.inr ?_
  refine Exists.intro 0 (And.intro (And.intro rfl rfl) ?_)
  refine And.intro trivial (And.intro (by first | exact trivial | exact rfl) ?_)
  have hE := Option.some.inj hM0; subst hE
  exact ⟨([.int .i64 x1_0, .int .i64 x1_1, .slice ax7 x7.length cx7]), rfl, (z0 ix1_0 ix1_1 rx7), (sx1.trans sx7)⟩
theorem E05 (h : Hp) (csp0 : List Value) (p0 : l0) (rp0 : Y0.R h csp0 p0) (r : J0) (hM0 : L6 p0 = some r) :
  Tr Tryz.prog 92 #[.agg csp0.toArray] h fun v h' => ∃ (a0 : Option Addr) (n0 c0 : Nat), v = .slice a0 n0 c0 ∧ I0.R h' [.slice a0 n0 c0] r ∧ Sub h h' := by
 obtain ⟨p0_0, p0_1, ap0_2, np0_2, cp0_2, p0_2, rfl, rfl, ip0_0, ip0_1, rp0_2⟩ := B0 rp0
 obtain ⟨rfl, lp0_2⟩ := Sl.len rp0_2
 unfold L6 at hM0
 dsimp only at hM0
 refine U2 (args := [.agg #[.int .i64 p0_0, .int .i64 p0_1, .slice ap0_2 p0_2.length cp0_2]]) (fn := Tryz.f92) rfl ?_
 obtain ⟨X1, hLX1, hM0⟩ := j0 hM0
 refine Exists.intro { vars := [4], boxes := [], owns := [0], fuel := true } (Exists.intro (fun vs os h' => ∃ (u2 : Int) (wu3 : List (List Value)) (u3 : List D0), vs.tail = [.int .i64 u2] ∧ os = [wu3] ∧ Sub h h' ∧ F0 u2 ∧ F2 (Q0.R h') wu3 u3 ∧ l4 p0_1 p0_0 p0_2 (M1 vs) u2 u3 = some X1) (Exists.intro (fun _ _ => 0) ?_))
 refine And.intro (Exists.intro S0 ⟨0, [], ([] : J0), rfl, rfl, (Sub.refl _), (c64 (by decide) (by decide)), (show F2 (Q0.R h) ([] : List (List Value)) ([] : J0) from trivial), hLX1⟩) ?_
 rintro v_0 wu3 m5 k4 ⟨u2, zzu3, u3, evX1, eoX1, sX1, iu2, fu3, hM1⟩
 cases evX1
 cases eoX1
 replace hM1 : l4 p0_1 p0_0 p0_2 m5 u2 u3 = some X1 := hM1
 obtain _ | m5 := m5
 ·cases (show (none : Option _) = some X1 from hM1)
 rw [l4.eq_2] at hM1
 obtain ⟨x6, gx6, hM1⟩ := j0 hM1
 refine Exists.intro (.bool x6) (And.intro (fun q => w9 _ [.int .i64 p0_0, .int .i64 p0_1, .slice ap0_2 p0_2.length cp0_2] (p0_0, p0_1, p0_2) (z0 ip0_0 ip0_1 (I0.mono sX1 rp0_2)) _  (I2 gx6 q)) ?_)
 refine And.intro (fun hc7 => ?_) (fun hc7 => ?_)
 ·replace hM1 := ifP hM1 hc7
  obtain ⟨x8, gx8, hM1⟩ := j0 hM1
  refine Tr.mono (C03 _ p0_0 ip0_0 _  gx8) ?_
  rintro v10 k9 ⟨ax8, nx8, cx8, rfl, rx8, sx8⟩
  obtain ⟨rfl, lx8⟩ := Sl.len rx8
  obtain ⟨X11, hLX11, hM1⟩ := j0 hM1
  refine Exists.intro { vars := [6], boxes := [], owns := [0], fuel := true } (Exists.intro (fun vs os h' => ∃ (u12 : Int) (wu13 : List (List Value)) (u13 : List D0), vs.tail = [.int .i64 u12] ∧ os = [wu13] ∧ Sub k9 h' ∧ F0 u12 ∧ F2 (Q0.R h') wu13 u13 ∧ Y2 x8 p0_0 p0_1 p0_2 u2 (M1 vs) u12 u13 = some X11) (Exists.intro (fun _ _ => 0) ?_))
  refine And.intro (Exists.intro S0 ⟨0, wu3, u3, rfl, rfl, (Sub.refl _), (c64 (by decide) (by decide)), (F2.up (r := Q0.toRp) sx8 fu3), hLX11⟩) ?_
  rintro v_0 wu13 m15 k14 ⟨u12, zzu13, u13, evX11, eoX11, sX11, iu12, fu13, hM2⟩
  cases evX11
  cases eoX11
  replace hM2 : Y2 x8 p0_0 p0_1 p0_2 u2 m15 u12 u13 = some X11 := hM2
  obtain _ | m15 := m15
  ·cases (show (none : Option _) = some X11 from hM2)
  rw [Y2.eq_2] at hM2
  refine And.intro (fun hc16 => ?_) (fun hc16 => ?_)
  ·replace hM2 := ifP hM2 hc16
   refine Or.inl (And.intro (And.intro (by kernel_rfl) (by kernel_rfl)) ?_)
   obtain ⟨x17, gx17, hM2⟩ := j0 hM2
   obtain ⟨bx17, csx17, ex17, rx17⟩ := Sl.getI (r := Wp.int.toRp) (I1.mono sX11 rx8) gx17 (by decide)
   refine And.intro bx17 ?_
   obtain ⟨rfl, ix17⟩ := rx17
   refine Exists.intro _ (And.intro ex17 ?_)
   obtain ⟨x18, gx18, hM2⟩ := j0 hM2
   refine Exists.intro (.int .i64 x18) (And.intro (U00 _ [.int .i64 p0_0, .int .i64 p0_1, .slice ap0_2 p0_2.length cp0_2] (p0_0, p0_1, p0_2) (z0 ip0_0 ip0_1 (I0.mono ((sX1.trans sx8).trans sX11) rp0_2)) u2 iu2 x17 ix17 _  gx18) ?_)
   obtain ⟨q19, gq19, hM2⟩ := j0 hM2
   have ix18 : F0 x18 := G2 gq19
   refine And.intro (fun hc20 => ?_) (fun hc20 => ?_)
   ·replace hM2 := ifP hM2 hc20
    obtain ⟨x21, gx21, hM2⟩ := j0 hM2
    obtain ⟨bx21, csx21, ex21, rx21⟩ := Sl.getI (r := Wp.int.toRp) (I1.mono sX11 rx8) gx21 (by decide)
    refine And.intro bx21 ?_
    obtain ⟨rfl, ix21⟩ := rx21
    refine Exists.intro _ (And.intro ex21 ?_)
    obtain ⟨q22, gq22, hM2⟩ := j0 hM2
    refine And.intro (E2 gq22 (by first | rw [F2.length fu13, F2.length (show F2 (Q0.R k14) ([[.int .i64 u2, .int .i64 x21, .int .i64 (-1)]] : List (List Value)) [(u2, x21, (-1))] from ⟨(V0 iu2 ix21 (c64 (by decide) (by decide))), trivial⟩)] | exact congrArg (· + 1) (F2.length fu13))) ?_
    refine And.intro rfl (And.intro (by repeat (first | exact trivial | refine And.intro rfl ?_)) (And.intro (by repeat (first | exact trivial | refine And.intro rfl ?_)) (Exists.intro m15 (And.intro ⟨(IntKind.i64.wrap (u12 + 1)), (wu13 ++ ([[.int .i64 u2, .int .i64 x21, .int .i64 (-1)]] : List (List Value))), (u13 ++ [(u2, x21, (-1))]), rfl, rfl, sX11, (H0 _), (F2.append fu13 (show F2 (Q0.R k14) ([[.int .i64 u2, .int .i64 x21, .int .i64 (-1)]] : List (List Value)) [(u2, x21, (-1))] from ⟨(V0 iu2 ix21 (c64 (by decide) (by decide))), trivial⟩)), hM2⟩ (Nat.lt_succ_self _)))))
   ·replace hM2 := ifN hM2 hc20
    refine And.intro rfl (And.intro (by repeat (first | exact trivial | refine And.intro rfl ?_)) (And.intro (by repeat (first | exact trivial | refine And.intro rfl ?_)) (Exists.intro m15 (And.intro ⟨(IntKind.i64.wrap (u12 + 1)), wu13, u13, rfl, rfl, sX11, (H0 _), fu13, hM2⟩ (Nat.lt_succ_self _)))))
  ·replace hM2 := ifN hM2 hc16
   have hE := Option.some.inj hM2; subst hE
   try dsimp only [T0, U0] at hM1
   refine And.intro rfl (And.intro (by repeat (first | exact trivial | refine And.intro rfl ?_)) (And.intro (by repeat (first | exact trivial | refine And.intro rfl ?_)) (Exists.intro m5 (And.intro ⟨(IntKind.i64.wrap (u2 + 1)), wu13, u13, rfl, rfl, ((sX1.trans sx8).trans sX11), (H0 _), fu13, hM1⟩ (Nat.lt_succ_self _)))))
 ·replace hM1 := ifN hM1 hc7
  have hE := Option.some.inj hM1; subst hE
  try dsimp only [T0, U0] at hM0
  intro v27 k28 f29
  obtain ⟨az30, cz30, rfl, rz30, sz30, lz30⟩ := Z0.out (r := Q0.toRp) f29 fu3
  have hE := Option.some.inj hM0; subst hE
  exact ⟨az30, u3.length, cz30, rfl, rz30, (sX1.trans sz30)⟩
end Go.Proofs.YtfdlgbfeceodeaaGreat
namespace Go.Proofs.YtfdlgbfeceodeaaGreat
open Go.H
set_option linter.unusedVariables false
set_option linter.unusedSimpArgs false
set_option maxRecDepth 10000
set_option maxHeartbeats 0
theorem A06 (h : Hp) (csp0 : List Value) (p0 : C0) (rp0 : D1.R h csp0 p0) (csp1 : List Value) (p1 : l0) (rp1 : Y0.R h csp1 p1) (r : l0 × Bool × Bool) (hM0 : i8 p0 p1 = some r) :
  Tr Tryz.prog 28 #[.agg csp0.toArray, .agg csp1.toArray] h fun v h' => ∃ (cs0 : List Value), v = .tuple #[.agg cs0.toArray, .bool r.2.1, .bool r.2.2] ∧ Y0.R h' cs0 r.1 ∧ Sub h h' := by
 obtain ⟨p0_0, ap0_1, np0_1, cp0_1, p0_1, rfl, rfl, ip0_0, rp0_1⟩ := J1 rp0
 obtain ⟨rfl, lp0_1⟩ := Sl.len rp0_1
 obtain ⟨p1_0, p1_1, ap1_2, np1_2, cp1_2, p1_2, rfl, rfl, ip1_0, ip1_1, rp1_2⟩ := B0 rp1
 obtain ⟨rfl, lp1_2⟩ := Sl.len rp1_2
 unfold i8 at hM0
 dsimp only at hM0
 refine U2 (args := [.agg #[.int .i64 p0_0, .slice ap0_1 p0_1.length cp0_1], .agg #[.int .i64 p1_0, .int .i64 p1_1, .slice ap1_2 p1_2.length cp1_2]]) (fn := Tryz.f28) rfl ?_
 obtain ⟨x1, gx1, hM0⟩ := j0 hM0
 refine Tr.val (J9 _ [.int .i64 p0_0, .slice ap0_1 p0_1.length cp0_1] (p0_0, p0_1) (L1 ip0_0 rp0_1) _  gx1) ?_
 obtain ⟨x2, gx2, hM0⟩ := j0 hM0
 refine Exists.intro (.bool x2) (And.intro (fun q => w9 _ [.int .i64 p1_0, .int .i64 p1_1, .slice ap1_2 p1_2.length cp1_2] (p1_0, p1_1, p1_2) (z0 ip1_0 ip1_1 rp1_2) _  (I2 gx2 q)) ?_)
 refine And.intro (fun hc3 => ?_) (fun hc3 => ?_)
 ·replace hM0 := ifP hM0 hc3
  obtain ⟨x4, gx4, hM0⟩ := j0 hM0
  refine Tr.mono (P3 _ [.int .i64 p1_0, .int .i64 p1_1, .slice ap1_2 p1_2.length cp1_2] (p1_0, p1_1, p1_2) (z0 ip1_0 ip1_1 rp1_2) _  gx4) ?_
  rintro v6 k5 ⟨csx4, rfl, rx4, sx4⟩
  obtain ⟨x4_0, x4_1, ax4_2, nx4_2, cx4_2, x4_2, rfl, rfl, ix4_0, ix4_1, rx4_2⟩ := B0 rx4
  obtain ⟨rfl, lx4_2⟩ := Sl.len rx4_2
  try dsimp only at hM0
  have hE := Option.some.inj hM0; subst hE
  exact ⟨([.int .i64 x4_0, .int .i64 x4_1, .slice ax4_2 x4_2.length cx4_2]), rfl, (z0 ix4_0 ix4_1 rx4_2), sx4⟩
 ·replace hM0 := ifN hM0 hc3
  obtain ⟨x7, gx7, hM0⟩ := j0 hM0
  obtain ⟨x7_0, x7_1⟩ := x7
  try dsimp only at hM0
  refine Tr.val (x06 _ [.int .i64 p0_0, .slice ap0_1 p0_1.length cp0_1] (p0_0, p0_1) (L1 ip0_0 rp0_1) [.int .i64 p1_0, .int .i64 p1_1, .slice ap1_2 p1_2.length cp1_2] (p1_0, p1_1, p1_2) (z0 ip1_0 ip1_1 rp1_2) _  gx7) ?_
  obtain ⟨q8, gq8, hM0⟩ := j0 hM0
  have ix7_0 : F0 x7_0 := G2 gq8
  obtain ⟨q9, gq9, hM0⟩ := j0 hM0
  have ix7_1 : F0 x7_1 := G2 gq9
  refine And.intro (fun hc10 => ?_) (fun hc10 => ?_)
  ·replace hM0 := ifP hM0 hc10
   refine Or.inr (Or.inr (Or.inr (Or.inr (Exists.intro 13 (And.intro (And.intro (by kernel_rfl) (by kernel_rfl)) ?_)))))
   obtain ⟨x11, gx11, hM0⟩ := j0 hM0
   obtain ⟨bx11, csx11, ex11, rx11⟩ := Sl.getI (r := I1.toRp) rp0_1 gx11 (by decide)
   obtain ⟨ax11, nx11, cx11, rfl⟩ := Wp.slice_cell rx11
   obtain ⟨rfl, lx11⟩ := Sl.len rx11
   refine Or.inl (Exists.intro (.hel (.slice ap0_1 p0_1.length cp0_1) x7_1 1 0) (And.intro ?_ ?_))
   ·intro k12 s13
    exact And.intro bx11 (And.intro rfl (And.intro rfl rfl))
   refine Or.inl (Exists.intro (.val (.slice ax11 x11.length cx11)) (And.intro ?_ ?_))
   ·intro k14 s15
    exact Exists.intro _ (And.intro (V6.up s15 ex11) (And.intro rfl (And.intro rfl rfl)))
   obtain ⟨x16, gx16, hM0⟩ := j0 hM0
   obtain ⟨x16_0, x16_1⟩ := x16
   try dsimp only at hM0
   obtain ⟨x16_0_0, x16_0_1, x16_0_2⟩ := x16_0
   try dsimp only at hM0
   refine Or.inr (Exists.intro (fun v hh => ∃ (ux16_0 : Value), v = .tuple #[ux16_0, .bool x16_1] ∧ (fun v hh => ∃ (ax16_0_2 : Option Addr) (cx16_0_2 : Nat), v = .agg #[.int .i64 x16_0_0, .int .i64 x16_0_1, .slice ax16_0_2 x16_0_2.length cx16_0_2] ∧ F0 x16_0_0 ∧ F0 x16_0_1 ∧ I0.R hh [.slice ax16_0_2 x16_0_2.length cx16_0_2] x16_0_2 ∧ x16_0_2.length ≤ 9223372036854775807) ux16_0 hh) (And.intro (fun v h1 h2 sb q => by obtain ⟨ux16_0, e, fux16_0⟩ := q; exact ⟨ux16_0, e, (by obtain ⟨ax16_0_2, cx16_0_2, e, f0, f1, f2, f3⟩ := fux16_0; exact ⟨ax16_0_2, cx16_0_2, e, f0, f1, I0.mono sb f2, f3⟩)⟩) (And.intro ?_ ?_)))
   ·intro k17 s18
    refine Tr.mono (f05 _ [.int .i64 p1_0, .int .i64 p1_1, .slice ap1_2 p1_2.length cp1_2] (p1_0, p1_1, p1_2) (z0 ip1_0 ip1_1 (I0.mono s18 rp1_2)) x7_0 ix7_0 ax11 x11.length cx11 x11 (I1.mono s18 rx11) x7_0 ix7_0 _ gx16) ?_
    rintro _ kk ⟨csx16_0, rfl, rx16_0, sb⟩
    obtain ⟨yx16_0_0, yx16_0_1, ayx16_0_2, nyx16_0_2, cyx16_0_2, yx16_0_2, rfl, ey, iyx16_0_0, iyx16_0_1, ryx16_0_2⟩ := B0 rx16_0
    cases ey
    obtain ⟨rfl, lyx16_0_2⟩ := Sl.len ryx16_0_2
    exact And.intro p03 (And.intro sb ⟨(.agg #[.int .i64 x16_0_0, .int .i64 x16_0_1, .slice ayx16_0_2 x16_0_2.length cyx16_0_2]), rfl, ⟨ayx16_0_2, cyx16_0_2, rfl, iyx16_0_0, iyx16_0_1, ryx16_0_2, lyx16_0_2⟩⟩)
   refine Or.inr (Exists.intro (fun v hh => ∃ (ux16_0 : Value), v = .tuple #[ux16_0, .bool x16_1] ∧ (fun v hh => ∃ (ax16_0_2 : Option Addr) (cx16_0_2 : Nat), v = .agg #[.int .i64 x16_0_0, .int .i64 x16_0_1, .slice ax16_0_2 x16_0_2.length cx16_0_2] ∧ F0 x16_0_0 ∧ F0 x16_0_1 ∧ I0.R hh [.slice ax16_0_2 x16_0_2.length cx16_0_2] x16_0_2 ∧ x16_0_2.length ≤ 9223372036854775807) ux16_0 hh) (And.intro (fun v h1 h2 sb q => by obtain ⟨ux16_0, e, fux16_0⟩ := q; exact ⟨ux16_0, e, (by obtain ⟨ax16_0_2, cx16_0_2, e, f0, f1, f2, f3⟩ := fux16_0; exact ⟨ax16_0_2, cx16_0_2, e, f0, f1, I0.mono sb f2, f3⟩)⟩) (And.intro ?_ ?_)))
   ·intro k19 s20
    rintro _ ⟨_, rfl, ⟨az21p02, cz21p02, rfl, iz21p00, iz21p01, rz21p02, lz21p02⟩⟩
    exact And.intro p03 (And.intro (Sub.refl _) ⟨(.agg #[.int .i64 x16_0_0, .int .i64 x16_0_1, .slice az21p02 x16_0_2.length cz21p02]), rfl, ⟨az21p02, cz21p02, rfl, iz21p00, iz21p01, rz21p02, lz21p02⟩⟩)
   refine Or.inr (Exists.intro (fun v hh => ∃ (ax16_0_2 : Option Addr) (cx16_0_2 : Nat), v = .agg #[.int .i64 x16_0_0, .int .i64 x16_0_1, .slice ax16_0_2 x16_0_2.length cx16_0_2] ∧ F0 x16_0_0 ∧ F0 x16_0_1 ∧ I0.R hh [.slice ax16_0_2 x16_0_2.length cx16_0_2] x16_0_2 ∧ x16_0_2.length ≤ 9223372036854775807) (And.intro (fun v h1 h2 sb q => by obtain ⟨ax16_0_2, cx16_0_2, e, f0, f1, f2, f3⟩ := q; exact ⟨ax16_0_2, cx16_0_2, e, f0, f1, I0.mono sb f2, f3⟩) (And.intro ?_ ?_)))
   ·intro k22 s23
    rintro _ ⟨_, rfl, ⟨az24p02, cz24p02, rfl, iz24p00, iz24p01, rz24p02, lz24p02⟩⟩
    exact And.intro p03 (And.intro (Sub.refl _) ⟨az24p02, cz24p02, rfl, iz24p00, iz24p01, rz24p02, lz24p02⟩)
   refine Or.inl (Exists.intro (.val (.bool x16_1)) (And.intro ?_ ?_))
   ·intro k25 s26
    rintro _ ⟨_, rfl, ⟨az27p02, cz27p02, rfl, iz27p00, iz27p01, rz27p02, lz27p02⟩⟩
    exact And.intro rfl (And.intro rfl rfl)
   intro k28 s29
   rintro _ ⟨az302, cz302, rfl, iz300, iz301, rz302, lz302⟩
   rintro _ ⟨_, rfl, ⟨az31p02, cz31p02, rfl, iz31p00, iz31p01, rz31p02, lz31p02⟩⟩
   rintro _ ⟨_, rfl, ⟨az32p02, cz32p02, rfl, iz32p00, iz32p01, rz32p02, lz32p02⟩⟩
   refine And.intro (fun hc33 => ?_) (fun hc33 => ?_)
   ·replace hM0 := ifP hM0 hc33
    obtain ⟨x34, gx34, hM0⟩ := j0 hM0
    refine Tr.mono (P3 _ [.int .i64 p1_0, .int .i64 p1_1, .slice ap1_2 p1_2.length cp1_2] (p1_0, p1_1, p1_2) (z0 ip1_0 ip1_1 (I0.mono s29 rp1_2)) _  gx34) ?_
    rintro v36 k35 ⟨csx34, rfl, rx34, sx34⟩
    obtain ⟨x34_0, x34_1, ax34_2, nx34_2, cx34_2, x34_2, rfl, rfl, ix34_0, ix34_1, rx34_2⟩ := B0 rx34
    obtain ⟨rfl, lx34_2⟩ := Sl.len rx34_2
    try dsimp only at hM0
    have hE := Option.some.inj hM0; subst hE
    exact ⟨([.int .i64 x34_0, .int .i64 x34_1, .slice ax34_2 x34_2.length cx34_2]), rfl, (z0 ix34_0 ix34_1 rx34_2), (s29.trans sx34)⟩
   ·replace hM0 := ifN hM0 hc33
    obtain ⟨x37, gx37, hM0⟩ := j0 hM0
    refine Tr.mono (q02 _ [.int .i64 x16_0_0, .int .i64 x16_0_1, .slice az302 x16_0_2.length cz302] (x16_0_0, x16_0_1, x16_0_2) (z0 iz300 iz301 rz302) _  gx37) ?_
    rintro v39 k38 ⟨csx37_0, ax37_1, nx37_1, cx37_1, rfl, rx37_0, rx37_1, sx37⟩
    obtain ⟨x37_0, x37_1⟩ := x37
    dsimp only at hM0 rx37_0 rx37_1
    obtain ⟨x37_0_0, x37_0_1, ax37_0_2, nx37_0_2, cx37_0_2, x37_0_2, rfl, rfl, ix37_0_0, ix37_0_1, rx37_0_2⟩ := B0 rx37_0
    obtain ⟨rfl, lx37_0_2⟩ := Sl.len rx37_0_2
    try dsimp only at hM0
    obtain ⟨rfl, lx37_1⟩ := Sl.len rx37_1
    have hE := Option.some.inj hM0; subst hE
    exact ⟨([.int .i64 x37_0_0, .int .i64 x37_0_1, .slice ax37_0_2 x37_0_2.length cx37_0_2]), rfl, (z0 ix37_0_0 ix37_0_1 rx37_0_2), (s29.trans sx37)⟩
  ·replace hM0 := ifN hM0 hc10
   obtain ⟨x40, gx40, hM0⟩ := j0 hM0
   refine Tr.mono (E05 _ [.int .i64 p1_0, .int .i64 p1_1, .slice ap1_2 p1_2.length cp1_2] (p1_0, p1_1, p1_2) (z0 ip1_0 ip1_1 rp1_2) _  gx40) ?_
   rintro v42 k41 ⟨ax40, nx40, cx40, rfl, rx40, sx40⟩
   obtain ⟨rfl, lx40⟩ := Sl.len rx40
   refine And.intro (fun hc43 => ?_) (fun hc43 => ?_)
   ·replace hM0 := ifP hM0 hc43
    obtain ⟨x44, gx44, hM0⟩ := j0 hM0
    refine Tr.mono (P3 _ [.int .i64 p1_0, .int .i64 p1_1, .slice ap1_2 p1_2.length cp1_2] (p1_0, p1_1, p1_2) (z0 ip1_0 ip1_1 (I0.mono sx40 rp1_2)) _  gx44) ?_
    rintro v46 k45 ⟨csx44, rfl, rx44, sx44⟩
    obtain ⟨x44_0, x44_1, ax44_2, nx44_2, cx44_2, x44_2, rfl, rfl, ix44_0, ix44_1, rx44_2⟩ := B0 rx44
    obtain ⟨rfl, lx44_2⟩ := Sl.len rx44_2
    try dsimp only at hM0
    have hE := Option.some.inj hM0; subst hE
    exact ⟨([.int .i64 x44_0, .int .i64 x44_1, .slice ax44_2 x44_2.length cx44_2]), rfl, (z0 ix44_0 ix44_1 rx44_2), (sx40.trans sx44)⟩
   ·replace hM0 := ifN hM0 hc43
    obtain ⟨x47, gx47, hM0⟩ := j0 hM0
    refine Tr.mono (H08 _ [.int .i64 p1_0, .int .i64 p1_1, .slice ap1_2 p1_2.length cp1_2] (p1_0, p1_1, p1_2) (z0 ip1_0 ip1_1 (I0.mono sx40 rp1_2)) _  gx47) ?_
    rintro v49 k48 ⟨csx47_0, rfl, rx47_0, sx47⟩
    obtain ⟨x47_0, x47_1⟩ := x47
    dsimp only at hM0 rx47_0
    obtain ⟨x47_0_0, x47_0_1, ax47_0_2, nx47_0_2, cx47_0_2, x47_0_2, rfl, rfl, ix47_0_0, ix47_0_1, rx47_0_2⟩ := B0 rx47_0
    obtain ⟨rfl, lx47_0_2⟩ := Sl.len rx47_0_2
    try dsimp only at hM0
    refine And.intro (fun hc50 => ?_) (fun hc50 => ?_)
    ·replace hM0 := ifP hM0 hc50
     obtain ⟨x51, gx51, hM0⟩ := j0 hM0
     refine Tr.mono (P3 _ [.int .i64 p1_0, .int .i64 p1_1, .slice ap1_2 p1_2.length cp1_2] (p1_0, p1_1, p1_2) (z0 ip1_0 ip1_1 (I0.mono (sx40.trans sx47) rp1_2)) _  gx51) ?_
     rintro v53 k52 ⟨csx51, rfl, rx51, sx51⟩
     obtain ⟨x51_0, x51_1, ax51_2, nx51_2, cx51_2, x51_2, rfl, rfl, ix51_0, ix51_1, rx51_2⟩ := B0 rx51
     obtain ⟨rfl, lx51_2⟩ := Sl.len rx51_2
     try dsimp only at hM0
     have hE := Option.some.inj hM0; subst hE
     exact ⟨([.int .i64 x51_0, .int .i64 x51_1, .slice ax51_2 x51_2.length cx51_2]), rfl, (z0 ix51_0 ix51_1 rx51_2), ((sx40.trans sx47).trans sx51)⟩
    ·replace hM0 := ifN hM0 hc50
     refine Or.inr (Or.inr (Or.inr (Or.inr (Exists.intro 12 (And.intro (And.intro (by kernel_rfl) (by kernel_rfl)) ?_)))))
     obtain ⟨x54, gx54, hM0⟩ := j0 hM0
     obtain ⟨bx54, csx54, ex54, rx54⟩ := Sl.getI (r := Q0.toRp) (I0.mono sx47 rx40) gx54 (by decide)
     obtain ⟨x54_0, x54_1, x54_2, rfl, rfl, ix54_0, ix54_1, ix54_2⟩ := j1 rx54
     try dsimp only at hM0
     refine Or.inl (Exists.intro (.hel (.slice ax40 x40.length cx40) 0 3 0) (And.intro ?_ ?_))
     ·intro k55 s56
      exact And.intro bx54 (And.intro rfl (And.intro rfl rfl))
     refine Or.inl (Exists.intro (.val (.int .i64 x54_0)) (And.intro ?_ ?_))
     ·intro k57 s58
      exact Exists.intro _ (And.intro (V6.up s58 ex54) (And.intro rfl (And.intro rfl rfl)))
     obtain ⟨x59, gx59, hM0⟩ := j0 hM0
     obtain ⟨bx59, csx59, ex59, rx59⟩ := Sl.getI (r := Q0.toRp) (I0.mono sx47 rx40) gx59 (by decide)
     obtain ⟨x59_0, x59_1, x59_2, rfl, rfl, ix59_0, ix59_1, ix59_2⟩ := j1 rx59
     try dsimp only at hM0
     refine Or.inl (Exists.intro (.hel (.slice ax40 x40.length cx40) 0 3 0) (And.intro ?_ ?_))
     ·intro k60 s61
      exact And.intro bx59 (And.intro rfl (And.intro rfl rfl))
     refine Or.inl (Exists.intro (.val (.int .i64 x59_1)) (And.intro ?_ ?_))
     ·intro k62 s63
      exact Exists.intro _ (And.intro (V6.up s63 ex59) (And.intro rfl (And.intro rfl rfl)))
     refine Or.inl (Exists.intro (.agg [.val (.int .i64 x54_0), .val (.int .i64 x59_1), .val (.int .i64 p1_1)]) (And.intro ?_ ?_))
     ·intro k64 s65
      exact And.intro rfl (And.intro rfl rfl)
     intro k66 s67
     obtain ⟨x68, gx68, hM0⟩ := j0 hM0
     obtain ⟨bx68, csx68, ex68, rx68⟩ := Sl.getI (r := Q0.toRp) (I0.mono (sx47.trans s67) rx40) gx68 (by decide)
     refine And.intro bx68 ?_
     obtain ⟨x68_0, x68_1, x68_2, rfl, rfl, ix68_0, ix68_1, ix68_2⟩ := j1 rx68
     try dsimp only at hM0
     refine Exists.intro _ (And.intro ex68 ?_)
     refine And.intro (fun hc69 => ?_) (fun hc69 => ?_)
     ·replace hM0 := ifP hM0 hc69
      refine Or.inr (Or.inr (Or.inl (And.intro (And.intro (by kernel_rfl) (by kernel_rfl)) ?_)))
      obtain ⟨x70, gx70, hM0⟩ := j0 hM0
      obtain ⟨bx70, csx70, ex70, rx70⟩ := Sl.getI (r := Q0.toRp) (I0.mono (sx47.trans s67) rx40) gx70 (by decide)
      obtain ⟨x70_0, x70_1, x70_2, rfl, rfl, ix70_0, ix70_1, ix70_2⟩ := j1 rx70
      try dsimp only at hM0
      refine Or.inl (Exists.intro (.hel (.slice ax40 x40.length cx40) 0 3 0) (And.intro ?_ ?_))
      ·intro k71 s72
       exact And.intro bx70 (And.intro rfl (And.intro rfl rfl))
      refine Or.inl (Exists.intro (.hel (.slice ax40 x40.length cx40) 0 3 1) (And.intro ?_ ?_))
      ·intro hh sb
       exact And.intro rfl (And.intro rfl rfl)
      refine Or.inl (Exists.intro (.val (.int .i64 x70_1)) (And.intro ?_ ?_))
      ·intro k73 s74
       exact Exists.intro _ (And.intro (V6.up s74 ex70) (And.intro rfl (And.intro rfl rfl)))
      refine Or.inl (Exists.intro (.val (.int .i64 (IntKind.i64.wrap (0 - x70_1)))) (And.intro ?_ ?_))
      ·intro k75 s76
       exact And.intro rfl (And.intro rfl rfl)
      obtain ⟨x77, gx77, hM0⟩ := j0 hM0
      obtain ⟨bx77, csx77, ex77, rx77⟩ := Sl.getI (r := Q0.toRp) (I0.mono (sx47.trans s67) rx40) gx77 (by decide)
      obtain ⟨x77_0, x77_1, x77_2, rfl, rfl, ix77_0, ix77_1, ix77_2⟩ := j1 rx77
      try dsimp only at hM0
      refine Or.inl (Exists.intro (.hel (.slice ax40 x40.length cx40) 0 3 0) (And.intro ?_ ?_))
      ·intro k78 s79
       exact And.intro bx77 (And.intro rfl (And.intro rfl rfl))
      refine Or.inl (Exists.intro (.hel (.slice ax40 x40.length cx40) 0 3 0) (And.intro ?_ ?_))
      ·intro hh sb
       exact And.intro rfl (And.intro rfl rfl)
      refine Or.inl (Exists.intro (.val (.int .i64 x77_0)) (And.intro ?_ ?_))
      ·intro k80 s81
       exact Exists.intro _ (And.intro (V6.up s81 ex77) (And.intro rfl (And.intro rfl rfl)))
      refine Or.inl (Exists.intro (.agg [.val (.int .i64 p1_1), .val (.int .i64 (IntKind.i64.wrap (0 - x70_1))), .val (.int .i64 x77_0)]) (And.intro ?_ ?_))
      ·intro k82 s83
       exact And.intro rfl (And.intro rfl rfl)
      refine Or.inr ?_
      refine Exists.intro 0 (And.intro (And.intro rfl rfl) ?_)
      refine And.intro trivial (And.intro (by first | exact trivial | exact rfl) ?_)
      obtain ⟨x84, gx84, hM0⟩ := j0 hM0
      refine Tr.mono (h05 _ [.int .i64 x47_0_0, .int .i64 x47_0_1, .slice ax47_0_2 x47_0_2.length cx47_0_2] (x47_0_0, x47_0_1, x47_0_2) (z0 ix47_0_0 ix47_0_1 (I0.mono s67 rx47_0_2)) [.int .i64 p1_1, .int .i64 (IntKind.i64.wrap (0 - x70_1)), .int .i64 x77_0] (p1_1, (IntKind.i64.wrap (0 - x70_1)), x77_0) (V0 ip1_1 (H0 _) ix77_0) _  gx84) ?_
      rintro v86 k85 ⟨csx84_0, rfl, rx84_0, sx84⟩
      obtain ⟨x84_0, x84_1⟩ := x84
      dsimp only at hM0 rx84_0
      obtain ⟨x84_0_0, x84_0_1, ax84_0_2, nx84_0_2, cx84_0_2, x84_0_2, rfl, rfl, ix84_0_0, ix84_0_1, rx84_0_2⟩ := B0 rx84_0
      obtain ⟨rfl, lx84_0_2⟩ := Sl.len rx84_0_2
      try dsimp only at hM0
      refine And.intro (fun hc87 => ?_) (fun hc87 => ?_)
      ·replace hM0 := ifP hM0 hc87
       obtain ⟨x88, gx88, hM0⟩ := j0 hM0
       refine Tr.mono (P3 _ [.int .i64 p1_0, .int .i64 p1_1, .slice ap1_2 p1_2.length cp1_2] (p1_0, p1_1, p1_2) (z0 ip1_0 ip1_1 (I0.mono (((sx40.trans sx47).trans s67).trans sx84) rp1_2)) _  gx88) ?_
       rintro v90 k89 ⟨csx88, rfl, rx88, sx88⟩
       obtain ⟨x88_0, x88_1, ax88_2, nx88_2, cx88_2, x88_2, rfl, rfl, ix88_0, ix88_1, rx88_2⟩ := B0 rx88
       obtain ⟨rfl, lx88_2⟩ := Sl.len rx88_2
       try dsimp only at hM0
       have hE := Option.some.inj hM0; subst hE
       exact ⟨([.int .i64 x88_0, .int .i64 x88_1, .slice ax88_2 x88_2.length cx88_2]), rfl, (z0 ix88_0 ix88_1 rx88_2), ((((sx40.trans sx47).trans s67).trans sx84).trans sx88)⟩
      ·replace hM0 := ifN hM0 hc87
       have hE := Option.some.inj hM0; subst hE
       exact ⟨([.int .i64 x84_0_0, .int .i64 x84_0_1, .slice ax84_0_2 x84_0_2.length cx84_0_2]), rfl, (z0 ix84_0_0 ix84_0_1 rx84_0_2), (((sx40.trans sx47).trans s67).trans sx84)⟩
     ·replace hM0 := ifN hM0 hc69
      obtain ⟨x91, gx91, hM0⟩ := j0 hM0
      refine Tr.mono (h05 _ [.int .i64 x47_0_0, .int .i64 x47_0_1, .slice ax47_0_2 x47_0_2.length cx47_0_2] (x47_0_0, x47_0_1, x47_0_2) (z0 ix47_0_0 ix47_0_1 (I0.mono s67 rx47_0_2)) [.int .i64 x54_0, .int .i64 x59_1, .int .i64 p1_1] (x54_0, x59_1, p1_1) (V0 ix54_0 ix59_1 ip1_1) _  gx91) ?_
      rintro v93 k92 ⟨csx91_0, rfl, rx91_0, sx91⟩
      obtain ⟨x91_0, x91_1⟩ := x91
      dsimp only at hM0 rx91_0
      obtain ⟨x91_0_0, x91_0_1, ax91_0_2, nx91_0_2, cx91_0_2, x91_0_2, rfl, rfl, ix91_0_0, ix91_0_1, rx91_0_2⟩ := B0 rx91_0
      obtain ⟨rfl, lx91_0_2⟩ := Sl.len rx91_0_2
      try dsimp only at hM0
      refine And.intro (fun hc94 => ?_) (fun hc94 => ?_)
      ·replace hM0 := ifP hM0 hc94
       obtain ⟨x95, gx95, hM0⟩ := j0 hM0
       refine Tr.mono (P3 _ [.int .i64 p1_0, .int .i64 p1_1, .slice ap1_2 p1_2.length cp1_2] (p1_0, p1_1, p1_2) (z0 ip1_0 ip1_1 (I0.mono (((sx40.trans sx47).trans s67).trans sx91) rp1_2)) _  gx95) ?_
       rintro v97 k96 ⟨csx95, rfl, rx95, sx95⟩
       obtain ⟨x95_0, x95_1, ax95_2, nx95_2, cx95_2, x95_2, rfl, rfl, ix95_0, ix95_1, rx95_2⟩ := B0 rx95
       obtain ⟨rfl, lx95_2⟩ := Sl.len rx95_2
       try dsimp only at hM0
       have hE := Option.some.inj hM0; subst hE
       exact ⟨([.int .i64 x95_0, .int .i64 x95_1, .slice ax95_2 x95_2.length cx95_2]), rfl, (z0 ix95_0 ix95_1 rx95_2), ((((sx40.trans sx47).trans s67).trans sx91).trans sx95)⟩
      ·replace hM0 := ifN hM0 hc94
       have hE := Option.some.inj hM0; subst hE
       exact ⟨([.int .i64 x91_0_0, .int .i64 x91_0_1, .slice ax91_0_2 x91_0_2.length cx91_0_2]), rfl, (z0 ix91_0_0 ix91_0_1 rx91_0_2), (((sx40.trans sx47).trans s67).trans sx91)⟩
end Go.Proofs.YtfdlgbfeceodeaaGreat
namespace Go.Proofs.YtfdlgbfeceodeaaGreat
open Go.H
set_option linter.unusedVariables false
set_option linter.unusedSimpArgs false
set_option maxRecDepth 10000
theorem I08 (h : Hp) (csp0 : List Value) (p0 : l0) (rp0 : Y0.R h csp0 p0) (r : l0 × O0) (hM0 : Q8 p0 = some r) :
  Tr Tryz.prog 188 #[.agg csp0.toArray] h fun v h' => ∃ (cs0 : List Value) (a1 : Option Addr) (n1 c1 : Nat), v = .tuple #[.agg cs0.toArray, .slice a1 n1 c1] ∧ Y0.R h' cs0 r.1 ∧ I1.R h' [.slice a1 n1 c1] r.2 ∧ Sub h h' := by
 obtain ⟨p0_0, p0_1, ap0_2, np0_2, cp0_2, p0_2, rfl, rfl, ip0_0, ip0_1, rp0_2⟩ := B0 rp0
 obtain ⟨rfl, lp0_2⟩ := Sl.len rp0_2
 unfold Q8 at hM0
 dsimp only at hM0
 refine U2 (args := [.agg #[.int .i64 p0_0, .int .i64 p0_1, .slice ap0_2 p0_2.length cp0_2]]) (fn := Tryz.f188) rfl ?_
 obtain ⟨x1, gx1, hM0⟩ := j0 hM0
 refine Tr.mono (P3 _ [.int .i64 p0_0, .int .i64 p0_1, .slice ap0_2 p0_2.length cp0_2] (p0_0, p0_1, p0_2) (z0 ip0_0 ip0_1 rp0_2) _  gx1) ?_
 rintro v3 k2 ⟨csx1, rfl, rx1, sx1⟩
 obtain ⟨x1_0, x1_1, ax1_2, nx1_2, cx1_2, x1_2, rfl, rfl, ix1_0, ix1_1, rx1_2⟩ := B0 rx1
 obtain ⟨rfl, lx1_2⟩ := Sl.len rx1_2
 try dsimp only at hM0
 obtain ⟨X4, hLX4, hM0⟩ := j0 hM0
 refine Exists.intro { vars := [6], boxes := [], owns := [0], fuel := true } (Exists.intro (fun vs os h' => ∃ (u5 : Int) (wu6 : List (List Value)) (u6 : List Int), vs.tail = [.int .i64 u5] ∧ os = [wu6] ∧ Sub k2 h' ∧ F0 u5 ∧ F2 (Wp.int.R h') wu6 u6 ∧ j5 p0_1 p0_0 p0_2 (M1 vs) u5 u6 = some X4) (Exists.intro (fun _ _ => 0) ?_))
 refine And.intro (Exists.intro S0 ⟨0, [], ([] : O0), rfl, rfl, (Sub.refl _), (c64 (by decide) (by decide)), (show F2 (Wp.int.R k2) ([] : List (List Value)) ([] : O0) from trivial), hLX4⟩) ?_
 rintro v_0 wu6 m8 k7 ⟨u5, zzu6, u6, evX4, eoX4, sX4, iu5, fu6, hM1⟩
 cases evX4
 cases eoX4
 replace hM1 : j5 p0_1 p0_0 p0_2 m8 u5 u6 = some X4 := hM1
 obtain _ | m8 := m8
 ·cases (show (none : Option _) = some X4 from hM1)
 rw [j5.eq_2] at hM1
 obtain ⟨x9, gx9, hM1⟩ := j0 hM1
 refine Exists.intro (.bool x9) (And.intro (fun q => l5 _ [.int .i64 p0_0, .int .i64 p0_1, .slice ap0_2 p0_2.length cp0_2] (p0_0, p0_1, p0_2) (z0 ip0_0 ip0_1 (I0.mono (sx1.trans sX4) rp0_2)) _  (I2 gx9 q)) ?_)
 refine And.intro (fun hc10 => ?_) (fun hc10 => ?_)
 ·replace hM1 := ifP hM1 hc10
  obtain ⟨q11, gq11, hM1⟩ := j0 hM1
  refine And.intro (E2 gq11 (by first | rw [F2.length fu6, F2.length (show F2 (Wp.int.R k7) ([[.int .i64 u5]] : List (List Value)) [u5] from ⟨⟨rfl, iu5⟩, trivial⟩)] | exact congrArg (· + 1) (F2.length fu6))) ?_
  refine And.intro rfl (And.intro (by repeat (first | exact trivial | refine And.intro rfl ?_)) (And.intro (by repeat (first | exact trivial | refine And.intro rfl ?_)) (Exists.intro m8 (And.intro ⟨(IntKind.i64.wrap (u5 + 1)), (wu6 ++ ([[.int .i64 u5]] : List (List Value))), (u6 ++ [u5]), rfl, rfl, sX4, (H0 _), (F2.append fu6 (show F2 (Wp.int.R k7) ([[.int .i64 u5]] : List (List Value)) [u5] from ⟨⟨rfl, iu5⟩, trivial⟩)), hM1⟩ (Nat.lt_succ_self _)))))
 ·replace hM1 := ifN hM1 hc10
  have hE := Option.some.inj hM1; subst hE
  try dsimp only [T0, U0] at hM0
  obtain ⟨X16, hLX16, hM0⟩ := j0 hM0
  refine Exists.intro { vars := [5, 7], boxes := [2], owns := [], fuel := true, pubs := [5] } (Exists.intro (fun vs os h' => ∃ (au17 : Option Addr) (nu17 cu17 : Nat) (u17 : O0) (u18 : Int) (u19 : Int) (u20 : Int) (au21 : Option Addr) (nu21 cu21 : Nat) (u21 : J0), vs.tail = [.slice au17 nu17 cu17, .int .i64 u18, .int .i64 u19, .int .i64 u20, .slice au21 nu21 cu21] ∧ os = [] ∧ Sub k7 h' ∧ I1.R h' [.slice au17 nu17 cu17] u17 ∧ F0 u18 ∧ F0 u19 ∧ F0 u20 ∧ I0.R h' [.slice au21 nu21 cu21] u21 ∧ i5 p0_0 p0_1 p0_2 (M1 vs) u17 u18 u19 u20 u21 = some X16) (Exists.intro (fun _ _ => 0) ?_))
  intro v12 k13 f14
  obtain ⟨az15, cz15, rfl, rz15, sz15, lz15⟩ := Z0.out (r := Wp.int.toRp) f14 fu6
  refine And.intro (Exists.intro S0 ⟨az15, u6.length, cz15, u6, 0, x1_0, x1_1, ax1_2, x1_2.length, cx1_2, x1_2, rfl, rfl, sz15, rz15, (c64 (by decide) (by decide)), ix1_0, ix1_1, (I0.mono (sX4.trans sz15) rx1_2), hLX16⟩) ?_
  rintro v_0 v_1 v_2 v_3 v_4 m23 k22 ⟨au17, nu17, cu17, u17, u18, u19, u20, au21, nu21, cu21, u21, evX16, eoX16, sX16, ru17, iu18, iu19, iu20, ru21, hM1⟩
  cases evX16
  cases eoX16
  replace hM1 : i5 p0_0 p0_1 p0_2 m23 u17 u18 u19 u20 u21 = some X16 := hM1
  obtain _ | m23 := m23
  ·cases (show (none : Option _) = some X16 from hM1)
  rw [i5.eq_2] at hM1
  obtain ⟨rfl, lu17⟩ := Sl.len ru17
  obtain ⟨rfl, lu21⟩ := Sl.len ru21
  obtain ⟨x24, gx24, hM1⟩ := j0 hM1
  refine Exists.intro (.bool x24) (And.intro (fun q => l5 _ [.int .i64 p0_0, .int .i64 p0_1, .slice ap0_2 p0_2.length cp0_2] (p0_0, p0_1, p0_2) (z0 ip0_0 ip0_1 (I0.mono ((sx1.trans sX4).trans sX16) rp0_2)) _  (I2 gx24 q)) ?_)
  refine And.intro (fun hc25 => ?_) (fun hc25 => ?_)
  ·replace hM1 := ifP hM1 hc25
   obtain ⟨x26, gx26, hM1⟩ := j0 hM1
   refine Tr.val (y0b _ [.int .i64 u19, .int .i64 u20, .slice au21 u21.length cu21] (u19, u20, u21) (z0 iu19 iu20 ru21) _  gx26) ?_
   obtain ⟨q27, gq27, hM1⟩ := j0 hM1
   have ix26 : F0 x26 := G2 gq27
   refine And.intro (fun hc28 => ?_) (fun hc28 => ?_)
   ·replace hM1 := ifP hM1 hc28
    have hE := Option.some.inj hM1; subst hE
    try dsimp only [n3, B3] at hM0
    have hE := Option.some.inj hM0; subst hE
    exact ⟨([.int .i64 u19, .int .i64 u20, .slice au21 u21.length cu21]), au17, u17.length, cu17, rfl, (z0 iu19 iu20 ru21), ru17, ((sx1.trans sX4).trans sX16)⟩
   ·replace hM1 := ifN hM1 hc28
    obtain ⟨X29, hLX29, hM1⟩ := j0 hM1
    refine Exists.intro { vars := [11], boxes := [], owns := [1, 2], fuel := true } (Exists.intro (fun vs os h' => ∃ (u30 : Int) (wu31 : List (List Value)) (u31 : List Int) (wu32 : List (List Value)) (u32 : List Int), vs.tail = [.int .i64 u30] ∧ os = [wu31, wu32] ∧ Sub k22 h' ∧ F0 u30 ∧ F2 (Wp.int.R h') wu31 u31 ∧ F2 (Wp.int.R h') wu32 u32 ∧ M4 u20 x26 u17 (M1 vs) u30 u31 u32 = some X29) (Exists.intro (fun _ _ => 0) ?_))
    refine And.intro (Exists.intro S0 ⟨0, [], ([] : O0), [], ([] : O0), rfl, rfl, (Sub.refl _), (c64 (by decide) (by decide)), (show F2 (Wp.int.R k22) ([] : List (List Value)) ([] : O0) from trivial), (show F2 (Wp.int.R k22) ([] : List (List Value)) ([] : O0) from trivial), hLX29⟩) ?_
    rintro v_0 wu31 wu32 m34 k33 ⟨u30, zzu31, u31, zzu32, u32, evX29, eoX29, sX29, iu30, fu31, fu32, hM2⟩
    cases evX29
    cases eoX29
    replace hM2 : M4 u20 x26 u17 m34 u30 u31 u32 = some X29 := hM2
    obtain _ | m34 := m34
    ·cases (show (none : Option _) = some X29 from hM2)
    rw [M4.eq_2] at hM2
    refine And.intro (fun hc35 => ?_) (fun hc35 => ?_)
    ·replace hM2 := ifP hM2 hc35
     refine And.intro (fun hc36 => ?_) (fun hc36 => ?_)
     ·replace hM2 := ifP hM2 hc36
      obtain ⟨q37, gq37, hM2⟩ := j0 hM2
      refine And.intro (E2 gq37 (by first | rw [F2.length fu31, F2.length (show F2 (Wp.int.R k33) ([[.int .i64 u30]] : List (List Value)) [u30] from ⟨⟨rfl, iu30⟩, trivial⟩)] | exact congrArg (· + 1) (F2.length fu31))) ?_
      obtain ⟨x38, gx38, hM2⟩ := j0 hM2
      obtain ⟨bx38, csx38, ex38, rx38⟩ := Sl.getI (r := Wp.int.toRp) (I1.mono sX29 ru17) gx38 (by decide)
      refine And.intro bx38 ?_
      obtain ⟨rfl, ix38⟩ := rx38
      refine Exists.intro _ (And.intro ex38 ?_)
      obtain ⟨q39, gq39, hM2⟩ := j0 hM2
      refine And.intro (E2 gq39 (by first | rw [F2.length fu32, F2.length (show F2 (Wp.int.R k33) ([[.int .i64 x38]] : List (List Value)) [x38] from ⟨⟨rfl, ix38⟩, trivial⟩)] | exact congrArg (· + 1) (F2.length fu32))) ?_
      refine And.intro rfl (And.intro (by repeat (first | exact trivial | refine And.intro rfl ?_)) (And.intro (by repeat (first | exact trivial | refine And.intro rfl ?_)) (Exists.intro m34 (And.intro ⟨(IntKind.i64.wrap (u30 + 1)), (wu31 ++ ([[.int .i64 u30]] : List (List Value))), (u31 ++ [u30]), (wu32 ++ ([[.int .i64 x38]] : List (List Value))), (u32 ++ [x38]), rfl, rfl, sX29, (H0 _), (F2.append fu31 (show F2 (Wp.int.R k33) ([[.int .i64 u30]] : List (List Value)) [u30] from ⟨⟨rfl, iu30⟩, trivial⟩)), (F2.append fu32 (show F2 (Wp.int.R k33) ([[.int .i64 x38]] : List (List Value)) [x38] from ⟨⟨rfl, ix38⟩, trivial⟩)), hM2⟩ (Nat.lt_succ_self _)))))
     ·replace hM2 := ifN hM2 hc36
      refine And.intro rfl (And.intro (by repeat (first | exact trivial | refine And.intro rfl ?_)) (And.intro (by repeat (first | exact trivial | refine And.intro rfl ?_)) (Exists.intro m34 (And.intro ⟨(IntKind.i64.wrap (u30 + 1)), wu31, u31, wu32, u32, rfl, rfl, sX29, (H0 _), fu31, fu32, hM2⟩ (Nat.lt_succ_self _)))))
    ·replace hM2 := ifN hM2 hc35
     have hE := Option.some.inj hM2; subst hE
     try dsimp only [T0, U0] at hM1
     refine Or.inl ?_
     intro v40 k41 f42
     obtain ⟨az43, cz43, rfl, rz43, sz43, lz43⟩ := Z0.out (r := Wp.int.toRp) f42 fu31
     obtain ⟨x44, gx44, hM1⟩ := j0 hM1
     refine Tr.mono (E01 _ [.int .i64 u19, .int .i64 u20, .slice au21 u21.length cu21] (u19, u20, u21) (z0 iu19 iu20 (I0.mono (sX29.trans sz43) ru21)) az43 u31.length cz43 u31 rz43 _  gx44) ?_
     rintro v46 k45 ⟨csx44_0, rfl, rx44_0, sx44⟩
     obtain ⟨x44_0, x44_1⟩ := x44
     dsimp only at hM1 rx44_0
     obtain ⟨x44_0_0, x44_0_1, ax44_0_2, nx44_0_2, cx44_0_2, x44_0_2, rfl, rfl, ix44_0_0, ix44_0_1, rx44_0_2⟩ := B0 rx44_0
     obtain ⟨rfl, lx44_0_2⟩ := Sl.len rx44_0_2
     try dsimp only at hM1
     intro v47 k48 f49
     obtain ⟨az50, cz50, rfl, rz50, sz50, lz50⟩ := Z0.out (r := Wp.int.toRp) f49 (F2.up (r := Wp.int.toRp) (sz43.trans sx44) fu32)
     refine And.intro rfl (And.intro (by repeat (first | exact trivial | refine And.intro rfl ?_)) (And.intro (by repeat (first | exact trivial | refine And.intro rfl ?_)) (Exists.intro m23 (And.intro ⟨az50, u32.length, cz50, u32, (IntKind.i64.wrap (u18 + 1)), x44_0_0, x44_0_1, ax44_0_2, x44_0_2.length, cx44_0_2, x44_0_2, rfl, rfl, ((((sX16.trans sX29).trans sz43).trans sx44).trans sz50), rz50, (H0 _), ix44_0_0, ix44_0_1, (I0.mono sz50 rx44_0_2), hM1⟩ (Nat.lt_succ_self _)))))
  ·replace hM1 := ifN hM1 hc25
   have hE := Option.some.inj hM1; subst hE
   try dsimp only [T0, U0] at hM0
   have hE := Option.some.inj hM0; subst hE
   exact ⟨([.int .i64 u19, .int .i64 u20, .slice au21 u21.length cu21]), au17, u17.length, cu17, rfl, (z0 iu19 iu20 ru21), ru17, ((sx1.trans sX4).trans sX16)⟩
theorem J08 (h : Hp) (csp0 : List Value) (p0 : l0) (rp0 : Y0.R h csp0 p0) (r : l0) (hM0 : T7 p0 = some r) :
  Tr Tryz.prog 129 #[.agg csp0.toArray] h fun v h' => ∃ (cs0 : List Value), v = .agg cs0.toArray ∧ Y0.R h' cs0 r ∧ Sub h h' := by
 obtain ⟨p0_0, p0_1, ap0_2, np0_2, cp0_2, p0_2, rfl, rfl, ip0_0, ip0_1, rp0_2⟩ := B0 rp0
 obtain ⟨rfl, lp0_2⟩ := Sl.len rp0_2
 unfold T7 at hM0
 dsimp only at hM0
 refine U2 (args := [.agg #[.int .i64 p0_0, .int .i64 p0_1, .slice ap0_2 p0_2.length cp0_2]]) (fn := Tryz.f129) rfl ?_
 obtain ⟨x1, gx1, hM0⟩ := j0 hM0
 refine Tr.mono (q02 _ [.int .i64 p0_0, .int .i64 p0_1, .slice ap0_2 p0_2.length cp0_2] (p0_0, p0_1, p0_2) (z0 ip0_0 ip0_1 rp0_2) _  gx1) ?_
 rintro v3 k2 ⟨csx1_0, ax1_1, nx1_1, cx1_1, rfl, rx1_0, rx1_1, sx1⟩
 obtain ⟨x1_0, x1_1⟩ := x1
 dsimp only at hM0 rx1_0 rx1_1
 obtain ⟨x1_0_0, x1_0_1, ax1_0_2, nx1_0_2, cx1_0_2, x1_0_2, rfl, rfl, ix1_0_0, ix1_0_1, rx1_0_2⟩ := B0 rx1_0
 obtain ⟨rfl, lx1_0_2⟩ := Sl.len rx1_0_2
 try dsimp only at hM0
 obtain ⟨rfl, lx1_1⟩ := Sl.len rx1_1
 obtain ⟨x4, gx4, hM0⟩ := j0 hM0
 refine Tr.mono (I08 _ [.int .i64 x1_0_0, .int .i64 x1_0_1, .slice ax1_0_2 x1_0_2.length cx1_0_2] (x1_0_0, x1_0_1, x1_0_2) (z0 ix1_0_0 ix1_0_1 rx1_0_2) _  gx4) ?_
 rintro v6 k5 ⟨csx4_0, ax4_1, nx4_1, cx4_1, rfl, rx4_0, rx4_1, sx4⟩
 obtain ⟨x4_0, x4_1⟩ := x4
 dsimp only at hM0 rx4_0 rx4_1
 obtain ⟨x4_0_0, x4_0_1, ax4_0_2, nx4_0_2, cx4_0_2, x4_0_2, rfl, rfl, ix4_0_0, ix4_0_1, rx4_0_2⟩ := B0 rx4_0
 obtain ⟨rfl, lx4_0_2⟩ := Sl.len rx4_0_2
 try dsimp only at hM0
 obtain ⟨rfl, lx4_1⟩ := Sl.len rx4_1
 obtain ⟨x7, gx7, hM0⟩ := j0 hM0
 refine Tr.mono (o04 _ [.int .i64 x4_0_0, .int .i64 x4_0_1, .slice ax4_0_2 x4_0_2.length cx4_0_2] (x4_0_0, x4_0_1, x4_0_2) (z0 ix4_0_0 ix4_0_1 rx4_0_2) _  gx7) ?_
 rintro v9 k8 ⟨csx7, rfl, rx7, sx7⟩
 obtain ⟨x7_0, x7_1, ax7_2, nx7_2, cx7_2, x7_2, rfl, rfl, ix7_0, ix7_1, rx7_2⟩ := B0 rx7
 obtain ⟨rfl, lx7_2⟩ := Sl.len rx7_2
 try dsimp only at hM0
 have hE := Option.some.inj hM0; subst hE
 exact ⟨([.int .i64 x7_0, .int .i64 x7_1, .slice ax7_2 x7_2.length cx7_2]), rfl, (z0 ix7_0 ix7_1 rx7_2), ((sx1.trans sx4).trans sx7)⟩
end Go.Proofs.YtfdlgbfeceodeaaGreat
namespace Go.Proofs.YtfdlgbfeceodeaaGreat
open Go.H
set_option linter.unusedVariables false
set_option linter.unusedSimpArgs false
set_option maxRecDepth 10000
theorem d04 (h : Hp) (csp0 : List Value) (p0 : C0) (rp0 : D1.R h csp0 p0) (ap1 : Option Addr) (np1 cp1 : Nat) (p1 : j3) (rp1 : P4.R h [.slice ap1 np1 cp1] p1) (r : l0 × Bool) (hM0 : G6 p0 p1 = some r) :
  Tr Tryz.prog 65 #[.agg csp0.toArray, .slice ap1 np1 cp1] h fun v h' => ∃ (cs0 : List Value), v = .tuple #[.agg cs0.toArray, .bool r.2] ∧ Y0.R h' cs0 r.1 ∧ Sub h h' := by
 obtain ⟨p0_0, ap0_1, np0_1, cp0_1, p0_1, rfl, rfl, ip0_0, rp0_1⟩ := J1 rp0
 obtain ⟨rfl, lp0_1⟩ := Sl.len rp0_1
 obtain ⟨rfl, lp1⟩ := Sl.len rp1
 unfold G6 at hM0
 dsimp only at hM0
 refine U2 (args := [.agg #[.int .i64 p0_0, .slice ap0_1 p0_1.length cp0_1], .slice ap1 p1.length cp1]) (fn := Tryz.f65) rfl ?_
 obtain ⟨x1, gx1, hM0⟩ := j0 hM0
 refine Tr.mono (v09 _ p0_0 ip0_0 ap1 p1.length cp1 p1 rp1 _  gx1) ?_
 rintro v3 k2 ⟨csx1_0, rfl, rx1_0, sx1⟩
 obtain ⟨x1_0, x1_1⟩ := x1
 dsimp only at hM0 rx1_0
 obtain ⟨x1_0_0, x1_0_1, ax1_0_2, nx1_0_2, cx1_0_2, x1_0_2, rfl, rfl, ix1_0_0, ix1_0_1, rx1_0_2⟩ := B0 rx1_0
 obtain ⟨rfl, lx1_0_2⟩ := Sl.len rx1_0_2
 try dsimp only at hM0
 obtain ⟨x4, gx4, hM0⟩ := j0 hM0
 refine Exists.intro (.bool x4) (And.intro (fun q => J9 _ [.int .i64 p0_0, .slice ap0_1 p0_1.length cp0_1] (p0_0, p0_1) (L1 ip0_0 (P4.mono sx1 rp0_1)) _  (I2 gx4 q)) ?_)
 refine And.intro (fun hc5 => ?_) (fun hc5 => ?_)
 ·replace hM0 := ifP hM0 hc5
  have hE := Option.some.inj hM0; subst hE
  exact ⟨([.int .i64 0, .int .i64 0, .slice none 0 0]), rfl, (z0 (c64 (by decide) (by decide)) (c64 (by decide) (by decide)) (X0c Q0 k2)), sx1⟩
 ·replace hM0 := ifN hM0 hc5
  obtain ⟨x6, gx6, hM0⟩ := j0 hM0
  refine Tr.mono (q02 _ [.int .i64 x1_0_0, .int .i64 x1_0_1, .slice ax1_0_2 x1_0_2.length cx1_0_2] (x1_0_0, x1_0_1, x1_0_2) (z0 ix1_0_0 ix1_0_1 rx1_0_2) _  gx6) ?_
  rintro v8 k7 ⟨csx6_0, ax6_1, nx6_1, cx6_1, rfl, rx6_0, rx6_1, sx6⟩
  obtain ⟨x6_0, x6_1⟩ := x6
  dsimp only at hM0 rx6_0 rx6_1
  obtain ⟨x6_0_0, x6_0_1, ax6_0_2, nx6_0_2, cx6_0_2, x6_0_2, rfl, rfl, ix6_0_0, ix6_0_1, rx6_0_2⟩ := B0 rx6_0
  obtain ⟨rfl, lx6_0_2⟩ := Sl.len rx6_0_2
  try dsimp only at hM0
  obtain ⟨rfl, lx6_1⟩ := Sl.len rx6_1
  obtain ⟨X9, hLX9, hM0⟩ := j0 hM0
  refine Exists.intro { vars := [10], boxes := [3], owns := [], fuel := true } (Exists.intro (fun vs os h' => ∃ (u10 : Int) (u11 : Int) (u12 : Int) (au13 : Option Addr) (nu13 cu13 : Nat) (u13 : J0), vs.tail = [.int .i64 u10, .int .i64 u11, .int .i64 u12, .slice au13 nu13 cu13] ∧ os = [] ∧ Sub k7 h' ∧ F0 u10 ∧ F0 u11 ∧ F0 u12 ∧ I0.R h' [.slice au13 nu13 cu13] u13 ∧ N2 p0_0 p0_1 (M1 vs) u10 u11 u12 u13 = some X9) (Exists.intro (fun _ _ => 0) ?_))
  refine And.intro (Exists.intro S0 ⟨0, x6_0_0, x6_0_1, ax6_0_2, x6_0_2.length, cx6_0_2, x6_0_2, rfl, rfl, (Sub.refl _), (c64 (by decide) (by decide)), ix6_0_0, ix6_0_1, rx6_0_2, hLX9⟩) ?_
  rintro v_0 v_1 v_2 v_3 m15 k14 ⟨u10, u11, u12, au13, nu13, cu13, u13, evX9, eoX9, sX9, iu10, iu11, iu12, ru13, hM1⟩
  cases evX9
  cases eoX9
  replace hM1 : N2 p0_0 p0_1 m15 u10 u11 u12 u13 = some X9 := hM1
  obtain _ | m15 := m15
  ·cases (show (none : Option _) = some X9 from hM1)
  rw [N2.eq_2] at hM1
  obtain ⟨rfl, lu13⟩ := Sl.len ru13
  refine And.intro (fun hc16 => ?_) (fun hc16 => ?_)
  ·replace hM1 := ifP hM1 hc16
   obtain ⟨x17, gx17, hM1⟩ := j0 hM1
   refine Tr.mono (A06 _ [.int .i64 p0_0, .slice ap0_1 p0_1.length cp0_1] (p0_0, p0_1) (L1 ip0_0 (P4.mono ((sx1.trans sx6).trans sX9) rp0_1)) [.int .i64 u11, .int .i64 u12, .slice au13 u13.length cu13] (u11, u12, u13) (z0 iu11 iu12 ru13) _  gx17) ?_
   rintro v19 k18 ⟨csx17_0, rfl, rx17_0, sx17⟩
   obtain ⟨x17_0, x17_1, x17_2⟩ := x17
   dsimp only at hM1 rx17_0
   obtain ⟨x17_0_0, x17_0_1, ax17_0_2, nx17_0_2, cx17_0_2, x17_0_2, rfl, rfl, ix17_0_0, ix17_0_1, rx17_0_2⟩ := B0 rx17_0
   obtain ⟨rfl, lx17_0_2⟩ := Sl.len rx17_0_2
   try dsimp only at hM1
   refine And.intro (fun hc20 => ?_) (fun hc20 => ?_)
   ·replace hM1 := ifP hM1 hc20
    have hE := Option.some.inj hM1; subst hE
    try dsimp only [n3, B3] at hM0
    have hE := Option.some.inj hM0; subst hE
    exact ⟨([.int .i64 0, .int .i64 0, .slice none 0 0]), rfl, (z0 (c64 (by decide) (by decide)) (c64 (by decide) (by decide)) (X0c Q0 k18)), (((sx1.trans sx6).trans sX9).trans sx17)⟩
   ·replace hM1 := ifN hM1 hc20
    refine And.intro (fun hc21 => ?_) (fun hc21 => ?_)
    ·replace hM1 := ifP hM1 hc21
     obtain ⟨x22, gx22, hM1⟩ := j0 hM1
     refine Tr.mono (J08 _ [.int .i64 x17_0_0, .int .i64 x17_0_1, .slice ax17_0_2 x17_0_2.length cx17_0_2] (x17_0_0, x17_0_1, x17_0_2) (z0 ix17_0_0 ix17_0_1 rx17_0_2) _  gx22) ?_
     rintro v24 k23 ⟨csx22, rfl, rx22, sx22⟩
     obtain ⟨x22_0, x22_1, ax22_2, nx22_2, cx22_2, x22_2, rfl, rfl, ix22_0, ix22_1, rx22_2⟩ := B0 rx22
     obtain ⟨rfl, lx22_2⟩ := Sl.len rx22_2
     try dsimp only at hM1
     have hE := Option.some.inj hM1; subst hE
     try dsimp only [n3, B3] at hM0
     have hE := Option.some.inj hM0; subst hE
     exact ⟨([.int .i64 x22_0, .int .i64 x22_1, .slice ax22_2 x22_2.length cx22_2]), rfl, (z0 ix22_0 ix22_1 rx22_2), ((((sx1.trans sx6).trans sX9).trans sx17).trans sx22)⟩
    ·replace hM1 := ifN hM1 hc21
     refine And.intro rfl (And.intro (by repeat (first | exact trivial | refine And.intro rfl ?_)) (And.intro (by repeat (first | exact trivial | refine And.intro rfl ?_)) (Exists.intro m15 (And.intro ⟨(IntKind.i64.wrap (u10 + 1)), x17_0_0, x17_0_1, ax17_0_2, x17_0_2.length, cx17_0_2, x17_0_2, rfl, rfl, (sX9.trans sx17), (H0 _), ix17_0_0, ix17_0_1, rx17_0_2, hM1⟩ (Nat.lt_succ_self _)))))
  ·replace hM1 := ifN hM1 hc16
   have hE := Option.some.inj hM1; subst hE
   try dsimp only [T0, U0] at hM0
   have hE := Option.some.inj hM0; subst hE
   exact ⟨([.int .i64 0, .int .i64 0, .slice none 0 0]), rfl, (z0 (c64 (by decide) (by decide)) (c64 (by decide) (by decide)) (X0c Q0 k14)), ((sx1.trans sx6).trans sX9)⟩
theorem B06 (h : Hp) (csp0 : List Value) (p0 : C0) (rp0 : D1.R h csp0 p0) (ap1 : Option Addr) (np1 cp1 : Nat) (p1 : j3) (rp1 : P4.R h [.slice ap1 np1 cp1] p1) (r : Int) (hM0 : l8 p0 p1 = some r) :
  Tr Tryz.prog 57 #[.agg csp0.toArray, .slice ap1 np1 cp1] h fun v h' => v = .int .i64 r ∧ h' = h := by
 obtain ⟨p0_0, ap0_1, np0_1, cp0_1, p0_1, rfl, rfl, ip0_0, rp0_1⟩ := J1 rp0
 obtain ⟨rfl, lp0_1⟩ := Sl.len rp0_1
 obtain ⟨rfl, lp1⟩ := Sl.len rp1
 unfold l8 at hM0
 dsimp only at hM0
 refine Tr.forget (U2 (args := [.agg #[.int .i64 p0_0, .slice ap0_1 p0_1.length cp0_1], .slice ap1 p1.length cp1]) (fn := Tryz.f57) rfl ?_)
 obtain ⟨x1, gx1, hM0⟩ := j0 hM0
 refine Tr.mono (d04 _ [.int .i64 p0_0, .slice ap0_1 p0_1.length cp0_1] (p0_0, p0_1) (L1 ip0_0 rp0_1) ap1 p1.length cp1 p1 rp1 _  gx1) ?_
 rintro v3 k2 ⟨csx1_0, rfl, rx1_0, sx1⟩
 obtain ⟨x1_0, x1_1⟩ := x1
 dsimp only at hM0 rx1_0
 obtain ⟨x1_0_0, x1_0_1, ax1_0_2, nx1_0_2, cx1_0_2, x1_0_2, rfl, rfl, ix1_0_0, ix1_0_1, rx1_0_2⟩ := B0 rx1_0
 obtain ⟨rfl, lx1_0_2⟩ := Sl.len rx1_0_2
 try dsimp only at hM0
 refine And.intro (fun hc4 => ?_) (fun hc4 => ?_)
 ·replace hM0 := ifP hM0 hc4
  have hE := Option.some.inj hM0; subst hE
  exact And.intro rfl sx1
 ·replace hM0 := ifN hM0 hc4
  have hE := Option.some.inj hM0; subst hE
  exact And.intro rfl sx1
theorem C06 (h : Hp) (csp0 : List Value) (p0 : C0) (rp0 : D1.R h csp0 p0) (r : Int) (hM0 : Y8 p0 = some r) :
  Tr Tryz.prog 60 #[.agg csp0.toArray] h fun v h' => v = .int .i64 r ∧ h' = h := by
 obtain ⟨p0_0, ap0_1, np0_1, cp0_1, p0_1, rfl, rfl, ip0_0, rp0_1⟩ := J1 rp0
 obtain ⟨rfl, lp0_1⟩ := Sl.len rp0_1
 unfold Y8 at hM0
 dsimp only at hM0
 refine Tr.forget (U2 (args := [.agg #[.int .i64 p0_0, .slice ap0_1 p0_1.length cp0_1]]) (fn := Tryz.f60) rfl ?_)
 refine Or.inr ?_
 intro v1 k2 f3
 obtain ⟨az4, cz4, rfl, rz4, sz4, lz4⟩ := Z0.out (r := I1.toRp) f3 (show F2 (I1.R h) ([] : List (List Value)) ([] : j3) from trivial)
 obtain ⟨x5, gx5, hM0⟩ := j0 hM0
 refine Tr.val (B06 _ [.int .i64 p0_0, .slice ap0_1 p0_1.length cp0_1] (p0_0, p0_1) (L1 ip0_0 (P4.mono sz4 rp0_1)) az4 (([] : j3)).length cz4 ([] : j3) rz4 _  gx5) (And.intro rfl ?_)
 obtain ⟨q6, gq6, hM0⟩ := j0 hM0
 have ix5 : F0 x5 := G2 gq6
 have hE := Option.some.inj hM0; subst hE
 exact And.intro rfl (Sub.refl _)
end Go.Proofs.YtfdlgbfeceodeaaGreat
namespace Go.Proofs.YtfdlgbfeceodeaaGreat
open Go.H
set_option linter.unusedVariables false
set_option linter.unusedSimpArgs false
set_option maxRecDepth 10000
theorem E3 (h : Hp) (csp0 : List Value) (p0 : l0) (rp0 : Y0.R h csp0 p0) (r : l0) (hM0 : V1 p0 = some r) :
  Tr Tryz.prog 84 #[.agg csp0.toArray] h fun v h' => ∃ (g0 : Nat) (n0 c0 : Nat), v = .agg ([.int .i64 r.1, .int .i64 r.2.1, .slice (some ⟨g0, 0, none⟩) n0 c0] : List Value).toArray ∧ New Y0 h h' [.int .i64 r.1, .int .i64 r.2.1, .slice (some ⟨g0, 0, none⟩) n0 c0] r := by
 obtain ⟨p0_0, p0_1, ap0_2, np0_2, cp0_2, p0_2, rfl, rfl, ip0_0, ip0_1, rp0_2⟩ := B0 rp0
 obtain ⟨rfl, lp0_2⟩ := Sl.len rp0_2
 unfold V1 at hM0
 dsimp only at hM0
 refine U2 (args := [.agg #[.int .i64 p0_0, .int .i64 p0_1, .slice ap0_2 p0_2.length cp0_2]]) (fn := Tryz.f84) rfl ?_
 refine Or.inr (Or.inr (Or.inl (And.intro (And.intro (by kernel_rfl) (by kernel_rfl)) ?_)))
 refine Or.inr ?_
 refine Or.inr ?_
 refine Or.inr ?_
 refine Or.inr ?_
 refine Exists.intro 0 (And.intro (And.intro rfl rfl) ?_)
 refine And.intro trivial (And.intro (by first | exact trivial | exact rfl) ?_)
 obtain ⟨vsy1, ey1, fy1⟩ := Sl.rows (r := Q0.toRp) rp0_2
 refine Exists.intro vsy1 (And.intro ey1 ?_)
 obtain ⟨q2, gq2, hM0⟩ := j0 hM0
 refine And.intro (E2 gq2 (by first | rw [F2.length (show F2 (Q0.R h) ([] : List (List Value)) ([] : J0) from trivial), F2.length fy1] | exact congrArg (· + 1) (F2.length (show F2 (Q0.R h) ([] : List (List Value)) ([] : J0) from trivial)))) ?_
 refine And.intro trivial (And.intro (by first | exact trivial | exact rfl) ?_)
 refine And.intro trivial (And.intro (by first | exact trivial | exact rfl) ?_)
 refine And.intro trivial (And.intro (by first | exact trivial | exact rfl) ?_)
 intro v3 k4 f5
 obtain ⟨gz6, cz6, rfl, rz6, sz6, lz6⟩ := Z0.outS (r := Q0.toRp) f5 (F2.append (show F2 (Q0.R h) ([] : List (List Value)) ([] : J0) from trivial) fy1)
 have hE := Option.some.inj hM0; subst hE
 exact ⟨gz6, ((([] : J0) ++ p0_2)).length, cz6, rfl, (New.pair (New.int ip0_0) (New.pair (New.int ip0_1) (Z0.newPlain (r := Q0) f5 (F2.append (show F2 (Q0.R h) ([] : List (List Value)) ([] : J0) from trivial) fy1) (F08 _))))⟩
theorem x09 (h : Hp) (csp0 : List Value) (p0 : l0) (rp0 : Y0.R h csp0 p0) (p1 : Int) (ip1 : F0 p1) (r : Int) (hM0 : g9 p0 p1 = some r) :
  Tr Tryz.prog 194 #[.agg csp0.toArray, .int .i64 p1] h fun v h' => v = .int .i64 r ∧ h' = h := by
 obtain ⟨p0_0, p0_1, ap0_2, np0_2, cp0_2, p0_2, rfl, rfl, ip0_0, ip0_1, rp0_2⟩ := B0 rp0
 obtain ⟨rfl, lp0_2⟩ := Sl.len rp0_2
 unfold g9 at hM0
 dsimp only at hM0
 refine Tr.forget (U2 (args := [.agg #[.int .i64 p0_0, .int .i64 p0_1, .slice ap0_2 p0_2.length cp0_2], .int .i64 p1]) (fn := Tryz.f194) rfl ?_)
 obtain ⟨X1, hLX1, hM0⟩ := j0 hM0
 refine Exists.intro { vars := [5, 11], boxes := [], owns := [], fuel := true } (Exists.intro (fun vs os h' => ∃ (u2 : Int) (u3 : Int), vs.tail = [.int .i64 u2, .int .i64 u3] ∧ os = [] ∧ Sub h h' ∧ F0 u2 ∧ F0 u3 ∧ G4 p0_2 p1 (M1 vs) u2 u3 = some X1) (Exists.intro (fun _ _ => 0) ?_))
 refine And.intro (Exists.intro S0 ⟨0, 0, rfl, rfl, (Sub.refl _), (c64 (by decide) (by decide)), (c64 (by decide) (by decide)), hLX1⟩) ?_
 rintro v_0 v_1 m5 k4 ⟨u2, u3, evX1, eoX1, sX1, iu2, iu3, hM1⟩
 cases evX1
 cases eoX1
 replace hM1 : G4 p0_2 p1 m5 u2 u3 = some X1 := hM1
 obtain _ | m5 := m5
 ·cases (show (none : Option _) = some X1 from hM1)
 rw [G4.eq_2] at hM1
 refine And.intro (fun hc6 => ?_) (fun hc6 => ?_)
 ·replace hM1 := ifP hM1 hc6
  obtain ⟨x7, gx7, hM1⟩ := j0 hM1
  obtain ⟨bx7, csx7, ex7, rx7⟩ := Sl.getI (r := Q0.toRp) (I0.mono sX1 rp0_2) gx7 (by decide)
  refine And.intro bx7 ?_
  obtain ⟨x7_0, x7_1, x7_2, rfl, rfl, ix7_0, ix7_1, ix7_2⟩ := j1 rx7
  try dsimp only at hM1
  refine Exists.intro _ (And.intro ex7 ?_)
  refine And.intro (fun hc8 => ?_) (fun hc8 => ?_)
  ·replace hM1 := ifP hM1 hc8
   refine And.intro (fun hc9 => ?_) (fun hc9 => ?_)
   ·replace hM1 := ifP hM1 hc9
    refine And.intro rfl (And.intro (by repeat (first | exact trivial | refine And.intro rfl ?_)) (And.intro (by repeat (first | exact trivial | refine And.intro rfl ?_)) (Exists.intro m5 (And.intro ⟨(IntKind.i64.wrap ((IntKind.i64.wrap (u2 + 1)) + 1)), (IntKind.i64.wrap (u3 + 1)), rfl, rfl, sX1, (H0 _), (H0 _), hM1⟩ (Nat.lt_succ_self _)))))
   ·replace hM1 := ifN hM1 hc9
    refine And.intro rfl (And.intro (by repeat (first | exact trivial | refine And.intro rfl ?_)) (And.intro (by repeat (first | exact trivial | refine And.intro rfl ?_)) (Exists.intro m5 (And.intro ⟨(IntKind.i64.wrap (u2 + 1)), (IntKind.i64.wrap (u3 + 1)), rfl, rfl, sX1, (H0 _), (H0 _), hM1⟩ (Nat.lt_succ_self _)))))
  ·replace hM1 := ifN hM1 hc8
   refine And.intro (fun hc10 => ?_) (fun hc10 => ?_)
   ·replace hM1 := ifP hM1 hc10
    refine And.intro rfl (And.intro (by repeat (first | exact trivial | refine And.intro rfl ?_)) (And.intro (by repeat (first | exact trivial | refine And.intro rfl ?_)) (Exists.intro m5 (And.intro ⟨(IntKind.i64.wrap (u2 + 1)), (IntKind.i64.wrap (u3 + 1)), rfl, rfl, sX1, (H0 _), (H0 _), hM1⟩ (Nat.lt_succ_self _)))))
   ·replace hM1 := ifN hM1 hc10
    refine And.intro rfl (And.intro (by repeat (first | exact trivial | refine And.intro rfl ?_)) (And.intro (by repeat (first | exact trivial | refine And.intro rfl ?_)) (Exists.intro m5 (And.intro ⟨u2, (IntKind.i64.wrap (u3 + 1)), rfl, rfl, sX1, iu2, (H0 _), hM1⟩ (Nat.lt_succ_self _)))))
 ·replace hM1 := ifN hM1 hc6
  have hE := Option.some.inj hM1; subst hE
  try dsimp only [T0, U0] at hM0
  have hE := Option.some.inj hM0; subst hE
  exact And.intro rfl sX1
theorem F05 (h : Hp) (csp0 : List Value) (p0 : l0) (rp0 : Y0.R h csp0 p0) (p1 : Int) (ip1 : F0 p1) (r : (List Bool)) (hM0 : J7 p0 p1 = some r) :
  Tr Tryz.prog 193 #[.agg csp0.toArray, .int .i64 p1] h fun v h' => ∃ (a0 : Option Addr) (n0 c0 : Nat), v = .slice a0 n0 c0 ∧ (Wp.slice Wp.bool).R h' [.slice a0 n0 c0] r ∧ Sub h h' := by
 obtain ⟨p0_0, p0_1, ap0_2, np0_2, cp0_2, p0_2, rfl, rfl, ip0_0, ip0_1, rp0_2⟩ := B0 rp0
 obtain ⟨rfl, lp0_2⟩ := Sl.len rp0_2
 unfold J7 at hM0
 dsimp only at hM0
 refine U2 (args := [.agg #[.int .i64 p0_0, .int .i64 p0_1, .slice ap0_2 p0_2.length cp0_2], .int .i64 p1]) (fn := Tryz.f193) rfl ?_
 obtain ⟨q1, gq1, hM0⟩ := j0 hM0
 refine And.intro (G2 gq1) ?_
 obtain ⟨x2, gx2, hM0⟩ := j0 hM0
 obtain ⟨bx2, csx2, ex2, rx2⟩ := s6 (F2.rep (p := Wp.bool.R h) (a := [.bool false]) (b := false) rfl (p0_1.toNat)) gx2
 refine And.intro bx2 ?_
 obtain rfl := rx2
 refine Exists.intro _ (And.intro ex2 ?_)
 obtain ⟨X3, hLX3, hM0⟩ := j0 hM0
 refine Exists.intro { vars := [6], boxes := [], owns := [0], fuel := true, kept := [0] } (Exists.intro (fun vs os h' => ∃ (u4 : Bool) (wu5 : List (List Value)) (u5 : List Bool), vs.tail = [.bool u4] ∧ os = [wu5] ∧ Sub h h' ∧ F2 (Wp.bool.R h') wu5 u5 ∧ j4 p0_2 (M1 vs) u4 u5 = some X3) (Exists.intro (fun _ _ => 0) ?_))
 refine And.intro (Exists.intro S0 ⟨true, ((List.replicate p0_1.toNat ([.bool false] : List Value)).set p1.toNat [.bool true]), ((List.replicate p0_1.toNat (false : Bool)).set p1.toNat true), rfl, rfl, (Sub.refl _), (F2.set (p := Wp.bool.R h) (a := [.bool true]) (b := true) rfl p1.toNat (F2.rep (p := Wp.bool.R h) (a := [.bool false]) (b := false) rfl (p0_1.toNat))), hLX3⟩) ?_
 rintro v_0 wu5 m7 k6 ⟨u4, zzu5, u5, evX3, eoX3, sX3, fu5, hM1⟩
 cases evX3
 cases eoX3
 replace hM1 : j4 p0_2 m7 u4 u5 = some X3 := hM1
 obtain _ | m7 := m7
 ·cases (show (none : Option _) = some X3 from hM1)
 rw [j4.eq_2] at hM1
 refine And.intro (fun hc8 => ?_) (fun hc8 => ?_)
 ·replace hM1 := ifP hM1 hc8
  obtain ⟨X9, hLX9, hM1⟩ := j0 hM1
  refine Exists.intro { vars := [6, 19], boxes := [], owns := [0], fuel := true, kept := [0] } (Exists.intro (fun vs os h' => ∃ (u10 : Bool) (u11 : Int) (wu12 : List (List Value)) (u12 : List Bool), vs.tail = [.bool u10, .int .i64 u11] ∧ os = [wu12] ∧ Sub k6 h' ∧ F0 u11 ∧ F2 (Wp.bool.R h') wu12 u12 ∧ L3 p0_2 (M1 vs) u10 u11 u12 = some X9) (Exists.intro (fun _ _ => 0) ?_))
  refine And.intro (Exists.intro S0 ⟨false, 0, wu5, u5, rfl, rfl, (Sub.refl _), (c64 (by decide) (by decide)), fu5, hLX9⟩) ?_
  rintro v_0 v_1 wu12 m14 k13 ⟨u10, u11, zzu12, u12, evX9, eoX9, sX9, iu11, fu12, hM2⟩
  cases evX9
  cases eoX9
  replace hM2 : L3 p0_2 m14 u10 u11 u12 = some X9 := hM2
  obtain _ | m14 := m14
  ·cases (show (none : Option _) = some X9 from hM2)
  rw [L3.eq_2] at hM2
  refine And.intro (fun hc15 => ?_) (fun hc15 => ?_)
  ·replace hM2 := ifP hM2 hc15
   obtain ⟨x16, gx16, hM2⟩ := j0 hM2
   obtain ⟨bx16, csx16, ex16, rx16⟩ := Sl.getI (r := Q0.toRp) (I0.mono (sX3.trans sX9) rp0_2) gx16 (by decide)
   refine And.intro bx16 ?_
   obtain ⟨x16_0, x16_1, x16_2, rfl, rfl, ix16_0, ix16_1, ix16_2⟩ := j1 rx16
   try dsimp only at hM2
   refine Exists.intro _ (And.intro ex16 ?_)
   refine Or.inl (And.intro (And.intro (by kernel_rfl) (by kernel_rfl)) ?_)
   obtain ⟨x17, gx17, hM2⟩ := j0 hM2
   obtain ⟨bx17, csx17, ex17, rx17⟩ := s6 fu12 gx17
   refine And.intro bx17 ?_
   obtain rfl := rx17
   refine Exists.intro _ (And.intro ex17 ?_)
   obtain ⟨x18, gx18, hM2⟩ := j0 hM2
   obtain ⟨bx18, csx18, ex18, rx18⟩ := s6 fu12 gx18
   refine And.intro bx18 ?_
   obtain rfl := rx18
   refine Exists.intro _ (And.intro ex18 ?_)
   refine And.intro (fun hc19 => ?_) (fun hc19 => ?_)
   ·replace hM2 := ifP hM2 hc19
    obtain ⟨x20, gx20, hM2⟩ := j0 hM2
    obtain ⟨bx20, csx20, ex20, rx20⟩ := s6 fu12 gx20
    refine And.intro bx20 ?_
    obtain rfl := rx20
    refine Exists.intro _ (And.intro ex20 ?_)
    obtain ⟨x21, gx21, hM2⟩ := j0 hM2
    obtain ⟨bx21, csx21, ex21, rx21⟩ := s6 (F2.set (p := Wp.bool.R k13) (a := [.bool true]) (b := true) rfl x16_0.toNat fu12) gx21
    refine And.intro bx21 ?_
    obtain rfl := rx21
    refine Exists.intro _ (And.intro ex21 ?_)
    refine And.intro rfl (And.intro (by repeat (first | exact trivial | refine And.intro rfl ?_)) (And.intro (by repeat (first | exact trivial | refine And.intro rfl ?_)) (Exists.intro m14 (And.intro ⟨true, (IntKind.i64.wrap (u11 + 1)), ((wu12.set x16_0.toNat [.bool true]).set x16_2.toNat [.bool true]), ((u12.set x16_0.toNat true).set x16_2.toNat true), rfl, rfl, sX9, (H0 _), (F2.set (p := Wp.bool.R k13) (a := [.bool true]) (b := true) rfl x16_2.toNat (F2.set (p := Wp.bool.R k13) (a := [.bool true]) (b := true) rfl x16_0.toNat fu12)), hM2⟩ (Nat.lt_succ_self _)))))
   ·replace hM2 := ifN hM2 hc19
    refine And.intro rfl (And.intro (by repeat (first | exact trivial | refine And.intro rfl ?_)) (And.intro (by repeat (first | exact trivial | refine And.intro rfl ?_)) (Exists.intro m14 (And.intro ⟨u10, (IntKind.i64.wrap (u11 + 1)), wu12, u12, rfl, rfl, sX9, (H0 _), fu12, hM2⟩ (Nat.lt_succ_self _)))))
  ·replace hM2 := ifN hM2 hc15
   have hE := Option.some.inj hM2; subst hE
   try dsimp only [T0, U0] at hM1
   refine And.intro rfl (And.intro (by repeat (first | exact trivial | refine And.intro rfl ?_)) (And.intro (by repeat (first | exact trivial | refine And.intro rfl ?_)) (Exists.intro m7 (And.intro ⟨u10, wu12, u12, rfl, rfl, (sX3.trans sX9), fu12, hM1⟩ (Nat.lt_succ_self _)))))
 ·replace hM1 := ifN hM1 hc8
  have hE := Option.some.inj hM1; subst hE
  try dsimp only [T0, U0] at hM0
  intro v27 k28 f29
  obtain ⟨az30, cz30, rfl, rz30, sz30, lz30⟩ := Z0.out (r := Wp.bool.toRp) f29 fu5
  have hE := Option.some.inj hM0; subst hE
  exact ⟨az30, u5.length, cz30, rfl, rz30, (sX3.trans sz30)⟩
theorem i05 (h : Hp) (p0 : Int) (ip0 : F0 p0) (r : O0) (hM0 : c8 p0 = some r) :
  Tr Tryz.prog 156 #[.int .i64 p0] h fun v h' => ∃ (a0 : Option Addr) (n0 c0 : Nat), v = .slice a0 n0 c0 ∧ I1.R h' [.slice a0 n0 c0] r ∧ Sub h h' := by
 unfold c8 at hM0
 refine U2 (args := [.int .i64 p0]) (fn := Tryz.f156) rfl ?_
 obtain ⟨X1, hLX1, hM0⟩ := j0 hM0
 refine Exists.intro { vars := [4], boxes := [], owns := [0], fuel := true } (Exists.intro (fun vs os h' => ∃ (u2 : Int) (wu3 : List (List Value)) (u3 : List Int), vs.tail = [.int .i64 u2] ∧ os = [wu3] ∧ Sub h h' ∧ F0 u2 ∧ F2 (Wp.int.R h') wu3 u3 ∧ i6 p0 (M1 vs) u2 u3 = some X1) (Exists.intro (fun _ _ => 0) ?_))
 refine And.intro (Exists.intro S0 ⟨1, [], ([] : O0), rfl, rfl, (Sub.refl _), (c64 (by decide) (by decide)), (show F2 (Wp.int.R h) ([] : List (List Value)) ([] : O0) from trivial), hLX1⟩) ?_
 rintro v_0 wu3 m5 k4 ⟨u2, zzu3, u3, evX1, eoX1, sX1, iu2, fu3, hM1⟩
 cases evX1
 cases eoX1
 replace hM1 : i6 p0 m5 u2 u3 = some X1 := hM1
 obtain _ | m5 := m5
 ·cases (show (none : Option _) = some X1 from hM1)
 rw [i6.eq_2] at hM1
 refine And.intro (fun hc6 => ?_) (fun hc6 => ?_)
 ·replace hM1 := ifP hM1 hc6
  obtain ⟨q7, gq7, hM1⟩ := j0 hM1
  refine And.intro (E2 gq7 (by first | rw [F2.length fu3, F2.length (show F2 (Wp.int.R k4) ([[.int .i64 u2], [.int .i64 (IntKind.i64.wrap (0 - u2))]] : List (List Value)) [u2, (IntKind.i64.wrap (0 - u2))] from ⟨⟨rfl, iu2⟩, ⟨⟨rfl, (H0 _)⟩, trivial⟩⟩)] | exact congrArg (· + 2) (F2.length fu3))) ?_
  refine And.intro rfl (And.intro (by repeat (first | exact trivial | refine And.intro rfl ?_)) (And.intro (by repeat (first | exact trivial | refine And.intro rfl ?_)) (Exists.intro m5 (And.intro ⟨(IntKind.i64.wrap (u2 + 1)), (wu3 ++ ([[.int .i64 u2], [.int .i64 (IntKind.i64.wrap (0 - u2))]] : List (List Value))), (u3 ++ [u2, (IntKind.i64.wrap (0 - u2))]), rfl, rfl, sX1, (H0 _), (F2.append fu3 (show F2 (Wp.int.R k4) ([[.int .i64 u2], [.int .i64 (IntKind.i64.wrap (0 - u2))]] : List (List Value)) [u2, (IntKind.i64.wrap (0 - u2))] from ⟨⟨rfl, iu2⟩, ⟨⟨rfl, (H0 _)⟩, trivial⟩⟩)), hM1⟩ (Nat.lt_succ_self _)))))
 ·replace hM1 := ifN hM1 hc6
  have hE := Option.some.inj hM1; subst hE
  try dsimp only [T0, U0] at hM0
  intro v8 k9 f10
  obtain ⟨az11, cz11, rfl, rz11, sz11, lz11⟩ := Z0.out (r := Wp.int.toRp) f10 fu3
  have hE := Option.some.inj hM0; subst hE
  exact ⟨az11, u3.length, cz11, rfl, rz11, (sX1.trans sz11)⟩
theorem t01 (h : Hp) (ap0 : Option Addr) (np0 cp0 : Nat) (p0 : J0) (rp0 : I0.R h [.slice ap0 np0 cp0] p0) (r : J0) (hM0 : L7 p0 = some r) :
  Tr Tryz.prog 154 #[.slice ap0 np0 cp0] h fun v h' => ∃ (a0 : Option Addr) (n0 c0 : Nat), v = .slice a0 n0 c0 ∧ New I0 h h' [.slice a0 n0 c0] r := by
 obtain ⟨rfl, lp0⟩ := Sl.len rp0
 unfold L7 at hM0
 refine U2 (args := [.slice ap0 p0.length cp0]) (fn := Tryz.f154) rfl ?_
 obtain ⟨vsy1, ey1, fy1⟩ := Sl.rows (r := Q0.toRp) rp0
 refine Exists.intro vsy1 (And.intro ey1 ?_)
 obtain ⟨q2, gq2, hM0⟩ := j0 hM0
 refine And.intro (E2 gq2 (by first | rw [F2.length (show F2 (Q0.R h) ([] : List (List Value)) ([] : J0) from trivial), F2.length fy1] | exact congrArg (· + 1) (F2.length (show F2 (Q0.R h) ([] : List (List Value)) ([] : J0) from trivial)))) ?_
 refine Or.inl ?_
 intro v3 k4 f5
 obtain ⟨q6, gq6, hM0⟩ := j0 hM0
 refine Tr.mono (f0f _ f5 (F2.append (show F2 (Q0.R h) ([] : List (List Value)) ([] : J0) from trivial) fy1) (G2 gq6)) ?_
 rintro _ kz7 ⟨rfl, vsz7, fz7, qz7⟩
 obtain ⟨az7, cz7, rfl, rz7, sz7, lz7⟩ := Z0.out (r := Q0.toRp) fz7 qz7
 refine Tr.mono (g0f _ fz7 qz7) ?_
 rintro _ kz8 ⟨vsz8, fz8, qz8⟩
 obtain ⟨az8, cz8, rfl, rz8, sz8, lz8⟩ := Z0.out (r := Q0.toRp) fz8 qz8
 have hE := Option.some.inj hM0; subst hE
 exact ⟨az8, ((Z00 eqE (q03 K0 (([] : J0) ++ p0)))).length, cz8, rfl, (Z0.newPlain (r := Q0) fz8 qz8 (F08 _))⟩
theorem k09 (h : Hp) (csp0 : List Value) (p0 : l0) (rp0 : Y0.R h csp0 p0) (ap1 : Option Addr) (np1 cp1 : Nat) (p1 : O0) (rp1 : I1.R h [.slice ap1 np1 cp1] p1) (r : l0) (hM0 : G00 p0 p1 = some r) :
  Tr Tryz.prog 195 #[.agg csp0.toArray, .slice ap1 np1 cp1] h fun v h' => ∃ (cs0 : List Value), v = .agg cs0.toArray ∧ New Y0 h h' cs0 r := by
 obtain ⟨p0_0, p0_1, ap0_2, np0_2, cp0_2, p0_2, rfl, rfl, ip0_0, ip0_1, rp0_2⟩ := B0 rp0
 obtain ⟨rfl, lp0_2⟩ := Sl.len rp0_2
 obtain ⟨rfl, lp1⟩ := Sl.len rp1
 unfold G00 at hM0
 dsimp only at hM0
 refine U2 (args := [.agg #[.int .i64 p0_0, .int .i64 p0_1, .slice ap0_2 p0_2.length cp0_2], .slice ap1 p1.length cp1]) (fn := Tryz.f195) rfl ?_
 obtain ⟨q1, gq1, hM0⟩ := j0 hM0
 refine And.intro (G2 gq1) ?_
 obtain ⟨m2, gm2, hM0⟩ := j0 hM0
 obtain rfl : (List.replicate p0_1.toNat ([.int .i64 0] : List Value)).length = m2 := (F2.length (F2.rep (p := Wp.int.R h) (a := [.int .i64 0]) (b := 0) ⟨rfl, (c64 (by decide) (by decide))⟩ (p0_1.toNat))).trans (Option.some.inj gm2)
 obtain ⟨q3, gq3, hM0⟩ := j0 hM0
 obtain ⟨X4, hLX4, hM0⟩ := j0 hM0
 refine Exists.intro { vars := [17], boxes := [], owns := [0], fuel := true, kept := [0] } (Exists.intro (fun vs os h' => ∃ (u5 : Int) (wu6 : List (List Value)) (u6 : List Int), vs.tail = [.int .i64 u5] ∧ os = [wu6] ∧ Sub h h' ∧ F0 u5 ∧ F2 (Wp.int.R h') wu6 u6 ∧ N7 ((List.replicate p0_1.toNat ([.int .i64 0] : List Value))).length (M1 vs) u5 u6 = some X4) (Exists.intro (fun _ _ => 0) ?_))
 refine And.intro (Exists.intro S0 ⟨0, (List.replicate p0_1.toNat ([.int .i64 0] : List Value)), (List.replicate p0_1.toNat (0 : Int)), rfl, rfl, (Sub.refl _), (c64 (by decide) (by decide)), (F2.rep (p := Wp.int.R h) (a := [.int .i64 0]) (b := 0) ⟨rfl, (c64 (by decide) (by decide))⟩ (p0_1.toNat)), hLX4⟩) ?_
 rintro v_0 wu6 m8 k7 ⟨u5, zzu6, u6, evX4, eoX4, sX4, iu5, fu6, hM1⟩
 cases evX4
 cases eoX4
 replace hM1 : N7 ((List.replicate p0_1.toNat ([.int .i64 0] : List Value))).length m8 u5 u6 = some X4 := hM1
 obtain _ | m8 := m8
 ·cases (show (none : Option _) = some X4 from hM1)
 rw [N7.eq_2] at hM1
 refine And.intro (fun hc9 => ?_) (fun hc9 => ?_)
 ·replace hM1 := ifP hM1 hc9
  obtain ⟨x10, gx10, hM1⟩ := j0 hM1
  obtain ⟨bx10, csx10, ex10, rx10⟩ := s6 fu6 gx10
  refine And.intro bx10 ?_
  obtain ⟨rfl, ix10⟩ := rx10
  refine Exists.intro _ (And.intro ex10 ?_)
  refine And.intro rfl (And.intro (by repeat (first | exact trivial | refine And.intro rfl ?_)) (And.intro (by repeat (first | exact trivial | refine And.intro rfl ?_)) (Exists.intro m8 (And.intro ⟨(IntKind.i64.wrap (u5 + 1)), (wu6.set u5.toNat [.int .i64 (-1)]), (u6.set u5.toNat (-1)), rfl, rfl, sX4, (H0 _), (F2.set (p := Wp.int.R k7) (a := [.int .i64 (-1)]) (b := (-1)) ⟨rfl, (c64 (by decide) (by decide))⟩ u5.toNat fu6), hM1⟩ (Nat.lt_succ_self _)))))
 ·replace hM1 := ifN hM1 hc9
  have hE := Option.some.inj hM1; subst hE
  try dsimp only [T0, U0] at hM0
  obtain ⟨X11, hLX11, hM0⟩ := j0 hM0
  refine Exists.intro { vars := [26], boxes := [], owns := [0], fuel := true, kept := [0] } (Exists.intro (fun vs os h' => ∃ (u12 : Int) (wu13 : List (List Value)) (u13 : List Int), vs.tail = [.int .i64 u12] ∧ os = [wu13] ∧ Sub k7 h' ∧ F0 u12 ∧ F2 (Wp.int.R h') wu13 u13 ∧ M7 p1 (M1 vs) u12 u13 = some X11) (Exists.intro (fun _ _ => 0) ?_))
  refine And.intro (Exists.intro S0 ⟨0, wu6, u6, rfl, rfl, (Sub.refl _), (c64 (by decide) (by decide)), fu6, hLX11⟩) ?_
  rintro v_0 wu13 m15 k14 ⟨u12, zzu13, u13, evX11, eoX11, sX11, iu12, fu13, hM1⟩
  cases evX11
  cases eoX11
  replace hM1 : M7 p1 m15 u12 u13 = some X11 := hM1
  obtain _ | m15 := m15
  ·cases (show (none : Option _) = some X11 from hM1)
  rw [M7.eq_2] at hM1
  refine And.intro (fun hc16 => ?_) (fun hc16 => ?_)
  ·replace hM1 := ifP hM1 hc16
   obtain ⟨x17, gx17, hM1⟩ := j0 hM1
   obtain ⟨bx17, csx17, ex17, rx17⟩ := Sl.getI (r := Wp.int.toRp) (I1.mono (sX4.trans sX11) rp1) gx17 (by decide)
   refine And.intro bx17 ?_
   obtain ⟨rfl, ix17⟩ := rx17
   refine Exists.intro _ (And.intro ex17 ?_)
   obtain ⟨x18, gx18, hM1⟩ := j0 hM1
   obtain ⟨bx18, csx18, ex18, rx18⟩ := s6 fu13 gx18
   refine And.intro bx18 ?_
   obtain ⟨rfl, ix18⟩ := rx18
   refine Exists.intro _ (And.intro ex18 ?_)
   refine And.intro rfl (And.intro (by repeat (first | exact trivial | refine And.intro rfl ?_)) (And.intro (by repeat (first | exact trivial | refine And.intro rfl ?_)) (Exists.intro m15 (And.intro ⟨(IntKind.i64.wrap (u12 + 1)), (wu13.set x17.toNat [.int .i64 u12]), (u13.set x17.toNat u12), rfl, rfl, sX11, (H0 _), (F2.set (p := Wp.int.R k14) (a := [.int .i64 u12]) (b := u12) ⟨rfl, iu12⟩ x17.toNat fu13), hM1⟩ (Nat.lt_succ_self _)))))
  ·replace hM1 := ifN hM1 hc16
   have hE := Option.some.inj hM1; subst hE
   try dsimp only [T0, U0] at hM0
   obtain ⟨X19, hLX19, hM0⟩ := j0 hM0
   refine Exists.intro { vars := [44], boxes := [2], owns := [1], fuel := true, nilsB := [(2, 2, 116, 3, 24)] } (Exists.intro (fun vs os h' => ∃ (u20 : Int) (u21 : Int) (u22 : Int) (wu23 : List (List Value)) (u23 : List D0), vs.tail = [.int .i64 u20, .int .i64 u21, .int .i64 u22] ∧ os = [wu23] ∧ Sub k14 h' ∧ F0 u20 ∧ F0 u21 ∧ F0 u22 ∧ F2 (Q0.R h') wu23 u23 ∧ o7 p0_2 u13 (M1 vs) u20 u21 u22 u23 = some X19) (Exists.intro (fun _ _ => 0) ?_))
   refine And.intro (Exists.intro S0 ⟨0, p0_0, ((p1.length : Nat) : Int), [], ([] : J0), rfl, rfl, (Sub.refl _), (c64 (by decide) (by decide)), ip0_0, (j0k lp1), (show F2 (Q0.R k14) [] [] from trivial), hLX19⟩) ?_
   rintro v_0 v_1 v_2 wu23 m25 k24 ⟨u20, u21, u22, zzu23, u23, evX19, eoX19, sX19, iu20, iu21, iu22, fu23, hM1⟩
   cases evX19
   cases eoX19
   replace hM1 : o7 p0_2 u13 m25 u20 u21 u22 u23 = some X19 := hM1
   obtain _ | m25 := m25
   ·cases (show (none : Option _) = some X19 from hM1)
   rw [o7.eq_2] at hM1
   refine And.intro (fun hc26 => ?_) (fun hc26 => ?_)
   ·replace hM1 := ifP hM1 hc26
    obtain ⟨x27, gx27, hM1⟩ := j0 hM1
    obtain ⟨bx27, csx27, ex27, rx27⟩ := Sl.getI (r := Q0.toRp) (I0.mono ((sX4.trans sX11).trans sX19) rp0_2) gx27 (by decide)
    refine And.intro bx27 ?_
    obtain ⟨x27_0, x27_1, x27_2, rfl, rfl, ix27_0, ix27_1, ix27_2⟩ := j1 rx27
    try dsimp only at hM1
    refine Exists.intro _ (And.intro ex27 ?_)
    obtain ⟨x28, gx28, hM1⟩ := j0 hM1
    obtain ⟨bx28, csx28, ex28, rx28⟩ := s6 (F2.up (r := Wp.int.toRp) sX19 fu13) gx28
    refine And.intro bx28 ?_
    obtain ⟨rfl, ix28⟩ := rx28
    refine Exists.intro _ (And.intro ex28 ?_)
    obtain ⟨x29, gx29, hM1⟩ := j0 hM1
    obtain ⟨csx29, ex29, rx29⟩ := k07 (F2.up (r := Wp.int.toRp) sX19 fu13) gx29 (h04 k24)
    refine And.intro (fun q => (ex29 q).1) ?_
    obtain ⟨rfl, ix29⟩ := rx29
    refine Exists.intro _ (And.intro (fun q => (ex29 q).2) ?_)
    refine And.intro (fun hc30 => ?_) (fun hc30 => ?_)
    ·replace hM1 := ifP hM1 hc30
     refine Or.inr (Or.inr (Or.inl (And.intro (And.intro (by kernel_rfl) (by kernel_rfl)) ?_)))
     obtain ⟨x31, gx31, hM1⟩ := j0 hM1
     obtain ⟨bx31, csx31, ex31, rx31⟩ := s6 (F2.up (r := Wp.int.toRp) sX19 fu13) gx31
     obtain ⟨rfl, ix31⟩ := rx31
     refine Or.inl ?_
     apply Exists.intro
     refine And.intro ?_ ?_
     ·intro k32 s33
      exact And.intro bx31 (And.intro rfl (And.intro rfl rfl))
     refine Or.inl (Exists.intro (.val (.int .i64 x31)) (And.intro ?_ ?_))
     ·intro k34 s35
      exact Exists.intro _ (And.intro ex31 (And.intro rfl (And.intro rfl rfl)))
     obtain ⟨x36, gx36, hM1⟩ := j0 hM1
     obtain ⟨bx36, csx36, ex36, rx36⟩ := s6 (F2.up (r := Wp.int.toRp) sX19 fu13) gx36
     obtain ⟨rfl, ix36⟩ := rx36
     refine Or.inl ?_
     apply Exists.intro
     refine And.intro ?_ ?_
     ·intro k37 s38
      exact And.intro bx36 (And.intro rfl (And.intro rfl rfl))
     refine Or.inl (Exists.intro (.val (.int .i64 x36)) (And.intro ?_ ?_))
     ·intro k39 s40
      exact Exists.intro _ (And.intro ex36 (And.intro rfl (And.intro rfl rfl)))
     refine Or.inl (Exists.intro (.agg [.val (.int .i64 x31), .val (.int .i64 x27_1), .val (.int .i64 x36)]) (And.intro ?_ ?_))
     ·intro k41 s42
      exact And.intro rfl (And.intro rfl rfl)
     refine Or.inr ?_
     refine Or.inr ?_
     refine Or.inr ?_
     refine Exists.intro 0 (And.intro (And.intro rfl rfl) ?_)
     refine And.intro trivial (And.intro (by first | exact trivial | exact rfl) ?_)
     obtain ⟨q43, gq43, hM1⟩ := j0 hM1
     refine And.intro (E2 gq43 (by first | rw [F2.length fu23, F2.length (show F2 (Q0.R k24) ([[.int .i64 x31, .int .i64 x27_1, .int .i64 x36]] : List (List Value)) [(x31, x27_1, x36)] from ⟨(V0 ix31 ix27_1 ix36), trivial⟩)] | exact congrArg (· + 1) (F2.length fu23))) ?_
     refine And.intro trivial (And.intro (by first | exact trivial | exact rfl) ?_)
     refine And.intro trivial (And.intro (by first | exact trivial | exact rfl) ?_)
     refine And.intro rfl (And.intro (by repeat (first | exact trivial | refine And.intro rfl ?_)) (And.intro (by repeat (first | exact trivial | refine And.intro rfl ?_)) (Exists.intro m25 (And.intro ⟨(IntKind.i64.wrap (u20 + 1)), u21, u22, (wu23 ++ ([[.int .i64 x31, .int .i64 x27_1, .int .i64 x36]] : List (List Value))), (u23 ++ [(x31, x27_1, x36)]), rfl, rfl, sX19, (H0 _), iu21, iu22, (F2.append fu23 (show F2 (Q0.R k24) ([[.int .i64 x31, .int .i64 x27_1, .int .i64 x36]] : List (List Value)) [(x31, x27_1, x36)] from ⟨(V0 ix31 ix27_1 ix36), trivial⟩)), hM1⟩ (Nat.lt_succ_self _)))))
    ·replace hM1 := ifN hM1 hc30
     refine And.intro rfl (And.intro (by repeat (first | exact trivial | refine And.intro rfl ?_)) (And.intro (by repeat (first | exact trivial | refine And.intro rfl ?_)) (Exists.intro m25 (And.intro ⟨(IntKind.i64.wrap (u20 + 1)), u21, u22, wu23, u23, rfl, rfl, sX19, (H0 _), iu21, iu22, fu23, hM1⟩ (Nat.lt_succ_self _)))))
   ·replace hM1 := ifN hM1 hc26
    have hE := Option.some.inj hM1; subst hE
    try dsimp only [T0, U0] at hM0
    refine Or.inl ?_
    intro v44 k45 f46
    obtain ⟨az47, cz47, rfl, rz47, sz47, lz47⟩ := Z0.out (r := Q0.toRp) f46 fu23
    obtain ⟨x48, gx48, hM0⟩ := j0 hM0
    refine Tr.mono (t01 _ az47 u23.length cz47 u23 rz47 _  gx48) ?_
    rintro v50 k49 ⟨ax48, nx48, cx48, rfl, wx48⟩
    have sx48 : Sub k45 k49 := wx48.sub
    have rx48 := wx48.r
    obtain ⟨rfl, lx48⟩ := Sl.len rx48
    have hE := Option.some.inj hM0; subst hE
    exact ⟨([.int .i64 u21, .int .i64 u22, .slice ax48 x48.length cx48]), rfl, (New.pair (New.int iu21) (New.pair (New.int iu22) (New.from wx48 (((sX4.trans sX11).trans sX19).trans sz47))))⟩
end Go.Proofs.YtfdlgbfeceodeaaGreat
namespace Go.Proofs.YtfdlgbfeceodeaaGreat
open Go.H
set_option linter.unusedVariables false
set_option linter.unusedSimpArgs false
set_option maxRecDepth 10000
theorem y09 (h : Hp) (ap0 : Option Addr) (np0 cp0 : Nat) (p0 : O0) (rp0 : I1.R h [.slice ap0 np0 cp0] p0) (r : O0) (hM0 : i9 p0 = some r) :
  Tr Tryz.prog 164 #[.slice ap0 np0 cp0] h fun v h' => ∃ (g0 : Nat) (n0 c0 : Nat), v = .slice (some ⟨g0, 0, none⟩) n0 c0 ∧ New I1 h h' [.slice (some ⟨g0, 0, none⟩) n0 c0] r := by
 obtain ⟨rfl, lp0⟩ := Sl.len rp0
 unfold i9 at hM0
 refine U2 (args := [.slice ap0 p0.length cp0]) (fn := Tryz.f164) rfl ?_
 obtain ⟨vsy1, ey1, fy1⟩ := Sl.rows (r := Wp.int.toRp) rp0
 refine Exists.intro vsy1 (And.intro ey1 ?_)
 obtain ⟨q2, gq2, hM0⟩ := j0 hM0
 refine And.intro (E2 gq2 (by first | rw [F2.length (show F2 (Wp.int.R h) ([] : List (List Value)) ([] : O0) from trivial), F2.length fy1] | exact congrArg (· + 1) (F2.length (show F2 (Wp.int.R h) ([] : List (List Value)) ([] : O0) from trivial)))) ?_
 intro v3 k4 f5
 obtain ⟨gz6, cz6, rfl, rz6, sz6, lz6⟩ := Z0.outS (r := Wp.int.toRp) f5 (F2.append (show F2 (Wp.int.R h) ([] : List (List Value)) ([] : O0) from trivial) fy1)
 have hE := Option.some.inj hM0; subst hE
 exact ⟨gz6, ((([] : O0) ++ p0)).length, cz6, rfl, (Z0.newPlain (r := Wp.int) f5 (F2.append (show F2 (Wp.int.R h) ([] : List (List Value)) ([] : O0) from trivial) fy1) (J0g _))⟩
theorem N07 (h : Hp) (csp0 : List Value) (p0 : l0) (rp0 : Y0.R h csp0 p0) (p1 : Int) (ip1 : F0 p1) (r : O0 × j3) (hM0 : O9 p0 p1 = some r) :
  Tr Tryz.prog 212 #[.agg csp0.toArray, .int .i64 p1] h fun v h' => ∃ (a0 : Option Addr) (n0 c0 : Nat) (a1 : Option Addr) (n1 c1 : Nat), v = .tuple #[.slice a0 n0 c0, .slice a1 n1 c1] ∧ I1.R h' [.slice a0 n0 c0] r.1 ∧ P4.R h' [.slice a1 n1 c1] r.2 ∧ Sub h h' := by
 obtain ⟨p0_0, p0_1, ap0_2, np0_2, cp0_2, p0_2, rfl, rfl, ip0_0, ip0_1, rp0_2⟩ := B0 rp0
 obtain ⟨rfl, lp0_2⟩ := Sl.len rp0_2
 unfold O9 at hM0
 dsimp only at hM0
 refine U2 (args := [.agg #[.int .i64 p0_0, .int .i64 p0_1, .slice ap0_2 p0_2.length cp0_2], .int .i64 p1]) (fn := Tryz.f212) rfl ?_
 obtain ⟨q1, gq1, hM0⟩ := j0 hM0
 refine And.intro (G2 gq1) ?_
 obtain ⟨x2, gx2, hM0⟩ := j0 hM0
 obtain ⟨bx2, csx2, ex2, rx2⟩ := s6 (F2.rep (p := Wp.opt.R h) (a := [.slice none 0 0]) (b := none) (s0k h) (p0_1.toNat)) gx2
 refine And.intro bx2 ?_
 obtain ⟨ax2, nx2, cx2, rfl, ox2, qx2⟩ := rx2
 obtain ⟨rfl, lx2⟩ := Sl.len qx2
 intro v3 k4 f5
 obtain ⟨gz6, cz6, rfl, rz6, sz6, lz6⟩ := Z0.outS (r := Wp.int.toRp) f5 (show F2 (Wp.int.R h) ([] : List (List Value)) ([] : O0) from trivial)
 refine Exists.intro _ (And.intro ex2 ?_)
 obtain ⟨X7, hLX7, hM0⟩ := j0 hM0
 refine Exists.intro { vars := [8], boxes := [], owns := [0, 2], fuel := true, kept := [0] } (Exists.intro (fun vs os h' => ∃ (u8 : Int) (wu9 : List (List Value)) (u9 : List (Option O0)) (wu10 : List (List Value)) (u10 : List Int), vs.tail = [.int .i64 u8] ∧ os = [wu9, wu10] ∧ Sub k4 h' ∧ F0 u8 ∧ F2 (Wp.opt.R h') wu9 u9 ∧ F2 (Wp.int.R h') wu10 u10 ∧ C5 p0_0 p0_1 p0_2 (M1 vs) u8 u9 u10 = some X7) (Exists.intro (fun _ _ => 0) ?_))
 refine And.intro (Exists.intro S0 ⟨0, ((List.replicate p0_1.toNat ([.slice none 0 0] : List Value)).set p1.toNat [.slice (some ⟨gz6, 0, none⟩) (([] : O0)).length cz6]), ((List.replicate p0_1.toNat (none : Option O0)).set p1.toNat (some ([] : O0))), ([[.int .i64 p1]] : List (List Value)), [p1], rfl, rfl, (Sub.refl _), (c64 (by decide) (by decide)), (F2.set (p := Wp.opt.R k4) (a := [.slice (some ⟨gz6, 0, none⟩) (([] : O0)).length cz6]) (b := some ([] : O0)) (t0k rz6) p1.toNat (F2.up (r := Wp.opt.toRp) sz6 (F2.rep (p := Wp.opt.R h) (a := [.slice none 0 0]) (b := none) (s0k h) (p0_1.toNat)))), (show F2 (Wp.int.R k4) ([[.int .i64 p1]] : List (List Value)) [p1] from ⟨⟨rfl, ip1⟩, trivial⟩), hLX7⟩) ?_
 rintro v_0 wu9 wu10 m12 k11 ⟨u8, zzu9, u9, zzu10, u10, evX7, eoX7, sX7, iu8, fu9, fu10, hM1⟩
 cases evX7
 cases eoX7
 replace hM1 : C5 p0_0 p0_1 p0_2 m12 u8 u9 u10 = some X7 := hM1
 obtain _ | m12 := m12
 ·cases (show (none : Option _) = some X7 from hM1)
 rw [C5.eq_2] at hM1
 obtain ⟨m13, gm13, hM1⟩ := j0 hM1
 obtain rfl : wu10.length = m13 := (F2.length fu10).trans (Option.some.inj gm13)
 obtain ⟨q14, gq14, hM1⟩ := j0 hM1
 refine And.intro (fun hc15 => ?_) (fun hc15 => ?_)
 ·replace hM1 := ifP hM1 hc15
  obtain ⟨x16, gx16, hM1⟩ := j0 hM1
  obtain ⟨bx16, csx16, ex16, rx16⟩ := s6 fu10 gx16
  refine And.intro bx16 ?_
  obtain ⟨rfl, ix16⟩ := rx16
  refine Exists.intro _ (And.intro ex16 ?_)
  obtain ⟨x17, gx17, hM1⟩ := j0 hM1
  refine Tr.mono (i05 _ p0_0 ip0_0 _  gx17) ?_
  rintro v19 k18 ⟨ax17, nx17, cx17, rfl, rx17, sx17⟩
  obtain ⟨rfl, lx17⟩ := Sl.len rx17
  obtain ⟨X20, hLX20, hM1⟩ := j0 hM1
  refine Exists.intro { vars := [36], boxes := [], owns := [0, 2], fuel := true, kept := [0] } (Exists.intro (fun vs os h' => ∃ (u21 : Int) (wu22 : List (List Value)) (u22 : List (Option O0)) (wu23 : List (List Value)) (u23 : List Int), vs.tail = [.int .i64 u21] ∧ os = [wu22, wu23] ∧ Sub k18 h' ∧ F0 u21 ∧ F2 (Wp.opt.R h') wu22 u22 ∧ F2 (Wp.int.R h') wu23 u23 ∧ A4 x17 p0_0 p0_1 p0_2 x16 (M1 vs) u21 u22 u23 = some X20) (Exists.intro (fun _ _ => 0) ?_))
  refine And.intro (Exists.intro S0 ⟨0, wu9, u9, wu10, u10, rfl, rfl, (Sub.refl _), (c64 (by decide) (by decide)), (F2.up (r := Wp.opt.toRp) sx17 fu9), (F2.up (r := Wp.int.toRp) sx17 fu10), hLX20⟩) ?_
  rintro v_0 wu22 wu23 m25 k24 ⟨u21, zzu22, u22, zzu23, u23, evX20, eoX20, sX20, iu21, fu22, fu23, hM2⟩
  cases evX20
  cases eoX20
  replace hM2 : A4 x17 p0_0 p0_1 p0_2 x16 m25 u21 u22 u23 = some X20 := hM2
  obtain _ | m25 := m25
  ·cases (show (none : Option _) = some X20 from hM2)
  rw [A4.eq_2] at hM2
  refine And.intro (fun hc26 => ?_) (fun hc26 => ?_)
  ·replace hM2 := ifP hM2 hc26
   obtain ⟨x27, gx27, hM2⟩ := j0 hM2
   obtain ⟨bx27, csx27, ex27, rx27⟩ := Sl.getI (r := Wp.int.toRp) (I1.mono sX20 rx17) gx27 (by decide)
   refine And.intro bx27 ?_
   obtain ⟨rfl, ix27⟩ := rx27
   refine Exists.intro _ (And.intro ex27 ?_)
   obtain ⟨x28, gx28, hM2⟩ := j0 hM2
   refine Tr.val (V00 _ [.int .i64 p0_0, .int .i64 p0_1, .slice ap0_2 p0_2.length cp0_2] (p0_0, p0_1, p0_2) (z0 ip0_0 ip0_1 (I0.mono (((sz6.trans sX7).trans sx17).trans sX20) rp0_2)) x16 ix16 x27 ix27 _  gx28) ?_
   obtain ⟨q29, gq29, hM2⟩ := j0 hM2
   have ix28 : F0 x28 := G2 gq29
   obtain ⟨x30, gx30, hM2⟩ := j0 hM2
   obtain ⟨csx30, ex30, rx30⟩ := k07 fu22 gx30 (o0l k24)
   refine And.intro (fun q => (ex30 q).1) ?_
   obtain ⟨ax30, nx30, cx30, rfl, ox30, qx30⟩ := rx30
   obtain ⟨rfl, lx30⟩ := Sl.len qx30
   refine Exists.intro _ (And.intro (fun q => (ex30 q).2) ?_)
   refine Exists.intro (x30.isNone) (And.intro (fun _ => by rw [← ox30]; exact n0l _ _ _ rfl _ _ _) ?_)
   refine And.intro (fun hc31 => ?_) (fun hc31 => ?_)
   ·replace hM2 := ifP hM2 hc31
    obtain ⟨x32, gx32, hM2⟩ := j0 hM2
    obtain ⟨bx32, csx32, ex32, rx32⟩ := s6 fu22 gx32
    refine And.intro bx32 ?_
    obtain ⟨ax32, nx32, cx32, rfl, ox32, qx32⟩ := rx32
    obtain ⟨rfl, lx32⟩ := Sl.len qx32
    refine Exists.intro _ (And.intro ex32 ?_)
    obtain ⟨x33, gx33, hM2⟩ := j0 hM2
    refine Tr.mono (y09 _ ax32 (x32.getD []).length cx32 (x32.getD []) qx32 _  gx33) ?_
    rintro v35 k34 ⟨gx33, nx33, cx33, rfl, wx33⟩
    have sx33 : Sub k24 k34 := wx33.sub
    have rx33 := wx33.r
    obtain ⟨rfl, lx33⟩ := Sl.len rx33
    obtain ⟨q36, gq36, hM2⟩ := j0 hM2
    obtain ⟨vsz37, rxz37, lnz37, apz37⟩ := New.app wx33 (Sub.refl _)
    refine Exists.intro vsz37 (And.intro rxz37 (And.intro (E2 gq36 (by first | rw [lnz37, F2.length (show F2 (Wp.int.R k34) ([[.int .i64 x27]] : List (List Value)) [x27] from ⟨⟨rfl, ix27⟩, trivial⟩)] | (rw [lnz37]; rfl))) ?_))
    intro vz37 kz37 happz37
    obtain ⟨wz37, gz37, oz37, nz37, cz37, rfl⟩ := apz37 _ _ _ _ _ (F3.ofPlain (J0g _) (show F2 (Wp.int.R k34) ([[.int .i64 x27]] : List (List Value)) [x27] from ⟨⟨rfl, ix27⟩, trivial⟩)) g7.ofPlain happz37
    have rz37 := wz37.r
    obtain ⟨ez37, lz37⟩ := Sl.len rz37
    subst ez37
    obtain ⟨x38, gx38, hM2⟩ := j0 hM2
    obtain ⟨bx38, csx38, ex38, rx38⟩ := s6 (F2.up (r := Wp.opt.toRp) wz37.sub fu22) gx38
    refine And.intro bx38 ?_
    obtain ⟨ax38, nx38, cx38, rfl, ox38, qx38⟩ := rx38
    obtain ⟨rfl, lx38⟩ := Sl.len qx38
    refine Exists.intro _ (And.intro ex38 ?_)
    obtain ⟨q39, gq39, hM2⟩ := j0 hM2
    refine And.intro (E2 gq39 (by first | rw [F2.length (F2.up (r := Wp.int.toRp) wz37.sub fu23), F2.length (show F2 (Wp.int.R kz37) ([[.int .i64 x28]] : List (List Value)) [x28] from ⟨⟨rfl, ix28⟩, trivial⟩)] | exact congrArg (· + 1) (F2.length (F2.up (r := Wp.int.toRp) wz37.sub fu23)))) ?_
    refine And.intro rfl (And.intro (by repeat (first | exact trivial | refine And.intro rfl ?_)) (And.intro (by repeat (first | exact trivial | refine And.intro rfl ?_)) (Exists.intro m25 (And.intro ⟨(IntKind.i64.wrap (u21 + 1)), (wu22.set x28.toNat [.slice (some ⟨gz37, oz37, none⟩) (x33 ++ [x27]).length cz37]), (u22.set x28.toNat (some (x33 ++ [x27]))), (wu23 ++ ([[.int .i64 x28]] : List (List Value))), (u23 ++ [x28]), rfl, rfl, (sX20.trans wz37.sub), (H0 _), (F2.set (p := Wp.opt.R kz37) (a := [.slice (some ⟨gz37, oz37, none⟩) (x33 ++ [x27]).length cz37]) (b := some (x33 ++ [x27])) (t0k rz37) x28.toNat (F2.up (r := Wp.opt.toRp) wz37.sub fu22)), (F2.append (F2.up (r := Wp.int.toRp) wz37.sub fu23) (show F2 (Wp.int.R kz37) ([[.int .i64 x28]] : List (List Value)) [x28] from ⟨⟨rfl, ix28⟩, trivial⟩)), hM2⟩ (Nat.lt_succ_self _)))))
   ·replace hM2 := ifN hM2 hc31
    refine And.intro rfl (And.intro (by repeat (first | exact trivial | refine And.intro rfl ?_)) (And.intro (by repeat (first | exact trivial | refine And.intro rfl ?_)) (Exists.intro m25 (And.intro ⟨(IntKind.i64.wrap (u21 + 1)), wu22, u22, wu23, u23, rfl, rfl, sX20, (H0 _), fu22, fu23, hM2⟩ (Nat.lt_succ_self _)))))
  ·replace hM2 := ifN hM2 hc26
   have hE := Option.some.inj hM2; subst hE
   try dsimp only [T0, U0] at hM1
   refine And.intro rfl (And.intro (by repeat (first | exact trivial | refine And.intro rfl ?_)) (And.intro (by repeat (first | exact trivial | refine And.intro rfl ?_)) (Exists.intro m12 (And.intro ⟨(IntKind.i64.wrap (u8 + 1)), wu22, u22, wu23, u23, rfl, rfl, ((sX7.trans sx17).trans sX20), (H0 _), fu22, fu23, hM1⟩ (Nat.lt_succ_self _)))))
 ·replace hM1 := ifN hM1 hc15
  have hE := Option.some.inj hM1; subst hE
  try dsimp only [T0, U0] at hM0
  intro v45 k46 f47
  obtain ⟨az48, cz48, rfl, rz48, sz48, lz48⟩ := Z0.out (r := Wp.int.toRp) f47 fu10
  intro v49 k50 f51
  obtain ⟨az52, cz52, rfl, rz52, sz52, lz52⟩ := Z0.out (r := I1.toRp) f51 (F2.ofOpt (F2.up (r := Wp.opt.toRp) sz48 fu9))
  have hE := Option.some.inj hM0; subst hE
  exact ⟨az48, u10.length, cz48, az52, (List.map (fun o : Option O0 => o.getD ([] : O0)) u9).length, cz52, rfl, (I1.mono sz52 rz48), rz52, (((sz6.trans sX7).trans sz48).trans sz52)⟩
theorem p04 (h : Hp) (csp0 : List Value) (p0 : l0) (rp0 : Y0.R h csp0 p0) (r : O0) (hM0 : T6 p0 = some r) :
  Tr Tryz.prog 197 #[.agg csp0.toArray] h fun v h' => ∃ (a0 : Option Addr) (n0 c0 : Nat), v = .slice a0 n0 c0 ∧ I1.R h' [.slice a0 n0 c0] r ∧ Sub h h' := by
 obtain ⟨p0_0, p0_1, ap0_2, np0_2, cp0_2, p0_2, rfl, rfl, ip0_0, ip0_1, rp0_2⟩ := B0 rp0
 obtain ⟨rfl, lp0_2⟩ := Sl.len rp0_2
 unfold T6 at hM0
 dsimp only at hM0
 refine U2 (args := [.agg #[.int .i64 p0_0, .int .i64 p0_1, .slice ap0_2 p0_2.length cp0_2]]) (fn := Tryz.f197) rfl ?_
 obtain ⟨x1, gx1, hM0⟩ := j0 hM0
 refine Tr.val (z9 _ [.int .i64 p0_0, .int .i64 p0_1, .slice ap0_2 p0_2.length cp0_2] (p0_0, p0_1, p0_2) (z0 ip0_0 ip0_1 rp0_2) _  gx1) ?_
 refine And.intro (fun hc2 => ?_) (fun hc2 => ?_)
 ·replace hM0 := ifP hM0 hc2
  intro v3 k4 f5
  obtain ⟨az6, cz6, rfl, rz6, sz6, lz6⟩ := Z0.out (r := Wp.int.toRp) f5 (show F2 (Wp.int.R h) ([] : List (List Value)) ([] : O0) from trivial)
  have hE := Option.some.inj hM0; subst hE
  exact ⟨az6, (([] : O0)).length, cz6, rfl, rz6, sz6⟩
 ·replace hM0 := ifN hM0 hc2
  obtain ⟨x7, gx7, hM0⟩ := j0 hM0
  refine Tr.mono (N07 _ [.int .i64 p0_0, .int .i64 p0_1, .slice ap0_2 p0_2.length cp0_2] (p0_0, p0_1, p0_2) (z0 ip0_0 ip0_1 rp0_2) 0 (c64 (by decide) (by decide)) _  gx7) ?_
  rintro v9 k8 ⟨ax7_0, nx7_0, cx7_0, ax7_1, nx7_1, cx7_1, rfl, rx7_0, rx7_1, sx7⟩
  obtain ⟨x7_0, x7_1⟩ := x7
  dsimp only at hM0 rx7_0 rx7_1
  obtain ⟨rfl, lx7_0⟩ := Sl.len rx7_0
  obtain ⟨rfl, lx7_1⟩ := Sl.len rx7_1
  have hE := Option.some.inj hM0; subst hE
  exact ⟨ax7_0, x7_0.length, cx7_0, rfl, rx7_0, sx7⟩
theorem q04 (h : Hp) (csp0 : List Value) (p0 : l0) (rp0 : Y0.R h csp0 p0) (r : l0) (hM0 : U6 p0 = some r) :
  Tr Tryz.prog 139 #[.agg csp0.toArray] h fun v h' => ∃ (cs0 : List Value), v = .agg cs0.toArray ∧ New Y0 h h' cs0 r := by
 obtain ⟨p0_0, p0_1, ap0_2, np0_2, cp0_2, p0_2, rfl, rfl, ip0_0, ip0_1, rp0_2⟩ := B0 rp0
 obtain ⟨rfl, lp0_2⟩ := Sl.len rp0_2
 unfold U6 at hM0
 dsimp only at hM0
 refine U2 (args := [.agg #[.int .i64 p0_0, .int .i64 p0_1, .slice ap0_2 p0_2.length cp0_2]]) (fn := Tryz.f139) rfl ?_
 obtain ⟨x1, gx1, hM0⟩ := j0 hM0
 refine Tr.val (z9 _ [.int .i64 p0_0, .int .i64 p0_1, .slice ap0_2 p0_2.length cp0_2] (p0_0, p0_1, p0_2) (z0 ip0_0 ip0_1 rp0_2) _  gx1) ?_
 refine And.intro (fun hc2 => ?_) (fun hc2 => ?_)
 ·replace hM0 := ifP hM0 hc2
  obtain ⟨x3, gx3, hM0⟩ := j0 hM0
  refine Tr.mono (E3 _ [.int .i64 p0_0, .int .i64 p0_1, .slice ap0_2 p0_2.length cp0_2] (p0_0, p0_1, p0_2) (z0 ip0_0 ip0_1 rp0_2) _  gx3) ?_
  rintro v5 k4 ⟨gx3_2, nx3_2, cx3_2, rfl, wx3⟩
  have sx3 : Sub h k4 := wx3.sub
  have rx3 := wx3.r
  obtain ⟨x3_0, x3_1, x3_2⟩ := x3
  dsimp only at hM0 wx3 rx3
  obtain ⟨_, _, _, _, _, _, ecx3, exx3, ix3_0, ix3_1, rx3_2⟩ := B0 rx3
  cases ecx3
  cases exx3
  obtain ⟨rfl, lx3_2⟩ := Sl.len rx3_2
  try dsimp only at hM0
  have we6 := New.sndI (New.sndI (wx3))
  have hE := Option.some.inj hM0; subst hE
  exact ⟨([.int .i64 x3_0, .int .i64 x3_1, .slice (some ⟨gx3_2, 0, none⟩) x3_2.length cx3_2]), rfl, (New.pair (New.int ix3_0) (New.pair (New.int ix3_1) we6))⟩
 ·replace hM0 := ifN hM0 hc2
  refine Or.inr (Or.inr (Or.inl (And.intro (And.intro (by kernel_rfl) (by kernel_rfl)) ?_)))
  refine Or.inr ?_
  refine Or.inr ?_
  refine Or.inr ?_
  refine Exists.intro 2 (And.intro (And.intro rfl rfl) ?_)
  obtain ⟨x7, gx7, hM0⟩ := j0 hM0
  refine Tr.mono (p04 _ [.int .i64 p0_0, .int .i64 p0_1, .slice ap0_2 p0_2.length cp0_2] (p0_0, p0_1, p0_2) (z0 ip0_0 ip0_1 rp0_2) _  gx7) ?_
  rintro v9 k8 ⟨ax7, nx7, cx7, rfl, rx7, sx7⟩
  obtain ⟨rfl, lx7⟩ := Sl.len rx7
  refine And.intro (And.intro rfl sx7) (And.intro (by first | exact trivial | exact rfl) ?_)
  obtain ⟨x10, gx10, hM0⟩ := j0 hM0
  refine Tr.mono (k09 _ [.int .i64 p0_0, .int .i64 p0_1, .slice ap0_2 p0_2.length cp0_2] (p0_0, p0_1, p0_2) (z0 ip0_0 ip0_1 (I0.mono sx7 rp0_2)) ax7 x7.length cx7 x7 rx7 _  gx10) ?_
  rintro v12 k11 ⟨csx10, rfl, wx10⟩
  have sx10 : Sub k8 k11 := wx10.sub
  have rx10 := wx10.r
  obtain ⟨x10_0, x10_1, ax10_2, nx10_2, cx10_2, x10_2, rfl, rfl, ix10_0, ix10_1, rx10_2⟩ := B0 rx10
  obtain ⟨rfl, lx10_2⟩ := Sl.len rx10_2
  try dsimp only at hM0
  have we13 := New.sndI (New.sndI (wx10))
  refine And.intro (And.intro rfl sx10) (And.intro (by first | exact trivial | exact rfl) ?_)
  refine And.intro trivial (And.intro (by first | exact trivial | exact rfl) ?_)
  have hE := Option.some.inj hM0; subst hE
  exact ⟨([.int .i64 x10_0, .int .i64 x10_1, .slice ax10_2 x10_2.length cx10_2]), rfl, (New.pair (New.int ix10_0) (New.pair (New.int ix10_1) (New.from we13 sx7)))⟩
end Go.Proofs.YtfdlgbfeceodeaaGreat
