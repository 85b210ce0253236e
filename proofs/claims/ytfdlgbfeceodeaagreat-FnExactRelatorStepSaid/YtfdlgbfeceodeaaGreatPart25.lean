/- Texts of the claim, joined: The walks of batch h1; The walks of batch h2; The walks of batch g2; The walks of batch h3. -/
import Derived.Test.YtfdlgbfeceodeaaGreatPart17
import Derived.Test.YtfdlgbfeceodeaaGreatChecked
import Derived.Test.YtfdlgbfeceodeaaGreatH35
import Derived.Test.YtfdlgbfeceodeaaGreatPart23
import Derived.Test.YtfdlgbfeceodeaaGreatSE
import Derived.Test.YtfdlgbfeceodeaaGreatEQ
import Derived.Test.YtfdlgbfeceodeaaGreatH41
namespace Go.Proofs.YtfdlgbfeceodeaaGreat
open Go.H
set_option linter.unusedVariables false
set_option linter.unusedSimpArgs false
set_option maxRecDepth 10000
theorem Q09 (h : Hp) (csp0 : List Value) (p0 : l0) (rp0 : P0.R h csp0 p0) (p1 : Int) (ip1 : J0 p1) (ap2 : Option Addr) (np2 cp2 : Nat) (p2 : U1) (rp2 : O2.R h [.slice ap2 np2 cp2] p2) (p3 : Int) (ip3 : J0 p3) (r : l0 × Bool) (hM0 : r8 p0 p1 p2 p3 = some r) :
  Tr Tryz.prog 90 #[.agg csp0.toArray, .int .i64 p1, .slice ap2 np2 cp2, .int .i64 p3] h fun v h' => ∃ (cs0 : List Value), v = .tuple #[.agg cs0.toArray, .bool r.2] ∧ P0.R h' cs0 r.1 ∧ Sub h h' := by
 obtain ⟨p0_0, p0_1, ap0_2, np0_2, cp0_2, p0_2, rfl, rfl, ip0_0, ip0_1, rp0_2⟩ := B0 rp0
 obtain ⟨rfl, lp0_2⟩ := Sl.len rp0_2
 obtain ⟨rfl, lp2⟩ := Sl.len rp2
 unfold r8 at hM0
 dsimp only at hM0
 refine c3 (args := [.agg #[.int .i64 p0_0, .int .i64 p0_1, .slice ap0_2 p0_2.length cp0_2], .int .i64 p1, .slice ap2 p2.length cp2, .int .i64 p3]) (fn := Tryz.f90) rfl ?_
 obtain ⟨x1, gx1, hM0⟩ := j0 hM0
 refine Tr.mono (H4 _ [.int .i64 p0_0, .int .i64 p0_1, .slice ap0_2 p0_2.length cp0_2] (p0_0, p0_1, p0_2) (z0 ip0_0 ip0_1 rp0_2) _  gx1) ?_
 rintro v3 k2 ⟨csx1, rfl, rx1, sx1⟩
 obtain ⟨x1_0, x1_1, ax1_2, nx1_2, cx1_2, x1_2, rfl, rfl, ix1_0, ix1_1, rx1_2⟩ := B0 rx1
 obtain ⟨rfl, lx1_2⟩ := Sl.len rx1_2
 try dsimp only at hM0
 obtain ⟨x4, gx4, hM0⟩ := j0 hM0
 refine Tr.val (t7 _ [.int .i64 p0_0, .int .i64 p0_1, .slice ap0_2 p0_2.length cp0_2] (p0_0, p0_1, p0_2) (z0 ip0_0 ip0_1 (K0.mono sx1 rp0_2)) _  gx4) ?_
 obtain ⟨x5, gx5, hM0⟩ := j0 hM0
 refine Exists.intro (.bool x5) (And.intro (fun q => F6 _ p1 ip1 0 (c64 (by decide) (by decide)) (IntKind.i64.wrap (p0_1 - 1)) (U0 _) _  (U2 gx5 q)) ?_)
 obtain ⟨x6, gx6, hM0⟩ := j0 hM0
 refine Exists.intro (.bool x6) (And.intro (fun q => F6 _ p3 ip3 0 (c64 (by decide) (by decide)) (IntKind.i64.wrap (p0_1 - 1)) (U0 _) _  (U2 gx6 q)) ?_)
 obtain ⟨x7, gx7, hM0⟩ := j0 hM0
 refine Exists.intro (.bool x7) (And.intro (fun q => V04 _ p0_0 ip0_0 ap2 p2.length cp2 p2 (O2.mono sx1 rp2) _  (U2 gx7 q)) ?_)
 refine And.intro (fun hc8 => ?_) (fun hc8 => ?_)
 ·have hc8 : ((bif (bif (bif (bif (bif (bif (!x4) then true else (!x5)) then true else (!x6)) then true else (!x7)) then true else (decide (((p2.length : Nat) : Int) = 0))) then true else (decide ((IntKind.i64.wrap ((IntKind.i64.wrap (p0_1 + ((p2.length : Nat) : Int))) - 1)) > 40))) then true else (decide ((IntKind.i64.wrap (((p0_2.length : Nat) : Int) + ((p2.length : Nat) : Int))) > 120)))) = true := hc8
  rw [if_pos hc8] at hM0
  have hE := Option.some.inj hM0; subst hE
  exact ⟨([.int .i64 x1_0, .int .i64 x1_1, .slice ax1_2 x1_2.length cx1_2]), rfl, (z0 ix1_0 ix1_1 rx1_2), sx1⟩
 ·have hc8 : ((bif (bif (bif (bif (bif (bif (!x4) then true else (!x5)) then true else (!x6)) then true else (!x7)) then true else (decide (((p2.length : Nat) : Int) = 0))) then true else (decide ((IntKind.i64.wrap ((IntKind.i64.wrap (p0_1 + ((p2.length : Nat) : Int))) - 1)) > 40))) then true else (decide ((IntKind.i64.wrap (((p0_2.length : Nat) : Int) + ((p2.length : Nat) : Int))) > 120)))) = false := hc8
  rw [if_neg (K1 hc8)] at hM0
  obtain ⟨X9, hLX9, hM0⟩ := j0 hM0
  refine Exists.intro { vars := [11, 12], boxes := [2], owns := [], fuel := true } (Exists.intro (fun vs os h' => ∃ (u10 : Int) (u11 : Int) (u12 : Int) (u13 : Int) (au14 : Option Addr) (nu14 cu14 : Nat) (u14 : C0), vs.tail = [.int .i64 u10, .int .i64 u11, .int .i64 u12, .int .i64 u13, .slice au14 nu14 cu14] ∧ os = [] ∧ Sub k2 h' ∧ J0 u10 ∧ J0 u11 ∧ J0 u12 ∧ J0 u13 ∧ K0.R h' [.slice au14 nu14 cu14] u14 ∧ T2 p2 p3 (I3 vs) u10 u11 u12 u13 u14 = some X9) (Exists.intro (fun _ _ => 0) ?_))
  refine And.intro (Exists.intro D1 ⟨p1, 0, x1_0, x1_1, ax1_2, x1_2.length, cx1_2, x1_2, rfl, rfl, (Sub.refl _), ip1, (c64 (by decide) (by decide)), ix1_0, ix1_1, rx1_2, hLX9⟩) ?_
  rintro v_0 v_1 v_2 v_3 v_4 m16 k15 ⟨u10, u11, u12, u13, au14, nu14, cu14, u14, evX9, eoX9, sX9, iu10, iu11, iu12, iu13, ru14, hM1⟩
  cases evX9
  cases eoX9
  replace hM1 : T2 p2 p3 m16 u10 u11 u12 u13 u14 = some X9 := hM1
  obtain _ | m16 := m16
  ·cases (show (none : Option _) = some X9 from hM1)
  rw [c9] at hM1
  obtain ⟨rfl, lu14⟩ := Sl.len ru14
  refine And.intro (fun hc17 => ?_) (fun hc17 => ?_)
  ·have hc17 : ((decide (u11 < ((p2.length : Nat) : Int)))) = true := hc17
   rw [if_pos hc17] at hM1
   refine And.intro (fun hc18 => ?_) (fun hc18 => ?_)
   ·have hc18 : ((decide ((IntKind.i64.wrap (u11 + 1)) < ((p2.length : Nat) : Int)))) = true := hc18
    rw [if_pos hc18] at hM1
    obtain ⟨x19, gx19, hM1⟩ := j0 hM1
    obtain ⟨bx19, csx19, ex19, rx19⟩ := Sl.getI (r := Wp.int.toRp) (O2.mono (sx1.trans sX9) rp2) gx19 (by decide)
    refine And.intro bx19 ?_
    obtain ⟨rfl, ix19⟩ := rx19
    refine Exists.intro _ (And.intro ex19 ?_)
    refine And.intro (fun hc20 => ?_) (fun hc20 => ?_)
    ·have hc20 : ((decide (x19 > 0))) = true := hc20
     rw [if_pos hc20] at hM1
     refine Or.inr (Or.inr (Or.inl (And.intro (And.intro (by kernel_rfl) (by kernel_rfl)) ?_)))
     obtain ⟨x21, gx21, hM1⟩ := j0 hM1
     obtain ⟨bx21, csx21, ex21, rx21⟩ := Sl.getI (r := Wp.int.toRp) (O2.mono (sx1.trans sX9) rp2) gx21 (by decide)
     obtain ⟨rfl, ix21⟩ := rx21
     refine Or.inl (Exists.intro (.hel (.slice ap2 p2.length cp2) u11 1 0) (And.intro ?_ ?_))
     ·intro k22 s23
      exact And.intro bx21 (And.intro rfl (And.intro rfl rfl))
     refine Or.inl (Exists.intro (.val (.int .i64 x21)) (And.intro ?_ ?_))
     ·intro k24 s25
      exact Exists.intro _ (And.intro (p6.up s25 ex21) (And.intro rfl (And.intro rfl rfl)))
     refine Or.inl (Exists.intro (.agg [.val (.int .i64 u10), .val (.int .i64 x21), .val (.int .i64 u13)]) (And.intro ?_ ?_))
     ·intro k26 s27
      exact And.intro rfl (And.intro rfl rfl)
     refine Or.inr ?_
     refine Or.inr ?_
     refine Exists.intro 1 (And.intro (And.intro rfl rfl) ?_)
     obtain ⟨x28, gx28, hM1⟩ := j0 hM1
     refine Tr.mono (N9 _ au14 u14.length cu14 u14 ru14 [.int .i64 u10, .int .i64 x21, .int .i64 u13] (u10, x21, u13) (O0 iu10 ix21 iu13) _  gx28) ?_
     rintro v30 k29 ⟨ax28, nx28, cx28, rfl, rx28, sx28⟩
     obtain ⟨rfl, lx28⟩ := Sl.len rx28
     refine And.intro (And.intro rfl sx28) (And.intro (by first | exact trivial | exact rfl) ?_)
     refine And.intro trivial (And.intro (by first | exact trivial | exact rfl) ?_)
     refine And.intro rfl (And.intro (by first | exact trivial | exact And.intro rfl trivial | exact And.intro rfl (And.intro rfl trivial) | exact And.intro rfl (And.intro rfl (And.intro rfl trivial)) | exact And.intro rfl (And.intro rfl (And.intro rfl (And.intro rfl trivial)))) (And.intro (by first | exact trivial | exact And.intro rfl trivial | exact And.intro rfl (And.intro rfl trivial) | exact And.intro rfl (And.intro rfl (And.intro rfl trivial)) | exact And.intro rfl (And.intro rfl (And.intro rfl (And.intro rfl trivial)))) (Exists.intro m16 (And.intro ⟨u13, (IntKind.i64.wrap (u11 + 1)), u12, (IntKind.i64.wrap (u13 + 1)), ax28, x28.length, cx28, x28, rfl, rfl, (sX9.trans sx28), iu13, (U0 _), iu12, (U0 _), rx28, hM1⟩ (Nat.lt_succ_self _)))))
    ·have hc20 : ((decide (x19 > 0))) = false := hc20
     rw [if_neg (K1 hc20)] at hM1
     refine Or.inr (Or.inr (Or.inl (And.intro (And.intro (by kernel_rfl) (by kernel_rfl)) ?_)))
     obtain ⟨x31, gx31, hM1⟩ := j0 hM1
     obtain ⟨bx31, csx31, ex31, rx31⟩ := Sl.getI (r := Wp.int.toRp) (O2.mono (sx1.trans sX9) rp2) gx31 (by decide)
     obtain ⟨rfl, ix31⟩ := rx31
     refine Or.inl (Exists.intro (.hel (.slice ap2 p2.length cp2) u11 1 0) (And.intro ?_ ?_))
     ·intro k32 s33
      exact And.intro bx31 (And.intro rfl (And.intro rfl rfl))
     refine Or.inl (Exists.intro (.val (.int .i64 x31)) (And.intro ?_ ?_))
     ·intro k34 s35
      exact Exists.intro _ (And.intro (p6.up s35 ex31) (And.intro rfl (And.intro rfl rfl)))
     refine Or.inl (Exists.intro (.val (.int .i64 (IntKind.i64.wrap (0 - x31)))) (And.intro ?_ ?_))
     ·intro k36 s37
      exact And.intro rfl (And.intro rfl rfl)
     refine Or.inl (Exists.intro (.agg [.val (.int .i64 u13), .val (.int .i64 (IntKind.i64.wrap (0 - x31))), .val (.int .i64 u10)]) (And.intro ?_ ?_))
     ·intro k38 s39
      exact And.intro rfl (And.intro rfl rfl)
     refine Or.inr ?_
     refine Or.inr ?_
     refine Exists.intro 1 (And.intro (And.intro rfl rfl) ?_)
     obtain ⟨x40, gx40, hM1⟩ := j0 hM1
     refine Tr.mono (N9 _ au14 u14.length cu14 u14 ru14 [.int .i64 u13, .int .i64 (IntKind.i64.wrap (0 - x31)), .int .i64 u10] (u13, (IntKind.i64.wrap (0 - x31)), u10) (O0 iu13 (U0 _) iu10) _  gx40) ?_
     rintro v42 k41 ⟨ax40, nx40, cx40, rfl, rx40, sx40⟩
     obtain ⟨rfl, lx40⟩ := Sl.len rx40
     refine And.intro (And.intro rfl sx40) (And.intro (by first | exact trivial | exact rfl) ?_)
     refine And.intro trivial (And.intro (by first | exact trivial | exact rfl) ?_)
     refine And.intro rfl (And.intro (by first | exact trivial | exact And.intro rfl trivial | exact And.intro rfl (And.intro rfl trivial) | exact And.intro rfl (And.intro rfl (And.intro rfl trivial)) | exact And.intro rfl (And.intro rfl (And.intro rfl (And.intro rfl trivial)))) (And.intro (by first | exact trivial | exact And.intro rfl trivial | exact And.intro rfl (And.intro rfl trivial) | exact And.intro rfl (And.intro rfl (And.intro rfl trivial)) | exact And.intro rfl (And.intro rfl (And.intro rfl (And.intro rfl trivial)))) (Exists.intro m16 (And.intro ⟨u13, (IntKind.i64.wrap (u11 + 1)), u12, (IntKind.i64.wrap (u13 + 1)), ax40, x40.length, cx40, x40, rfl, rfl, (sX9.trans sx40), iu13, (U0 _), iu12, (U0 _), rx40, hM1⟩ (Nat.lt_succ_self _)))))
   ·have hc18 : ((decide ((IntKind.i64.wrap (u11 + 1)) < ((p2.length : Nat) : Int)))) = false := hc18
    rw [if_neg (K1 hc18)] at hM1
    obtain ⟨x43, gx43, hM1⟩ := j0 hM1
    obtain ⟨bx43, csx43, ex43, rx43⟩ := Sl.getI (r := Wp.int.toRp) (O2.mono (sx1.trans sX9) rp2) gx43 (by decide)
    refine And.intro bx43 ?_
    obtain ⟨rfl, ix43⟩ := rx43
    refine Exists.intro _ (And.intro ex43 ?_)
    refine And.intro (fun hc44 => ?_) (fun hc44 => ?_)
    ·have hc44 : ((decide (x43 > 0))) = true := hc44
     rw [if_pos hc44] at hM1
     refine Or.inr (Or.inr (Or.inl (And.intro (And.intro (by kernel_rfl) (by kernel_rfl)) ?_)))
     obtain ⟨x45, gx45, hM1⟩ := j0 hM1
     obtain ⟨bx45, csx45, ex45, rx45⟩ := Sl.getI (r := Wp.int.toRp) (O2.mono (sx1.trans sX9) rp2) gx45 (by decide)
     obtain ⟨rfl, ix45⟩ := rx45
     refine Or.inl (Exists.intro (.hel (.slice ap2 p2.length cp2) u11 1 0) (And.intro ?_ ?_))
     ·intro k46 s47
      exact And.intro bx45 (And.intro rfl (And.intro rfl rfl))
     refine Or.inl (Exists.intro (.val (.int .i64 x45)) (And.intro ?_ ?_))
     ·intro k48 s49
      exact Exists.intro _ (And.intro (p6.up s49 ex45) (And.intro rfl (And.intro rfl rfl)))
     refine Or.inl (Exists.intro (.agg [.val (.int .i64 u10), .val (.int .i64 x45), .val (.int .i64 p3)]) (And.intro ?_ ?_))
     ·intro k50 s51
      exact And.intro rfl (And.intro rfl rfl)
     refine Or.inr ?_
     refine Or.inr ?_
     refine Exists.intro 1 (And.intro (And.intro rfl rfl) ?_)
     obtain ⟨x52, gx52, hM1⟩ := j0 hM1
     refine Tr.mono (N9 _ au14 u14.length cu14 u14 ru14 [.int .i64 u10, .int .i64 x45, .int .i64 p3] (u10, x45, p3) (O0 iu10 ix45 ip3) _  gx52) ?_
     rintro v54 k53 ⟨ax52, nx52, cx52, rfl, rx52, sx52⟩
     obtain ⟨rfl, lx52⟩ := Sl.len rx52
     refine And.intro (And.intro rfl sx52) (And.intro (by first | exact trivial | exact rfl) ?_)
     refine And.intro trivial (And.intro (by first | exact trivial | exact rfl) ?_)
     refine And.intro rfl (And.intro (by first | exact trivial | exact And.intro rfl trivial | exact And.intro rfl (And.intro rfl trivial) | exact And.intro rfl (And.intro rfl (And.intro rfl trivial)) | exact And.intro rfl (And.intro rfl (And.intro rfl (And.intro rfl trivial)))) (And.intro (by first | exact trivial | exact And.intro rfl trivial | exact And.intro rfl (And.intro rfl trivial) | exact And.intro rfl (And.intro rfl (And.intro rfl trivial)) | exact And.intro rfl (And.intro rfl (And.intro rfl (And.intro rfl trivial)))) (Exists.intro m16 (And.intro ⟨p3, (IntKind.i64.wrap (u11 + 1)), u12, u13, ax52, x52.length, cx52, x52, rfl, rfl, (sX9.trans sx52), ip3, (U0 _), iu12, iu13, rx52, hM1⟩ (Nat.lt_succ_self _)))))
    ·have hc44 : ((decide (x43 > 0))) = false := hc44
     rw [if_neg (K1 hc44)] at hM1
     refine Or.inr (Or.inr (Or.inl (And.intro (And.intro (by kernel_rfl) (by kernel_rfl)) ?_)))
     obtain ⟨x55, gx55, hM1⟩ := j0 hM1
     obtain ⟨bx55, csx55, ex55, rx55⟩ := Sl.getI (r := Wp.int.toRp) (O2.mono (sx1.trans sX9) rp2) gx55 (by decide)
     obtain ⟨rfl, ix55⟩ := rx55
     refine Or.inl (Exists.intro (.hel (.slice ap2 p2.length cp2) u11 1 0) (And.intro ?_ ?_))
     ·intro k56 s57
      exact And.intro bx55 (And.intro rfl (And.intro rfl rfl))
     refine Or.inl (Exists.intro (.val (.int .i64 x55)) (And.intro ?_ ?_))
     ·intro k58 s59
      exact Exists.intro _ (And.intro (p6.up s59 ex55) (And.intro rfl (And.intro rfl rfl)))
     refine Or.inl (Exists.intro (.val (.int .i64 (IntKind.i64.wrap (0 - x55)))) (And.intro ?_ ?_))
     ·intro k60 s61
      exact And.intro rfl (And.intro rfl rfl)
     refine Or.inl (Exists.intro (.agg [.val (.int .i64 p3), .val (.int .i64 (IntKind.i64.wrap (0 - x55))), .val (.int .i64 u10)]) (And.intro ?_ ?_))
     ·intro k62 s63
      exact And.intro rfl (And.intro rfl rfl)
     refine Or.inr ?_
     refine Or.inr ?_
     refine Exists.intro 1 (And.intro (And.intro rfl rfl) ?_)
     obtain ⟨x64, gx64, hM1⟩ := j0 hM1
     refine Tr.mono (N9 _ au14 u14.length cu14 u14 ru14 [.int .i64 p3, .int .i64 (IntKind.i64.wrap (0 - x55)), .int .i64 u10] (p3, (IntKind.i64.wrap (0 - x55)), u10) (O0 ip3 (U0 _) iu10) _  gx64) ?_
     rintro v66 k65 ⟨ax64, nx64, cx64, rfl, rx64, sx64⟩
     obtain ⟨rfl, lx64⟩ := Sl.len rx64
     refine And.intro (And.intro rfl sx64) (And.intro (by first | exact trivial | exact rfl) ?_)
     refine And.intro trivial (And.intro (by first | exact trivial | exact rfl) ?_)
     refine And.intro rfl (And.intro (by first | exact trivial | exact And.intro rfl trivial | exact And.intro rfl (And.intro rfl trivial) | exact And.intro rfl (And.intro rfl (And.intro rfl trivial)) | exact And.intro rfl (And.intro rfl (And.intro rfl (And.intro rfl trivial)))) (And.intro (by first | exact trivial | exact And.intro rfl trivial | exact And.intro rfl (And.intro rfl trivial) | exact And.intro rfl (And.intro rfl (And.intro rfl trivial)) | exact And.intro rfl (And.intro rfl (And.intro rfl (And.intro rfl trivial)))) (Exists.intro m16 (And.intro ⟨p3, (IntKind.i64.wrap (u11 + 1)), u12, u13, ax64, x64.length, cx64, x64, rfl, rfl, (sX9.trans sx64), ip3, (U0 _), iu12, iu13, rx64, hM1⟩ (Nat.lt_succ_self _)))))
  ·have hc17 : ((decide (u11 < ((p2.length : Nat) : Int)))) = false := hc17
   rw [if_neg (K1 hc17)] at hM1
   have hE := Option.some.inj hM1; subst hE
   try dsimp only [J1, O1] at hM0
   have hE := Option.some.inj hM0; subst hE
   exact ⟨([.int .i64 u12, .int .i64 u13, .slice au14 u14.length cu14]), rfl, (z0 iu12 iu13 ru14), (sx1.trans sX9)⟩
theorem R09 (h : Hp) (csp0 : List Value) (p0 : l0) (rp0 : P0.R h csp0 p0) (r : D6) (hM0 : F9 p0 = some r) :
  Tr Tryz.prog 220 #[.agg csp0.toArray] h fun v h' => ∃ (a0 : Option Addr) (n0 c0 : Nat), v = .slice a0 n0 c0 ∧ A0b.R h' [.slice a0 n0 c0] r ∧ Sub h h' := by
 obtain ⟨p0_0, p0_1, ap0_2, np0_2, cp0_2, p0_2, rfl, rfl, ip0_0, ip0_1, rp0_2⟩ := B0 rp0
 obtain ⟨rfl, lp0_2⟩ := Sl.len rp0_2
 unfold F9 at hM0
 dsimp only at hM0
 refine c3 (args := [.agg #[.int .i64 p0_0, .int .i64 p0_1, .slice ap0_2 p0_2.length cp0_2]]) (fn := Tryz.f220) rfl ?_
 obtain ⟨X1, hLX1, hM0⟩ := j0 hM0
 refine Exists.intro { vars := [4], boxes := [], owns := [0], fuel := true } (Exists.intro (fun vs os h' => ∃ (u2 : Int) (wu3 : List (List Value)) (u3 : List Y2), vs.tail = [.int .i64 u2] ∧ os = [wu3] ∧ Sub h h' ∧ J0 u2 ∧ F2 (G3.R h') wu3 u3 ∧ c6 p0_2 (I3 vs) u2 u3 = some X1) (Exists.intro (fun _ _ => 0) ?_))
 refine And.intro (Exists.intro D1 ⟨0, [], ([] : D6), rfl, rfl, (Sub.refl _), (c64 (by decide) (by decide)), (show F2 (G3.R h) ([] : List (List Value)) ([] : D6) from trivial), hLX1⟩) ?_
 rintro v_0 wu3 m5 k4 ⟨u2, zzu3, u3, evX1, eoX1, sX1, iu2, fu3, hM1⟩
 cases evX1
 cases eoX1
 replace hM1 : c6 p0_2 m5 u2 u3 = some X1 := hM1
 obtain _ | m5 := m5
 ·cases (show (none : Option _) = some X1 from hM1)
 rw [f9] at hM1
 refine And.intro (fun hc6 => ?_) (fun hc6 => ?_)
 ·have hc6 : ((decide (u2 < ((p0_2.length : Nat) : Int)))) = true := hc6
  rw [if_pos hc6] at hM1
  obtain ⟨X7, hLX7, hM1⟩ := j0 hM1
  refine Exists.intro { vars := [5], boxes := [], owns := [0], fuel := true } (Exists.intro (fun vs os h' => ∃ (u8 : Int) (wu9 : List (List Value)) (u9 : List Y2), vs.tail = [.int .i64 u8] ∧ os = [wu9] ∧ Sub k4 h' ∧ J0 u8 ∧ F2 (G3.R h') wu9 u9 ∧ J2 p0_2 u2 (I3 vs) u8 u9 = some X7) (Exists.intro (fun _ _ => 0) ?_))
  refine And.intro (Exists.intro D1 ⟨(IntKind.i64.wrap (u2 + 1)), wu3, u3, rfl, rfl, (Sub.refl _), (U0 _), fu3, hLX7⟩) ?_
  rintro v_0 wu9 m11 k10 ⟨u8, zzu9, u9, evX7, eoX7, sX7, iu8, fu9, hM2⟩
  cases evX7
  cases eoX7
  replace hM2 : J2 p0_2 u2 m11 u8 u9 = some X7 := hM2
  obtain _ | m11 := m11
  ·cases (show (none : Option _) = some X7 from hM2)
  rw [d9] at hM2
  refine And.intro (fun hc12 => ?_) (fun hc12 => ?_)
  ·have hc12 : ((decide (u8 < ((p0_2.length : Nat) : Int)))) = true := hc12
   rw [if_pos hc12] at hM2
   obtain ⟨x13, gx13, hM2⟩ := j0 hM2
   obtain ⟨bx13, csx13, ex13, rx13⟩ := Sl.getI (r := N0.toRp) (K0.mono (sX1.trans sX7) rp0_2) gx13 (by decide)
   refine And.intro bx13 ?_
   obtain ⟨x13_0, x13_1, x13_2, rfl, rfl, ix13_0, ix13_1, ix13_2⟩ := V0 rx13
   dsimp only at hM2
   refine Exists.intro _ (And.intro ex13 ?_)
   obtain ⟨x14, gx14, hM2⟩ := j0 hM2
   obtain ⟨bx14, csx14, ex14, rx14⟩ := Sl.getI (r := N0.toRp) (K0.mono (sX1.trans sX7) rp0_2) gx14 (by decide)
   refine And.intro bx14 ?_
   obtain ⟨x14_0, x14_1, x14_2, rfl, rfl, ix14_0, ix14_1, ix14_2⟩ := V0 rx14
   dsimp only at hM2
   refine Exists.intro _ (And.intro ex14 ?_)
   refine And.intro (fun hc15 => ?_) (fun hc15 => ?_)
   ·have hc15 : ((bif (decide (x13_1 = x14_1)) then (decide (x13_0 = x14_0)) else false)) = true := hc15
    rw [if_pos hc15] at hM2
    obtain ⟨q16, gq16, hM2⟩ := j0 hM2
    refine And.intro (j3 gq16 (by first | rw [F2.length fu9, F2.length (show F2 (G3.R k10) ([[.int .i64 (if x14_2 < x13_2 then x14_2 else x13_2), .int .i64 (if x14_2 > x13_2 then x14_2 else x13_2)]] : List (List Value)) [((if x14_2 < x13_2 then x14_2 else x13_2), (if x14_2 > x13_2 then x14_2 else x13_2))] from ⟨(M1 (j6 ix14_2 ix13_2) (j6 ix14_2 ix13_2)), trivial⟩)] | exact congrArg (· + 1) (F2.length fu9))) ?_
    refine And.intro (fun hc17 => ?_) (fun hc17 => ?_)
    ·have hc17 : ((bif (decide (x13_1 = x14_1)) then (decide (x13_2 = x14_2)) else false)) = true := hc17
     rw [if_pos hc17] at hM2
     obtain ⟨q18, gq18, hM2⟩ := j0 hM2
     refine And.intro (j3 gq18 (by first | rw [F2.length (F2.append fu9 (show F2 (G3.R k10) ([[.int .i64 (if x14_2 < x13_2 then x14_2 else x13_2), .int .i64 (if x14_2 > x13_2 then x14_2 else x13_2)]] : List (List Value)) [((if x14_2 < x13_2 then x14_2 else x13_2), (if x14_2 > x13_2 then x14_2 else x13_2))] from ⟨(M1 (j6 ix14_2 ix13_2) (j6 ix14_2 ix13_2)), trivial⟩)), F2.length (show F2 (G3.R k10) ([[.int .i64 (if x14_0 < x13_0 then x14_0 else x13_0), .int .i64 (if x14_0 > x13_0 then x14_0 else x13_0)]] : List (List Value)) [((if x14_0 < x13_0 then x14_0 else x13_0), (if x14_0 > x13_0 then x14_0 else x13_0))] from ⟨(M1 (j6 ix14_0 ix13_0) (j6 ix14_0 ix13_0)), trivial⟩)] | exact congrArg (· + 1) (F2.length (F2.append fu9 (show F2 (G3.R k10) ([[.int .i64 (if x14_2 < x13_2 then x14_2 else x13_2), .int .i64 (if x14_2 > x13_2 then x14_2 else x13_2)]] : List (List Value)) [((if x14_2 < x13_2 then x14_2 else x13_2), (if x14_2 > x13_2 then x14_2 else x13_2))] from ⟨(M1 (j6 ix14_2 ix13_2) (j6 ix14_2 ix13_2)), trivial⟩))))) ?_
     refine And.intro rfl (And.intro (by first | exact trivial | exact And.intro rfl trivial | exact And.intro rfl (And.intro rfl trivial) | exact And.intro rfl (And.intro rfl (And.intro rfl trivial)) | exact And.intro rfl (And.intro rfl (And.intro rfl (And.intro rfl trivial)))) (And.intro (by first | exact trivial | exact And.intro rfl trivial | exact And.intro rfl (And.intro rfl trivial) | exact And.intro rfl (And.intro rfl (And.intro rfl trivial)) | exact And.intro rfl (And.intro rfl (And.intro rfl (And.intro rfl trivial)))) (Exists.intro m11 (And.intro ⟨(IntKind.i64.wrap (u8 + 1)), ((wu9 ++ ([[.int .i64 (if x14_2 < x13_2 then x14_2 else x13_2), .int .i64 (if x14_2 > x13_2 then x14_2 else x13_2)]] : List (List Value))) ++ ([[.int .i64 (if x14_0 < x13_0 then x14_0 else x13_0), .int .i64 (if x14_0 > x13_0 then x14_0 else x13_0)]] : List (List Value))), ((u9 ++ [((if x14_2 < x13_2 then x14_2 else x13_2), (if x14_2 > x13_2 then x14_2 else x13_2))]) ++ [((if x14_0 < x13_0 then x14_0 else x13_0), (if x14_0 > x13_0 then x14_0 else x13_0))]), rfl, rfl, sX7, (U0 _), (F2.append (F2.append fu9 (show F2 (G3.R k10) ([[.int .i64 (if x14_2 < x13_2 then x14_2 else x13_2), .int .i64 (if x14_2 > x13_2 then x14_2 else x13_2)]] : List (List Value)) [((if x14_2 < x13_2 then x14_2 else x13_2), (if x14_2 > x13_2 then x14_2 else x13_2))] from ⟨(M1 (j6 ix14_2 ix13_2) (j6 ix14_2 ix13_2)), trivial⟩)) (show F2 (G3.R k10) ([[.int .i64 (if x14_0 < x13_0 then x14_0 else x13_0), .int .i64 (if x14_0 > x13_0 then x14_0 else x13_0)]] : List (List Value)) [((if x14_0 < x13_0 then x14_0 else x13_0), (if x14_0 > x13_0 then x14_0 else x13_0))] from ⟨(M1 (j6 ix14_0 ix13_0) (j6 ix14_0 ix13_0)), trivial⟩)), hM2⟩ (Nat.lt_succ_self _)))))
    ·have hc17 : ((bif (decide (x13_1 = x14_1)) then (decide (x13_2 = x14_2)) else false)) = false := hc17
     rw [if_neg (K1 hc17)] at hM2
     refine And.intro rfl (And.intro (by first | exact trivial | exact And.intro rfl trivial | exact And.intro rfl (And.intro rfl trivial) | exact And.intro rfl (And.intro rfl (And.intro rfl trivial)) | exact And.intro rfl (And.intro rfl (And.intro rfl (And.intro rfl trivial)))) (And.intro (by first | exact trivial | exact And.intro rfl trivial | exact And.intro rfl (And.intro rfl trivial) | exact And.intro rfl (And.intro rfl (And.intro rfl trivial)) | exact And.intro rfl (And.intro rfl (And.intro rfl (And.intro rfl trivial)))) (Exists.intro m11 (And.intro ⟨(IntKind.i64.wrap (u8 + 1)), (wu9 ++ ([[.int .i64 (if x14_2 < x13_2 then x14_2 else x13_2), .int .i64 (if x14_2 > x13_2 then x14_2 else x13_2)]] : List (List Value))), (u9 ++ [((if x14_2 < x13_2 then x14_2 else x13_2), (if x14_2 > x13_2 then x14_2 else x13_2))]), rfl, rfl, sX7, (U0 _), (F2.append fu9 (show F2 (G3.R k10) ([[.int .i64 (if x14_2 < x13_2 then x14_2 else x13_2), .int .i64 (if x14_2 > x13_2 then x14_2 else x13_2)]] : List (List Value)) [((if x14_2 < x13_2 then x14_2 else x13_2), (if x14_2 > x13_2 then x14_2 else x13_2))] from ⟨(M1 (j6 ix14_2 ix13_2) (j6 ix14_2 ix13_2)), trivial⟩)), hM2⟩ (Nat.lt_succ_self _)))))
   ·have hc15 : ((bif (decide (x13_1 = x14_1)) then (decide (x13_0 = x14_0)) else false)) = false := hc15
    rw [if_neg (K1 hc15)] at hM2
    refine And.intro (fun hc19 => ?_) (fun hc19 => ?_)
    ·have hc19 : ((bif (decide (x13_1 = x14_1)) then (decide (x13_2 = x14_2)) else false)) = true := hc19
     rw [if_pos hc19] at hM2
     obtain ⟨q20, gq20, hM2⟩ := j0 hM2
     refine And.intro (j3 gq20 (by first | rw [F2.length fu9, F2.length (show F2 (G3.R k10) ([[.int .i64 (if x14_0 < x13_0 then x14_0 else x13_0), .int .i64 (if x14_0 > x13_0 then x14_0 else x13_0)]] : List (List Value)) [((if x14_0 < x13_0 then x14_0 else x13_0), (if x14_0 > x13_0 then x14_0 else x13_0))] from ⟨(M1 (j6 ix14_0 ix13_0) (j6 ix14_0 ix13_0)), trivial⟩)] | exact congrArg (· + 1) (F2.length fu9))) ?_
     refine And.intro rfl (And.intro (by first | exact trivial | exact And.intro rfl trivial | exact And.intro rfl (And.intro rfl trivial) | exact And.intro rfl (And.intro rfl (And.intro rfl trivial)) | exact And.intro rfl (And.intro rfl (And.intro rfl (And.intro rfl trivial)))) (And.intro (by first | exact trivial | exact And.intro rfl trivial | exact And.intro rfl (And.intro rfl trivial) | exact And.intro rfl (And.intro rfl (And.intro rfl trivial)) | exact And.intro rfl (And.intro rfl (And.intro rfl (And.intro rfl trivial)))) (Exists.intro m11 (And.intro ⟨(IntKind.i64.wrap (u8 + 1)), (wu9 ++ ([[.int .i64 (if x14_0 < x13_0 then x14_0 else x13_0), .int .i64 (if x14_0 > x13_0 then x14_0 else x13_0)]] : List (List Value))), (u9 ++ [((if x14_0 < x13_0 then x14_0 else x13_0), (if x14_0 > x13_0 then x14_0 else x13_0))]), rfl, rfl, sX7, (U0 _), (F2.append fu9 (show F2 (G3.R k10) ([[.int .i64 (if x14_0 < x13_0 then x14_0 else x13_0), .int .i64 (if x14_0 > x13_0 then x14_0 else x13_0)]] : List (List Value)) [((if x14_0 < x13_0 then x14_0 else x13_0), (if x14_0 > x13_0 then x14_0 else x13_0))] from ⟨(M1 (j6 ix14_0 ix13_0) (j6 ix14_0 ix13_0)), trivial⟩)), hM2⟩ (Nat.lt_succ_self _)))))
    ·have hc19 : ((bif (decide (x13_1 = x14_1)) then (decide (x13_2 = x14_2)) else false)) = false := hc19
     rw [if_neg (K1 hc19)] at hM2
     refine And.intro rfl (And.intro (by first | exact trivial | exact And.intro rfl trivial | exact And.intro rfl (And.intro rfl trivial) | exact And.intro rfl (And.intro rfl (And.intro rfl trivial)) | exact And.intro rfl (And.intro rfl (And.intro rfl (And.intro rfl trivial)))) (And.intro (by first | exact trivial | exact And.intro rfl trivial | exact And.intro rfl (And.intro rfl trivial) | exact And.intro rfl (And.intro rfl (And.intro rfl trivial)) | exact And.intro rfl (And.intro rfl (And.intro rfl (And.intro rfl trivial)))) (Exists.intro m11 (And.intro ⟨(IntKind.i64.wrap (u8 + 1)), wu9, u9, rfl, rfl, sX7, (U0 _), fu9, hM2⟩ (Nat.lt_succ_self _)))))
  ·have hc12 : ((decide (u8 < ((p0_2.length : Nat) : Int)))) = false := hc12
   rw [if_neg (K1 hc12)] at hM2
   have hE := Option.some.inj hM2; subst hE
   try dsimp only [J1, O1] at hM1
   refine And.intro rfl (And.intro (by first | exact trivial | exact And.intro rfl trivial | exact And.intro rfl (And.intro rfl trivial) | exact And.intro rfl (And.intro rfl (And.intro rfl trivial)) | exact And.intro rfl (And.intro rfl (And.intro rfl (And.intro rfl trivial)))) (And.intro (by first | exact trivial | exact And.intro rfl trivial | exact And.intro rfl (And.intro rfl trivial) | exact And.intro rfl (And.intro rfl (And.intro rfl trivial)) | exact And.intro rfl (And.intro rfl (And.intro rfl (And.intro rfl trivial)))) (Exists.intro m5 (And.intro ⟨(IntKind.i64.wrap (u2 + 1)), wu9, u9, rfl, rfl, (sX1.trans sX7), (U0 _), fu9, hM1⟩ (Nat.lt_succ_self _)))))
 ·have hc6 : ((decide (u2 < ((p0_2.length : Nat) : Int)))) = false := hc6
  rw [if_neg (K1 hc6)] at hM1
  have hE := Option.some.inj hM1; subst hE
  try dsimp only [J1, O1] at hM0
  intro v25 k26 f27
  obtain ⟨az28, cz28, rfl, rz28, sz28, lz28⟩ := E1.out (r := G3.toRp) f27 fu3
  have hE := Option.some.inj hM0; subst hE
  exact ⟨az28, u3.length, cz28, rfl, rz28, (sX1.trans sz28)⟩
theorem s07 (h : Hp) (csp0 : List Value) (p0 : l0) (rp0 : P0.R h csp0 p0) (r : Y2 × Bool) (hM0 : T6 p0 = some r) :
  Tr Tryz.prog 200 #[.agg csp0.toArray] h fun v h' => ∃ (cs0 : List Value), v = .tuple #[.agg cs0.toArray, .bool r.2] ∧ G3.R h' cs0 r.1 ∧ Sub h h' := by
 obtain ⟨p0_0, p0_1, ap0_2, np0_2, cp0_2, p0_2, rfl, rfl, ip0_0, ip0_1, rp0_2⟩ := B0 rp0
 obtain ⟨rfl, lp0_2⟩ := Sl.len rp0_2
 unfold T6 at hM0
 dsimp only at hM0
 refine c3 (args := [.agg #[.int .i64 p0_0, .int .i64 p0_1, .slice ap0_2 p0_2.length cp0_2]]) (fn := Tryz.f200) rfl ?_
 obtain ⟨x1, gx1, hM0⟩ := j0 hM0
 refine Tr.val (t7 _ [.int .i64 p0_0, .int .i64 p0_1, .slice ap0_2 p0_2.length cp0_2] (p0_0, p0_1, p0_2) (z0 ip0_0 ip0_1 rp0_2) _  gx1) ?_
 refine And.intro (fun hc2 => ?_) (fun hc2 => ?_)
 ·have hc2 : ((!x1)) = true := hc2
  rw [if_pos hc2] at hM0
  have hE := Option.some.inj hM0; subst hE
  exact ⟨([.int .i64 0, .int .i64 0]), rfl, (M1 (c64 (by decide) (by decide)) (c64 (by decide) (by decide))), (Sub.refl _)⟩
 ·have hc2 : ((!x1)) = false := hc2
  rw [if_neg (K1 hc2)] at hM0
  obtain ⟨x3, gx3, hM0⟩ := j0 hM0
  refine Tr.mono (R09 _ [.int .i64 p0_0, .int .i64 p0_1, .slice ap0_2 p0_2.length cp0_2] (p0_0, p0_1, p0_2) (z0 ip0_0 ip0_1 rp0_2) _  gx3) ?_
  rintro v5 k4 ⟨ax3, nx3, cx3, rfl, rx3, sx3⟩
  obtain ⟨rfl, lx3⟩ := Sl.len rx3
  refine And.intro (fun hc6 => ?_) (fun hc6 => ?_)
  ·have hc6 : ((decide (((x3.length : Nat) : Int) = 0))) = true := hc6
   rw [if_pos hc6] at hM0
   have hE := Option.some.inj hM0; subst hE
   exact ⟨([.int .i64 0, .int .i64 0]), rfl, (M1 (c64 (by decide) (by decide)) (c64 (by decide) (by decide))), sx3⟩
  ·have hc6 : ((decide (((x3.length : Nat) : Int) = 0))) = false := hc6
   rw [if_neg (K1 hc6)] at hM0
   obtain ⟨x7, gx7, hM0⟩ := j0 hM0
   obtain ⟨bx7, csx7, ex7, rx7⟩ := Sl.getI (r := G3.toRp) rx3 gx7 (by decide)
   refine And.intro bx7 ?_
   obtain ⟨x7_0, x7_1, rfl, rfl, ix7_0, ix7_1⟩ := B00 rx7
   dsimp only at hM0
   refine Exists.intro _ (And.intro ex7 ?_)
   have hE := Option.some.inj hM0; subst hE
   exact ⟨([.int .i64 x7_0, .int .i64 x7_1]), rfl, (M1 ix7_0 ix7_1), sx3⟩
theorem y06 (h : Hp) (p0 : Int) (ip0 : J0 p0) (csp1 : List Value) (p1 : Y2) (rp1 : G3.R h csp1 p1) (r : Int) (hM0 : M7 p0 p1 = some r) :
  Tr Tryz.prog 221 #[.int .i64 p0, .agg csp1.toArray] h fun v h' => v = .int .i64 r ∧ h' = h := by
 obtain ⟨p1_0, p1_1, rfl, rfl, ip1_0, ip1_1⟩ := B00 rp1
 unfold M7 at hM0
 dsimp only at hM0
 refine Tr.forget (c3 (args := [.int .i64 p0, .agg #[.int .i64 p1_0, .int .i64 p1_1]]) (fn := Tryz.f221) rfl ?_)
 refine And.intro (fun hc1 => ?_) (fun hc1 => ?_)
 ·have hc1 : ((decide (p0 = p1_1))) = true := hc1
  rw [if_pos hc1] at hM0
  refine And.intro (fun hc2 => ?_) (fun hc2 => ?_)
  ·have hc2 : ((decide (p1_0 > p1_1))) = true := hc2
   rw [if_pos hc2] at hM0
   have hE := Option.some.inj hM0; subst hE
   exact And.intro rfl (Sub.refl _)
  ·have hc2 : ((decide (p1_0 > p1_1))) = false := hc2
   rw [if_neg (K1 hc2)] at hM0
   have hE := Option.some.inj hM0; subst hE
   exact And.intro rfl (Sub.refl _)
 ·have hc1 : ((decide (p0 = p1_1))) = false := hc1
  rw [if_neg (K1 hc1)] at hM0
  refine And.intro (fun hc3 => ?_) (fun hc3 => ?_)
  ·have hc3 : ((decide (p0 > p1_1))) = true := hc3
   rw [if_pos hc3] at hM0
   have hE := Option.some.inj hM0; subst hE
   exact And.intro rfl (Sub.refl _)
  ·have hc3 : ((decide (p0 > p1_1))) = false := hc3
   rw [if_neg (K1 hc3)] at hM0
   have hE := Option.some.inj hM0; subst hE
   exact And.intro rfl (Sub.refl _)
theorem i04 (h : Hp) (csp0 : List Value) (p0 : l0) (rp0 : P0.R h csp0 p0) (csp1 : List Value) (p1 : Y2) (rp1 : G3.R h csp1 p1) (r : l0 × Bool) (hM0 : w5 p0 p1 = some r) :
  Tr Tryz.prog 201 #[.agg csp0.toArray, .agg csp1.toArray] h fun v h' => ∃ (cs0 : List Value), v = .tuple #[.agg cs0.toArray, .bool r.2] ∧ P0.R h' cs0 r.1 ∧ Sub h h' := by
 obtain ⟨p0_0, p0_1, ap0_2, np0_2, cp0_2, p0_2, rfl, rfl, ip0_0, ip0_1, rp0_2⟩ := B0 rp0
 obtain ⟨rfl, lp0_2⟩ := Sl.len rp0_2
 obtain ⟨p1_0, p1_1, rfl, rfl, ip1_0, ip1_1⟩ := B00 rp1
 unfold w5 at hM0
 dsimp only at hM0
 refine c3 (args := [.agg #[.int .i64 p0_0, .int .i64 p0_1, .slice ap0_2 p0_2.length cp0_2], .agg #[.int .i64 p1_0, .int .i64 p1_1]]) (fn := Tryz.f201) rfl ?_
 obtain ⟨x1, gx1, hM0⟩ := j0 hM0
 refine Tr.val (t7 _ [.int .i64 p0_0, .int .i64 p0_1, .slice ap0_2 p0_2.length cp0_2] (p0_0, p0_1, p0_2) (z0 ip0_0 ip0_1 rp0_2) _  gx1) ?_
 refine And.intro (fun hc2 => ?_) (fun hc2 => ?_)
 ·have hc2 : ((bif (bif (bif (!x1) then true else (decide (p1_0 < 0))) then true else (decide (p1_0 ≥ p1_1))) then true else (decide (p1_1 ≥ p0_1)))) = true := hc2
  rw [if_pos hc2] at hM0
  obtain ⟨x3, gx3, hM0⟩ := j0 hM0
  refine Tr.mono (H4 _ [.int .i64 p0_0, .int .i64 p0_1, .slice ap0_2 p0_2.length cp0_2] (p0_0, p0_1, p0_2) (z0 ip0_0 ip0_1 rp0_2) _  gx3) ?_
  rintro v5 k4 ⟨csx3, rfl, rx3, sx3⟩
  obtain ⟨x3_0, x3_1, ax3_2, nx3_2, cx3_2, x3_2, rfl, rfl, ix3_0, ix3_1, rx3_2⟩ := B0 rx3
  obtain ⟨rfl, lx3_2⟩ := Sl.len rx3_2
  try dsimp only at hM0
  have hE := Option.some.inj hM0; subst hE
  exact ⟨([.int .i64 x3_0, .int .i64 x3_1, .slice ax3_2 x3_2.length cx3_2]), rfl, (z0 ix3_0 ix3_1 rx3_2), sx3⟩
 ·have hc2 : ((bif (bif (bif (!x1) then true else (decide (p1_0 < 0))) then true else (decide (p1_0 ≥ p1_1))) then true else (decide (p1_1 ≥ p0_1)))) = false := hc2
  rw [if_neg (K1 hc2)] at hM0
  obtain ⟨X6, hLX6, hM0⟩ := j0 hM0
  refine Exists.intro { vars := [7], boxes := [3], owns := [], fuel := true } (Exists.intro (fun vs os h' => ∃ (u7 : Int) (u8 : Int) (u9 : Int) (au10 : Option Addr) (nu10 cu10 : Nat) (u10 : C0), vs.tail = [.int .i64 u7, .int .i64 u8, .int .i64 u9, .slice au10 nu10 cu10] ∧ os = [] ∧ Sub h h' ∧ J0 u7 ∧ J0 u8 ∧ J0 u9 ∧ K0.R h' [.slice au10 nu10 cu10] u10 ∧ U3 p0_2 p1_0 p1_1 (I3 vs) u7 u8 u9 u10 = some X6) (Exists.intro (fun _ _ => 0) ?_))
  refine And.intro (Exists.intro D1 ⟨0, p0_0, (IntKind.i64.wrap (p0_1 - 1)), none, 0, 0, [], rfl, rfl, (Sub.refl _), (c64 (by decide) (by decide)), ip0_0, (U0 _), (v0i N0 h), hLX6⟩) ?_
  rintro v_0 v_1 v_2 v_3 m12 k11 ⟨u7, u8, u9, au10, nu10, cu10, u10, evX6, eoX6, sX6, iu7, iu8, iu9, ru10, hM1⟩
  cases evX6
  cases eoX6
  replace hM1 : U3 p0_2 p1_0 p1_1 m12 u7 u8 u9 u10 = some X6 := hM1
  obtain _ | m12 := m12
  ·cases (show (none : Option _) = some X6 from hM1)
  rw [Q6] at hM1
  obtain ⟨rfl, lu10⟩ := Sl.len ru10
  refine And.intro (fun hc13 => ?_) (fun hc13 => ?_)
  ·have hc13 : ((decide (u7 < ((p0_2.length : Nat) : Int)))) = true := hc13
   rw [if_pos hc13] at hM1
   obtain ⟨x14, gx14, hM1⟩ := j0 hM1
   obtain ⟨bx14, csx14, ex14, rx14⟩ := Sl.getI (r := N0.toRp) (K0.mono sX6 rp0_2) gx14 (by decide)
   refine And.intro bx14 ?_
   obtain ⟨x14_0, x14_1, x14_2, rfl, rfl, ix14_0, ix14_1, ix14_2⟩ := V0 rx14
   dsimp only at hM1
   refine Exists.intro _ (And.intro ex14 ?_)
   refine Or.inr (Or.inr (Or.inl (And.intro (And.intro (by kernel_rfl) (by kernel_rfl)) ?_)))
   obtain ⟨x15, gx15, hM1⟩ := j0 hM1
   obtain ⟨q16, gq16, hM1⟩ := j0 hM1
   have ix15 : J0 x15 := J3 gq16
   refine Or.inl (Exists.intro (.val (.int .i64 x15)) (And.intro ?_ ?_))
   ·intro k17 s18
    exact Tr.val (y06 _ x14_0 ix14_0 [.int .i64 p1_0, .int .i64 p1_1] (p1_0, p1_1) (M1 ip1_0 ip1_1) _ gx15) (And.intro rfl (And.intro rfl rfl))
   obtain ⟨x19, gx19, hM1⟩ := j0 hM1
   obtain ⟨q20, gq20, hM1⟩ := j0 hM1
   have ix19 : J0 x19 := J3 gq20
   refine Or.inl (Exists.intro (.val (.int .i64 x19)) (And.intro ?_ ?_))
   ·intro k21 s22
    exact Tr.val (y06 _ x14_2 ix14_2 [.int .i64 p1_0, .int .i64 p1_1] (p1_0, p1_1) (M1 ip1_0 ip1_1) _ gx19) (And.intro rfl (And.intro rfl rfl))
   refine Or.inl (Exists.intro (.agg [.val (.int .i64 x15), .val (.int .i64 x14_1), .val (.int .i64 x19)]) (And.intro ?_ ?_))
   ·intro k23 s24
    exact And.intro rfl (And.intro rfl rfl)
   refine Or.inr ?_
   refine Or.inr ?_
   refine Exists.intro 1 (And.intro (And.intro rfl rfl) ?_)
   obtain ⟨x25, gx25, hM1⟩ := j0 hM1
   refine Tr.mono (N9 _ au10 u10.length cu10 u10 ru10 [.int .i64 x15, .int .i64 x14_1, .int .i64 x19] (x15, x14_1, x19) (O0 ix15 ix14_1 ix19) _  gx25) ?_
   rintro v27 k26 ⟨ax25, nx25, cx25, rfl, rx25, sx25⟩
   obtain ⟨rfl, lx25⟩ := Sl.len rx25
   refine And.intro (And.intro rfl sx25) (And.intro (by first | exact trivial | exact rfl) ?_)
   refine And.intro trivial (And.intro (by first | exact trivial | exact rfl) ?_)
   refine And.intro rfl (And.intro (by first | exact trivial | exact And.intro rfl trivial | exact And.intro rfl (And.intro rfl trivial) | exact And.intro rfl (And.intro rfl (And.intro rfl trivial)) | exact And.intro rfl (And.intro rfl (And.intro rfl (And.intro rfl trivial)))) (And.intro (by first | exact trivial | exact And.intro rfl trivial | exact And.intro rfl (And.intro rfl trivial) | exact And.intro rfl (And.intro rfl (And.intro rfl trivial)) | exact And.intro rfl (And.intro rfl (And.intro rfl (And.intro rfl trivial)))) (Exists.intro m12 (And.intro ⟨(IntKind.i64.wrap (u7 + 1)), u8, u9, ax25, x25.length, cx25, x25, rfl, rfl, (sX6.trans sx25), (U0 _), iu8, iu9, rx25, hM1⟩ (Nat.lt_succ_self _)))))
  ·have hc13 : ((decide (u7 < ((p0_2.length : Nat) : Int)))) = false := hc13
   rw [if_neg (K1 hc13)] at hM1
   have hE := Option.some.inj hM1; subst hE
   try dsimp only [J1, O1] at hM0
   have hE := Option.some.inj hM0; subst hE
   exact ⟨([.int .i64 u8, .int .i64 u9, .slice au10 u10.length cu10]), rfl, (z0 iu8 iu9 ru10), sX6⟩
theorem c08 (h : Hp) (csp0 : List Value) (p0 : l0) (rp0 : P0.R h csp0 p0) (r : l0 × Y2 × Bool) (hM0 : H7 p0 = some r) :
  Tr Tryz.prog 145 #[.agg csp0.toArray] h fun v h' => ∃ (cs0 : List Value) (cs1 : List Value), v = .tuple #[.agg cs0.toArray, .agg cs1.toArray, .bool r.2.2] ∧ P0.R h' cs0 r.1 ∧ G3.R h' cs1 r.2.1 ∧ Sub h h' := by
 obtain ⟨p0_0, p0_1, ap0_2, np0_2, cp0_2, p0_2, rfl, rfl, ip0_0, ip0_1, rp0_2⟩ := B0 rp0
 obtain ⟨rfl, lp0_2⟩ := Sl.len rp0_2
 unfold H7 at hM0
 dsimp only at hM0
 refine c3 (args := [.agg #[.int .i64 p0_0, .int .i64 p0_1, .slice ap0_2 p0_2.length cp0_2]]) (fn := Tryz.f145) rfl ?_
 obtain ⟨x1, gx1, hM0⟩ := j0 hM0
 refine Tr.mono (s07 _ [.int .i64 p0_0, .int .i64 p0_1, .slice ap0_2 p0_2.length cp0_2] (p0_0, p0_1, p0_2) (z0 ip0_0 ip0_1 rp0_2) _  gx1) ?_
 rintro v3 k2 ⟨csx1_0, rfl, rx1_0, sx1⟩
 obtain ⟨x1_0, x1_1⟩ := x1
 dsimp only at hM0 rx1_0
 obtain ⟨x1_0_0, x1_0_1, rfl, rfl, ix1_0_0, ix1_0_1⟩ := B00 rx1_0
 try dsimp only at hM0
 refine And.intro (fun hc4 => ?_) (fun hc4 => ?_)
 ·have hc4 : ((!x1_1)) = true := hc4
  rw [if_pos hc4] at hM0
  obtain ⟨x5, gx5, hM0⟩ := j0 hM0
  refine Tr.mono (H4 _ [.int .i64 p0_0, .int .i64 p0_1, .slice ap0_2 p0_2.length cp0_2] (p0_0, p0_1, p0_2) (z0 ip0_0 ip0_1 (K0.mono sx1 rp0_2)) _  gx5) ?_
  rintro v7 k6 ⟨csx5, rfl, rx5, sx5⟩
  obtain ⟨x5_0, x5_1, ax5_2, nx5_2, cx5_2, x5_2, rfl, rfl, ix5_0, ix5_1, rx5_2⟩ := B0 rx5
  obtain ⟨rfl, lx5_2⟩ := Sl.len rx5_2
  try dsimp only at hM0
  have hE := Option.some.inj hM0; subst hE
  exact ⟨([.int .i64 x5_0, .int .i64 x5_1, .slice ax5_2 x5_2.length cx5_2]), ([.int .i64 0, .int .i64 0]), rfl, (z0 ix5_0 ix5_1 rx5_2), (M1 (c64 (by decide) (by decide)) (c64 (by decide) (by decide))), (sx1.trans sx5)⟩
 ·have hc4 : ((!x1_1)) = false := hc4
  rw [if_neg (K1 hc4)] at hM0
  obtain ⟨x8, gx8, hM0⟩ := j0 hM0
  refine Tr.mono (i04 _ [.int .i64 p0_0, .int .i64 p0_1, .slice ap0_2 p0_2.length cp0_2] (p0_0, p0_1, p0_2) (z0 ip0_0 ip0_1 (K0.mono sx1 rp0_2)) [.int .i64 x1_0_0, .int .i64 x1_0_1] (x1_0_0, x1_0_1) (M1 ix1_0_0 ix1_0_1) _  gx8) ?_
  rintro v10 k9 ⟨csx8_0, rfl, rx8_0, sx8⟩
  obtain ⟨x8_0, x8_1⟩ := x8
  dsimp only at hM0 rx8_0
  obtain ⟨x8_0_0, x8_0_1, ax8_0_2, nx8_0_2, cx8_0_2, x8_0_2, rfl, rfl, ix8_0_0, ix8_0_1, rx8_0_2⟩ := B0 rx8_0
  obtain ⟨rfl, lx8_0_2⟩ := Sl.len rx8_0_2
  try dsimp only at hM0
  refine Or.inr (Or.inr (Or.inl (And.intro (And.intro (by kernel_rfl) (by kernel_rfl)) ?_)))
  refine Or.inr ?_
  refine Or.inr ?_
  refine Exists.intro 0 (And.intro (And.intro rfl rfl) ?_)
  refine And.intro trivial (And.intro (by first | exact trivial | exact rfl) ?_)
  refine And.intro trivial (And.intro (by first | exact trivial | exact rfl) ?_)
  have hE := Option.some.inj hM0; subst hE
  exact ⟨([.int .i64 x8_0_0, .int .i64 x8_0_1, .slice ax8_0_2 x8_0_2.length cx8_0_2]), ([.int .i64 x1_0_0, .int .i64 x1_0_1]), rfl, (z0 ix8_0_0 ix8_0_1 rx8_0_2), (M1 ix1_0_0 ix1_0_1), (sx1.trans sx8)⟩
theorem S09 (h : Hp) (csp0 : List Value) (p0 : l0) (rp0 : P0.R h csp0 p0) (r : l0 × D6) (hM0 : s8 p0 = some r) :
  Tr Tryz.prog 91 #[.agg csp0.toArray] h fun v h' => ∃ (cs0 : List Value) (a1 : Option Addr) (n1 c1 : Nat), v = .tuple #[.agg cs0.toArray, .slice a1 n1 c1] ∧ P0.R h' cs0 r.1 ∧ A0b.R h' [.slice a1 n1 c1] r.2 ∧ Sub h h' := by
 obtain ⟨p0_0, p0_1, ap0_2, np0_2, cp0_2, p0_2, rfl, rfl, ip0_0, ip0_1, rp0_2⟩ := B0 rp0
 obtain ⟨rfl, lp0_2⟩ := Sl.len rp0_2
 unfold s8 at hM0
 dsimp only at hM0
 refine c3 (args := [.agg #[.int .i64 p0_0, .int .i64 p0_1, .slice ap0_2 p0_2.length cp0_2]]) (fn := Tryz.f91) rfl ?_
 obtain ⟨x1, gx1, hM0⟩ := j0 hM0
 refine Tr.mono (H4 _ [.int .i64 p0_0, .int .i64 p0_1, .slice ap0_2 p0_2.length cp0_2] (p0_0, p0_1, p0_2) (z0 ip0_0 ip0_1 rp0_2) _  gx1) ?_
 rintro v3 k2 ⟨csx1, rfl, rx1, sx1⟩
 obtain ⟨x1_0, x1_1, ax1_2, nx1_2, cx1_2, x1_2, rfl, rfl, ix1_0, ix1_1, rx1_2⟩ := B0 rx1
 obtain ⟨rfl, lx1_2⟩ := Sl.len rx1_2
 try dsimp only at hM0
 obtain ⟨X4, hLX4, hM0⟩ := j0 hM0
 refine Exists.intro { vars := [6], boxes := [2], owns := [0], fuel := true } (Exists.intro (fun vs os h' => ∃ (u5 : Int) (u6 : Int) (u7 : Int) (au8 : Option Addr) (nu8 cu8 : Nat) (u8 : C0) (wu9 : List (List Value)) (u9 : List Y2), vs.tail = [.int .i64 u5, .int .i64 u6, .int .i64 u7, .slice au8 nu8 cu8] ∧ os = [wu9] ∧ Sub k2 h' ∧ J0 u5 ∧ J0 u6 ∧ J0 u7 ∧ K0.R h' [.slice au8 nu8 cu8] u8 ∧ F2 (G3.R h') wu9 u9 ∧ d6 (I3 vs) u5 u6 u7 u8 u9 = some X4) (Exists.intro (fun _ _ => 0) ?_))
 refine And.intro (Exists.intro D1 ⟨0, x1_0, x1_1, ax1_2, x1_2.length, cx1_2, x1_2, [], ([] : D6), rfl, rfl, (Sub.refl _), (c64 (by decide) (by decide)), ix1_0, ix1_1, rx1_2, (show F2 (G3.R k2) ([] : List (List Value)) ([] : D6) from trivial), hLX4⟩) ?_
 rintro v_0 v_1 v_2 v_3 wu9 m11 k10 ⟨u5, u6, u7, au8, nu8, cu8, u8, zzu9, u9, evX4, eoX4, sX4, iu5, iu6, iu7, ru8, fu9, hM1⟩
 cases evX4
 cases eoX4
 replace hM1 : d6 m11 u5 u6 u7 u8 u9 = some X4 := hM1
 obtain _ | m11 := m11
 ·cases (show (none : Option _) = some X4 from hM1)
 rw [y7] at hM1
 obtain ⟨rfl, lu8⟩ := Sl.len ru8
 refine And.intro (fun hc12 => ?_) (fun hc12 => ?_)
 ·have hc12 : ((decide (u5 < 40))) = true := hc12
  rw [if_pos hc12] at hM1
  obtain ⟨x13, gx13, hM1⟩ := j0 hM1
  refine Tr.mono (c08 _ [.int .i64 u6, .int .i64 u7, .slice au8 u8.length cu8] (u6, u7, u8) (z0 iu6 iu7 ru8) _  gx13) ?_
  rintro v15 k14 ⟨csx13_0, csx13_1, rfl, rx13_0, rx13_1, sx13⟩
  obtain ⟨x13_0, x13_1, x13_2⟩ := x13
  dsimp only at hM1 rx13_0 rx13_1
  obtain ⟨x13_0_0, x13_0_1, ax13_0_2, nx13_0_2, cx13_0_2, x13_0_2, rfl, rfl, ix13_0_0, ix13_0_1, rx13_0_2⟩ := B0 rx13_0
  obtain ⟨rfl, lx13_0_2⟩ := Sl.len rx13_0_2
  try dsimp only at hM1
  obtain ⟨x13_1_0, x13_1_1, rfl, rfl, ix13_1_0, ix13_1_1⟩ := B00 rx13_1
  try dsimp only at hM1
  refine And.intro (fun hc16 => ?_) (fun hc16 => ?_)
  ·have hc16 : ((!x13_2)) = true := hc16
   rw [if_pos hc16] at hM1
   intro v17 k18 f19
   obtain ⟨az20, cz20, rfl, rz20, sz20, lz20⟩ := E1.out (r := G3.toRp) f19 (F2.up (r := G3.toRp) sx13 fu9)
   have hE := Option.some.inj hM1; subst hE
   try dsimp only [A4, B4] at hM0
   have hE := Option.some.inj hM0; subst hE
   exact ⟨([.int .i64 u6, .int .i64 u7, .slice au8 u8.length cu8]), az20, u9.length, cz20, rfl, (z0 iu6 iu7 (K0.mono (sx13.trans sz20) ru8)), rz20, (((sx1.trans sX4).trans sx13).trans sz20)⟩
  ·have hc16 : ((!x13_2)) = false := hc16
   rw [if_neg (K1 hc16)] at hM1
   obtain ⟨q21, gq21, hM1⟩ := j0 hM1
   refine And.intro (j3 gq21 (by first | rw [F2.length (F2.up (r := G3.toRp) sx13 fu9), F2.length (show F2 (G3.R k14) ([[.int .i64 x13_1_0, .int .i64 x13_1_1]] : List (List Value)) [(x13_1_0, x13_1_1)] from ⟨(M1 ix13_1_0 ix13_1_1), trivial⟩)] | exact congrArg (· + 1) (F2.length (F2.up (r := G3.toRp) sx13 fu9)))) ?_
   refine And.intro rfl (And.intro (by first | exact trivial | exact And.intro rfl trivial | exact And.intro rfl (And.intro rfl trivial) | exact And.intro rfl (And.intro rfl (And.intro rfl trivial)) | exact And.intro rfl (And.intro rfl (And.intro rfl (And.intro rfl trivial)))) (And.intro (by first | exact trivial | exact And.intro rfl trivial | exact And.intro rfl (And.intro rfl trivial) | exact And.intro rfl (And.intro rfl (And.intro rfl trivial)) | exact And.intro rfl (And.intro rfl (And.intro rfl (And.intro rfl trivial)))) (Exists.intro m11 (And.intro ⟨(IntKind.i64.wrap (u5 + 1)), x13_0_0, x13_0_1, ax13_0_2, x13_0_2.length, cx13_0_2, x13_0_2, (wu9 ++ ([[.int .i64 x13_1_0, .int .i64 x13_1_1]] : List (List Value))), (u9 ++ [(x13_1_0, x13_1_1)]), rfl, rfl, (sX4.trans sx13), (U0 _), ix13_0_0, ix13_0_1, rx13_0_2, (F2.append (F2.up (r := G3.toRp) sx13 fu9) (show F2 (G3.R k14) ([[.int .i64 x13_1_0, .int .i64 x13_1_1]] : List (List Value)) [(x13_1_0, x13_1_1)] from ⟨(M1 ix13_1_0 ix13_1_1), trivial⟩)), hM1⟩ (Nat.lt_succ_self _)))))
 ·have hc12 : ((decide (u5 < 40))) = false := hc12
  rw [if_neg (K1 hc12)] at hM1
  have hE := Option.some.inj hM1; subst hE
  try dsimp only [J1, O1] at hM0
  intro v22 k23 f24
  obtain ⟨az25, cz25, rfl, rz25, sz25, lz25⟩ := E1.out (r := G3.toRp) f24 fu9
  have hE := Option.some.inj hM0; subst hE
  exact ⟨([.int .i64 u6, .int .i64 u7, .slice au8 u8.length cu8]), az25, u9.length, cz25, rfl, (z0 iu6 iu7 (K0.mono sz25 ru8)), rz25, ((sx1.trans sX4).trans sz25)⟩
theorem t07 (h : Hp) (csp0 : List Value) (p0 : l0) (rp0 : P0.R h csp0 p0) (r : l0 × Bool) (hM0 : U6 p0 = some r) :
  Tr Tryz.prog 93 #[.agg csp0.toArray] h fun v h' => ∃ (cs0 : List Value), v = .tuple #[.agg cs0.toArray, .bool r.2] ∧ P0.R h' cs0 r.1 ∧ Sub h h' := by
 obtain ⟨p0_0, p0_1, ap0_2, np0_2, cp0_2, p0_2, rfl, rfl, ip0_0, ip0_1, rp0_2⟩ := B0 rp0
 obtain ⟨rfl, lp0_2⟩ := Sl.len rp0_2
 unfold U6 at hM0
 dsimp only at hM0
 refine c3 (args := [.agg #[.int .i64 p0_0, .int .i64 p0_1, .slice ap0_2 p0_2.length cp0_2]]) (fn := Tryz.f93) rfl ?_
 obtain ⟨x1, gx1, hM0⟩ := j0 hM0
 refine Tr.mono (H4 _ [.int .i64 p0_0, .int .i64 p0_1, .slice ap0_2 p0_2.length cp0_2] (p0_0, p0_1, p0_2) (z0 ip0_0 ip0_1 rp0_2) _  gx1) ?_
 rintro v3 k2 ⟨csx1, rfl, rx1, sx1⟩
 obtain ⟨x1_0, x1_1, ax1_2, nx1_2, cx1_2, x1_2, rfl, rfl, ix1_0, ix1_1, rx1_2⟩ := B0 rx1
 obtain ⟨rfl, lx1_2⟩ := Sl.len rx1_2
 try dsimp only at hM0
 obtain ⟨x4, gx4, hM0⟩ := j0 hM0
 refine Tr.val (t7 _ [.int .i64 p0_0, .int .i64 p0_1, .slice ap0_2 p0_2.length cp0_2] (p0_0, p0_1, p0_2) (z0 ip0_0 ip0_1 (K0.mono sx1 rp0_2)) _  gx4) ?_
 refine And.intro (fun hc5 => ?_) (fun hc5 => ?_)
 ·have hc5 : ((bif (!x4) then true else (decide (p0_1 ≥ 40)))) = true := hc5
  rw [if_pos hc5] at hM0
  have hE := Option.some.inj hM0; subst hE
  exact ⟨([.int .i64 x1_0, .int .i64 x1_1, .slice ax1_2 x1_2.length cx1_2]), rfl, (z0 ix1_0 ix1_1 rx1_2), sx1⟩
 ·have hc5 : ((bif (!x4) then true else (decide (p0_1 ≥ 40)))) = false := hc5
  rw [if_neg (K1 hc5)] at hM0
  have hE := Option.some.inj hM0; subst hE
  exact ⟨([.int .i64 x1_0, .int .i64 (IntKind.i64.wrap (p0_1 + 1)), .slice ax1_2 x1_2.length cx1_2]), rfl, (z0 ix1_0 (U0 _) rx1_2), sx1⟩
theorem j04 (h : Hp) (csp0 : List Value) (p0 : l0) (rp0 : P0.R h csp0 p0) (csp1 : List Value) (p1 : D0) (rp1 : N0.R h csp1 p1) (r : l0 × Bool) (hM0 : l7 p0 p1 = some r) :
  Tr Tryz.prog 94 #[.agg csp0.toArray, .agg csp1.toArray] h fun v h' => ∃ (cs0 : List Value), v = .tuple #[.agg cs0.toArray, .bool r.2] ∧ P0.R h' cs0 r.1 ∧ Sub h h' := by
 obtain ⟨p0_0, p0_1, ap0_2, np0_2, cp0_2, p0_2, rfl, rfl, ip0_0, ip0_1, rp0_2⟩ := B0 rp0
 obtain ⟨rfl, lp0_2⟩ := Sl.len rp0_2
 obtain ⟨p1_0, p1_1, p1_2, rfl, rfl, ip1_0, ip1_1, ip1_2⟩ := V0 rp1
 unfold l7 at hM0
 dsimp only at hM0
 refine c3 (args := [.agg #[.int .i64 p0_0, .int .i64 p0_1, .slice ap0_2 p0_2.length cp0_2], .agg #[.int .i64 p1_0, .int .i64 p1_1, .int .i64 p1_2]]) (fn := Tryz.f94) rfl ?_
 obtain ⟨x1, gx1, hM0⟩ := j0 hM0
 refine Tr.mono (H4 _ [.int .i64 p0_0, .int .i64 p0_1, .slice ap0_2 p0_2.length cp0_2] (p0_0, p0_1, p0_2) (z0 ip0_0 ip0_1 rp0_2) _  gx1) ?_
 rintro v3 k2 ⟨csx1, rfl, rx1, sx1⟩
 obtain ⟨x1_0, x1_1, ax1_2, nx1_2, cx1_2, x1_2, rfl, rfl, ix1_0, ix1_1, rx1_2⟩ := B0 rx1
 obtain ⟨rfl, lx1_2⟩ := Sl.len rx1_2
 try dsimp only at hM0
 obtain ⟨x4, gx4, hM0⟩ := j0 hM0
 refine Tr.val (t7 _ [.int .i64 p0_0, .int .i64 p0_1, .slice ap0_2 p0_2.length cp0_2] (p0_0, p0_1, p0_2) (z0 ip0_0 ip0_1 (K0.mono sx1 rp0_2)) _  gx4) ?_
 obtain ⟨x5, gx5, hM0⟩ := j0 hM0
 refine Exists.intro (.bool x5) (And.intro (fun q => X04 _ [.int .i64 p0_0, .int .i64 p0_1, .slice ap0_2 p0_2.length cp0_2] (p0_0, p0_1, p0_2) (z0 ip0_0 ip0_1 (K0.mono sx1 rp0_2)) [.int .i64 p1_0, .int .i64 p1_1, .int .i64 p1_2] (p1_0, p1_1, p1_2) (O0 ip1_0 ip1_1 ip1_2) _  (U2 gx5 q)) ?_)
 refine And.intro (fun hc6 => ?_) (fun hc6 => ?_)
 ·have hc6 : ((bif (bif (!x4) then true else (!x5)) then true else (decide (((p0_2.length : Nat) : Int) ≥ 120)))) = true := hc6
  rw [if_pos hc6] at hM0
  have hE := Option.some.inj hM0; subst hE
  exact ⟨([.int .i64 x1_0, .int .i64 x1_1, .slice ax1_2 x1_2.length cx1_2]), rfl, (z0 ix1_0 ix1_1 rx1_2), sx1⟩
 ·have hc6 : ((bif (bif (!x4) then true else (!x5)) then true else (decide (((p0_2.length : Nat) : Int) ≥ 120)))) = false := hc6
  rw [if_neg (K1 hc6)] at hM0
  obtain ⟨x7, gx7, hM0⟩ := j0 hM0
  refine Tr.mono (N9 _ ap0_2 p0_2.length cp0_2 p0_2 (K0.mono sx1 rp0_2) [.int .i64 p1_0, .int .i64 p1_1, .int .i64 p1_2] (p1_0, p1_1, p1_2) (O0 ip1_0 ip1_1 ip1_2) _  gx7) ?_
  rintro v9 k8 ⟨ax7, nx7, cx7, rfl, rx7, sx7⟩
  obtain ⟨rfl, lx7⟩ := Sl.len rx7
  refine Or.inr (Or.inr (Or.inl (And.intro (And.intro (by kernel_rfl) (by kernel_rfl)) ?_)))
  refine Or.inr ?_
  refine Exists.intro 0 (And.intro (And.intro rfl rfl) ?_)
  refine And.intro trivial (And.intro (by first | exact trivial | exact rfl) ?_)
  have hE := Option.some.inj hM0; subst hE
  exact ⟨([.int .i64 x1_0, .int .i64 x1_1, .slice ax7 x7.length cx7]), rfl, (z0 ix1_0 ix1_1 rx7), (sx1.trans sx7)⟩
theorem F04 (h : Hp) (csp0 : List Value) (p0 : l0) (rp0 : P0.R h csp0 p0) (r : C0) (hM0 : L5 p0 = some r) :
  Tr Tryz.prog 92 #[.agg csp0.toArray] h fun v h' => ∃ (a0 : Option Addr) (n0 c0 : Nat), v = .slice a0 n0 c0 ∧ K0.R h' [.slice a0 n0 c0] r ∧ Sub h h' := by
 obtain ⟨p0_0, p0_1, ap0_2, np0_2, cp0_2, p0_2, rfl, rfl, ip0_0, ip0_1, rp0_2⟩ := B0 rp0
 obtain ⟨rfl, lp0_2⟩ := Sl.len rp0_2
 unfold L5 at hM0
 dsimp only at hM0
 refine c3 (args := [.agg #[.int .i64 p0_0, .int .i64 p0_1, .slice ap0_2 p0_2.length cp0_2]]) (fn := Tryz.f92) rfl ?_
 obtain ⟨X1, hLX1, hM0⟩ := j0 hM0
 refine Exists.intro { vars := [4], boxes := [], owns := [0], fuel := true } (Exists.intro (fun vs os h' => ∃ (u2 : Int) (wu3 : List (List Value)) (u3 : List D0), vs.tail = [.int .i64 u2] ∧ os = [wu3] ∧ Sub h h' ∧ J0 u2 ∧ F2 (N0.R h') wu3 u3 ∧ l4 p0_1 p0_0 p0_2 (I3 vs) u2 u3 = some X1) (Exists.intro (fun _ _ => 0) ?_))
 refine And.intro (Exists.intro D1 ⟨0, [], ([] : C0), rfl, rfl, (Sub.refl _), (c64 (by decide) (by decide)), (show F2 (N0.R h) ([] : List (List Value)) ([] : C0) from trivial), hLX1⟩) ?_
 rintro v_0 wu3 m5 k4 ⟨u2, zzu3, u3, evX1, eoX1, sX1, iu2, fu3, hM1⟩
 cases evX1
 cases eoX1
 replace hM1 : l4 p0_1 p0_0 p0_2 m5 u2 u3 = some X1 := hM1
 obtain _ | m5 := m5
 ·cases (show (none : Option _) = some X1 from hM1)
 rw [o7] at hM1
 obtain ⟨x6, gx6, hM1⟩ := j0 hM1
 refine Exists.intro (.bool x6) (And.intro (fun q => c00 _ [.int .i64 p0_0, .int .i64 p0_1, .slice ap0_2 p0_2.length cp0_2] (p0_0, p0_1, p0_2) (z0 ip0_0 ip0_1 (K0.mono sX1 rp0_2)) _  (U2 gx6 q)) ?_)
 refine And.intro (fun hc7 => ?_) (fun hc7 => ?_)
 ·have hc7 : ((bif (decide (u2 < p0_1)) then x6 else false)) = true := hc7
  rw [if_pos hc7] at hM1
  obtain ⟨x8, gx8, hM1⟩ := j0 hM1
  refine Tr.mono (r07 _ p0_0 ip0_0 _  gx8) ?_
  rintro v10 k9 ⟨ax8, nx8, cx8, rfl, rx8, sx8⟩
  obtain ⟨rfl, lx8⟩ := Sl.len rx8
  obtain ⟨X11, hLX11, hM1⟩ := j0 hM1
  refine Exists.intro { vars := [6], boxes := [], owns := [0], fuel := true } (Exists.intro (fun vs os h' => ∃ (u12 : Int) (wu13 : List (List Value)) (u13 : List D0), vs.tail = [.int .i64 u12] ∧ os = [wu13] ∧ Sub k9 h' ∧ J0 u12 ∧ F2 (N0.R h') wu13 u13 ∧ j2 x8 p0_0 p0_1 p0_2 u2 (I3 vs) u12 u13 = some X11) (Exists.intro (fun _ _ => 0) ?_))
  refine And.intro (Exists.intro D1 ⟨0, wu3, u3, rfl, rfl, (Sub.refl _), (c64 (by decide) (by decide)), (F2.up (r := N0.toRp) sx8 fu3), hLX11⟩) ?_
  rintro v_0 wu13 m15 k14 ⟨u12, zzu13, u13, evX11, eoX11, sX11, iu12, fu13, hM2⟩
  cases evX11
  cases eoX11
  replace hM2 : j2 x8 p0_0 p0_1 p0_2 u2 m15 u12 u13 = some X11 := hM2
  obtain _ | m15 := m15
  ·cases (show (none : Option _) = some X11 from hM2)
  rw [n7] at hM2
  refine And.intro (fun hc16 => ?_) (fun hc16 => ?_)
  ·have hc16 : ((decide (u12 < ((x8.length : Nat) : Int)))) = true := hc16
   rw [if_pos hc16] at hM2
   refine Or.inl (And.intro (And.intro (by kernel_rfl) (by kernel_rfl)) ?_)
   obtain ⟨x17, gx17, hM2⟩ := j0 hM2
   obtain ⟨bx17, csx17, ex17, rx17⟩ := Sl.getI (r := Wp.int.toRp) (O2.mono sX11 rx8) gx17 (by decide)
   refine And.intro bx17 ?_
   obtain ⟨rfl, ix17⟩ := rx17
   refine Exists.intro _ (And.intro ex17 ?_)
   obtain ⟨x18, gx18, hM2⟩ := j0 hM2
   refine Exists.intro (.int .i64 x18) (And.intro (r02 _ [.int .i64 p0_0, .int .i64 p0_1, .slice ap0_2 p0_2.length cp0_2] (p0_0, p0_1, p0_2) (z0 ip0_0 ip0_1 (K0.mono ((sX1.trans sx8).trans sX11) rp0_2)) u2 iu2 x17 ix17 _  gx18) ?_)
   obtain ⟨q19, gq19, hM2⟩ := j0 hM2
   have ix18 : J0 x18 := J3 gq19
   refine And.intro (fun hc20 => ?_) (fun hc20 => ?_)
   ·have hc20 : ((decide (x18 < 0))) = true := hc20
    rw [if_pos hc20] at hM2
    obtain ⟨x21, gx21, hM2⟩ := j0 hM2
    obtain ⟨bx21, csx21, ex21, rx21⟩ := Sl.getI (r := Wp.int.toRp) (O2.mono sX11 rx8) gx21 (by decide)
    refine And.intro bx21 ?_
    obtain ⟨rfl, ix21⟩ := rx21
    refine Exists.intro _ (And.intro ex21 ?_)
    obtain ⟨q22, gq22, hM2⟩ := j0 hM2
    refine And.intro (j3 gq22 (by first | rw [F2.length fu13, F2.length (show F2 (N0.R k14) ([[.int .i64 u2, .int .i64 x21, .int .i64 (-1)]] : List (List Value)) [(u2, x21, (-1))] from ⟨(O0 iu2 ix21 (c64 (by decide) (by decide))), trivial⟩)] | exact congrArg (· + 1) (F2.length fu13))) ?_
    refine And.intro rfl (And.intro (by first | exact trivial | exact And.intro rfl trivial | exact And.intro rfl (And.intro rfl trivial) | exact And.intro rfl (And.intro rfl (And.intro rfl trivial)) | exact And.intro rfl (And.intro rfl (And.intro rfl (And.intro rfl trivial)))) (And.intro (by first | exact trivial | exact And.intro rfl trivial | exact And.intro rfl (And.intro rfl trivial) | exact And.intro rfl (And.intro rfl (And.intro rfl trivial)) | exact And.intro rfl (And.intro rfl (And.intro rfl (And.intro rfl trivial)))) (Exists.intro m15 (And.intro ⟨(IntKind.i64.wrap (u12 + 1)), (wu13 ++ ([[.int .i64 u2, .int .i64 x21, .int .i64 (-1)]] : List (List Value))), (u13 ++ [(u2, x21, (-1))]), rfl, rfl, sX11, (U0 _), (F2.append fu13 (show F2 (N0.R k14) ([[.int .i64 u2, .int .i64 x21, .int .i64 (-1)]] : List (List Value)) [(u2, x21, (-1))] from ⟨(O0 iu2 ix21 (c64 (by decide) (by decide))), trivial⟩)), hM2⟩ (Nat.lt_succ_self _)))))
   ·have hc20 : ((decide (x18 < 0))) = false := hc20
    rw [if_neg (K1 hc20)] at hM2
    refine And.intro rfl (And.intro (by first | exact trivial | exact And.intro rfl trivial | exact And.intro rfl (And.intro rfl trivial) | exact And.intro rfl (And.intro rfl (And.intro rfl trivial)) | exact And.intro rfl (And.intro rfl (And.intro rfl (And.intro rfl trivial)))) (And.intro (by first | exact trivial | exact And.intro rfl trivial | exact And.intro rfl (And.intro rfl trivial) | exact And.intro rfl (And.intro rfl (And.intro rfl trivial)) | exact And.intro rfl (And.intro rfl (And.intro rfl (And.intro rfl trivial)))) (Exists.intro m15 (And.intro ⟨(IntKind.i64.wrap (u12 + 1)), wu13, u13, rfl, rfl, sX11, (U0 _), fu13, hM2⟩ (Nat.lt_succ_self _)))))
  ·have hc16 : ((decide (u12 < ((x8.length : Nat) : Int)))) = false := hc16
   rw [if_neg (K1 hc16)] at hM2
   have hE := Option.some.inj hM2; subst hE
   try dsimp only [J1, O1] at hM1
   refine And.intro rfl (And.intro (by first | exact trivial | exact And.intro rfl trivial | exact And.intro rfl (And.intro rfl trivial) | exact And.intro rfl (And.intro rfl (And.intro rfl trivial)) | exact And.intro rfl (And.intro rfl (And.intro rfl (And.intro rfl trivial)))) (And.intro (by first | exact trivial | exact And.intro rfl trivial | exact And.intro rfl (And.intro rfl trivial) | exact And.intro rfl (And.intro rfl (And.intro rfl trivial)) | exact And.intro rfl (And.intro rfl (And.intro rfl (And.intro rfl trivial)))) (Exists.intro m5 (And.intro ⟨(IntKind.i64.wrap (u2 + 1)), wu13, u13, rfl, rfl, ((sX1.trans sx8).trans sX11), (U0 _), fu13, hM1⟩ (Nat.lt_succ_self _)))))
 ·have hc7 : ((bif (decide (u2 < p0_1)) then x6 else false)) = false := hc7
  rw [if_neg (K1 hc7)] at hM1
  have hE := Option.some.inj hM1; subst hE
  try dsimp only [J1, O1] at hM0
  intro v27 k28 f29
  obtain ⟨az30, cz30, rfl, rz30, sz30, lz30⟩ := E1.out (r := N0.toRp) f29 fu3
  have hE := Option.some.inj hM0; subst hE
  exact ⟨az30, u3.length, cz30, rfl, rz30, (sX1.trans sz30)⟩
end Go.Proofs.YtfdlgbfeceodeaaGreat
namespace Go.Proofs.YtfdlgbfeceodeaaGreat
open Go.H
set_option linter.unusedVariables false
set_option linter.unusedSimpArgs false
set_option maxRecDepth 10000
set_option maxHeartbeats 0
theorem s05 (h : Hp) (csp0 : List Value) (p0 : M0) (rp0 : S0.R h csp0 p0) (csp1 : List Value) (p1 : l0) (rp1 : P0.R h csp1 p1) (r : l0 × Bool × Bool) (hM0 : P8 p0 p1 = some r) :
  Tr Tryz.prog 28 #[.agg csp0.toArray, .agg csp1.toArray] h fun v h' => ∃ (cs0 : List Value), v = .tuple #[.agg cs0.toArray, .bool r.2.1, .bool r.2.2] ∧ P0.R h' cs0 r.1 ∧ Sub h h' := by
 obtain ⟨p0_0, ap0_1, np0_1, cp0_1, p0_1, rfl, rfl, ip0_0, rp0_1⟩ := D2 rp0
 obtain ⟨rfl, lp0_1⟩ := Sl.len rp0_1
 obtain ⟨p1_0, p1_1, ap1_2, np1_2, cp1_2, p1_2, rfl, rfl, ip1_0, ip1_1, rp1_2⟩ := B0 rp1
 obtain ⟨rfl, lp1_2⟩ := Sl.len rp1_2
 unfold P8 at hM0
 dsimp only at hM0
 refine c3 (args := [.agg #[.int .i64 p0_0, .slice ap0_1 p0_1.length cp0_1], .agg #[.int .i64 p1_0, .int .i64 p1_1, .slice ap1_2 p1_2.length cp1_2]]) (fn := Tryz.f28) rfl ?_
 obtain ⟨x1, gx1, hM0⟩ := j0 hM0
 refine Tr.val (I00 _ [.int .i64 p0_0, .slice ap0_1 p0_1.length cp0_1] (p0_0, p0_1) (n3 ip0_0 rp0_1) _  gx1) ?_
 obtain ⟨x2, gx2, hM0⟩ := j0 hM0
 refine Exists.intro (.bool x2) (And.intro (fun q => c00 _ [.int .i64 p1_0, .int .i64 p1_1, .slice ap1_2 p1_2.length cp1_2] (p1_0, p1_1, p1_2) (z0 ip1_0 ip1_1 rp1_2) _  (U2 gx2 q)) ?_)
 refine And.intro (fun hc3 => ?_) (fun hc3 => ?_)
 ·have hc3 : ((bif (bif (!x1) then true else (!x2)) then true else (!decide (p0_0 = p1_0)))) = true := hc3
  rw [if_pos hc3] at hM0
  obtain ⟨x4, gx4, hM0⟩ := j0 hM0
  refine Tr.mono (H4 _ [.int .i64 p1_0, .int .i64 p1_1, .slice ap1_2 p1_2.length cp1_2] (p1_0, p1_1, p1_2) (z0 ip1_0 ip1_1 rp1_2) _  gx4) ?_
  rintro v6 k5 ⟨csx4, rfl, rx4, sx4⟩
  obtain ⟨x4_0, x4_1, ax4_2, nx4_2, cx4_2, x4_2, rfl, rfl, ix4_0, ix4_1, rx4_2⟩ := B0 rx4
  obtain ⟨rfl, lx4_2⟩ := Sl.len rx4_2
  try dsimp only at hM0
  have hE := Option.some.inj hM0; subst hE
  exact ⟨([.int .i64 x4_0, .int .i64 x4_1, .slice ax4_2 x4_2.length cx4_2]), rfl, (z0 ix4_0 ix4_1 rx4_2), sx4⟩
 ·have hc3 : ((bif (bif (!x1) then true else (!x2)) then true else (!decide (p0_0 = p1_0)))) = false := hc3
  rw [if_neg (K1 hc3)] at hM0
  obtain ⟨x7, gx7, hM0⟩ := j0 hM0
  obtain ⟨x7_0, x7_1⟩ := x7
  try dsimp only at hM0
  refine Tr.val (q05 _ [.int .i64 p0_0, .slice ap0_1 p0_1.length cp0_1] (p0_0, p0_1) (n3 ip0_0 rp0_1) [.int .i64 p1_0, .int .i64 p1_1, .slice ap1_2 p1_2.length cp1_2] (p1_0, p1_1, p1_2) (z0 ip1_0 ip1_1 rp1_2) _  gx7) ?_
  obtain ⟨q8, gq8, hM0⟩ := j0 hM0
  have ix7_0 : J0 x7_0 := J3 gq8
  obtain ⟨q9, gq9, hM0⟩ := j0 hM0
  have ix7_1 : J0 x7_1 := J3 gq9
  refine And.intro (fun hc10 => ?_) (fun hc10 => ?_)
  ·have hc10 : ((decide (x7_0 ≥ 0))) = true := hc10
   rw [if_pos hc10] at hM0
   refine Or.inr (Or.inr (Or.inr (Or.inr (Exists.intro 13 (And.intro (And.intro (by kernel_rfl) (by kernel_rfl)) ?_)))))
   obtain ⟨x11, gx11, hM0⟩ := j0 hM0
   obtain ⟨bx11, csx11, ex11, rx11⟩ := Sl.getI (r := O2.toRp) rp0_1 gx11 (by decide)
   obtain ⟨ax11, nx11, cx11, rfl⟩ := Wp.slice_cell rx11
   obtain ⟨rfl, lx11⟩ := Sl.len rx11
   refine Or.inl (Exists.intro (.hel (.slice ap0_1 p0_1.length cp0_1) x7_1 1 0) (And.intro ?_ ?_))
   ·intro k12 s13
    exact And.intro bx11 (And.intro rfl (And.intro rfl rfl))
   refine Or.inl (Exists.intro (.val (.slice ax11 x11.length cx11)) (And.intro ?_ ?_))
   ·intro k14 s15
    exact Exists.intro _ (And.intro (p6.up s15 ex11) (And.intro rfl (And.intro rfl rfl)))
   obtain ⟨x16, gx16, hM0⟩ := j0 hM0
   obtain ⟨x16_0, x16_1⟩ := x16
   try dsimp only at hM0
   obtain ⟨x16_0_0, x16_0_1, x16_0_2⟩ := x16_0
   try dsimp only at hM0
   refine Or.inr (Exists.intro (fun v hh => ∃ (ux16_0 : Value), v = .tuple #[ux16_0, .bool x16_1] ∧ (fun v hh => ∃ (ax16_0_2 : Option Addr) (cx16_0_2 : Nat), v = .agg #[.int .i64 x16_0_0, .int .i64 x16_0_1, .slice ax16_0_2 x16_0_2.length cx16_0_2] ∧ J0 x16_0_0 ∧ J0 x16_0_1 ∧ K0.R hh [.slice ax16_0_2 x16_0_2.length cx16_0_2] x16_0_2 ∧ x16_0_2.length ≤ 9223372036854775807) ux16_0 hh) (And.intro (fun v h1 h2 sb q => by obtain ⟨ux16_0, e, fux16_0⟩ := q; exact ⟨ux16_0, e, (by obtain ⟨ax16_0_2, cx16_0_2, e, f0, f1, f2, f3⟩ := fux16_0; exact ⟨ax16_0_2, cx16_0_2, e, f0, f1, K0.mono sb f2, f3⟩)⟩) (And.intro ?_ ?_)))
   ·intro k17 s18
    refine Tr.mono (Q09 _ [.int .i64 p1_0, .int .i64 p1_1, .slice ap1_2 p1_2.length cp1_2] (p1_0, p1_1, p1_2) (z0 ip1_0 ip1_1 (K0.mono s18 rp1_2)) x7_0 ix7_0 ax11 x11.length cx11 x11 (O2.mono s18 rx11) x7_0 ix7_0 _ gx16) ?_
    rintro _ kk ⟨csx16_0, rfl, rx16_0, sb⟩
    obtain ⟨yx16_0_0, yx16_0_1, ayx16_0_2, nyx16_0_2, cyx16_0_2, yx16_0_2, rfl, ey, iyx16_0_0, iyx16_0_1, ryx16_0_2⟩ := B0 rx16_0
    cases ey
    obtain ⟨rfl, lyx16_0_2⟩ := Sl.len ryx16_0_2
    exact And.intro o00 (And.intro sb ⟨(.agg #[.int .i64 x16_0_0, .int .i64 x16_0_1, .slice ayx16_0_2 x16_0_2.length cyx16_0_2]), rfl, ⟨ayx16_0_2, cyx16_0_2, rfl, iyx16_0_0, iyx16_0_1, ryx16_0_2, lyx16_0_2⟩⟩)
   refine Or.inr (Exists.intro (fun v hh => ∃ (ux16_0 : Value), v = .tuple #[ux16_0, .bool x16_1] ∧ (fun v hh => ∃ (ax16_0_2 : Option Addr) (cx16_0_2 : Nat), v = .agg #[.int .i64 x16_0_0, .int .i64 x16_0_1, .slice ax16_0_2 x16_0_2.length cx16_0_2] ∧ J0 x16_0_0 ∧ J0 x16_0_1 ∧ K0.R hh [.slice ax16_0_2 x16_0_2.length cx16_0_2] x16_0_2 ∧ x16_0_2.length ≤ 9223372036854775807) ux16_0 hh) (And.intro (fun v h1 h2 sb q => by obtain ⟨ux16_0, e, fux16_0⟩ := q; exact ⟨ux16_0, e, (by obtain ⟨ax16_0_2, cx16_0_2, e, f0, f1, f2, f3⟩ := fux16_0; exact ⟨ax16_0_2, cx16_0_2, e, f0, f1, K0.mono sb f2, f3⟩)⟩) (And.intro ?_ ?_)))
   ·intro k19 s20
    rintro _ ⟨_, rfl, ⟨az21p02, cz21p02, rfl, iz21p00, iz21p01, rz21p02, lz21p02⟩⟩
    exact And.intro o00 (And.intro (Sub.refl _) ⟨(.agg #[.int .i64 x16_0_0, .int .i64 x16_0_1, .slice az21p02 x16_0_2.length cz21p02]), rfl, ⟨az21p02, cz21p02, rfl, iz21p00, iz21p01, rz21p02, lz21p02⟩⟩)
   refine Or.inr (Exists.intro (fun v hh => ∃ (ax16_0_2 : Option Addr) (cx16_0_2 : Nat), v = .agg #[.int .i64 x16_0_0, .int .i64 x16_0_1, .slice ax16_0_2 x16_0_2.length cx16_0_2] ∧ J0 x16_0_0 ∧ J0 x16_0_1 ∧ K0.R hh [.slice ax16_0_2 x16_0_2.length cx16_0_2] x16_0_2 ∧ x16_0_2.length ≤ 9223372036854775807) (And.intro (fun v h1 h2 sb q => by obtain ⟨ax16_0_2, cx16_0_2, e, f0, f1, f2, f3⟩ := q; exact ⟨ax16_0_2, cx16_0_2, e, f0, f1, K0.mono sb f2, f3⟩) (And.intro ?_ ?_)))
   ·intro k22 s23
    rintro _ ⟨_, rfl, ⟨az24p02, cz24p02, rfl, iz24p00, iz24p01, rz24p02, lz24p02⟩⟩
    exact And.intro o00 (And.intro (Sub.refl _) ⟨az24p02, cz24p02, rfl, iz24p00, iz24p01, rz24p02, lz24p02⟩)
   refine Or.inl (Exists.intro (.val (.bool x16_1)) (And.intro ?_ ?_))
   ·intro k25 s26
    rintro _ ⟨_, rfl, ⟨az27p02, cz27p02, rfl, iz27p00, iz27p01, rz27p02, lz27p02⟩⟩
    exact And.intro rfl (And.intro rfl rfl)
   intro k28 s29
   rintro _ ⟨az302, cz302, rfl, iz300, iz301, rz302, lz302⟩
   rintro _ ⟨_, rfl, ⟨az31p02, cz31p02, rfl, iz31p00, iz31p01, rz31p02, lz31p02⟩⟩
   rintro _ ⟨_, rfl, ⟨az32p02, cz32p02, rfl, iz32p00, iz32p01, rz32p02, lz32p02⟩⟩
   refine And.intro (fun hc33 => ?_) (fun hc33 => ?_)
   ·have hc33 : ((!x16_1)) = true := hc33
    rw [if_pos hc33] at hM0
    obtain ⟨x34, gx34, hM0⟩ := j0 hM0
    refine Tr.mono (H4 _ [.int .i64 p1_0, .int .i64 p1_1, .slice ap1_2 p1_2.length cp1_2] (p1_0, p1_1, p1_2) (z0 ip1_0 ip1_1 (K0.mono s29 rp1_2)) _  gx34) ?_
    rintro v36 k35 ⟨csx34, rfl, rx34, sx34⟩
    obtain ⟨x34_0, x34_1, ax34_2, nx34_2, cx34_2, x34_2, rfl, rfl, ix34_0, ix34_1, rx34_2⟩ := B0 rx34
    obtain ⟨rfl, lx34_2⟩ := Sl.len rx34_2
    try dsimp only at hM0
    have hE := Option.some.inj hM0; subst hE
    exact ⟨([.int .i64 x34_0, .int .i64 x34_1, .slice ax34_2 x34_2.length cx34_2]), rfl, (z0 ix34_0 ix34_1 rx34_2), (s29.trans sx34)⟩
   ·have hc33 : ((!x16_1)) = false := hc33
    rw [if_neg (K1 hc33)] at hM0
    obtain ⟨x37, gx37, hM0⟩ := j0 hM0
    refine Tr.mono (S09 _ [.int .i64 x16_0_0, .int .i64 x16_0_1, .slice az302 x16_0_2.length cz302] (x16_0_0, x16_0_1, x16_0_2) (z0 iz300 iz301 rz302) _  gx37) ?_
    rintro v39 k38 ⟨csx37_0, ax37_1, nx37_1, cx37_1, rfl, rx37_0, rx37_1, sx37⟩
    obtain ⟨x37_0, x37_1⟩ := x37
    dsimp only at hM0 rx37_0 rx37_1
    obtain ⟨x37_0_0, x37_0_1, ax37_0_2, nx37_0_2, cx37_0_2, x37_0_2, rfl, rfl, ix37_0_0, ix37_0_1, rx37_0_2⟩ := B0 rx37_0
    obtain ⟨rfl, lx37_0_2⟩ := Sl.len rx37_0_2
    try dsimp only at hM0
    obtain ⟨rfl, lx37_1⟩ := Sl.len rx37_1
    have hE := Option.some.inj hM0; subst hE
    exact ⟨([.int .i64 x37_0_0, .int .i64 x37_0_1, .slice ax37_0_2 x37_0_2.length cx37_0_2]), rfl, (z0 ix37_0_0 ix37_0_1 rx37_0_2), (s29.trans sx37)⟩
  ·have hc10 : ((decide (x7_0 ≥ 0))) = false := hc10
   rw [if_neg (K1 hc10)] at hM0
   obtain ⟨x40, gx40, hM0⟩ := j0 hM0
   refine Tr.mono (F04 _ [.int .i64 p1_0, .int .i64 p1_1, .slice ap1_2 p1_2.length cp1_2] (p1_0, p1_1, p1_2) (z0 ip1_0 ip1_1 rp1_2) _  gx40) ?_
   rintro v42 k41 ⟨ax40, nx40, cx40, rfl, rx40, sx40⟩
   obtain ⟨rfl, lx40⟩ := Sl.len rx40
   refine And.intro (fun hc43 => ?_) (fun hc43 => ?_)
   ·have hc43 : ((decide (((x40.length : Nat) : Int) = 0))) = true := hc43
    rw [if_pos hc43] at hM0
    obtain ⟨x44, gx44, hM0⟩ := j0 hM0
    refine Tr.mono (H4 _ [.int .i64 p1_0, .int .i64 p1_1, .slice ap1_2 p1_2.length cp1_2] (p1_0, p1_1, p1_2) (z0 ip1_0 ip1_1 (K0.mono sx40 rp1_2)) _  gx44) ?_
    rintro v46 k45 ⟨csx44, rfl, rx44, sx44⟩
    obtain ⟨x44_0, x44_1, ax44_2, nx44_2, cx44_2, x44_2, rfl, rfl, ix44_0, ix44_1, rx44_2⟩ := B0 rx44
    obtain ⟨rfl, lx44_2⟩ := Sl.len rx44_2
    try dsimp only at hM0
    have hE := Option.some.inj hM0; subst hE
    exact ⟨([.int .i64 x44_0, .int .i64 x44_1, .slice ax44_2 x44_2.length cx44_2]), rfl, (z0 ix44_0 ix44_1 rx44_2), (sx40.trans sx44)⟩
   ·have hc43 : ((decide (((x40.length : Nat) : Int) = 0))) = false := hc43
    rw [if_neg (K1 hc43)] at hM0
    obtain ⟨x47, gx47, hM0⟩ := j0 hM0
    refine Tr.mono (t07 _ [.int .i64 p1_0, .int .i64 p1_1, .slice ap1_2 p1_2.length cp1_2] (p1_0, p1_1, p1_2) (z0 ip1_0 ip1_1 (K0.mono sx40 rp1_2)) _  gx47) ?_
    rintro v49 k48 ⟨csx47_0, rfl, rx47_0, sx47⟩
    obtain ⟨x47_0, x47_1⟩ := x47
    dsimp only at hM0 rx47_0
    obtain ⟨x47_0_0, x47_0_1, ax47_0_2, nx47_0_2, cx47_0_2, x47_0_2, rfl, rfl, ix47_0_0, ix47_0_1, rx47_0_2⟩ := B0 rx47_0
    obtain ⟨rfl, lx47_0_2⟩ := Sl.len rx47_0_2
    try dsimp only at hM0
    refine And.intro (fun hc50 => ?_) (fun hc50 => ?_)
    ·have hc50 : ((!x47_1)) = true := hc50
     rw [if_pos hc50] at hM0
     obtain ⟨x51, gx51, hM0⟩ := j0 hM0
     refine Tr.mono (H4 _ [.int .i64 p1_0, .int .i64 p1_1, .slice ap1_2 p1_2.length cp1_2] (p1_0, p1_1, p1_2) (z0 ip1_0 ip1_1 (K0.mono (sx40.trans sx47) rp1_2)) _  gx51) ?_
     rintro v53 k52 ⟨csx51, rfl, rx51, sx51⟩
     obtain ⟨x51_0, x51_1, ax51_2, nx51_2, cx51_2, x51_2, rfl, rfl, ix51_0, ix51_1, rx51_2⟩ := B0 rx51
     obtain ⟨rfl, lx51_2⟩ := Sl.len rx51_2
     try dsimp only at hM0
     have hE := Option.some.inj hM0; subst hE
     exact ⟨([.int .i64 x51_0, .int .i64 x51_1, .slice ax51_2 x51_2.length cx51_2]), rfl, (z0 ix51_0 ix51_1 rx51_2), ((sx40.trans sx47).trans sx51)⟩
    ·have hc50 : ((!x47_1)) = false := hc50
     rw [if_neg (K1 hc50)] at hM0
     refine Or.inr (Or.inr (Or.inr (Or.inr (Exists.intro 12 (And.intro (And.intro (by kernel_rfl) (by kernel_rfl)) ?_)))))
     obtain ⟨x54, gx54, hM0⟩ := j0 hM0
     obtain ⟨bx54, csx54, ex54, rx54⟩ := Sl.getI (r := N0.toRp) (K0.mono sx47 rx40) gx54 (by decide)
     obtain ⟨x54_0, x54_1, x54_2, rfl, rfl, ix54_0, ix54_1, ix54_2⟩ := V0 rx54
     try dsimp only at hM0
     refine Or.inl (Exists.intro (.hel (.slice ax40 x40.length cx40) 0 3 0) (And.intro ?_ ?_))
     ·intro k55 s56
      exact And.intro bx54 (And.intro rfl (And.intro rfl rfl))
     refine Or.inl (Exists.intro (.val (.int .i64 x54_0)) (And.intro ?_ ?_))
     ·intro k57 s58
      exact Exists.intro _ (And.intro (p6.up s58 ex54) (And.intro rfl (And.intro rfl rfl)))
     obtain ⟨x59, gx59, hM0⟩ := j0 hM0
     obtain ⟨bx59, csx59, ex59, rx59⟩ := Sl.getI (r := N0.toRp) (K0.mono sx47 rx40) gx59 (by decide)
     obtain ⟨x59_0, x59_1, x59_2, rfl, rfl, ix59_0, ix59_1, ix59_2⟩ := V0 rx59
     try dsimp only at hM0
     refine Or.inl (Exists.intro (.hel (.slice ax40 x40.length cx40) 0 3 0) (And.intro ?_ ?_))
     ·intro k60 s61
      exact And.intro bx59 (And.intro rfl (And.intro rfl rfl))
     refine Or.inl (Exists.intro (.val (.int .i64 x59_1)) (And.intro ?_ ?_))
     ·intro k62 s63
      exact Exists.intro _ (And.intro (p6.up s63 ex59) (And.intro rfl (And.intro rfl rfl)))
     refine Or.inl (Exists.intro (.agg [.val (.int .i64 x54_0), .val (.int .i64 x59_1), .val (.int .i64 p1_1)]) (And.intro ?_ ?_))
     ·intro k64 s65
      exact And.intro rfl (And.intro rfl rfl)
     intro k66 s67
     obtain ⟨x68, gx68, hM0⟩ := j0 hM0
     obtain ⟨bx68, csx68, ex68, rx68⟩ := Sl.getI (r := N0.toRp) (K0.mono (sx47.trans s67) rx40) gx68 (by decide)
     refine And.intro bx68 ?_
     obtain ⟨x68_0, x68_1, x68_2, rfl, rfl, ix68_0, ix68_1, ix68_2⟩ := V0 rx68
     try dsimp only at hM0
     refine Exists.intro _ (And.intro ex68 ?_)
     refine And.intro (fun hc69 => ?_) (fun hc69 => ?_)
     ·have hc69 : ((decide (x68_1 < 0))) = true := hc69
      rw [if_pos hc69] at hM0
      refine Or.inr (Or.inr (Or.inl (And.intro (And.intro (by kernel_rfl) (by kernel_rfl)) ?_)))
      obtain ⟨x70, gx70, hM0⟩ := j0 hM0
      obtain ⟨bx70, csx70, ex70, rx70⟩ := Sl.getI (r := N0.toRp) (K0.mono (sx47.trans s67) rx40) gx70 (by decide)
      obtain ⟨x70_0, x70_1, x70_2, rfl, rfl, ix70_0, ix70_1, ix70_2⟩ := V0 rx70
      try dsimp only at hM0
      refine Or.inl (Exists.intro (.hel (.slice ax40 x40.length cx40) 0 3 0) (And.intro ?_ ?_))
      ·intro k71 s72
       exact And.intro bx70 (And.intro rfl (And.intro rfl rfl))
      refine Or.inl (Exists.intro (.hel (.slice ax40 x40.length cx40) 0 3 1) (And.intro ?_ ?_))
      ·intro hh sb
       exact And.intro rfl (And.intro rfl rfl)
      refine Or.inl (Exists.intro (.val (.int .i64 x70_1)) (And.intro ?_ ?_))
      ·intro k73 s74
       exact Exists.intro _ (And.intro (p6.up s74 ex70) (And.intro rfl (And.intro rfl rfl)))
      refine Or.inl (Exists.intro (.val (.int .i64 (IntKind.i64.wrap (0 - x70_1)))) (And.intro ?_ ?_))
      ·intro k75 s76
       exact And.intro rfl (And.intro rfl rfl)
      obtain ⟨x77, gx77, hM0⟩ := j0 hM0
      obtain ⟨bx77, csx77, ex77, rx77⟩ := Sl.getI (r := N0.toRp) (K0.mono (sx47.trans s67) rx40) gx77 (by decide)
      obtain ⟨x77_0, x77_1, x77_2, rfl, rfl, ix77_0, ix77_1, ix77_2⟩ := V0 rx77
      try dsimp only at hM0
      refine Or.inl (Exists.intro (.hel (.slice ax40 x40.length cx40) 0 3 0) (And.intro ?_ ?_))
      ·intro k78 s79
       exact And.intro bx77 (And.intro rfl (And.intro rfl rfl))
      refine Or.inl (Exists.intro (.hel (.slice ax40 x40.length cx40) 0 3 0) (And.intro ?_ ?_))
      ·intro hh sb
       exact And.intro rfl (And.intro rfl rfl)
      refine Or.inl (Exists.intro (.val (.int .i64 x77_0)) (And.intro ?_ ?_))
      ·intro k80 s81
       exact Exists.intro _ (And.intro (p6.up s81 ex77) (And.intro rfl (And.intro rfl rfl)))
      refine Or.inl (Exists.intro (.agg [.val (.int .i64 p1_1), .val (.int .i64 (IntKind.i64.wrap (0 - x70_1))), .val (.int .i64 x77_0)]) (And.intro ?_ ?_))
      ·intro k82 s83
       exact And.intro rfl (And.intro rfl rfl)
      refine Or.inr ?_
      refine Exists.intro 0 (And.intro (And.intro rfl rfl) ?_)
      refine And.intro trivial (And.intro (by first | exact trivial | exact rfl) ?_)
      obtain ⟨x84, gx84, hM0⟩ := j0 hM0
      refine Tr.mono (j04 _ [.int .i64 x47_0_0, .int .i64 x47_0_1, .slice ax47_0_2 x47_0_2.length cx47_0_2] (x47_0_0, x47_0_1, x47_0_2) (z0 ix47_0_0 ix47_0_1 (K0.mono s67 rx47_0_2)) [.int .i64 p1_1, .int .i64 (IntKind.i64.wrap (0 - x70_1)), .int .i64 x77_0] (p1_1, (IntKind.i64.wrap (0 - x70_1)), x77_0) (O0 ip1_1 (U0 _) ix77_0) _  gx84) ?_
      rintro v86 k85 ⟨csx84_0, rfl, rx84_0, sx84⟩
      obtain ⟨x84_0, x84_1⟩ := x84
      dsimp only at hM0 rx84_0
      obtain ⟨x84_0_0, x84_0_1, ax84_0_2, nx84_0_2, cx84_0_2, x84_0_2, rfl, rfl, ix84_0_0, ix84_0_1, rx84_0_2⟩ := B0 rx84_0
      obtain ⟨rfl, lx84_0_2⟩ := Sl.len rx84_0_2
      try dsimp only at hM0
      refine And.intro (fun hc87 => ?_) (fun hc87 => ?_)
      ·have hc87 : ((!x84_1)) = true := hc87
       rw [if_pos hc87] at hM0
       obtain ⟨x88, gx88, hM0⟩ := j0 hM0
       refine Tr.mono (H4 _ [.int .i64 p1_0, .int .i64 p1_1, .slice ap1_2 p1_2.length cp1_2] (p1_0, p1_1, p1_2) (z0 ip1_0 ip1_1 (K0.mono (((sx40.trans sx47).trans s67).trans sx84) rp1_2)) _  gx88) ?_
       rintro v90 k89 ⟨csx88, rfl, rx88, sx88⟩
       obtain ⟨x88_0, x88_1, ax88_2, nx88_2, cx88_2, x88_2, rfl, rfl, ix88_0, ix88_1, rx88_2⟩ := B0 rx88
       obtain ⟨rfl, lx88_2⟩ := Sl.len rx88_2
       try dsimp only at hM0
       have hE := Option.some.inj hM0; subst hE
       exact ⟨([.int .i64 x88_0, .int .i64 x88_1, .slice ax88_2 x88_2.length cx88_2]), rfl, (z0 ix88_0 ix88_1 rx88_2), ((((sx40.trans sx47).trans s67).trans sx84).trans sx88)⟩
      ·have hc87 : ((!x84_1)) = false := hc87
       rw [if_neg (K1 hc87)] at hM0
       have hE := Option.some.inj hM0; subst hE
       exact ⟨([.int .i64 x84_0_0, .int .i64 x84_0_1, .slice ax84_0_2 x84_0_2.length cx84_0_2]), rfl, (z0 ix84_0_0 ix84_0_1 rx84_0_2), (((sx40.trans sx47).trans s67).trans sx84)⟩
     ·have hc69 : ((decide (x68_1 < 0))) = false := hc69
      rw [if_neg (K1 hc69)] at hM0
      obtain ⟨x91, gx91, hM0⟩ := j0 hM0
      refine Tr.mono (j04 _ [.int .i64 x47_0_0, .int .i64 x47_0_1, .slice ax47_0_2 x47_0_2.length cx47_0_2] (x47_0_0, x47_0_1, x47_0_2) (z0 ix47_0_0 ix47_0_1 (K0.mono s67 rx47_0_2)) [.int .i64 x54_0, .int .i64 x59_1, .int .i64 p1_1] (x54_0, x59_1, p1_1) (O0 ix54_0 ix59_1 ip1_1) _  gx91) ?_
      rintro v93 k92 ⟨csx91_0, rfl, rx91_0, sx91⟩
      obtain ⟨x91_0, x91_1⟩ := x91
      dsimp only at hM0 rx91_0
      obtain ⟨x91_0_0, x91_0_1, ax91_0_2, nx91_0_2, cx91_0_2, x91_0_2, rfl, rfl, ix91_0_0, ix91_0_1, rx91_0_2⟩ := B0 rx91_0
      obtain ⟨rfl, lx91_0_2⟩ := Sl.len rx91_0_2
      try dsimp only at hM0
      refine And.intro (fun hc94 => ?_) (fun hc94 => ?_)
      ·have hc94 : ((!x91_1)) = true := hc94
       rw [if_pos hc94] at hM0
       obtain ⟨x95, gx95, hM0⟩ := j0 hM0
       refine Tr.mono (H4 _ [.int .i64 p1_0, .int .i64 p1_1, .slice ap1_2 p1_2.length cp1_2] (p1_0, p1_1, p1_2) (z0 ip1_0 ip1_1 (K0.mono (((sx40.trans sx47).trans s67).trans sx91) rp1_2)) _  gx95) ?_
       rintro v97 k96 ⟨csx95, rfl, rx95, sx95⟩
       obtain ⟨x95_0, x95_1, ax95_2, nx95_2, cx95_2, x95_2, rfl, rfl, ix95_0, ix95_1, rx95_2⟩ := B0 rx95
       obtain ⟨rfl, lx95_2⟩ := Sl.len rx95_2
       try dsimp only at hM0
       have hE := Option.some.inj hM0; subst hE
       exact ⟨([.int .i64 x95_0, .int .i64 x95_1, .slice ax95_2 x95_2.length cx95_2]), rfl, (z0 ix95_0 ix95_1 rx95_2), ((((sx40.trans sx47).trans s67).trans sx91).trans sx95)⟩
      ·have hc94 : ((!x91_1)) = false := hc94
       rw [if_neg (K1 hc94)] at hM0
       have hE := Option.some.inj hM0; subst hE
       exact ⟨([.int .i64 x91_0_0, .int .i64 x91_0_1, .slice ax91_0_2 x91_0_2.length cx91_0_2]), rfl, (z0 ix91_0_0 ix91_0_1 rx91_0_2), (((sx40.trans sx47).trans s67).trans sx91)⟩
end Go.Proofs.YtfdlgbfeceodeaaGreat
namespace Go.Proofs.YtfdlgbfeceodeaaGreat
open Go.H
set_option linter.unusedVariables false
set_option linter.unusedSimpArgs false
set_option maxRecDepth 10000
theorem O3 (h : Hp) (csp0 : List Value) (p0 : l0) (rp0 : P0.R h csp0 p0) (r : l0) (hM0 : I2 p0 = some r) :
  Tr Tryz.prog 84 #[.agg csp0.toArray] h fun v h' => ∃ (g0 : Nat) (n0 c0 : Nat), v = .agg ([.int .i64 r.1, .int .i64 r.2.1, .slice (some ⟨g0, 0, none⟩) n0 c0] : List Value).toArray ∧ New P0 h h' [.int .i64 r.1, .int .i64 r.2.1, .slice (some ⟨g0, 0, none⟩) n0 c0] r := by
 obtain ⟨p0_0, p0_1, ap0_2, np0_2, cp0_2, p0_2, rfl, rfl, ip0_0, ip0_1, rp0_2⟩ := B0 rp0
 obtain ⟨rfl, lp0_2⟩ := Sl.len rp0_2
 unfold I2 at hM0
 dsimp only at hM0
 refine c3 (args := [.agg #[.int .i64 p0_0, .int .i64 p0_1, .slice ap0_2 p0_2.length cp0_2]]) (fn := Tryz.f84) rfl ?_
 refine Or.inr (Or.inr (Or.inl (And.intro (And.intro (by kernel_rfl) (by kernel_rfl)) ?_)))
 refine Or.inr ?_
 refine Or.inr ?_
 refine Or.inr ?_
 refine Or.inr ?_
 refine Exists.intro 0 (And.intro (And.intro rfl rfl) ?_)
 refine And.intro trivial (And.intro (by first | exact trivial | exact rfl) ?_)
 obtain ⟨vsy1, ey1, fy1⟩ := Sl.rows (r := N0.toRp) rp0_2
 refine Exists.intro vsy1 (And.intro ey1 ?_)
 obtain ⟨q2, gq2, hM0⟩ := j0 hM0
 refine And.intro (j3 gq2 (by first | rw [F2.length (show F2 (N0.R h) ([] : List (List Value)) ([] : C0) from trivial), F2.length fy1] | exact congrArg (· + 1) (F2.length (show F2 (N0.R h) ([] : List (List Value)) ([] : C0) from trivial)))) ?_
 refine And.intro trivial (And.intro (by first | exact trivial | exact rfl) ?_)
 refine And.intro trivial (And.intro (by first | exact trivial | exact rfl) ?_)
 refine And.intro trivial (And.intro (by first | exact trivial | exact rfl) ?_)
 intro v3 k4 f5
 obtain ⟨gz6, cz6, rfl, rz6, sz6, lz6⟩ := E1.outS (r := N0.toRp) f5 (F2.append (show F2 (N0.R h) ([] : List (List Value)) ([] : C0) from trivial) fy1)
 have hE := Option.some.inj hM0; subst hE
 exact ⟨gz6, ((([] : C0) ++ p0_2)).length, cz6, rfl, (New.pair (New.int ip0_0) (New.pair (New.int ip0_1) (E1.newPlain (r := N0) f5 (F2.append (show F2 (N0.R h) ([] : List (List Value)) ([] : C0) from trivial) fy1) (q07 _))))⟩
theorem T09 (h : Hp) (p0 : Int) (ip0 : J0 p0) (r : U1) (hM0 : j7 p0 = some r) :
  Tr Tryz.prog 156 #[.int .i64 p0] h fun v h' => ∃ (a0 : Option Addr) (n0 c0 : Nat), v = .slice a0 n0 c0 ∧ O2.R h' [.slice a0 n0 c0] r ∧ Sub h h' := by
 unfold j7 at hM0
 refine c3 (args := [.int .i64 p0]) (fn := Tryz.f156) rfl ?_
 obtain ⟨X1, hLX1, hM0⟩ := j0 hM0
 refine Exists.intro { vars := [4], boxes := [], owns := [0], fuel := true } (Exists.intro (fun vs os h' => ∃ (u2 : Int) (wu3 : List (List Value)) (u3 : List Int), vs.tail = [.int .i64 u2] ∧ os = [wu3] ∧ Sub h h' ∧ J0 u2 ∧ F2 (Wp.int.R h') wu3 u3 ∧ Z5 p0 (I3 vs) u2 u3 = some X1) (Exists.intro (fun _ _ => 0) ?_))
 refine And.intro (Exists.intro D1 ⟨1, [], ([] : U1), rfl, rfl, (Sub.refl _), (c64 (by decide) (by decide)), (show F2 (Wp.int.R h) ([] : List (List Value)) ([] : U1) from trivial), hLX1⟩) ?_
 rintro v_0 wu3 m5 k4 ⟨u2, zzu3, u3, evX1, eoX1, sX1, iu2, fu3, hM1⟩
 cases evX1
 cases eoX1
 replace hM1 : Z5 p0 m5 u2 u3 = some X1 := hM1
 obtain _ | m5 := m5
 ·cases (show (none : Option _) = some X1 from hM1)
 rw [b9] at hM1
 refine And.intro (fun hc6 => ?_) (fun hc6 => ?_)
 ·have hc6 : ((decide (u2 ≤ p0))) = true := hc6
  rw [if_pos hc6] at hM1
  obtain ⟨q7, gq7, hM1⟩ := j0 hM1
  refine And.intro (j3 gq7 (by first | rw [F2.length fu3, F2.length (show F2 (Wp.int.R k4) ([[.int .i64 u2], [.int .i64 (IntKind.i64.wrap (0 - u2))]] : List (List Value)) [u2, (IntKind.i64.wrap (0 - u2))] from ⟨⟨rfl, iu2⟩, ⟨⟨rfl, (U0 _)⟩, trivial⟩⟩)] | exact congrArg (· + 2) (F2.length fu3))) ?_
  refine And.intro rfl (And.intro (by first | exact trivial | exact And.intro rfl trivial | exact And.intro rfl (And.intro rfl trivial) | exact And.intro rfl (And.intro rfl (And.intro rfl trivial)) | exact And.intro rfl (And.intro rfl (And.intro rfl (And.intro rfl trivial)))) (And.intro (by first | exact trivial | exact And.intro rfl trivial | exact And.intro rfl (And.intro rfl trivial) | exact And.intro rfl (And.intro rfl (And.intro rfl trivial)) | exact And.intro rfl (And.intro rfl (And.intro rfl (And.intro rfl trivial)))) (Exists.intro m5 (And.intro ⟨(IntKind.i64.wrap (u2 + 1)), (wu3 ++ ([[.int .i64 u2], [.int .i64 (IntKind.i64.wrap (0 - u2))]] : List (List Value))), (u3 ++ [u2, (IntKind.i64.wrap (0 - u2))]), rfl, rfl, sX1, (U0 _), (F2.append fu3 (show F2 (Wp.int.R k4) ([[.int .i64 u2], [.int .i64 (IntKind.i64.wrap (0 - u2))]] : List (List Value)) [u2, (IntKind.i64.wrap (0 - u2))] from ⟨⟨rfl, iu2⟩, ⟨⟨rfl, (U0 _)⟩, trivial⟩⟩)), hM1⟩ (Nat.lt_succ_self _)))))
 ·have hc6 : ((decide (u2 ≤ p0))) = false := hc6
  rw [if_neg (K1 hc6)] at hM1
  have hE := Option.some.inj hM1; subst hE
  try dsimp only [J1, O1] at hM0
  intro v8 k9 f10
  obtain ⟨az11, cz11, rfl, rz11, sz11, lz11⟩ := E1.out (r := Wp.int.toRp) f10 fu3
  have hE := Option.some.inj hM0; subst hE
  exact ⟨az11, u3.length, cz11, rfl, rz11, (sX1.trans sz11)⟩
theorem B02 (h : Hp) (ap0 : Option Addr) (np0 cp0 : Nat) (p0 : C0) (rp0 : K0.R h [.slice ap0 np0 cp0] p0) (r : C0) (hM0 : Y7 p0 = some r) :
  Tr Tryz.prog 154 #[.slice ap0 np0 cp0] h fun v h' => ∃ (a0 : Option Addr) (n0 c0 : Nat), v = .slice a0 n0 c0 ∧ New K0 h h' [.slice a0 n0 c0] r := by
 obtain ⟨rfl, lp0⟩ := Sl.len rp0
 unfold Y7 at hM0
 refine c3 (args := [.slice ap0 p0.length cp0]) (fn := Tryz.f154) rfl ?_
 obtain ⟨vsy1, ey1, fy1⟩ := Sl.rows (r := N0.toRp) rp0
 refine Exists.intro vsy1 (And.intro ey1 ?_)
 obtain ⟨q2, gq2, hM0⟩ := j0 hM0
 refine And.intro (j3 gq2 (by first | rw [F2.length (show F2 (N0.R h) ([] : List (List Value)) ([] : C0) from trivial), F2.length fy1] | exact congrArg (· + 1) (F2.length (show F2 (N0.R h) ([] : List (List Value)) ([] : C0) from trivial)))) ?_
 refine Or.inl ?_
 intro v3 k4 f5
 obtain ⟨q6, gq6, hM0⟩ := j0 hM0
 refine Tr.mono (Z0c _ f5 (F2.append (show F2 (N0.R h) ([] : List (List Value)) ([] : C0) from trivial) fy1) (J3 gq6)) ?_
 rintro _ kz7 ⟨rfl, vsz7, fz7, qz7⟩
 obtain ⟨az7, cz7, rfl, rz7, sz7, lz7⟩ := E1.out (r := N0.toRp) fz7 qz7
 refine Tr.mono (a0d _ fz7 qz7) ?_
 rintro _ kz8 ⟨vsz8, fz8, qz8⟩
 obtain ⟨az8, cz8, rfl, rz8, sz8, lz8⟩ := E1.out (r := N0.toRp) fz8 qz8
 have hE := Option.some.inj hM0; subst hE
 exact ⟨az8, ((G00 eqE (U02 H0 (([] : C0) ++ p0)))).length, cz8, rfl, (E1.newPlain (r := N0) fz8 qz8 (q07 _))⟩
end Go.Proofs.YtfdlgbfeceodeaaGreat
namespace Go.Proofs.YtfdlgbfeceodeaaGreat
open Go.H
set_option linter.unusedVariables false
set_option linter.unusedSimpArgs false
set_option maxRecDepth 10000
theorem k04 (h : Hp) (p0 : Int) (ip0 : J0 p0) (p1 : Int) (ip1 : J0 p1) (p2 : Int) (ip2 : J0 p2) (r : D0) (hM0 : N7 p0 p1 p2 = some r) :
  Tr Tryz.prog 103 #[.int .i64 p0, .int .i64 p1, .int .i64 p2] h fun v h' => ∃ (cs0 : List Value), v = .agg cs0.toArray ∧ N0.R h' cs0 r ∧ Sub h h' := by
 unfold N7 at hM0
 refine c3 (args := [.int .i64 p0, .int .i64 p1, .int .i64 p2]) (fn := Tryz.f103) rfl ?_
 refine And.intro (fun hc1 => ?_) (fun hc1 => ?_)
 ·have hc1 : ((decide (p1 < 0))) = true := hc1
  rw [if_pos hc1] at hM0
  have hE := Option.some.inj hM0; subst hE
  exact ⟨([.int .i64 p2, .int .i64 (IntKind.i64.wrap (0 - p1)), .int .i64 p0]), rfl, (O0 ip2 (U0 _) ip0), (Sub.refl _)⟩
 ·have hc1 : ((decide (p1 < 0))) = false := hc1
  rw [if_neg (K1 hc1)] at hM0
  have hE := Option.some.inj hM0; subst hE
  exact ⟨([.int .i64 p0, .int .i64 p1, .int .i64 p2]), rfl, (O0 ip0 ip1 ip2), (Sub.refl _)⟩
theorem O9 (h : Hp) (ap0 : Option Addr) (np0 cp0 : Nat) (p0 : C0) (rp0 : K0.R h [.slice ap0 np0 cp0] p0) (csp1 : List Value) (p1 : D0) (rp1 : N0.R h csp1 p1) (r : Int) (hM0 : E3 p0 p1 = some r) :
  Tr Tryz.prog 210 #[.slice ap0 np0 cp0, .agg csp1.toArray] h fun v h' => v = .int .i64 r ∧ h' = h := by
 obtain ⟨rfl, lp0⟩ := Sl.len rp0
 obtain ⟨p1_0, p1_1, p1_2, rfl, rfl, ip1_0, ip1_1, ip1_2⟩ := V0 rp1
 unfold E3 at hM0
 dsimp only at hM0
 refine Tr.forget (c3 (args := [.slice ap0 p0.length cp0, .agg #[.int .i64 p1_0, .int .i64 p1_1, .int .i64 p1_2]]) (fn := Tryz.f210) rfl ?_)
 obtain ⟨X1, hLX1, hM0⟩ := j0 hM0
 refine Exists.intro { vars := [8], boxes := [], owns := [], fuel := true } (Exists.intro (fun vs os h' => ∃ (u2 : Int), vs.tail = [.int .i64 u2] ∧ os = [] ∧ Sub h h' ∧ J0 u2 ∧ H1 p0 p1_0 p1_1 p1_2 (I3 vs) u2 = some X1) (Exists.intro (fun _ _ => 0) ?_))
 refine And.intro (Exists.intro D1 ⟨0, rfl, rfl, (Sub.refl _), (c64 (by decide) (by decide)), hLX1⟩) ?_
 rintro v_0 m4 k3 ⟨u2, evX1, eoX1, sX1, iu2, hM1⟩
 cases evX1
 cases eoX1
 replace hM1 : H1 p0 p1_0 p1_1 p1_2 m4 u2 = some X1 := hM1
 obtain _ | m4 := m4
 ·cases (show (none : Option _) = some X1 from hM1)
 rw [N3] at hM1
 refine And.intro (fun hc5 => ?_) (fun hc5 => ?_)
 ·have hc5 : ((decide (u2 < ((p0.length : Nat) : Int)))) = true := hc5
  rw [if_pos hc5] at hM1
  refine Or.inl (And.intro (And.intro (by kernel_rfl) (by kernel_rfl)) ?_)
  obtain ⟨x6, gx6, hM1⟩ := j0 hM1
  obtain ⟨bx6, csx6, ex6, rx6⟩ := Sl.getI (r := N0.toRp) (K0.mono sX1 rp0) gx6 (by decide)
  refine And.intro bx6 ?_
  obtain ⟨x6_0, x6_1, x6_2, rfl, rfl, ix6_0, ix6_1, ix6_2⟩ := V0 rx6
  try dsimp only at hM1
  refine Exists.intro _ (And.intro ex6 ?_)
  refine Exists.intro (eqE (p1_0, p1_1, p1_2) (x6_0, x6_1, x6_2)) (And.intro (C0e _ _ _ rfl _ _ _ _ _ _) ?_)
  refine And.intro (fun hc7 => ?_) (fun hc7 => ?_)
  ·have hc7 : ((eqE (p1_0, p1_1, p1_2) (x6_0, x6_1, x6_2))) = true := hc7
   rw [if_pos hc7] at hM1
   have hE := Option.some.inj hM1; subst hE
   try dsimp only [A4, B4] at hM0
   have hE := Option.some.inj hM0; subst hE
   exact And.intro rfl sX1
  ·have hc7 : ((eqE (p1_0, p1_1, p1_2) (x6_0, x6_1, x6_2))) = false := hc7
   rw [if_neg (K1 hc7)] at hM1
   refine And.intro rfl (And.intro (by first | exact trivial | exact And.intro rfl trivial | exact And.intro rfl (And.intro rfl trivial) | exact And.intro rfl (And.intro rfl (And.intro rfl trivial)) | exact And.intro rfl (And.intro rfl (And.intro rfl (And.intro rfl trivial)))) (And.intro (by first | exact trivial | exact And.intro rfl trivial | exact And.intro rfl (And.intro rfl trivial) | exact And.intro rfl (And.intro rfl (And.intro rfl trivial)) | exact And.intro rfl (And.intro rfl (And.intro rfl (And.intro rfl trivial)))) (Exists.intro m4 (And.intro ⟨(IntKind.i64.wrap (u2 + 1)), rfl, rfl, sX1, (U0 _), hM1⟩ (Nat.lt_succ_self _)))))
 ·have hc5 : ((decide (u2 < ((p0.length : Nat) : Int)))) = false := hc5
  rw [if_neg (K1 hc5)] at hM1
  have hE := Option.some.inj hM1; subst hE
  try dsimp only [J1, O1] at hM0
  have hE := Option.some.inj hM0; subst hE
  exact And.intro rfl sX1
theorem j9 (h : Hp) (ap0 : Option Addr) (np0 cp0 : Nat) (p0 : C0) (rp0 : K0.R h [.slice ap0 np0 cp0] p0) (csp1 : List Value) (p1 : D0) (rp1 : N0.R h csp1 p1) (r : Bool) (hM0 : A2 p0 p1 = some r) :
  Tr Tryz.prog 159 #[.slice ap0 np0 cp0, .agg csp1.toArray] h fun v h' => v = .bool r ∧ h' = h := by
 obtain ⟨rfl, lp0⟩ := Sl.len rp0
 obtain ⟨p1_0, p1_1, p1_2, rfl, rfl, ip1_0, ip1_1, ip1_2⟩ := V0 rp1
 unfold A2 at hM0
 dsimp only at hM0
 refine Tr.forget (c3 (args := [.slice ap0 p0.length cp0, .agg #[.int .i64 p1_0, .int .i64 p1_1, .int .i64 p1_2]]) (fn := Tryz.f159) rfl ?_)
 obtain ⟨x1, gx1, hM0⟩ := j0 hM0
 refine Tr.val (O9 _ ap0 p0.length cp0 p0 rp0 [.int .i64 p1_0, .int .i64 p1_1, .int .i64 p1_2] (p1_0, p1_1, p1_2) (O0 ip1_0 ip1_1 ip1_2) _  gx1) ?_
 obtain ⟨q2, gq2, hM0⟩ := j0 hM0
 have ix1 : J0 x1 := J3 gq2
 have hE := Option.some.inj hM0; subst hE
 exact And.intro rfl (Sub.refl _)
theorem D00 (h : Hp) (p0 : Int) (ip0 : J0 p0) (bp1 : Nat) (typ1 : TypeId) (p1_0 : Int) (ip1_0 : J0 p1_0) (p1_1 : Int) (ip1_1 : J0 p1_1) (hbp1 : h bp1 = some (.cells #[.int .i64 p1_0, .int .i64 p1_1] typ1 (0, 0))) (r : Int) (hM0 : C3 p0 (p1_0, p1_1) = some r) :
  Tr Tryz.prog 227 #[.int .i64 p0, ptr bp1 0] h fun v h' => v = .int .i64 r ∧ h' = h := by
 unfold C3 at hM0
 dsimp only at hM0
 refine Tr.forget (c3 (args := [.int .i64 p0, ptr bp1 0]) (fn := Tryz.f227) rfl ?_)
 refine Exists.intro (.int .i64 p1_1) (And.intro ⟨rfl, by simp [Hp.cell, (hbp1)]⟩ ?_)
 refine And.intro (fun hc1 => ?_) (fun hc1 => ?_)
 ·have hc1 : ((decide (p0 = p1_1))) = true := hc1
  rw [if_pos hc1] at hM0
  refine Exists.intro (.int .i64 p1_0) (And.intro ⟨rfl, by simp [Hp.cell, (hbp1)]⟩ ?_)
  have hE := Option.some.inj hM0; subst hE
  exact And.intro rfl (Sub.refl _)
 ·have hc1 : ((decide (p0 = p1_1))) = false := hc1
  rw [if_neg (K1 hc1)] at hM0
  refine Exists.intro (.int .i64 p1_1) (And.intro ⟨rfl, by simp [Hp.cell, (hbp1)]⟩ ?_)
  refine And.intro (fun hc2 => ?_) (fun hc2 => ?_)
  ·have hc2 : ((decide (p0 > p1_1))) = true := hc2
   rw [if_pos hc2] at hM0
   have hE := Option.some.inj hM0; subst hE
   exact And.intro rfl (Sub.refl _)
  ·have hc2 : ((decide (p0 > p1_1))) = false := hc2
   rw [if_neg (K1 hc2)] at hM0
   have hE := Option.some.inj hM0; subst hE
   exact And.intro rfl (Sub.refl _)
theorem U09 (h : Hp) (csp0 : List Value) (p0 : l0) (rp0 : P0.R h csp0 p0) (p1 : Int) (ip1 : J0 p1) (ap2 : Option Addr) (np2 cp2 : Nat) (p2 : U1) (rp2 : O2.R h [.slice ap2 np2 cp2] p2) (p3 : Int) (ip3 : J0 p3) (r : l0 × Bool) (hM0 : t8 p0 p1 p2 p3 = some r) :
  Tr Tryz.prog 98 #[.agg csp0.toArray, .int .i64 p1, .slice ap2 np2 cp2, .int .i64 p3] h fun v h' => ∃ (cs0 : List Value), v = .tuple #[.agg cs0.toArray, .bool r.2] ∧ New P0 h h' cs0 r.1 := by
 obtain ⟨p0_0, p0_1, ap0_2, np0_2, cp0_2, p0_2, rfl, rfl, ip0_0, ip0_1, rp0_2⟩ := B0 rp0
 obtain ⟨rfl, lp0_2⟩ := Sl.len rp0_2
 obtain ⟨rfl, lp2⟩ := Sl.len rp2
 unfold t8 at hM0
 dsimp only at hM0
 refine c3 (args := [.agg #[.int .i64 p0_0, .int .i64 p0_1, .slice ap0_2 p0_2.length cp0_2], .int .i64 p1, .slice ap2 p2.length cp2, .int .i64 p3]) (fn := Tryz.f98) rfl ?_
 obtain ⟨x1, gx1, hM0⟩ := j0 hM0
 refine Tr.mono (O3 _ [.int .i64 p0_0, .int .i64 p0_1, .slice ap0_2 p0_2.length cp0_2] (p0_0, p0_1, p0_2) (z0 ip0_0 ip0_1 rp0_2) _  gx1) ?_
 rintro v3 k2 ⟨gx1_2, nx1_2, cx1_2, rfl, wx1⟩
 have sx1 : Sub h k2 := wx1.sub
 have rx1 := wx1.r
 obtain ⟨x1_0, x1_1, x1_2⟩ := x1
 dsimp only at hM0 wx1 rx1
 obtain ⟨_, _, _, _, _, _, ecx1, exx1, ix1_0, ix1_1, rx1_2⟩ := B0 rx1
 cases ecx1
 cases exx1
 obtain ⟨rfl, lx1_2⟩ := Sl.len rx1_2
 try dsimp only at hM0
 have we4 := New.sndI (New.sndI (wx1))
 obtain ⟨x5, gx5, hM0⟩ := j0 hM0
 refine Tr.val (z8 _ [.int .i64 p0_0, .int .i64 p0_1, .slice ap0_2 p0_2.length cp0_2] (p0_0, p0_1, p0_2) (z0 ip0_0 ip0_1 (K0.mono sx1 rp0_2)) _  gx5) ?_
 obtain ⟨x6, gx6, hM0⟩ := j0 hM0
 refine Exists.intro (.bool x6) (And.intro (fun q => M9 _ [.int .i64 p0_0, .int .i64 p0_1, .slice ap0_2 p0_2.length cp0_2] (p0_0, p0_1, p0_2) (z0 ip0_0 ip0_1 (K0.mono sx1 rp0_2)) p1 ip1 _  (U2 gx6 q)) ?_)
 obtain ⟨x7, gx7, hM0⟩ := j0 hM0
 refine Exists.intro (.bool x7) (And.intro (fun q => M9 _ [.int .i64 p0_0, .int .i64 p0_1, .slice ap0_2 p0_2.length cp0_2] (p0_0, p0_1, p0_2) (z0 ip0_0 ip0_1 (K0.mono sx1 rp0_2)) p3 ip3 _  (U2 gx7 q)) ?_)
 obtain ⟨x8, gx8, hM0⟩ := j0 hM0
 refine Exists.intro (.bool x8) (And.intro (fun q => W04 _ p0_0 ip0_0 ap2 p2.length cp2 p2 (O2.mono sx1 rp2) _  (U2 gx8 q)) ?_)
 refine And.intro (fun hc9 => ?_) (fun hc9 => ?_)
 ·have hc9 : ((bif (bif (bif (bif (bif (bif (!x5) then true else (!x6)) then true else (!x7)) then true else (decide (((p2.length : Nat) : Int) = 0))) then true else (!x8)) then true else (decide ((IntKind.i64.wrap ((IntKind.i64.wrap (p0_1 + ((p2.length : Nat) : Int))) - 1)) > 40))) then true else (decide ((IntKind.i64.wrap (((p0_2.length : Nat) : Int) + ((p2.length : Nat) : Int))) > 120)))) = true := hc9
  rw [if_pos hc9] at hM0
  have hE := Option.some.inj hM0; subst hE
  exact ⟨([.int .i64 x1_0, .int .i64 x1_1, .slice (some ⟨gx1_2, 0, none⟩) x1_2.length cx1_2]), rfl, (New.pair (New.int ix1_0) (New.pair (New.int ix1_1) we4))⟩
 ·have hc9 : ((bif (bif (bif (bif (bif (bif (!x5) then true else (!x6)) then true else (!x7)) then true else (decide (((p2.length : Nat) : Int) = 0))) then true else (!x8)) then true else (decide ((IntKind.i64.wrap ((IntKind.i64.wrap (p0_1 + ((p2.length : Nat) : Int))) - 1)) > 40))) then true else (decide ((IntKind.i64.wrap (((p0_2.length : Nat) : Int) + ((p2.length : Nat) : Int))) > 120)))) = false := hc9
  rw [if_neg (K1 hc9)] at hM0
  obtain ⟨X10, hLX10, hM0⟩ := j0 hM0
  refine Exists.intro { vars := [11, 66], boxes := [2], owns := [], fuel := true } (Exists.intro (fun vs os h' => ∃ (u11 : Int) (u12 : Int) (u13 : Int) (u14 : Int) (gau15 oau15 nu15 cu15 : Nat) (u15 : C0), vs.tail = [.int .i64 u11, .int .i64 u12, .int .i64 u13, .int .i64 u14, .slice (some ⟨gau15, oau15, none⟩) nu15 cu15] ∧ os = [] ∧ Sub h h' ∧ J0 u11 ∧ J0 u12 ∧ J0 u13 ∧ J0 u14 ∧ New K0 h h' [.slice (some ⟨gau15, oau15, none⟩) nu15 cu15] u15 ∧ K4 p2 p3 (I3 vs) u11 u12 u13 u14 u15 = some X10) (Exists.intro (fun _ _ => 0) ?_))
  refine And.intro (Exists.intro D1 ⟨p1, 0, x1_0, x1_1, gx1_2, 0, x1_2.length, cx1_2, x1_2, rfl, rfl, sx1, ip1, (c64 (by decide) (by decide)), ix1_0, ix1_1, we4, hLX10⟩) ?_
  rintro v_0 v_1 v_2 v_3 v_4 m17 k16 ⟨u11, u12, u13, u14, gau15, oau15, nu15, cu15, u15, evX10, eoX10, sX10, iu11, iu12, iu13, iu14, wwu15, hM1⟩
  cases evX10
  cases eoX10
  replace hM1 : K4 p2 p3 m17 u11 u12 u13 u14 u15 = some X10 := hM1
  obtain _ | m17 := m17
  ·cases (show (none : Option _) = some X10 from hM1)
  rw [g9] at hM1
  have ru15 := wwu15.r
  obtain ⟨rfl, lu15⟩ := Sl.len ru15
  refine And.intro (fun hc18 => ?_) (fun hc18 => ?_)
  ·have hc18 : ((decide (u12 < ((p2.length : Nat) : Int)))) = true := hc18
   rw [if_pos hc18] at hM1
   obtain ⟨x19, gx19, hM1⟩ := j0 hM1
   obtain ⟨bx19, csx19, ex19, rx19⟩ := Sl.getI (r := Wp.int.toRp) (O2.mono sX10 rp2) gx19 (by decide)
   refine And.intro bx19 ?_
   obtain ⟨rfl, ix19⟩ := rx19
   refine Exists.intro _ (And.intro ex19 ?_)
   refine And.intro (fun hc20 => ?_) (fun hc20 => ?_)
   ·have hc20 : ((decide (u12 < (IntKind.i64.wrap (((p2.length : Nat) : Int) - 1))))) = true := hc20
    rw [if_pos hc20] at hM1
    refine Or.inr (Or.inr (Or.inl (And.intro (And.intro (by kernel_rfl) (by kernel_rfl)) ?_)))
    refine Or.inr ?_
    refine Or.inr ?_
    refine Or.inr ?_
    refine Or.inr ?_
    refine Exists.intro 1 (And.intro (And.intro rfl rfl) ?_)
    obtain ⟨x21, gx21, hM1⟩ := j0 hM1
    refine Tr.mono (k04 _ u11 iu11 x19 ix19 u14 iu14 _  gx21) ?_
    rintro v23 k22 ⟨csx21, rfl, rx21, sx21⟩
    obtain ⟨x21_0, x21_1, x21_2, rfl, rfl, ix21_0, ix21_1, ix21_2⟩ := V0 rx21
    try dsimp only at hM1
    refine And.intro (And.intro rfl sx21) (And.intro (by first | exact trivial | exact rfl) ?_)
    refine And.intro trivial (And.intro (by first | exact trivial | exact rfl) ?_)
    obtain ⟨q24, gq24, hM1⟩ := j0 hM1
    obtain ⟨vsz25, rxz25, lnz25, apz25⟩ := New.app wwu15 sx21
    refine Exists.intro vsz25 (And.intro rxz25 (And.intro (j3 gq24 (by first | rw [lnz25, F2.length (show F2 (N0.R k22) ([[.int .i64 x21_0, .int .i64 x21_1, .int .i64 x21_2]] : List (List Value)) [(x21_0, x21_1, x21_2)] from ⟨(O0 ix21_0 ix21_1 ix21_2), trivial⟩)] | (rw [lnz25]; rfl))) ?_))
    intro vz25 kz25 happz25
    obtain ⟨wz25, gz25, oz25, nz25, cz25, rfl⟩ := apz25 _ _ _ _ _ (F3.ofPlain (q07 _) (show F2 (N0.R k22) ([[.int .i64 x21_0, .int .i64 x21_1, .int .i64 x21_2]] : List (List Value)) [(x21_0, x21_1, x21_2)] from ⟨(O0 ix21_0 ix21_1 ix21_2), trivial⟩)) R5.ofPlain happz25
    have rz25 := wz25.r
    obtain ⟨ez25, lz25⟩ := Sl.len rz25
    subst ez25
    refine And.intro trivial (And.intro (by first | exact trivial | exact rfl) ?_)
    refine And.intro trivial (And.intro (by first | exact trivial | exact rfl) ?_)
    refine And.intro rfl (And.intro (by first | exact trivial | exact And.intro rfl trivial | exact And.intro rfl (And.intro rfl trivial) | exact And.intro rfl (And.intro rfl (And.intro rfl trivial)) | exact And.intro rfl (And.intro rfl (And.intro rfl (And.intro rfl trivial)))) (And.intro (by first | exact trivial | exact And.intro rfl trivial | exact And.intro rfl (And.intro rfl trivial) | exact And.intro rfl (And.intro rfl (And.intro rfl trivial)) | exact And.intro rfl (And.intro rfl (And.intro rfl (And.intro rfl trivial)))) (Exists.intro m17 (And.intro ⟨u14, (IntKind.i64.wrap (u12 + 1)), u13, (IntKind.i64.wrap (u14 + 1)), gz25, oz25, (u15 ++ [(x21_0, x21_1, x21_2)]).length, cz25, (u15 ++ [(x21_0, x21_1, x21_2)]), rfl, rfl, wz25.sub, iu14, (U0 _), iu13, (U0 _), wz25, hM1⟩ (Nat.lt_succ_self _)))))
   ·have hc20 : ((decide (u12 < (IntKind.i64.wrap (((p2.length : Nat) : Int) - 1))))) = false := hc20
    rw [if_neg (K1 hc20)] at hM1
    refine Or.inr (Or.inr (Or.inl (And.intro (And.intro (by kernel_rfl) (by kernel_rfl)) ?_)))
    refine Or.inr ?_
    refine Or.inr ?_
    refine Or.inr ?_
    refine Or.inr ?_
    refine Exists.intro 1 (And.intro (And.intro rfl rfl) ?_)
    obtain ⟨x26, gx26, hM1⟩ := j0 hM1
    refine Tr.mono (k04 _ u11 iu11 x19 ix19 p3 ip3 _  gx26) ?_
    rintro v28 k27 ⟨csx26, rfl, rx26, sx26⟩
    obtain ⟨x26_0, x26_1, x26_2, rfl, rfl, ix26_0, ix26_1, ix26_2⟩ := V0 rx26
    try dsimp only at hM1
    refine And.intro (And.intro rfl sx26) (And.intro (by first | exact trivial | exact rfl) ?_)
    refine And.intro trivial (And.intro (by first | exact trivial | exact rfl) ?_)
    obtain ⟨q29, gq29, hM1⟩ := j0 hM1
    obtain ⟨vsz30, rxz30, lnz30, apz30⟩ := New.app wwu15 sx26
    refine Exists.intro vsz30 (And.intro rxz30 (And.intro (j3 gq29 (by first | rw [lnz30, F2.length (show F2 (N0.R k27) ([[.int .i64 x26_0, .int .i64 x26_1, .int .i64 x26_2]] : List (List Value)) [(x26_0, x26_1, x26_2)] from ⟨(O0 ix26_0 ix26_1 ix26_2), trivial⟩)] | (rw [lnz30]; rfl))) ?_))
    intro vz30 kz30 happz30
    obtain ⟨wz30, gz30, oz30, nz30, cz30, rfl⟩ := apz30 _ _ _ _ _ (F3.ofPlain (q07 _) (show F2 (N0.R k27) ([[.int .i64 x26_0, .int .i64 x26_1, .int .i64 x26_2]] : List (List Value)) [(x26_0, x26_1, x26_2)] from ⟨(O0 ix26_0 ix26_1 ix26_2), trivial⟩)) R5.ofPlain happz30
    have rz30 := wz30.r
    obtain ⟨ez30, lz30⟩ := Sl.len rz30
    subst ez30
    refine And.intro trivial (And.intro (by first | exact trivial | exact rfl) ?_)
    refine And.intro trivial (And.intro (by first | exact trivial | exact rfl) ?_)
    refine And.intro rfl (And.intro (by first | exact trivial | exact And.intro rfl trivial | exact And.intro rfl (And.intro rfl trivial) | exact And.intro rfl (And.intro rfl (And.intro rfl trivial)) | exact And.intro rfl (And.intro rfl (And.intro rfl (And.intro rfl trivial)))) (And.intro (by first | exact trivial | exact And.intro rfl trivial | exact And.intro rfl (And.intro rfl trivial) | exact And.intro rfl (And.intro rfl (And.intro rfl trivial)) | exact And.intro rfl (And.intro rfl (And.intro rfl (And.intro rfl trivial)))) (Exists.intro m17 (And.intro ⟨p3, (IntKind.i64.wrap (u12 + 1)), u13, u14, gz30, oz30, (u15 ++ [(x26_0, x26_1, x26_2)]).length, cz30, (u15 ++ [(x26_0, x26_1, x26_2)]), rfl, rfl, wz30.sub, ip3, (U0 _), iu13, iu14, wz30, hM1⟩ (Nat.lt_succ_self _)))))
  ·have hc18 : ((decide (u12 < ((p2.length : Nat) : Int)))) = false := hc18
   rw [if_neg (K1 hc18)] at hM1
   have hE := Option.some.inj hM1; subst hE
   try dsimp only [J1, O1] at hM0
   obtain ⟨x31, gx31, hM0⟩ := j0 hM0
   refine Tr.mono (B02 _ (some ⟨gau15, oau15, none⟩) u15.length cu15 u15 ru15 _  gx31) ?_
   rintro v33 k32 ⟨ax31, nx31, cx31, rfl, wx31⟩
   have sx31 : Sub k16 k32 := wx31.sub
   have rx31 := wx31.r
   obtain ⟨rfl, lx31⟩ := Sl.len rx31
   have hE := Option.some.inj hM0; subst hE
   exact ⟨([.int .i64 u13, .int .i64 u14, .slice ax31 x31.length cx31]), rfl, (New.pair (New.int iu13) (New.pair (New.int iu14) (New.from wx31 sX10)))⟩
theorem I0b (h : Hp) (csp0 : List Value) (p0 : l0) (rp0 : P0.R h csp0 p0) (r : D6) (hM0 : C00 p0 = some r) :
  Tr Tryz.prog 226 #[.agg csp0.toArray] h fun v h' => ∃ (a0 : Option Addr) (n0 c0 : Nat), v = .slice a0 n0 c0 ∧ A0b.R h' [.slice a0 n0 c0] r ∧ Sub h h' := by
 obtain ⟨p0_0, p0_1, ap0_2, np0_2, cp0_2, p0_2, rfl, rfl, ip0_0, ip0_1, rp0_2⟩ := B0 rp0
 obtain ⟨rfl, lp0_2⟩ := Sl.len rp0_2
 unfold C00 at hM0
 dsimp only at hM0
 refine c3 (args := [.agg #[.int .i64 p0_0, .int .i64 p0_1, .slice ap0_2 p0_2.length cp0_2]]) (fn := Tryz.f226) rfl ?_
 obtain ⟨X1, hLX1, hM0⟩ := j0 hM0
 refine Exists.intro { vars := [12], boxes := [], owns := [0], fuel := true } (Exists.intro (fun vs os h' => ∃ (u2 : Int) (wu3 : List (List Value)) (u3 : List Y2), vs.tail = [.int .i64 u2] ∧ os = [wu3] ∧ Sub h h' ∧ J0 u2 ∧ F2 (G3.R h') wu3 u3 ∧ p7 p0_2 (I3 vs) u2 u3 = some X1) (Exists.intro (fun _ _ => 0) ?_))
 refine And.intro (Exists.intro D1 ⟨0, [], ([] : D6), rfl, rfl, (Sub.refl _), (c64 (by decide) (by decide)), (show F2 (G3.R h) ([] : List (List Value)) ([] : D6) from trivial), hLX1⟩) ?_
 rintro v_0 wu3 m5 k4 ⟨u2, zzu3, u3, evX1, eoX1, sX1, iu2, fu3, hM1⟩
 cases evX1
 cases eoX1
 replace hM1 : p7 p0_2 m5 u2 u3 = some X1 := hM1
 obtain _ | m5 := m5
 ·cases (show (none : Option _) = some X1 from hM1)
 rw [W9] at hM1
 refine And.intro (fun hc6 => ?_) (fun hc6 => ?_)
 ·have hc6 : ((decide (u2 < ((p0_2.length : Nat) : Int)))) = true := hc6
  rw [if_pos hc6] at hM1
  obtain ⟨x7, gx7, hM1⟩ := j0 hM1
  obtain ⟨bx7, csx7, ex7, rx7⟩ := Sl.getI (r := N0.toRp) (K0.mono sX1 rp0_2) gx7 (by decide)
  refine And.intro bx7 ?_
  obtain ⟨x7_0, x7_1, x7_2, rfl, rfl, ix7_0, ix7_1, ix7_2⟩ := V0 rx7
  try dsimp only at hM1
  refine Exists.intro _ (And.intro ex7 ?_)
  obtain ⟨x8, gx8, hM1⟩ := j0 hM1
  obtain ⟨qx8, vsx8, ex8, fx8⟩ := Sl.cutI (r := N0.toRp) (K0.mono sX1 rp0_2) gx8
  refine And.intro qx8 (Exists.intro vsx8 (And.intro ex8 ?_))
  intro vx8 hvx8 _
  obtain ⟨ax8, cx8, rfl, rx8⟩ := fx8 vx8 hvx8
  have lx8 := (Sl.len rx8).2
  obtain ⟨X9, hLX9, hM1⟩ := j0 hM1
  refine Exists.intro { vars := [23], boxes := [], owns := [0], fuel := true } (Exists.intro (fun vs os h' => ∃ (u10 : Int) (wu11 : List (List Value)) (u11 : List Y2), vs.tail = [.int .i64 u10] ∧ os = [wu11] ∧ Sub k4 h' ∧ J0 u10 ∧ F2 (G3.R h') wu11 u11 ∧ M2 x8 x7_1 x7_0 x7_2 (I3 vs) u10 u11 = some X9) (Exists.intro (fun _ _ => 0) ?_))
  refine And.intro (Exists.intro D1 ⟨0, wu3, u3, rfl, rfl, (Sub.refl _), (c64 (by decide) (by decide)), fu3, hLX9⟩) ?_
  rintro v_0 wu11 m13 k12 ⟨u10, zzu11, u11, evX9, eoX9, sX9, iu10, fu11, hM2⟩
  cases evX9
  cases eoX9
  replace hM2 : M2 x8 x7_1 x7_0 x7_2 m13 u10 u11 = some X9 := hM2
  obtain _ | m13 := m13
  ·cases (show (none : Option _) = some X9 from hM2)
  rw [V9] at hM2
  refine And.intro (fun hc14 => ?_) (fun hc14 => ?_)
  ·have hc14 : ((decide (u10 < ((x8.length : Nat) : Int)))) = true := hc14
   rw [if_pos hc14] at hM2
   obtain ⟨x15, gx15, hM2⟩ := j0 hM2
   obtain ⟨bx15, csx15, ex15, rx15⟩ := Sl.getI (r := N0.toRp) (K0.mono sX9 rx8) gx15 (by decide)
   refine And.intro bx15 ?_
   obtain ⟨x15_0, x15_1, x15_2, rfl, rfl, ix15_0, ix15_1, ix15_2⟩ := V0 rx15
   try dsimp only at hM2
   refine Exists.intro _ (And.intro ex15 ?_)
   refine And.intro (fun hc16 => ?_) (fun hc16 => ?_)
   ·have hc16 : ((!decide (x7_1 = x15_1))) = true := hc16
    rw [if_pos hc16] at hM2
    refine And.intro rfl (And.intro (by first | exact trivial | exact And.intro rfl trivial | exact And.intro rfl (And.intro rfl trivial) | exact And.intro rfl (And.intro rfl (And.intro rfl trivial)) | exact And.intro rfl (And.intro rfl (And.intro rfl (And.intro rfl trivial)))) (And.intro (by first | exact trivial | exact And.intro rfl trivial | exact And.intro rfl (And.intro rfl trivial) | exact And.intro rfl (And.intro rfl (And.intro rfl trivial)) | exact And.intro rfl (And.intro rfl (And.intro rfl (And.intro rfl trivial)))) (Exists.intro m13 (And.intro ⟨(IntKind.i64.wrap (u10 + 1)), wu11, u11, rfl, rfl, sX9, (U0 _), fu11, hM2⟩ (Nat.lt_succ_self _)))))
   ·have hc16 : ((!decide (x7_1 = x15_1))) = false := hc16
    rw [if_neg (K1 hc16)] at hM2
    refine And.intro (fun hc17 => ?_) (fun hc17 => ?_)
    ·have hc17 : ((decide (x7_0 = x15_0))) = true := hc17
     rw [if_pos hc17] at hM2
     obtain ⟨q18, gq18, hM2⟩ := j0 hM2
     refine And.intro (j3 gq18 (by first | rw [F2.length fu11, F2.length (show F2 (G3.R k12) ([[.int .i64 (if x15_2 < x7_2 then x15_2 else x7_2), .int .i64 (if x15_2 > x7_2 then x15_2 else x7_2)]] : List (List Value)) [((if x15_2 < x7_2 then x15_2 else x7_2), (if x15_2 > x7_2 then x15_2 else x7_2))] from ⟨(M1 (j6 ix15_2 ix7_2) (j6 ix15_2 ix7_2)), trivial⟩)] | exact congrArg (· + 1) (F2.length fu11))) ?_
     refine And.intro (fun hc19 => ?_) (fun hc19 => ?_)
     ·have hc19 : ((decide (x7_2 = x15_2))) = true := hc19
      rw [if_pos hc19] at hM2
      obtain ⟨q20, gq20, hM2⟩ := j0 hM2
      refine And.intro (j3 gq20 (by first | rw [F2.length (F2.append fu11 (show F2 (G3.R k12) ([[.int .i64 (if x15_2 < x7_2 then x15_2 else x7_2), .int .i64 (if x15_2 > x7_2 then x15_2 else x7_2)]] : List (List Value)) [((if x15_2 < x7_2 then x15_2 else x7_2), (if x15_2 > x7_2 then x15_2 else x7_2))] from ⟨(M1 (j6 ix15_2 ix7_2) (j6 ix15_2 ix7_2)), trivial⟩)), F2.length (show F2 (G3.R k12) ([[.int .i64 (if x15_0 < x7_0 then x15_0 else x7_0), .int .i64 (if x15_0 > x7_0 then x15_0 else x7_0)]] : List (List Value)) [((if x15_0 < x7_0 then x15_0 else x7_0), (if x15_0 > x7_0 then x15_0 else x7_0))] from ⟨(M1 (j6 ix15_0 ix7_0) (j6 ix15_0 ix7_0)), trivial⟩)] | exact congrArg (· + 1) (F2.length (F2.append fu11 (show F2 (G3.R k12) ([[.int .i64 (if x15_2 < x7_2 then x15_2 else x7_2), .int .i64 (if x15_2 > x7_2 then x15_2 else x7_2)]] : List (List Value)) [((if x15_2 < x7_2 then x15_2 else x7_2), (if x15_2 > x7_2 then x15_2 else x7_2))] from ⟨(M1 (j6 ix15_2 ix7_2) (j6 ix15_2 ix7_2)), trivial⟩))))) ?_
      refine And.intro rfl (And.intro (by first | exact trivial | exact And.intro rfl trivial | exact And.intro rfl (And.intro rfl trivial) | exact And.intro rfl (And.intro rfl (And.intro rfl trivial)) | exact And.intro rfl (And.intro rfl (And.intro rfl (And.intro rfl trivial)))) (And.intro (by first | exact trivial | exact And.intro rfl trivial | exact And.intro rfl (And.intro rfl trivial) | exact And.intro rfl (And.intro rfl (And.intro rfl trivial)) | exact And.intro rfl (And.intro rfl (And.intro rfl (And.intro rfl trivial)))) (Exists.intro m13 (And.intro ⟨(IntKind.i64.wrap (u10 + 1)), ((wu11 ++ ([[.int .i64 (if x15_2 < x7_2 then x15_2 else x7_2), .int .i64 (if x15_2 > x7_2 then x15_2 else x7_2)]] : List (List Value))) ++ ([[.int .i64 (if x15_0 < x7_0 then x15_0 else x7_0), .int .i64 (if x15_0 > x7_0 then x15_0 else x7_0)]] : List (List Value))), ((u11 ++ [((if x15_2 < x7_2 then x15_2 else x7_2), (if x15_2 > x7_2 then x15_2 else x7_2))]) ++ [((if x15_0 < x7_0 then x15_0 else x7_0), (if x15_0 > x7_0 then x15_0 else x7_0))]), rfl, rfl, sX9, (U0 _), (F2.append (F2.append fu11 (show F2 (G3.R k12) ([[.int .i64 (if x15_2 < x7_2 then x15_2 else x7_2), .int .i64 (if x15_2 > x7_2 then x15_2 else x7_2)]] : List (List Value)) [((if x15_2 < x7_2 then x15_2 else x7_2), (if x15_2 > x7_2 then x15_2 else x7_2))] from ⟨(M1 (j6 ix15_2 ix7_2) (j6 ix15_2 ix7_2)), trivial⟩)) (show F2 (G3.R k12) ([[.int .i64 (if x15_0 < x7_0 then x15_0 else x7_0), .int .i64 (if x15_0 > x7_0 then x15_0 else x7_0)]] : List (List Value)) [((if x15_0 < x7_0 then x15_0 else x7_0), (if x15_0 > x7_0 then x15_0 else x7_0))] from ⟨(M1 (j6 ix15_0 ix7_0) (j6 ix15_0 ix7_0)), trivial⟩)), hM2⟩ (Nat.lt_succ_self _)))))
     ·have hc19 : ((decide (x7_2 = x15_2))) = false := hc19
      rw [if_neg (K1 hc19)] at hM2
      refine And.intro rfl (And.intro (by first | exact trivial | exact And.intro rfl trivial | exact And.intro rfl (And.intro rfl trivial) | exact And.intro rfl (And.intro rfl (And.intro rfl trivial)) | exact And.intro rfl (And.intro rfl (And.intro rfl (And.intro rfl trivial)))) (And.intro (by first | exact trivial | exact And.intro rfl trivial | exact And.intro rfl (And.intro rfl trivial) | exact And.intro rfl (And.intro rfl (And.intro rfl trivial)) | exact And.intro rfl (And.intro rfl (And.intro rfl (And.intro rfl trivial)))) (Exists.intro m13 (And.intro ⟨(IntKind.i64.wrap (u10 + 1)), (wu11 ++ ([[.int .i64 (if x15_2 < x7_2 then x15_2 else x7_2), .int .i64 (if x15_2 > x7_2 then x15_2 else x7_2)]] : List (List Value))), (u11 ++ [((if x15_2 < x7_2 then x15_2 else x7_2), (if x15_2 > x7_2 then x15_2 else x7_2))]), rfl, rfl, sX9, (U0 _), (F2.append fu11 (show F2 (G3.R k12) ([[.int .i64 (if x15_2 < x7_2 then x15_2 else x7_2), .int .i64 (if x15_2 > x7_2 then x15_2 else x7_2)]] : List (List Value)) [((if x15_2 < x7_2 then x15_2 else x7_2), (if x15_2 > x7_2 then x15_2 else x7_2))] from ⟨(M1 (j6 ix15_2 ix7_2) (j6 ix15_2 ix7_2)), trivial⟩)), hM2⟩ (Nat.lt_succ_self _)))))
    ·have hc17 : ((decide (x7_0 = x15_0))) = false := hc17
     rw [if_neg (K1 hc17)] at hM2
     refine And.intro (fun hc21 => ?_) (fun hc21 => ?_)
     ·have hc21 : ((decide (x7_2 = x15_2))) = true := hc21
      rw [if_pos hc21] at hM2
      obtain ⟨q22, gq22, hM2⟩ := j0 hM2
      refine And.intro (j3 gq22 (by first | rw [F2.length fu11, F2.length (show F2 (G3.R k12) ([[.int .i64 (if x15_0 < x7_0 then x15_0 else x7_0), .int .i64 (if x15_0 > x7_0 then x15_0 else x7_0)]] : List (List Value)) [((if x15_0 < x7_0 then x15_0 else x7_0), (if x15_0 > x7_0 then x15_0 else x7_0))] from ⟨(M1 (j6 ix15_0 ix7_0) (j6 ix15_0 ix7_0)), trivial⟩)] | exact congrArg (· + 1) (F2.length fu11))) ?_
      refine And.intro rfl (And.intro (by first | exact trivial | exact And.intro rfl trivial | exact And.intro rfl (And.intro rfl trivial) | exact And.intro rfl (And.intro rfl (And.intro rfl trivial)) | exact And.intro rfl (And.intro rfl (And.intro rfl (And.intro rfl trivial)))) (And.intro (by first | exact trivial | exact And.intro rfl trivial | exact And.intro rfl (And.intro rfl trivial) | exact And.intro rfl (And.intro rfl (And.intro rfl trivial)) | exact And.intro rfl (And.intro rfl (And.intro rfl (And.intro rfl trivial)))) (Exists.intro m13 (And.intro ⟨(IntKind.i64.wrap (u10 + 1)), (wu11 ++ ([[.int .i64 (if x15_0 < x7_0 then x15_0 else x7_0), .int .i64 (if x15_0 > x7_0 then x15_0 else x7_0)]] : List (List Value))), (u11 ++ [((if x15_0 < x7_0 then x15_0 else x7_0), (if x15_0 > x7_0 then x15_0 else x7_0))]), rfl, rfl, sX9, (U0 _), (F2.append fu11 (show F2 (G3.R k12) ([[.int .i64 (if x15_0 < x7_0 then x15_0 else x7_0), .int .i64 (if x15_0 > x7_0 then x15_0 else x7_0)]] : List (List Value)) [((if x15_0 < x7_0 then x15_0 else x7_0), (if x15_0 > x7_0 then x15_0 else x7_0))] from ⟨(M1 (j6 ix15_0 ix7_0) (j6 ix15_0 ix7_0)), trivial⟩)), hM2⟩ (Nat.lt_succ_self _)))))
     ·have hc21 : ((decide (x7_2 = x15_2))) = false := hc21
      rw [if_neg (K1 hc21)] at hM2
      refine And.intro rfl (And.intro (by first | exact trivial | exact And.intro rfl trivial | exact And.intro rfl (And.intro rfl trivial) | exact And.intro rfl (And.intro rfl (And.intro rfl trivial)) | exact And.intro rfl (And.intro rfl (And.intro rfl (And.intro rfl trivial)))) (And.intro (by first | exact trivial | exact And.intro rfl trivial | exact And.intro rfl (And.intro rfl trivial) | exact And.intro rfl (And.intro rfl (And.intro rfl trivial)) | exact And.intro rfl (And.intro rfl (And.intro rfl (And.intro rfl trivial)))) (Exists.intro m13 (And.intro ⟨(IntKind.i64.wrap (u10 + 1)), wu11, u11, rfl, rfl, sX9, (U0 _), fu11, hM2⟩ (Nat.lt_succ_self _)))))
  ·have hc14 : ((decide (u10 < ((x8.length : Nat) : Int)))) = false := hc14
   rw [if_neg (K1 hc14)] at hM2
   have hE := Option.some.inj hM2; subst hE
   try dsimp only [J1, O1] at hM1
   refine And.intro rfl (And.intro (by first | exact trivial | exact And.intro rfl trivial | exact And.intro rfl (And.intro rfl trivial) | exact And.intro rfl (And.intro rfl (And.intro rfl trivial)) | exact And.intro rfl (And.intro rfl (And.intro rfl (And.intro rfl trivial)))) (And.intro (by first | exact trivial | exact And.intro rfl trivial | exact And.intro rfl (And.intro rfl trivial) | exact And.intro rfl (And.intro rfl (And.intro rfl trivial)) | exact And.intro rfl (And.intro rfl (And.intro rfl (And.intro rfl trivial)))) (Exists.intro m5 (And.intro ⟨(IntKind.i64.wrap (u2 + 1)), wu11, u11, rfl, rfl, (sX1.trans sX9), (U0 _), fu11, hM1⟩ (Nat.lt_succ_self _)))))
 ·have hc6 : ((decide (u2 < ((p0_2.length : Nat) : Int)))) = false := hc6
  rw [if_neg (K1 hc6)] at hM1
  have hE := Option.some.inj hM1; subst hE
  try dsimp only [J1, O1] at hM0
  intro v27 k28 f29
  obtain ⟨az30, cz30, rfl, rz30, sz30, lz30⟩ := E1.out (r := G3.toRp) f29 fu3
  have hE := Option.some.inj hM0; subst hE
  exact ⟨az30, u3.length, cz30, rfl, rz30, (sX1.trans sz30)⟩
theorem u07 (h : Hp) (csp0 : List Value) (p0 : l0) (rp0 : P0.R h csp0 p0) (r : Y2 × Bool) (hM0 : V6 p0 = some r) :
  Tr Tryz.prog 207 #[.agg csp0.toArray] h fun v h' => ∃ (cs0 : List Value), v = .tuple #[.agg cs0.toArray, .bool r.2] ∧ G3.R h' cs0 r.1 ∧ Sub h h' := by
 obtain ⟨p0_0, p0_1, ap0_2, np0_2, cp0_2, p0_2, rfl, rfl, ip0_0, ip0_1, rp0_2⟩ := B0 rp0
 obtain ⟨rfl, lp0_2⟩ := Sl.len rp0_2
 unfold V6 at hM0
 dsimp only at hM0
 refine c3 (args := [.agg #[.int .i64 p0_0, .int .i64 p0_1, .slice ap0_2 p0_2.length cp0_2]]) (fn := Tryz.f207) rfl ?_
 obtain ⟨x1, gx1, hM0⟩ := j0 hM0
 refine Tr.val (z8 _ [.int .i64 p0_0, .int .i64 p0_1, .slice ap0_2 p0_2.length cp0_2] (p0_0, p0_1, p0_2) (z0 ip0_0 ip0_1 rp0_2) _  gx1) ?_
 refine And.intro (fun hc2 => ?_) (fun hc2 => ?_)
 ·have hc2 : ((!x1)) = true := hc2
  rw [if_pos hc2] at hM0
  have hE := Option.some.inj hM0; subst hE
  exact ⟨([.int .i64 0, .int .i64 0]), rfl, (M1 (c64 (by decide) (by decide)) (c64 (by decide) (by decide))), (Sub.refl _)⟩
 ·have hc2 : ((!x1)) = false := hc2
  rw [if_neg (K1 hc2)] at hM0
  obtain ⟨x3, gx3, hM0⟩ := j0 hM0
  refine Tr.mono (I0b _ [.int .i64 p0_0, .int .i64 p0_1, .slice ap0_2 p0_2.length cp0_2] (p0_0, p0_1, p0_2) (z0 ip0_0 ip0_1 rp0_2) _  gx3) ?_
  rintro v5 k4 ⟨ax3, nx3, cx3, rfl, rx3, sx3⟩
  obtain ⟨rfl, lx3⟩ := Sl.len rx3
  refine And.intro (fun hc6 => ?_) (fun hc6 => ?_)
  ·have hc6 : ((decide (((x3.length : Nat) : Int) = 0))) = true := hc6
   rw [if_pos hc6] at hM0
   have hE := Option.some.inj hM0; subst hE
   exact ⟨([.int .i64 0, .int .i64 0]), rfl, (M1 (c64 (by decide) (by decide)) (c64 (by decide) (by decide))), sx3⟩
  ·have hc6 : ((decide (((x3.length : Nat) : Int) = 0))) = false := hc6
   rw [if_neg (K1 hc6)] at hM0
   obtain ⟨x7, gx7, hM0⟩ := j0 hM0
   obtain ⟨bx7, csx7, ex7, rx7⟩ := Sl.getI (r := G3.toRp) rx3 gx7 (by decide)
   refine And.intro bx7 ?_
   obtain ⟨x7_0, x7_1, rfl, rfl, ix7_0, ix7_1⟩ := B00 rx7
   try dsimp only at hM0
   refine Exists.intro _ (And.intro ex7 ?_)
   have hE := Option.some.inj hM0; subst hE
   exact ⟨([.int .i64 x7_0, .int .i64 x7_1]), rfl, (M1 ix7_0 ix7_1), sx3⟩
theorem l04 (h : Hp) (csp0 : List Value) (p0 : l0) (rp0 : P0.R h csp0 p0) (csp1 : List Value) (p1 : Y2) (rp1 : G3.R h csp1 p1) (r : l0 × Bool) (hM0 : A5 p0 p1 = some r) :
  Tr Tryz.prog 208 #[.agg csp0.toArray, .agg csp1.toArray] h fun v h' => ∃ (cs0 : List Value), v = .tuple #[.agg cs0.toArray, .bool r.2] ∧ New P0 h h' cs0 r.1 := by
 obtain ⟨p0_0, p0_1, ap0_2, np0_2, cp0_2, p0_2, rfl, rfl, ip0_0, ip0_1, rp0_2⟩ := B0 rp0
 obtain ⟨rfl, lp0_2⟩ := Sl.len rp0_2
 obtain ⟨p1_0, p1_1, rfl, rfl, ip1_0, ip1_1⟩ := B00 rp1
 unfold A5 at hM0
 dsimp only at hM0
 refine c3 (args := [.agg #[.int .i64 p0_0, .int .i64 p0_1, .slice ap0_2 p0_2.length cp0_2], .agg #[.int .i64 p1_0, .int .i64 p1_1]]) (fn := Tryz.f208) rfl ?_
 obtain ⟨x1, gx1, hM0⟩ := j0 hM0
 refine Tr.mono (O3 _ [.int .i64 p0_0, .int .i64 p0_1, .slice ap0_2 p0_2.length cp0_2] (p0_0, p0_1, p0_2) (z0 ip0_0 ip0_1 rp0_2) _  gx1) ?_
 rintro v3 k2 ⟨gx1_2, nx1_2, cx1_2, rfl, wx1⟩
 have sx1 : Sub h k2 := wx1.sub
 have rx1 := wx1.r
 obtain ⟨x1_0, x1_1, x1_2⟩ := x1
 dsimp only at hM0 wx1 rx1
 obtain ⟨_, _, _, _, _, _, ecx1, exx1, ix1_0, ix1_1, rx1_2⟩ := B0 rx1
 cases ecx1
 cases exx1
 obtain ⟨rfl, lx1_2⟩ := Sl.len rx1_2
 try dsimp only at hM0
 have we4 := New.sndI (New.sndI (wx1))
 obtain ⟨x5, gx5, hM0⟩ := j0 hM0
 refine Tr.val (z8 _ [.int .i64 p0_0, .int .i64 p0_1, .slice ap0_2 p0_2.length cp0_2] (p0_0, p0_1, p0_2) (z0 ip0_0 ip0_1 (K0.mono sx1 rp0_2)) _  gx5) ?_
 refine And.intro (fun hc6 => ?_) (fun hc6 => ?_)
 ·have hc6 : ((bif (bif (bif (!x5) then true else (decide (p1_0 < 0))) then true else (decide (p1_0 ≥ p1_1))) then true else (decide (p1_1 ≥ p0_1)))) = true := hc6
  rw [if_pos hc6] at hM0
  have hE := Option.some.inj hM0; subst hE
  exact ⟨([.int .i64 x1_0, .int .i64 x1_1, .slice (some ⟨gx1_2, 0, none⟩) x1_2.length cx1_2]), rfl, (New.pair (New.int ix1_0) (New.pair (New.int ix1_1) we4))⟩
 ·have hc6 : ((bif (bif (bif (!x5) then true else (decide (p1_0 < 0))) then true else (decide (p1_0 ≥ p1_1))) then true else (decide (p1_1 ≥ p0_1)))) = false := hc6
  rw [if_neg (K1 hc6)] at hM0
  intro b7 hb7
  have gb7 : (Hp.set k2 b7 (.cells #[.int .i64 p1_0, .int .i64 p1_1] 146 (0, 0))) b7 = some (.cells #[.int .i64 p1_0, .int .i64 p1_1] 146 (0, 0)) := Hp.set_same _ _ _
  have neb7gx1_2 : b7 ≠ gx1_2 := fun e => New.blk we4 (Sub.refl _) (e ▸ hb7)
  obtain ⟨X8, hLX8, hM0⟩ := j0 hM0
  refine Exists.intro { vars := [39], boxes := [], owns := [], fuel := true } (Exists.intro (fun vs os h' => ∃ (u9 : Int) (u10 : C0), vs.tail = [.int .i64 u9] ∧ os = [] ∧ Sub h h' ∧ J0 u9 ∧ New K0 h h' [.slice (some ⟨gx1_2, 0, none⟩) x1_2.length cx1_2] u10 ∧ h' b7 = some (.cells #[.int .i64 p1_0, .int .i64 p1_1] 146 (0, 0)) ∧ V3 x1_2 p1_0 p1_1 (I3 vs) u9 u10 = some X8) (Exists.intro (fun _ _ => 0) ?_))
  refine And.intro (Exists.intro D1 ⟨0, x1_2, rfl, rfl, (sx1.trans (Sub.set hb7)), (c64 (by decide) (by decide)), (New.mono we4 (Sub.set hb7)), gb7, hLX8⟩) ?_
  rintro v_0 m13 k12 ⟨u9, u10, evX8, eoX8, sX8, iu9, wwu10, hq11, hM1⟩
  cases evX8
  cases eoX8
  replace hM1 : V3 x1_2 p1_0 p1_1 m13 u9 u10 = some X8 := hM1
  obtain _ | m13 := m13
  ·cases (show (none : Option _) = some X8 from hM1)
  rw [R6] at hM1
  have ru10 := wwu10.r
  refine And.intro (fun hc14 => ?_) (fun hc14 => ?_)
  ·have hc14 : ((decide (u9 < ((x1_2.length : Nat) : Int)))) = true := hc14
   rw [if_pos hc14] at hM1
   obtain ⟨x15, gx15, hM1⟩ := j0 hM1
   obtain ⟨bx15, csx15, ex15, rx15⟩ := Sl.getI (r := N0.toRp) ru10 gx15 (by decide)
   refine And.intro bx15 ?_
   obtain ⟨x15_0, x15_1, x15_2, rfl, rfl, ix15_0, ix15_1, ix15_2⟩ := V0 rx15
   try dsimp only at hM1
   refine Exists.intro _ (And.intro ex15 ?_)
   refine Or.inr (Or.inr (Or.inl (And.intro (And.intro (by kernel_rfl) (by kernel_rfl)) ?_)))
   obtain ⟨x16, gx16, hM1⟩ := j0 hM1
   obtain ⟨q17, gq17, hM1⟩ := j0 hM1
   have ix16 : J0 x16 := J3 gq17
   refine Or.inl (Exists.intro (.val (.int .i64 x16)) (And.intro ?_ ?_))
   ·intro k18 s19
    exact Tr.val (D00 _ x15_0 ix15_0 b7 146 p1_0 ip1_0 p1_1 ip1_1 (s19 _ _ hq11) _ gx16) (And.intro rfl (And.intro rfl rfl))
   obtain ⟨x20, gx20, hM1⟩ := j0 hM1
   obtain ⟨q21, gq21, hM1⟩ := j0 hM1
   have ix20 : J0 x20 := J3 gq21
   refine Or.inl (Exists.intro (.val (.int .i64 x20)) (And.intro ?_ ?_))
   ·intro k22 s23
    exact Tr.val (D00 _ x15_2 ix15_2 b7 146 p1_0 ip1_0 p1_1 ip1_1 (s23 _ _ hq11) _ gx20) (And.intro rfl (And.intro rfl rfl))
   refine Or.inl (Exists.intro (.agg [.val (.int .i64 x16), .val (.int .i64 x15_1), .val (.int .i64 x20)]) (And.intro ?_ ?_))
   ·intro k24 s25
    exact And.intro rfl (And.intro rfl rfl)
   refine Or.inr ?_
   refine Or.inr ?_
   refine Exists.intro 0 (And.intro (And.intro rfl rfl) ?_)
   obtain ⟨x26, gx26, hM1⟩ := j0 hM1
   obtain ⟨bx26, csx26, ex26, rx26⟩ := Sl.getI (r := N0.toRp) ru10 gx26 (by decide)
   refine And.intro bx26 ?_
   obtain ⟨x26_0, x26_1, x26_2, rfl, rfl, ix26_0, ix26_1, ix26_2⟩ := V0 rx26
   try dsimp only at hM1
   refine And.intro trivial (And.intro (by first | exact trivial | exact rfl) ?_)
   refine New.put (r := N0) wwu10 (Sub.refl _) (m0h gx26).1 (new := [.int .i64 x16, .int .i64 x15_1, .int .i64 x20]) (By := []) (q07 _ _ _ (O0 ix16 ix15_1 ix20)) (R5.nil _) rfl (m0h gx26).2 ?_
   intro k27 w28 kpw28 _
   have rw28 := w28.r
   have hpw28b7 : k27 b7 = some (.cells #[.int .i64 p1_0, .int .i64 p1_1] 146 (0, 0)) := (kpw28 b7 neb7gx1_2).trans hq11
   refine And.intro trivial (And.intro (by first | exact trivial | exact rfl) ?_)
   refine And.intro rfl (And.intro (by first | exact trivial | exact And.intro rfl trivial | exact And.intro rfl (And.intro rfl trivial) | exact And.intro rfl (And.intro rfl (And.intro rfl trivial)) | exact And.intro rfl (And.intro rfl (And.intro rfl (And.intro rfl trivial)))) (And.intro (by first | exact trivial | exact And.intro rfl trivial | exact And.intro rfl (And.intro rfl trivial) | exact And.intro rfl (And.intro rfl (And.intro rfl trivial)) | exact And.intro rfl (And.intro rfl (And.intro rfl (And.intro rfl trivial)))) (Exists.intro m13 (And.intro ⟨(IntKind.i64.wrap (u9 + 1)), (u10.set u9.toNat (x16, x15_1, x20)), rfl, rfl, w28.sub, (U0 _), w28, (hpw28b7), hM1⟩ (Nat.lt_succ_self _)))))
  ·have hc14 : ((decide (u9 < ((x1_2.length : Nat) : Int)))) = false := hc14
   rw [if_neg (K1 hc14)] at hM1
   have hE := Option.some.inj hM1; subst hE
   try dsimp only [J1, O1] at hM0
   obtain ⟨x29, gx29, hM0⟩ := j0 hM0
   refine Tr.mono (B02 _ (some ⟨gx1_2, 0, none⟩) x1_2.length cx1_2 u10 ru10 _  gx29) ?_
   rintro v31 k30 ⟨ax29, nx29, cx29, rfl, wx29⟩
   have sx29 : Sub k12 k30 := wx29.sub
   have rx29 := wx29.r
   obtain ⟨rfl, lx29⟩ := Sl.len rx29
   have hE := Option.some.inj hM0; subst hE
   exact ⟨([.int .i64 x1_0, .int .i64 (IntKind.i64.wrap (x1_1 - 1)), .slice ax29 x29.length cx29]), rfl, (New.pair (New.int ix1_0) (New.pair (New.int (U0 _)) (New.from wx29 sX8)))⟩
theorem d08 (h : Hp) (csp0 : List Value) (p0 : l0) (rp0 : P0.R h csp0 p0) (r : l0 × Y2 × Bool) (hM0 : I7 p0 = some r) :
  Tr Tryz.prog 155 #[.agg csp0.toArray] h fun v h' => ∃ (cs0 : List Value) (cs1 : List Value), v = .tuple #[.agg cs0.toArray, .agg cs1.toArray, .bool r.2.2] ∧ New P0 h h' cs0 r.1 ∧ G3.R h' cs1 r.2.1 := by
 obtain ⟨p0_0, p0_1, ap0_2, np0_2, cp0_2, p0_2, rfl, rfl, ip0_0, ip0_1, rp0_2⟩ := B0 rp0
 obtain ⟨rfl, lp0_2⟩ := Sl.len rp0_2
 unfold I7 at hM0
 dsimp only at hM0
 refine c3 (args := [.agg #[.int .i64 p0_0, .int .i64 p0_1, .slice ap0_2 p0_2.length cp0_2]]) (fn := Tryz.f155) rfl ?_
 obtain ⟨x1, gx1, hM0⟩ := j0 hM0
 refine Tr.mono (u07 _ [.int .i64 p0_0, .int .i64 p0_1, .slice ap0_2 p0_2.length cp0_2] (p0_0, p0_1, p0_2) (z0 ip0_0 ip0_1 rp0_2) _  gx1) ?_
 rintro v3 k2 ⟨csx1_0, rfl, rx1_0, sx1⟩
 obtain ⟨x1_0, x1_1⟩ := x1
 dsimp only at hM0 rx1_0
 obtain ⟨x1_0_0, x1_0_1, rfl, rfl, ix1_0_0, ix1_0_1⟩ := B00 rx1_0
 try dsimp only at hM0
 refine And.intro (fun hc4 => ?_) (fun hc4 => ?_)
 ·have hc4 : ((!x1_1)) = true := hc4
  rw [if_pos hc4] at hM0
  obtain ⟨x5, gx5, hM0⟩ := j0 hM0
  refine Tr.mono (O3 _ [.int .i64 p0_0, .int .i64 p0_1, .slice ap0_2 p0_2.length cp0_2] (p0_0, p0_1, p0_2) (z0 ip0_0 ip0_1 (K0.mono sx1 rp0_2)) _  gx5) ?_
  rintro v7 k6 ⟨gx5_2, nx5_2, cx5_2, rfl, wx5⟩
  have sx5 : Sub k2 k6 := wx5.sub
  have rx5 := wx5.r
  obtain ⟨x5_0, x5_1, x5_2⟩ := x5
  dsimp only at hM0 wx5 rx5
  obtain ⟨_, _, _, _, _, _, ecx5, exx5, ix5_0, ix5_1, rx5_2⟩ := B0 rx5
  cases ecx5
  cases exx5
  obtain ⟨rfl, lx5_2⟩ := Sl.len rx5_2
  try dsimp only at hM0
  have we8 := New.sndI (New.sndI (wx5))
  have hE := Option.some.inj hM0; subst hE
  exact ⟨([.int .i64 x5_0, .int .i64 x5_1, .slice (some ⟨gx5_2, 0, none⟩) x5_2.length cx5_2]), ([.int .i64 0, .int .i64 0]), rfl, (New.pair (New.int ix5_0) (New.pair (New.int ix5_1) (New.from we8 sx1))), (M1 (c64 (by decide) (by decide)) (c64 (by decide) (by decide)))⟩
 ·have hc4 : ((!x1_1)) = false := hc4
  rw [if_neg (K1 hc4)] at hM0
  obtain ⟨x9, gx9, hM0⟩ := j0 hM0
  refine Tr.mono (l04 _ [.int .i64 p0_0, .int .i64 p0_1, .slice ap0_2 p0_2.length cp0_2] (p0_0, p0_1, p0_2) (z0 ip0_0 ip0_1 (K0.mono sx1 rp0_2)) [.int .i64 x1_0_0, .int .i64 x1_0_1] (x1_0_0, x1_0_1) (M1 ix1_0_0 ix1_0_1) _  gx9) ?_
  rintro v11 k10 ⟨csx9_0, rfl, wx9_0⟩
  obtain ⟨x9_0, x9_1⟩ := x9
  dsimp only at hM0 wx9_0
  have sx9 : Sub k2 k10 := wx9_0.sub
  have rx9_0 := wx9_0.r
  obtain ⟨x9_0_0, x9_0_1, ax9_0_2, nx9_0_2, cx9_0_2, x9_0_2, rfl, rfl, ix9_0_0, ix9_0_1, rx9_0_2⟩ := B0 rx9_0
  obtain ⟨rfl, lx9_0_2⟩ := Sl.len rx9_0_2
  try dsimp only at hM0
  have we12 := New.sndI (New.sndI (wx9_0))
  refine Or.inr (Or.inr (Or.inl (And.intro (And.intro (by kernel_rfl) (by kernel_rfl)) ?_)))
  refine Or.inr ?_
  refine Or.inr ?_
  refine Exists.intro 0 (And.intro (And.intro rfl rfl) ?_)
  refine And.intro trivial (And.intro (by first | exact trivial | exact rfl) ?_)
  refine And.intro trivial (And.intro (by first | exact trivial | exact rfl) ?_)
  have hE := Option.some.inj hM0; subst hE
  exact ⟨([.int .i64 x9_0_0, .int .i64 x9_0_1, .slice ax9_0_2 x9_0_2.length cx9_0_2]), ([.int .i64 x1_0_0, .int .i64 x1_0_1]), rfl, (New.pair (New.int ix9_0_0) (New.pair (New.int ix9_0_1) (New.from we12 sx1))), (M1 ix1_0_0 ix1_0_1)⟩
theorem V09 (h : Hp) (csp0 : List Value) (p0 : l0) (rp0 : P0.R h csp0 p0) (r : l0 × D6) (hM0 : w8 p0 = some r) :
  Tr Tryz.prog 99 #[.agg csp0.toArray] h fun v h' => ∃ (cs0 : List Value) (a1 : Option Addr) (n1 c1 : Nat), v = .tuple #[.agg cs0.toArray, .slice a1 n1 c1] ∧ New P0 h h' cs0 r.1 ∧ A0b.R h' [.slice a1 n1 c1] r.2 := by
 obtain ⟨p0_0, p0_1, ap0_2, np0_2, cp0_2, p0_2, rfl, rfl, ip0_0, ip0_1, rp0_2⟩ := B0 rp0
 obtain ⟨rfl, lp0_2⟩ := Sl.len rp0_2
 unfold w8 at hM0
 dsimp only at hM0
 refine c3 (args := [.agg #[.int .i64 p0_0, .int .i64 p0_1, .slice ap0_2 p0_2.length cp0_2]]) (fn := Tryz.f99) rfl ?_
 obtain ⟨x1, gx1, hM0⟩ := j0 hM0
 refine Tr.mono (O3 _ [.int .i64 p0_0, .int .i64 p0_1, .slice ap0_2 p0_2.length cp0_2] (p0_0, p0_1, p0_2) (z0 ip0_0 ip0_1 rp0_2) _  gx1) ?_
 rintro v3 k2 ⟨gx1_2, nx1_2, cx1_2, rfl, wx1⟩
 have sx1 : Sub h k2 := wx1.sub
 have rx1 := wx1.r
 obtain ⟨x1_0, x1_1, x1_2⟩ := x1
 dsimp only at hM0 wx1 rx1
 obtain ⟨_, _, _, _, _, _, ecx1, exx1, ix1_0, ix1_1, rx1_2⟩ := B0 rx1
 cases ecx1
 cases exx1
 obtain ⟨rfl, lx1_2⟩ := Sl.len rx1_2
 try dsimp only at hM0
 have we4 := New.sndI (New.sndI (wx1))
 obtain ⟨X5, hLX5, hM0⟩ := j0 hM0
 refine Exists.intro { vars := [], boxes := [2], owns := [0], fuel := true } (Exists.intro (fun vs os h' => ∃ (u6 : Int) (u7 : Int) (au8 : Option Addr) (nu8 cu8 : Nat) (u8 : C0) (wu9 : List (List Value)) (u9 : List Y2), vs.tail = [.int .i64 u6, .int .i64 u7, .slice au8 nu8 cu8] ∧ os = [wu9] ∧ Sub k2 h' ∧ J0 u6 ∧ J0 u7 ∧ New K0 h h' [.slice au8 nu8 cu8] u8 ∧ F2 (G3.R h') wu9 u9 ∧ f6 (I3 vs) u6 u7 u8 u9 = some X5) (Exists.intro (fun _ _ => 0) ?_))
 refine And.intro (Exists.intro D1 ⟨x1_0, x1_1, (some ⟨gx1_2, 0, none⟩), x1_2.length, cx1_2, x1_2, [], ([] : D6), rfl, rfl, (Sub.refl _), ix1_0, ix1_1, we4, (show F2 (G3.R k2) ([] : List (List Value)) ([] : D6) from trivial), hLX5⟩) ?_
 rintro v_0 v_1 v_2 wu9 m11 k10 ⟨u6, u7, au8, nu8, cu8, u8, zzu9, u9, evX5, eoX5, sX5, iu6, iu7, wwu8, fu9, hM1⟩
 cases evX5
 cases eoX5
 replace hM1 : f6 m11 u6 u7 u8 u9 = some X5 := hM1
 obtain _ | m11 := m11
 ·cases (show (none : Option _) = some X5 from hM1)
 rw [i9] at hM1
 have ru8 := wwu8.r
 obtain ⟨rfl, lu8⟩ := Sl.len ru8
 obtain ⟨x12, gx12, hM1⟩ := j0 hM1
 refine Tr.mono (d08 _ [.int .i64 u6, .int .i64 u7, .slice au8 u8.length cu8] (u6, u7, u8) (z0 iu6 iu7 ru8) _  gx12) ?_
 rintro v14 k13 ⟨csx12_0, csx12_1, rfl, wx12_0, rx12_1⟩
 obtain ⟨x12_0, x12_1, x12_2⟩ := x12
 dsimp only at hM1 wx12_0 rx12_1
 have sx12 : Sub k10 k13 := wx12_0.sub
 have rx12_0 := wx12_0.r
 obtain ⟨x12_0_0, x12_0_1, ax12_0_2, nx12_0_2, cx12_0_2, x12_0_2, rfl, rfl, ix12_0_0, ix12_0_1, rx12_0_2⟩ := B0 rx12_0
 obtain ⟨rfl, lx12_0_2⟩ := Sl.len rx12_0_2
 try dsimp only at hM1
 have we15 := New.sndI (New.sndI (wx12_0))
 obtain ⟨x12_1_0, x12_1_1, rfl, rfl, ix12_1_0, ix12_1_1⟩ := B00 rx12_1
 try dsimp only at hM1
 refine And.intro (fun hc16 => ?_) (fun hc16 => ?_)
 ·have hc16 : ((!x12_2)) = true := hc16
  rw [if_pos hc16] at hM1
  intro v17 k18 f19
  obtain ⟨az20, cz20, rfl, rz20, sz20, lz20⟩ := E1.out (r := G3.toRp) f19 (F2.up (r := G3.toRp) sx12 fu9)
  have hE := Option.some.inj hM1; subst hE
  try dsimp only [A4, B4] at hM0
  have hE := Option.some.inj hM0; subst hE
  exact ⟨([.int .i64 u6, .int .i64 u7, .slice au8 u8.length cu8]), az20, u9.length, cz20, rfl, (New.pair (New.int iu6) (New.pair (New.int iu7) (New.mono wwu8 (sx12.trans sz20)))), rz20⟩
 ·have hc16 : ((!x12_2)) = false := hc16
  rw [if_neg (K1 hc16)] at hM1
  obtain ⟨q21, gq21, hM1⟩ := j0 hM1
  refine And.intro (j3 gq21 (by first | rw [F2.length (F2.up (r := G3.toRp) sx12 fu9), F2.length (show F2 (G3.R k13) ([[.int .i64 x12_1_0, .int .i64 x12_1_1]] : List (List Value)) [(x12_1_0, x12_1_1)] from ⟨(M1 ix12_1_0 ix12_1_1), trivial⟩)] | exact congrArg (· + 1) (F2.length (F2.up (r := G3.toRp) sx12 fu9)))) ?_
  refine And.intro rfl (And.intro (by first | exact trivial | exact And.intro rfl trivial | exact And.intro rfl (And.intro rfl trivial) | exact And.intro rfl (And.intro rfl (And.intro rfl trivial)) | exact And.intro rfl (And.intro rfl (And.intro rfl (And.intro rfl trivial)))) (And.intro (by first | exact trivial | exact And.intro rfl trivial | exact And.intro rfl (And.intro rfl trivial) | exact And.intro rfl (And.intro rfl (And.intro rfl trivial)) | exact And.intro rfl (And.intro rfl (And.intro rfl (And.intro rfl trivial)))) (Exists.intro m11 (And.intro ⟨x12_0_0, x12_0_1, ax12_0_2, x12_0_2.length, cx12_0_2, x12_0_2, (wu9 ++ ([[.int .i64 x12_1_0, .int .i64 x12_1_1]] : List (List Value))), (u9 ++ [(x12_1_0, x12_1_1)]), rfl, rfl, (sX5.trans sx12), ix12_0_0, ix12_0_1, (New.from we15 (sx1.trans sX5)), (F2.append (F2.up (r := G3.toRp) sx12 fu9) (show F2 (G3.R k13) ([[.int .i64 x12_1_0, .int .i64 x12_1_1]] : List (List Value)) [(x12_1_0, x12_1_1)] from ⟨(M1 ix12_1_0 ix12_1_1), trivial⟩)), hM1⟩ (Nat.lt_succ_self _)))))
theorem v07 (h : Hp) (csp0 : List Value) (p0 : l0) (rp0 : P0.R h csp0 p0) (r : l0 × Bool) (hM0 : W6 p0 = some r) :
  Tr Tryz.prog 101 #[.agg csp0.toArray] h fun v h' => ∃ (cs0 : List Value), v = .tuple #[.agg cs0.toArray, .bool r.2] ∧ New P0 h h' cs0 r.1 := by
 obtain ⟨p0_0, p0_1, ap0_2, np0_2, cp0_2, p0_2, rfl, rfl, ip0_0, ip0_1, rp0_2⟩ := B0 rp0
 obtain ⟨rfl, lp0_2⟩ := Sl.len rp0_2
 unfold W6 at hM0
 dsimp only at hM0
 refine c3 (args := [.agg #[.int .i64 p0_0, .int .i64 p0_1, .slice ap0_2 p0_2.length cp0_2]]) (fn := Tryz.f101) rfl ?_
 obtain ⟨x1, gx1, hM0⟩ := j0 hM0
 refine Tr.mono (O3 _ [.int .i64 p0_0, .int .i64 p0_1, .slice ap0_2 p0_2.length cp0_2] (p0_0, p0_1, p0_2) (z0 ip0_0 ip0_1 rp0_2) _  gx1) ?_
 rintro v3 k2 ⟨gx1_2, nx1_2, cx1_2, rfl, wx1⟩
 have sx1 : Sub h k2 := wx1.sub
 have rx1 := wx1.r
 obtain ⟨x1_0, x1_1, x1_2⟩ := x1
 dsimp only at hM0 wx1 rx1
 obtain ⟨_, _, _, _, _, _, ecx1, exx1, ix1_0, ix1_1, rx1_2⟩ := B0 rx1
 cases ecx1
 cases exx1
 obtain ⟨rfl, lx1_2⟩ := Sl.len rx1_2
 try dsimp only at hM0
 have we4 := New.sndI (New.sndI (wx1))
 obtain ⟨x5, gx5, hM0⟩ := j0 hM0
 refine Tr.val (z8 _ [.int .i64 p0_0, .int .i64 p0_1, .slice ap0_2 p0_2.length cp0_2] (p0_0, p0_1, p0_2) (z0 ip0_0 ip0_1 (K0.mono sx1 rp0_2)) _  gx5) ?_
 refine And.intro (fun hc6 => ?_) (fun hc6 => ?_)
 ·have hc6 : ((bif (!x5) then true else (decide (p0_1 = 40)))) = true := hc6
  rw [if_pos hc6] at hM0
  have hE := Option.some.inj hM0; subst hE
  exact ⟨([.int .i64 x1_0, .int .i64 x1_1, .slice (some ⟨gx1_2, 0, none⟩) x1_2.length cx1_2]), rfl, (New.pair (New.int ix1_0) (New.pair (New.int ix1_1) we4))⟩
 ·have hc6 : ((bif (!x5) then true else (decide (p0_1 = 40)))) = false := hc6
  rw [if_neg (K1 hc6)] at hM0
  have hE := Option.some.inj hM0; subst hE
  exact ⟨([.int .i64 x1_0, .int .i64 (IntKind.i64.wrap (x1_1 + 1)), .slice (some ⟨gx1_2, 0, none⟩) x1_2.length cx1_2]), rfl, (New.pair (New.int ix1_0) (New.pair (New.int (U0 _)) we4))⟩
theorem W09 (h : Hp) (csp0 : List Value) (p0 : l0) (rp0 : P0.R h csp0 p0) (csp1 : List Value) (p1 : D0) (rp1 : N0.R h csp1 p1) (r : l0 × Bool) (hM0 : y8 p0 p1 = some r) :
  Tr Tryz.prog 102 #[.agg csp0.toArray, .agg csp1.toArray] h fun v h' => ∃ (cs0 : List Value), v = .tuple #[.agg cs0.toArray, .bool r.2] ∧ New P0 h h' cs0 r.1 := by
 obtain ⟨p0_0, p0_1, ap0_2, np0_2, cp0_2, p0_2, rfl, rfl, ip0_0, ip0_1, rp0_2⟩ := B0 rp0
 obtain ⟨rfl, lp0_2⟩ := Sl.len rp0_2
 obtain ⟨p1_0, p1_1, p1_2, rfl, rfl, ip1_0, ip1_1, ip1_2⟩ := V0 rp1
 unfold y8 at hM0
 dsimp only at hM0
 refine c3 (args := [.agg #[.int .i64 p0_0, .int .i64 p0_1, .slice ap0_2 p0_2.length cp0_2], .agg #[.int .i64 p1_0, .int .i64 p1_1, .int .i64 p1_2]]) (fn := Tryz.f102) rfl ?_
 obtain ⟨x1, gx1, hM0⟩ := j0 hM0
 refine Tr.mono (O3 _ [.int .i64 p0_0, .int .i64 p0_1, .slice ap0_2 p0_2.length cp0_2] (p0_0, p0_1, p0_2) (z0 ip0_0 ip0_1 rp0_2) _  gx1) ?_
 rintro v3 k2 ⟨gx1_2, nx1_2, cx1_2, rfl, wx1⟩
 have sx1 : Sub h k2 := wx1.sub
 have rx1 := wx1.r
 obtain ⟨x1_0, x1_1, x1_2⟩ := x1
 dsimp only at hM0 wx1 rx1
 obtain ⟨_, _, _, _, _, _, ecx1, exx1, ix1_0, ix1_1, rx1_2⟩ := B0 rx1
 cases ecx1
 cases exx1
 obtain ⟨rfl, lx1_2⟩ := Sl.len rx1_2
 try dsimp only at hM0
 have we4 := New.sndI (New.sndI (wx1))
 obtain ⟨x5, gx5, hM0⟩ := j0 hM0
 refine Tr.val (z8 _ [.int .i64 p0_0, .int .i64 p0_1, .slice ap0_2 p0_2.length cp0_2] (p0_0, p0_1, p0_2) (z0 ip0_0 ip0_1 (K0.mono sx1 rp0_2)) _  gx5) ?_
 obtain ⟨x6, gx6, hM0⟩ := j0 hM0
 refine Exists.intro (.bool x6) (And.intro (fun q => k01 _ [.int .i64 p0_0, .int .i64 p0_1, .slice ap0_2 p0_2.length cp0_2] (p0_0, p0_1, p0_2) (z0 ip0_0 ip0_1 (K0.mono sx1 rp0_2)) [.int .i64 p1_0, .int .i64 p1_1, .int .i64 p1_2] (p1_0, p1_1, p1_2) (O0 ip1_0 ip1_1 ip1_2) _  (U2 gx6 q)) ?_)
 obtain ⟨x7, gx7, hM0⟩ := j0 hM0
 refine Exists.intro (.bool x7) (And.intro (fun q => j9 _ ap0_2 p0_2.length cp0_2 p0_2 (K0.mono sx1 rp0_2) [.int .i64 p1_0, .int .i64 p1_1, .int .i64 p1_2] (p1_0, p1_1, p1_2) (O0 ip1_0 ip1_1 ip1_2) _  (U2 gx7 q)) ?_)
 refine And.intro (fun hc8 => ?_) (fun hc8 => ?_)
 ·have hc8 : ((bif (bif (bif (!x5) then true else (!x6)) then true else x7) then true else (decide (((p0_2.length : Nat) : Int) = 120)))) = true := hc8
  rw [if_pos hc8] at hM0
  have hE := Option.some.inj hM0; subst hE
  exact ⟨([.int .i64 x1_0, .int .i64 x1_1, .slice (some ⟨gx1_2, 0, none⟩) x1_2.length cx1_2]), rfl, (New.pair (New.int ix1_0) (New.pair (New.int ix1_1) we4))⟩
 ·have hc8 : ((bif (bif (bif (!x5) then true else (!x6)) then true else x7) then true else (decide (((p0_2.length : Nat) : Int) = 120)))) = false := hc8
  rw [if_neg (K1 hc8)] at hM0
  obtain ⟨q9, gq9, hM0⟩ := j0 hM0
  obtain ⟨vsz10, rxz10, lnz10, apz10⟩ := New.app we4 (Sub.refl _)
  refine Exists.intro vsz10 (And.intro rxz10 (And.intro (j3 gq9 (by first | rw [lnz10, F2.length (show F2 (N0.R k2) ([[.int .i64 p1_0, .int .i64 p1_1, .int .i64 p1_2]] : List (List Value)) [(p1_0, p1_1, p1_2)] from ⟨(O0 ip1_0 ip1_1 ip1_2), trivial⟩)] | (rw [lnz10]; rfl))) ?_))
  intro vz10 kz10 happz10
  obtain ⟨wz10, gz10, oz10, nz10, cz10, rfl⟩ := apz10 _ _ _ _ _ (F3.ofPlain (q07 _) (show F2 (N0.R k2) ([[.int .i64 p1_0, .int .i64 p1_1, .int .i64 p1_2]] : List (List Value)) [(p1_0, p1_1, p1_2)] from ⟨(O0 ip1_0 ip1_1 ip1_2), trivial⟩)) R5.ofPlain happz10
  have rz10 := wz10.r
  obtain ⟨ez10, lz10⟩ := Sl.len rz10
  subst ez10
  obtain ⟨x11, gx11, hM0⟩ := j0 hM0
  refine Tr.mono (B02 _ (some ⟨gz10, oz10, none⟩) (x1_2 ++ [(p1_0, p1_1, p1_2)]).length cz10 (x1_2 ++ [(p1_0, p1_1, p1_2)]) rz10 _  gx11) ?_
  rintro v13 k12 ⟨ax11, nx11, cx11, rfl, wx11⟩
  have sx11 : Sub kz10 k12 := wx11.sub
  have rx11 := wx11.r
  obtain ⟨rfl, lx11⟩ := Sl.len rx11
  have hE := Option.some.inj hM0; subst hE
  exact ⟨([.int .i64 x1_0, .int .i64 x1_1, .slice ax11 x11.length cx11]), rfl, (New.pair (New.int ix1_0) (New.pair (New.int ix1_1) (New.from wx11 wz10.sub)))⟩
theorem G04 (h : Hp) (csp0 : List Value) (p0 : l0) (rp0 : P0.R h csp0 p0) (r : C0) (hM0 : M5 p0 = some r) :
  Tr Tryz.prog 100 #[.agg csp0.toArray] h fun v h' => ∃ (a0 : Option Addr) (n0 c0 : Nat), v = .slice a0 n0 c0 ∧ K0.R h' [.slice a0 n0 c0] r ∧ Sub h h' := by
 obtain ⟨p0_0, p0_1, ap0_2, np0_2, cp0_2, p0_2, rfl, rfl, ip0_0, ip0_1, rp0_2⟩ := B0 rp0
 obtain ⟨rfl, lp0_2⟩ := Sl.len rp0_2
 unfold M5 at hM0
 dsimp only at hM0
 refine c3 (args := [.agg #[.int .i64 p0_0, .int .i64 p0_1, .slice ap0_2 p0_2.length cp0_2]]) (fn := Tryz.f100) rfl ?_
 obtain ⟨x1, gx1, hM0⟩ := j0 hM0
 refine Tr.val (p01 _ [.int .i64 p0_0, .int .i64 p0_1, .slice ap0_2 p0_2.length cp0_2] (p0_0, p0_1, p0_2) (z0 ip0_0 ip0_1 rp0_2) _  gx1) ?_
 refine And.intro (fun hc2 => ?_) (fun hc2 => ?_)
 ·have hc2 : ((!x1)) = true := hc2
  rw [if_pos hc2] at hM0
  intro v3 k4 f5
  obtain ⟨az6, cz6, rfl, rz6, sz6, lz6⟩ := E1.out (r := N0.toRp) f5 (show F2 (N0.R h) ([] : List (List Value)) ([] : C0) from trivial)
  have hE := Option.some.inj hM0; subst hE
  exact ⟨az6, (([] : C0)).length, cz6, rfl, rz6, sz6⟩
 ·have hc2 : ((!x1)) = false := hc2
  rw [if_neg (K1 hc2)] at hM0
  obtain ⟨X7, hLX7, hM0⟩ := j0 hM0
  refine Exists.intro { vars := [4], boxes := [], owns := [0], fuel := true } (Exists.intro (fun vs os h' => ∃ (u8 : Int) (wu9 : List (List Value)) (u9 : List D0), vs.tail = [.int .i64 u8] ∧ os = [wu9] ∧ Sub h h' ∧ J0 u8 ∧ F2 (N0.R h') wu9 u9 ∧ v4 p0_1 p0_0 p0_2 (I3 vs) u8 u9 = some X7) (Exists.intro (fun _ _ => 0) ?_))
  refine And.intro (Exists.intro D1 ⟨0, [], ([] : C0), rfl, rfl, (Sub.refl _), (c64 (by decide) (by decide)), (show F2 (N0.R h) ([] : List (List Value)) ([] : C0) from trivial), hLX7⟩) ?_
  rintro v_0 wu9 m11 k10 ⟨u8, zzu9, u9, evX7, eoX7, sX7, iu8, fu9, hM1⟩
  cases evX7
  cases eoX7
  replace hM1 : v4 p0_1 p0_0 p0_2 m11 u8 u9 = some X7 := hM1
  obtain _ | m11 := m11
  ·cases (show (none : Option _) = some X7 from hM1)
  rw [s7] at hM1
  refine And.intro (fun hc12 => ?_) (fun hc12 => ?_)
  ·have hc12 : ((decide (u8 < p0_1))) = true := hc12
   rw [if_pos hc12] at hM1
   obtain ⟨x13, gx13, hM1⟩ := j0 hM1
   refine Tr.mono (T09 _ p0_0 ip0_0 _  gx13) ?_
   rintro v15 k14 ⟨ax13, nx13, cx13, rfl, rx13, sx13⟩
   obtain ⟨rfl, lx13⟩ := Sl.len rx13
   obtain ⟨X16, hLX16, hM1⟩ := j0 hM1
   refine Exists.intro { vars := [22], boxes := [], owns := [0], fuel := true } (Exists.intro (fun vs os h' => ∃ (u17 : Int) (wu18 : List (List Value)) (u18 : List D0), vs.tail = [.int .i64 u17] ∧ os = [wu18] ∧ Sub k14 h' ∧ J0 u17 ∧ F2 (N0.R h') wu18 u18 ∧ C2 x13 p0_0 p0_1 p0_2 u8 (I3 vs) u17 u18 = some X16) (Exists.intro (fun _ _ => 0) ?_))
   refine And.intro (Exists.intro D1 ⟨0, wu9, u9, rfl, rfl, (Sub.refl _), (c64 (by decide) (by decide)), (F2.up (r := N0.toRp) sx13 fu9), hLX16⟩) ?_
   rintro v_0 wu18 m20 k19 ⟨u17, zzu18, u18, evX16, eoX16, sX16, iu17, fu18, hM2⟩
   cases evX16
   cases eoX16
   replace hM2 : C2 x13 p0_0 p0_1 p0_2 u8 m20 u17 u18 = some X16 := hM2
   obtain _ | m20 := m20
   ·cases (show (none : Option _) = some X16 from hM2)
   rw [r7] at hM2
   refine And.intro (fun hc21 => ?_) (fun hc21 => ?_)
   ·have hc21 : ((decide (u17 < ((x13.length : Nat) : Int)))) = true := hc21
    rw [if_pos hc21] at hM2
    obtain ⟨x22, gx22, hM2⟩ := j0 hM2
    obtain ⟨bx22, csx22, ex22, rx22⟩ := Sl.getI (r := Wp.int.toRp) (O2.mono sX16 rx13) gx22 (by decide)
    refine And.intro bx22 ?_
    obtain ⟨rfl, ix22⟩ := rx22
    refine Exists.intro _ (And.intro ex22 ?_)
    obtain ⟨x23, gx23, hM2⟩ := j0 hM2
    refine Tr.val (s02 _ [.int .i64 p0_0, .int .i64 p0_1, .slice ap0_2 p0_2.length cp0_2] (p0_0, p0_1, p0_2) (z0 ip0_0 ip0_1 (K0.mono ((sX7.trans sx13).trans sX16) rp0_2)) u8 iu8 x22 ix22 _  gx23) ?_
    obtain ⟨q24, gq24, hM2⟩ := j0 hM2
    have ix23 : J0 x23 := J3 gq24
    refine And.intro (fun hc25 => ?_) (fun hc25 => ?_)
    ·have hc25 : ((decide (x23 < 0))) = true := hc25
     rw [if_pos hc25] at hM2
     obtain ⟨q26, gq26, hM2⟩ := j0 hM2
     refine And.intro (j3 gq26 (by first | rw [F2.length fu18, F2.length (show F2 (N0.R k19) ([[.int .i64 u8, .int .i64 x22, .int .i64 (-1)]] : List (List Value)) [(u8, x22, (-1))] from ⟨(O0 iu8 ix22 (c64 (by decide) (by decide))), trivial⟩)] | exact congrArg (· + 1) (F2.length fu18))) ?_
     refine And.intro rfl (And.intro (by first | exact trivial | exact And.intro rfl trivial | exact And.intro rfl (And.intro rfl trivial) | exact And.intro rfl (And.intro rfl (And.intro rfl trivial)) | exact And.intro rfl (And.intro rfl (And.intro rfl (And.intro rfl trivial)))) (And.intro (by first | exact trivial | exact And.intro rfl trivial | exact And.intro rfl (And.intro rfl trivial) | exact And.intro rfl (And.intro rfl (And.intro rfl trivial)) | exact And.intro rfl (And.intro rfl (And.intro rfl (And.intro rfl trivial)))) (Exists.intro m20 (And.intro ⟨(IntKind.i64.wrap (u17 + 1)), (wu18 ++ ([[.int .i64 u8, .int .i64 x22, .int .i64 (-1)]] : List (List Value))), (u18 ++ [(u8, x22, (-1))]), rfl, rfl, sX16, (U0 _), (F2.append fu18 (show F2 (N0.R k19) ([[.int .i64 u8, .int .i64 x22, .int .i64 (-1)]] : List (List Value)) [(u8, x22, (-1))] from ⟨(O0 iu8 ix22 (c64 (by decide) (by decide))), trivial⟩)), hM2⟩ (Nat.lt_succ_self _)))))
    ·have hc25 : ((decide (x23 < 0))) = false := hc25
     rw [if_neg (K1 hc25)] at hM2
     refine And.intro rfl (And.intro (by first | exact trivial | exact And.intro rfl trivial | exact And.intro rfl (And.intro rfl trivial) | exact And.intro rfl (And.intro rfl (And.intro rfl trivial)) | exact And.intro rfl (And.intro rfl (And.intro rfl (And.intro rfl trivial)))) (And.intro (by first | exact trivial | exact And.intro rfl trivial | exact And.intro rfl (And.intro rfl trivial) | exact And.intro rfl (And.intro rfl (And.intro rfl trivial)) | exact And.intro rfl (And.intro rfl (And.intro rfl (And.intro rfl trivial)))) (Exists.intro m20 (And.intro ⟨(IntKind.i64.wrap (u17 + 1)), wu18, u18, rfl, rfl, sX16, (U0 _), fu18, hM2⟩ (Nat.lt_succ_self _)))))
   ·have hc21 : ((decide (u17 < ((x13.length : Nat) : Int)))) = false := hc21
    rw [if_neg (K1 hc21)] at hM2
    have hE := Option.some.inj hM2; subst hE
    try dsimp only [J1, O1] at hM1
    refine And.intro rfl (And.intro (by first | exact trivial | exact And.intro rfl trivial | exact And.intro rfl (And.intro rfl trivial) | exact And.intro rfl (And.intro rfl (And.intro rfl trivial)) | exact And.intro rfl (And.intro rfl (And.intro rfl (And.intro rfl trivial)))) (And.intro (by first | exact trivial | exact And.intro rfl trivial | exact And.intro rfl (And.intro rfl trivial) | exact And.intro rfl (And.intro rfl (And.intro rfl trivial)) | exact And.intro rfl (And.intro rfl (And.intro rfl (And.intro rfl trivial)))) (Exists.intro m11 (And.intro ⟨(IntKind.i64.wrap (u8 + 1)), wu18, u18, rfl, rfl, ((sX7.trans sx13).trans sX16), (U0 _), fu18, hM1⟩ (Nat.lt_succ_self _)))))
  ·have hc12 : ((decide (u8 < p0_1))) = false := hc12
   rw [if_neg (K1 hc12)] at hM1
   have hE := Option.some.inj hM1; subst hE
   try dsimp only [J1, O1] at hM0
   intro v31 k32 f33
   obtain ⟨az34, cz34, rfl, rz34, sz34, lz34⟩ := E1.out (r := N0.toRp) f33 fu9
   have hE := Option.some.inj hM0; subst hE
   exact ⟨az34, u9.length, cz34, rfl, rz34, (sX7.trans sz34)⟩
end Go.Proofs.YtfdlgbfeceodeaaGreat
