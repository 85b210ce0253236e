/- Texts of the claim, joined: The walks of batch h1; The walks of batch h2; The walks of batch i1; The walks of batch i3; The walks of batch g2; The walks of batch g3; The walks of batch g4. -/
import Derived.Test.YtfdlgbfeceodeaaGreatPart18
import Derived.Test.YtfdlgbfeceodeaaGreatChecked
import Derived.Test.YtfdlgbfeceodeaaGreatH35
import Derived.Test.YtfdlgbfeceodeaaGreatPart25
import Derived.Test.YtfdlgbfeceodeaaGreatPart17
import Derived.Test.YtfdlgbfeceodeaaGreatH36
import Derived.Test.YtfdlgbfeceodeaaGreatSE
import Derived.Test.YtfdlgbfeceodeaaGreatPart21
import Derived.Test.YtfdlgbfeceodeaaGreatH40
import Derived.Test.YtfdlgbfeceodeaaGreatH41
namespace Go.Proofs.YtfdlgbfeceodeaaGreat
open Go.H
set_option linter.unusedVariables false
set_option linter.unusedSimpArgs false
set_option maxRecDepth 10000
theorem S09 (h : Hp) (p0 : Int) (ip0 : H0 p0) (r : l0 × Bool) (hM0 : w9 p0 = some r) :
  Tr Tryz.prog 186 #[.int .i64 p0] h fun v h' => ∃ (cs0 : List Value), v = .tuple #[.agg cs0.toArray, .bool r.2] ∧ Y0.R h' cs0 r.1 ∧ Sub h h' := by
 unfold w9 at hM0
 refine T2 (args := [.int .i64 p0]) (fn := Tryz.f186) rfl ?_
 obtain ⟨x1, gx1, hM0⟩ := j0 hM0
 refine Tr.val (T5 _ p0 ip0 1 (c64 (by decide) (by decide)) 3 (c64 (by decide) (by decide)) _  gx1) ?_
 refine And.intro (fun hc2 => ?_) (fun hc2 => ?_)
 ·replace hM0 := ifP hM0 hc2
  have hE := Option.some.inj hM0; subst hE
  exact ⟨([.int .i64 0, .int .i64 0, .slice none 0 0]), rfl, (z0 (c64 (by decide) (by decide)) (c64 (by decide) (by decide)) (T0e Q0 h)), (Sub.refl _)⟩
 ·replace hM0 := ifN hM0 hc2
  have hE := Option.some.inj hM0; subst hE
  exact ⟨([.int .i64 p0, .int .i64 1, .slice none 0 0]), rfl, (z0 ip0 (c64 (by decide) (by decide)) (T0e Q0 h)), (Sub.refl _)⟩
theorem y05 (h : Hp) (csp0 : List Value) (p0 : l0) (rp0 : Y0.R h csp0 p0) (p1 : Int) (ip1 : H0 p1) (ap2 : Option Addr) (np2 cp2 : Nat) (p2 : P0) (rp2 : K1.R h [.slice ap2 np2 cp2] p2) (p3 : Int) (ip3 : H0 p3) (r : l0 × Bool) (hM0 : s8 p0 p1 p2 p3 = some r) :
  Tr Tryz.prog 90 #[.agg csp0.toArray, .int .i64 p1, .slice ap2 np2 cp2, .int .i64 p3] h fun v h' => ∃ (cs0 : List Value), v = .tuple #[.agg cs0.toArray, .bool r.2] ∧ Y0.R h' cs0 r.1 ∧ Sub h h' := by
 obtain ⟨aB, aA, aC, aR, aD, aN, rfl, rfl, aF, aI, aG⟩ := B0 rp0
 obtain ⟨rfl, aS⟩ := Sl.len aG
 obtain ⟨rfl, lp2⟩ := Sl.len rp2
 unfold s8 at hM0
 dsimp only at hM0
 refine T2 (args := [.agg #[.int .i64 aB, .int .i64 aA, .slice aC aN.length aD], .int .i64 p1, .slice ap2 p2.length cp2, .int .i64 p3]) (fn := Tryz.f90) rfl ?_
 obtain ⟨x1, gx1, hM0⟩ := j0 hM0
 refine Tr.mono (Y3 _ [.int .i64 aB, .int .i64 aA, .slice aC aN.length aD] (aB, aA, aN) (z0 aF aI aG) _  gx1) ?_
 rintro v3 k2 ⟨csx1, rfl, rx1, sx1⟩
 obtain ⟨aO, aP, aJ, aT, aK, aQ, rfl, rfl, aL, aM, aH⟩ := B0 rx1
 obtain ⟨rfl, aU⟩ := Sl.len aH
 try dsimp only at hM0
 obtain ⟨x4, gx4, hM0⟩ := j0 hM0
 refine Tr.val (C5 _ [.int .i64 aB, .int .i64 aA, .slice aC aN.length aD] (aB, aA, aN) (z0 aF aI (I0.mono sx1 aG)) _  gx4) ?_
 obtain ⟨x5, gx5, hM0⟩ := j0 hM0
 refine Exists.intro (.bool x5) (And.intro (fun q => T5 _ p1 ip1 0 (c64 (by decide) (by decide)) (IntKind.i64.wrap (aA - 1)) (K0 _) _  (N2 gx5 q)) ?_)
 obtain ⟨x6, gx6, hM0⟩ := j0 hM0
 refine Exists.intro (.bool x6) (And.intro (fun q => T5 _ p3 ip3 0 (c64 (by decide) (by decide)) (IntKind.i64.wrap (aA - 1)) (K0 _) _  (N2 gx6 q)) ?_)
 obtain ⟨x7, gx7, hM0⟩ := j0 hM0
 refine Exists.intro (.bool x7) (And.intro (fun q => s06 _ aB aF ap2 p2.length cp2 p2 (K1.mono sx1 rp2) _  (N2 gx7 q)) ?_)
 refine And.intro (fun hc8 => ?_) (fun hc8 => ?_)
 ·replace hM0 := ifP hM0 hc8
  have hE := Option.some.inj hM0; subst hE
  exact ⟨([.int .i64 aO, .int .i64 aP, .slice aJ aQ.length aK]), rfl, (z0 aL aM aH), sx1⟩
 ·replace hM0 := ifN hM0 hc8
  obtain ⟨X9, hLX9, hM0⟩ := j0 hM0
  refine Exists.intro { vars := [11, 12], boxes := [2], owns := [], fuel := true } (Exists.intro (fun vs os h' => ∃ (u10 : Int) (u11 : Int) (u12 : Int) (u13 : Int) (au14 : Option Addr) (nu14 cu14 : Nat) (u14 : J0), vs.tail = [.int .i64 u10, .int .i64 u11, .int .i64 u12, .int .i64 u13, .slice au14 nu14 cu14] ∧ os = [] ∧ Sub k2 h' ∧ H0 u10 ∧ H0 u11 ∧ H0 u12 ∧ H0 u13 ∧ I0.R h' [.slice au14 nu14 cu14] u14 ∧ M4 p2 p3 (Q1 vs) u10 u11 u12 u13 u14 = some X9) (Exists.intro (fun _ _ => 0) ?_))
  refine And.intro (Exists.intro T0 ⟨p1, 0, aO, aP, aJ, aQ.length, aK, aQ, rfl, rfl, (Sub.refl _), ip1, (c64 (by decide) (by decide)), aL, aM, aH, hLX9⟩) ?_
  rintro v_0 v_1 v_2 v_3 v_4 m16 k15 ⟨u10, u11, u12, u13, au14, nu14, cu14, u14, evX9, eoX9, sX9, iu10, iu11, iu12, iu13, ru14, hM1⟩
  cases evX9
  cases eoX9
  replace hM1 : M4 p2 p3 m16 u10 u11 u12 u13 u14 = some X9 := hM1
  obtain _ | m16 := m16
  ·cases (show (none : Option _) = some X9 from hM1)
  rw [M4.eq_2] at hM1
  obtain ⟨rfl, lu14⟩ := Sl.len ru14
  refine And.intro (fun hc17 => ?_) (fun hc17 => ?_)
  ·replace hM1 := ifP hM1 hc17
   refine And.intro (fun hc18 => ?_) (fun hc18 => ?_)
   ·replace hM1 := ifP hM1 hc18
    obtain ⟨x19, gx19, hM1⟩ := j0 hM1
    obtain ⟨bx19, csx19, ex19, rx19⟩ := Sl.getI (r := Wp.int.toRp) (K1.mono (sx1.trans sX9) rp2) gx19 (by decide)
    refine And.intro bx19 ?_
    obtain ⟨rfl, ix19⟩ := rx19
    refine Exists.intro _ (And.intro ex19 ?_)
    refine And.intro (fun hc20 => ?_) (fun hc20 => ?_)
    ·replace hM1 := ifP hM1 hc20
     refine Or.inr (Or.inr (Or.inl (And.intro (And.intro (by kernel_rfl) (by kernel_rfl)) ?_)))
     obtain ⟨x21, gx21, hM1⟩ := j0 hM1
     obtain ⟨bx21, csx21, ex21, rx21⟩ := Sl.getI (r := Wp.int.toRp) (K1.mono (sx1.trans sX9) rp2) gx21 (by decide)
     obtain ⟨rfl, ix21⟩ := rx21
     refine Or.inl (Exists.intro (.hel (.slice ap2 p2.length cp2) u11 1 0) (And.intro ?_ ?_))
     ·intro k22 s23
      exact And.intro bx21 (And.intro rfl (And.intro rfl rfl))
     refine Or.inl (Exists.intro (.val (.int .i64 x21)) (And.intro ?_ ?_))
     ·intro k24 s25
      exact Exists.intro _ (And.intro (i7.up s25 ex21) (And.intro rfl (And.intro rfl rfl)))
     refine Or.inl (Exists.intro (.agg [.val (.int .i64 u10), .val (.int .i64 x21), .val (.int .i64 u13)]) (And.intro ?_ ?_))
     ·intro k26 s27
      exact And.intro rfl (And.intro rfl rfl)
     refine Or.inr ?_
     refine Or.inr ?_
     refine Exists.intro 1 (And.intro (And.intro rfl rfl) ?_)
     obtain ⟨x28, gx28, hM1⟩ := j0 hM1
     refine Tr.mono (n9 _ au14 u14.length cu14 u14 ru14 [.int .i64 u10, .int .i64 x21, .int .i64 u13] (u10, x21, u13) (V0 iu10 ix21 iu13) _  gx28) ?_
     rintro v30 k29 ⟨ax28, nx28, cx28, rfl, rx28, sx28⟩
     obtain ⟨rfl, lx28⟩ := Sl.len rx28
     refine And.intro (And.intro rfl sx28) (And.intro (by first | exact trivial | exact rfl) ?_)
     refine And.intro trivial (And.intro (by first | exact trivial | exact rfl) ?_)
     refine And.intro rfl (And.intro (by repeat (first | exact trivial | refine And.intro rfl ?_)) (And.intro (by repeat (first | exact trivial | refine And.intro rfl ?_)) (Exists.intro m16 (And.intro ⟨u13, (IntKind.i64.wrap (u11 + 1)), u12, (IntKind.i64.wrap (u13 + 1)), ax28, x28.length, cx28, x28, rfl, rfl, (sX9.trans sx28), iu13, (K0 _), iu12, (K0 _), rx28, hM1⟩ (Nat.lt_succ_self _)))))
    ·replace hM1 := ifN hM1 hc20
     refine Or.inr (Or.inr (Or.inl (And.intro (And.intro (by kernel_rfl) (by kernel_rfl)) ?_)))
     obtain ⟨x31, gx31, hM1⟩ := j0 hM1
     obtain ⟨bx31, csx31, ex31, rx31⟩ := Sl.getI (r := Wp.int.toRp) (K1.mono (sx1.trans sX9) rp2) gx31 (by decide)
     obtain ⟨rfl, ix31⟩ := rx31
     refine Or.inl (Exists.intro (.hel (.slice ap2 p2.length cp2) u11 1 0) (And.intro ?_ ?_))
     ·intro k32 s33
      exact And.intro bx31 (And.intro rfl (And.intro rfl rfl))
     refine Or.inl (Exists.intro (.val (.int .i64 x31)) (And.intro ?_ ?_))
     ·intro k34 s35
      exact Exists.intro _ (And.intro (i7.up s35 ex31) (And.intro rfl (And.intro rfl rfl)))
     refine Or.inl (Exists.intro (.val (.int .i64 (IntKind.i64.wrap (0 - x31)))) (And.intro ?_ ?_))
     ·intro k36 s37
      exact And.intro rfl (And.intro rfl rfl)
     refine Or.inl (Exists.intro (.agg [.val (.int .i64 u13), .val (.int .i64 (IntKind.i64.wrap (0 - x31))), .val (.int .i64 u10)]) (And.intro ?_ ?_))
     ·intro k38 s39
      exact And.intro rfl (And.intro rfl rfl)
     refine Or.inr ?_
     refine Or.inr ?_
     refine Exists.intro 1 (And.intro (And.intro rfl rfl) ?_)
     obtain ⟨x40, gx40, hM1⟩ := j0 hM1
     refine Tr.mono (n9 _ au14 u14.length cu14 u14 ru14 [.int .i64 u13, .int .i64 (IntKind.i64.wrap (0 - x31)), .int .i64 u10] (u13, (IntKind.i64.wrap (0 - x31)), u10) (V0 iu13 (K0 _) iu10) _  gx40) ?_
     rintro v42 k41 ⟨ax40, nx40, cx40, rfl, rx40, sx40⟩
     obtain ⟨rfl, lx40⟩ := Sl.len rx40
     refine And.intro (And.intro rfl sx40) (And.intro (by first | exact trivial | exact rfl) ?_)
     refine And.intro trivial (And.intro (by first | exact trivial | exact rfl) ?_)
     refine And.intro rfl (And.intro (by repeat (first | exact trivial | refine And.intro rfl ?_)) (And.intro (by repeat (first | exact trivial | refine And.intro rfl ?_)) (Exists.intro m16 (And.intro ⟨u13, (IntKind.i64.wrap (u11 + 1)), u12, (IntKind.i64.wrap (u13 + 1)), ax40, x40.length, cx40, x40, rfl, rfl, (sX9.trans sx40), iu13, (K0 _), iu12, (K0 _), rx40, hM1⟩ (Nat.lt_succ_self _)))))
   ·replace hM1 := ifN hM1 hc18
    obtain ⟨x43, gx43, hM1⟩ := j0 hM1
    obtain ⟨bx43, csx43, ex43, rx43⟩ := Sl.getI (r := Wp.int.toRp) (K1.mono (sx1.trans sX9) rp2) gx43 (by decide)
    refine And.intro bx43 ?_
    obtain ⟨rfl, ix43⟩ := rx43
    refine Exists.intro _ (And.intro ex43 ?_)
    refine And.intro (fun hc44 => ?_) (fun hc44 => ?_)
    ·replace hM1 := ifP hM1 hc44
     refine Or.inr (Or.inr (Or.inl (And.intro (And.intro (by kernel_rfl) (by kernel_rfl)) ?_)))
     obtain ⟨x45, gx45, hM1⟩ := j0 hM1
     obtain ⟨bx45, csx45, ex45, rx45⟩ := Sl.getI (r := Wp.int.toRp) (K1.mono (sx1.trans sX9) rp2) gx45 (by decide)
     obtain ⟨rfl, ix45⟩ := rx45
     refine Or.inl (Exists.intro (.hel (.slice ap2 p2.length cp2) u11 1 0) (And.intro ?_ ?_))
     ·intro k46 s47
      exact And.intro bx45 (And.intro rfl (And.intro rfl rfl))
     refine Or.inl (Exists.intro (.val (.int .i64 x45)) (And.intro ?_ ?_))
     ·intro k48 s49
      exact Exists.intro _ (And.intro (i7.up s49 ex45) (And.intro rfl (And.intro rfl rfl)))
     refine Or.inl (Exists.intro (.agg [.val (.int .i64 u10), .val (.int .i64 x45), .val (.int .i64 p3)]) (And.intro ?_ ?_))
     ·intro k50 s51
      exact And.intro rfl (And.intro rfl rfl)
     refine Or.inr ?_
     refine Or.inr ?_
     refine Exists.intro 1 (And.intro (And.intro rfl rfl) ?_)
     obtain ⟨x52, gx52, hM1⟩ := j0 hM1
     refine Tr.mono (n9 _ au14 u14.length cu14 u14 ru14 [.int .i64 u10, .int .i64 x45, .int .i64 p3] (u10, x45, p3) (V0 iu10 ix45 ip3) _  gx52) ?_
     rintro v54 k53 ⟨ax52, nx52, cx52, rfl, rx52, sx52⟩
     obtain ⟨rfl, lx52⟩ := Sl.len rx52
     refine And.intro (And.intro rfl sx52) (And.intro (by first | exact trivial | exact rfl) ?_)
     refine And.intro trivial (And.intro (by first | exact trivial | exact rfl) ?_)
     refine And.intro rfl (And.intro (by repeat (first | exact trivial | refine And.intro rfl ?_)) (And.intro (by repeat (first | exact trivial | refine And.intro rfl ?_)) (Exists.intro m16 (And.intro ⟨p3, (IntKind.i64.wrap (u11 + 1)), u12, u13, ax52, x52.length, cx52, x52, rfl, rfl, (sX9.trans sx52), ip3, (K0 _), iu12, iu13, rx52, hM1⟩ (Nat.lt_succ_self _)))))
    ·replace hM1 := ifN hM1 hc44
     refine Or.inr (Or.inr (Or.inl (And.intro (And.intro (by kernel_rfl) (by kernel_rfl)) ?_)))
     obtain ⟨x55, gx55, hM1⟩ := j0 hM1
     obtain ⟨bx55, csx55, ex55, rx55⟩ := Sl.getI (r := Wp.int.toRp) (K1.mono (sx1.trans sX9) rp2) gx55 (by decide)
     obtain ⟨rfl, ix55⟩ := rx55
     refine Or.inl (Exists.intro (.hel (.slice ap2 p2.length cp2) u11 1 0) (And.intro ?_ ?_))
     ·intro k56 s57
      exact And.intro bx55 (And.intro rfl (And.intro rfl rfl))
     refine Or.inl (Exists.intro (.val (.int .i64 x55)) (And.intro ?_ ?_))
     ·intro k58 s59
      exact Exists.intro _ (And.intro (i7.up s59 ex55) (And.intro rfl (And.intro rfl rfl)))
     refine Or.inl (Exists.intro (.val (.int .i64 (IntKind.i64.wrap (0 - x55)))) (And.intro ?_ ?_))
     ·intro k60 s61
      exact And.intro rfl (And.intro rfl rfl)
     refine Or.inl (Exists.intro (.agg [.val (.int .i64 p3), .val (.int .i64 (IntKind.i64.wrap (0 - x55))), .val (.int .i64 u10)]) (And.intro ?_ ?_))
     ·intro k62 s63
      exact And.intro rfl (And.intro rfl rfl)
     refine Or.inr ?_
     refine Or.inr ?_
     refine Exists.intro 1 (And.intro (And.intro rfl rfl) ?_)
     obtain ⟨x64, gx64, hM1⟩ := j0 hM1
     refine Tr.mono (n9 _ au14 u14.length cu14 u14 ru14 [.int .i64 p3, .int .i64 (IntKind.i64.wrap (0 - x55)), .int .i64 u10] (p3, (IntKind.i64.wrap (0 - x55)), u10) (V0 ip3 (K0 _) iu10) _  gx64) ?_
     rintro v66 k65 ⟨ax64, nx64, cx64, rfl, rx64, sx64⟩
     obtain ⟨rfl, lx64⟩ := Sl.len rx64
     refine And.intro (And.intro rfl sx64) (And.intro (by first | exact trivial | exact rfl) ?_)
     refine And.intro trivial (And.intro (by first | exact trivial | exact rfl) ?_)
     refine And.intro rfl (And.intro (by repeat (first | exact trivial | refine And.intro rfl ?_)) (And.intro (by repeat (first | exact trivial | refine And.intro rfl ?_)) (Exists.intro m16 (And.intro ⟨p3, (IntKind.i64.wrap (u11 + 1)), u12, u13, ax64, x64.length, cx64, x64, rfl, rfl, (sX9.trans sx64), ip3, (K0 _), iu12, iu13, rx64, hM1⟩ (Nat.lt_succ_self _)))))
  ·replace hM1 := ifN hM1 hc17
   have hE := Option.some.inj hM1; subst hE
   try dsimp only [U0, Z0] at hM0
   have hE := Option.some.inj hM0; subst hE
   exact ⟨([.int .i64 u12, .int .i64 u13, .slice au14 u14.length cu14]), rfl, (z0 iu12 iu13 ru14), (sx1.trans sX9)⟩
theorem T09 (h : Hp) (csp0 : List Value) (p0 : l0) (rp0 : Y0.R h csp0 p0) (ap1 : Option Addr) (np1 cp1 : Nat) (p1 : P0) (rp1 : K1.R h [.slice ap1 np1 cp1] p1) (r : l0 × Bool) (hM0 : z9 p0 p1 = some r) :
  Tr Tryz.prog 187 #[.agg csp0.toArray, .slice ap1 np1 cp1] h fun v h' => ∃ (cs0 : List Value), v = .tuple #[.agg cs0.toArray, .bool r.2] ∧ Y0.R h' cs0 r.1 ∧ Sub h h' := by
 obtain ⟨aK, aL, aG, aV, aH, aS, rfl, rfl, aO, aP, aI⟩ := B0 rp0
 obtain ⟨rfl, aW⟩ := Sl.len aI
 obtain ⟨rfl, lp1⟩ := Sl.len rp1
 unfold z9 at hM0
 dsimp only at hM0
 refine T2 (args := [.agg #[.int .i64 aK, .int .i64 aL, .slice aG aS.length aH], .slice ap1 p1.length cp1]) (fn := Tryz.f187) rfl ?_
 obtain ⟨x1, gx1, hM0⟩ := j0 hM0
 refine Tr.mono (y05 _ [.int .i64 aK, .int .i64 aL, .slice aG aS.length aH] (aK, aL, aS) (z0 aO aP aI) 0 (c64 (by decide) (by decide)) ap1 p1.length cp1 p1 rp1 0 (c64 (by decide) (by decide)) _  gx1) ?_
 rintro v3 k2 ⟨aT, rfl, aJ, sx1⟩
 obtain ⟨aX, aY⟩ := x1
 dsimp only at hM0 aJ
 obtain ⟨aM, aN, aB, aQ, aC, aU, rfl, rfl, aD, aF, aA⟩ := B0 aJ
 obtain ⟨rfl, aR⟩ := Sl.len aA
 try dsimp only at hM0
 have hE := Option.some.inj hM0; subst hE
 exact ⟨([.int .i64 aM, .int .i64 aN, .slice aB aU.length aC]), rfl, (z0 aD aF aA), sx1⟩
theorem U09 (h : Hp) (p0 : Int) (ip0 : H0 p0) (ap1 : Option Addr) (np1 cp1 : Nat) (p1 : V2) (rp1 : D3.R h [.slice ap1 np1 cp1] p1) (r : l0 × Bool) (hM0 : A9 p0 p1 = some r) :
  Tr Tryz.prog 128 #[.int .i64 p0, .slice ap1 np1 cp1] h fun v h' => ∃ (cs0 : List Value), v = .tuple #[.agg cs0.toArray, .bool r.2] ∧ Y0.R h' cs0 r.1 ∧ Sub h h' := by
 obtain ⟨rfl, lp1⟩ := Sl.len rp1
 unfold A9 at hM0
 refine T2 (args := [.int .i64 p0, .slice ap1 p1.length cp1]) (fn := Tryz.f128) rfl ?_
 obtain ⟨x1, gx1, hM0⟩ := j0 hM0
 refine Tr.val (E04 _ p0 ip0 ap1 p1.length cp1 p1 rp1 _  gx1) ?_
 refine And.intro (fun hc2 => ?_) (fun hc2 => ?_)
 ·replace hM0 := ifP hM0 hc2
  have hE := Option.some.inj hM0; subst hE
  exact ⟨([.int .i64 0, .int .i64 0, .slice none 0 0]), rfl, (z0 (c64 (by decide) (by decide)) (c64 (by decide) (by decide)) (T0e Q0 h)), (Sub.refl _)⟩
 ·replace hM0 := ifN hM0 hc2
  obtain ⟨x3, gx3, hM0⟩ := j0 hM0
  refine Tr.mono (S09 _ p0 ip0 _  gx3) ?_
  rintro v5 k4 ⟨bH, rfl, aU, sx3⟩
  obtain ⟨bI, bJ⟩ := x3
  dsimp only at hM0 aU
  obtain ⟨aV, aW, aQ, bE, aR, aX, rfl, rfl, aS, aT, aL⟩ := B0 aU
  obtain ⟨rfl, bF⟩ := Sl.len aL
  try dsimp only at hM0
  obtain ⟨X6, hLX6, hM0⟩ := j0 hM0
  refine Exists.intro { vars := [8], boxes := [1], owns := [], fuel := true } (Exists.intro (fun vs os h' => ∃ (u7 : Int) (u8 : Int) (u9 : Int) (au10 : Option Addr) (nu10 cu10 : Nat) (u10 : J0), vs.tail = [.int .i64 u7, .int .i64 u8, .int .i64 u9, .slice au10 nu10 cu10] ∧ os = [] ∧ Sub k4 h' ∧ H0 u7 ∧ H0 u8 ∧ H0 u9 ∧ I0.R h' [.slice au10 nu10 cu10] u10 ∧ S5 p1 (Q1 vs) u7 u8 u9 u10 = some X6) (Exists.intro (fun _ _ => 0) ?_))
  refine And.intro (Exists.intro T0 ⟨0, aV, aW, aQ, aX.length, aR, aX, rfl, rfl, (Sub.refl _), (c64 (by decide) (by decide)), aS, aT, aL, hLX6⟩) ?_
  rintro v_0 v_1 v_2 v_3 m12 k11 ⟨u7, u8, u9, au10, nu10, cu10, u10, evX6, eoX6, sX6, iu7, iu8, iu9, ru10, hM1⟩
  cases evX6
  cases eoX6
  replace hM1 : S5 p1 m12 u7 u8 u9 u10 = some X6 := hM1
  obtain _ | m12 := m12
  ·cases (show (none : Option _) = some X6 from hM1)
  rw [S5.eq_2] at hM1
  obtain ⟨rfl, lu10⟩ := Sl.len ru10
  refine And.intro (fun hc13 => ?_) (fun hc13 => ?_)
  ·replace hM1 := ifP hM1 hc13
   refine Or.inr (Or.inr (Or.inr (Or.inr (Exists.intro 10 (And.intro (And.intro (by kernel_rfl) (by kernel_rfl)) ?_)))))
   obtain ⟨x14, gx14, hM1⟩ := j0 hM1
   obtain ⟨bx14, csx14, ex14, rx14⟩ := Sl.getI (r := K1.toRp) (D3.mono (sx3.trans sX6) rp1) gx14 (by decide)
   obtain ⟨ax14, nx14, cx14, rfl⟩ := Wp.slice_cell rx14
   obtain ⟨rfl, lx14⟩ := Sl.len rx14
   refine Or.inl (Exists.intro (.hel (.slice ap1 p1.length cp1) u7 1 0) (And.intro ?_ ?_))
   ·intro k15 s16
    exact And.intro bx14 (And.intro rfl (And.intro rfl rfl))
   refine Or.inl (Exists.intro (.val (.slice ax14 x14.length cx14)) (And.intro ?_ ?_))
   ·intro k17 s18
    exact Exists.intro _ (And.intro (i7.up s18 ex14) (And.intro rfl (And.intro rfl rfl)))
   obtain ⟨x19, gx19, hM1⟩ := j0 hM1
   obtain ⟨bA, aP⟩ := x19
   try dsimp only at hM1
   obtain ⟨aC, aD, aG⟩ := bA
   try dsimp only at hM1
   refine Or.inr (Exists.intro (fun v hh => ∃ (aF : Value), v = .tuple #[aF, .bool aP] ∧ (fun v hh => ∃ (aA : Option Addr) (aB : Nat), v = .agg #[.int .i64 aC, .int .i64 aD, .slice aA aG.length aB] ∧ H0 aC ∧ H0 aD ∧ I0.R hh [.slice aA aG.length aB] aG ∧ aG.length ≤ 9223372036854775807) aF hh) (And.intro (fun v h1 h2 sb q => by obtain ⟨aF, e, aK⟩ := q; exact ⟨aF, e, (by obtain ⟨aA, aB, e, f0, f1, f2, f3⟩ := aK; exact ⟨aA, aB, e, f0, f1, I0.mono sb f2, f3⟩)⟩) (And.intro ?_ ?_)))
   ·intro k20 s21
    refine Tr.mono (T09 _ [.int .i64 u8, .int .i64 u9, .slice au10 u10.length cu10] (u8, u9, u10) (z0 iu8 iu9 (I0.mono s21 ru10)) ax14 x14.length cx14 x14 (K1.mono s21 rx14) _ gx19) ?_
    rintro _ kk ⟨bG, rfl, aY, sb⟩
    obtain ⟨bB, bC, aH, aZ, aI, bD, rfl, ey, aM, aN, aJ⟩ := B0 aY
    cases ey
    obtain ⟨rfl, aO⟩ := Sl.len aJ
    exact And.intro F03 (And.intro sb ⟨(.agg #[.int .i64 aC, .int .i64 aD, .slice aH aG.length aI]), rfl, ⟨aH, aI, rfl, aM, aN, aJ, aO⟩⟩)
   refine Or.inr (Exists.intro (fun v hh => ∃ (aF : Value), v = .tuple #[aF, .bool aP] ∧ (fun v hh => ∃ (aA : Option Addr) (aB : Nat), v = .agg #[.int .i64 aC, .int .i64 aD, .slice aA aG.length aB] ∧ H0 aC ∧ H0 aD ∧ I0.R hh [.slice aA aG.length aB] aG ∧ aG.length ≤ 9223372036854775807) aF hh) (And.intro (fun v h1 h2 sb q => by obtain ⟨aF, e, aK⟩ := q; exact ⟨aF, e, (by obtain ⟨aA, aB, e, f0, f1, f2, f3⟩ := aK; exact ⟨aA, aB, e, f0, f1, I0.mono sb f2, f3⟩)⟩) (And.intro ?_ ?_)))
   ·intro k22 s23
    rintro _ ⟨_, rfl, ⟨az24p02, cz24p02, rfl, iz24p00, iz24p01, rz24p02, lz24p02⟩⟩
    exact And.intro F03 (And.intro (Sub.refl _) ⟨(.agg #[.int .i64 aC, .int .i64 aD, .slice az24p02 aG.length cz24p02]), rfl, ⟨az24p02, cz24p02, rfl, iz24p00, iz24p01, rz24p02, lz24p02⟩⟩)
   refine Or.inr (Exists.intro (fun v hh => ∃ (aA : Option Addr) (aB : Nat), v = .agg #[.int .i64 aC, .int .i64 aD, .slice aA aG.length aB] ∧ H0 aC ∧ H0 aD ∧ I0.R hh [.slice aA aG.length aB] aG ∧ aG.length ≤ 9223372036854775807) (And.intro (fun v h1 h2 sb q => by obtain ⟨aA, aB, e, f0, f1, f2, f3⟩ := q; exact ⟨aA, aB, e, f0, f1, I0.mono sb f2, f3⟩) (And.intro ?_ ?_)))
   ·intro k25 s26
    rintro _ ⟨_, rfl, ⟨az27p02, cz27p02, rfl, iz27p00, iz27p01, rz27p02, lz27p02⟩⟩
    exact And.intro F03 (And.intro (Sub.refl _) ⟨az27p02, cz27p02, rfl, iz27p00, iz27p01, rz27p02, lz27p02⟩)
   refine Or.inl (Exists.intro (.val (.bool aP)) (And.intro ?_ ?_))
   ·intro k28 s29
    rintro _ ⟨_, rfl, ⟨az30p02, cz30p02, rfl, iz30p00, iz30p01, rz30p02, lz30p02⟩⟩
    exact And.intro rfl (And.intro rfl rfl)
   intro k31 s32
   rintro _ ⟨az332, cz332, rfl, iz330, iz331, rz332, lz332⟩
   rintro _ ⟨_, rfl, ⟨az34p02, cz34p02, rfl, iz34p00, iz34p01, rz34p02, lz34p02⟩⟩
   rintro _ ⟨_, rfl, ⟨az35p02, cz35p02, rfl, iz35p00, iz35p01, rz35p02, lz35p02⟩⟩
   refine And.intro rfl (And.intro (by repeat (first | exact trivial | refine And.intro rfl ?_)) (And.intro (by repeat (first | exact trivial | refine And.intro rfl ?_)) (Exists.intro m12 (And.intro ⟨(IntKind.i64.wrap (u7 + 1)), aC, aD, az332, aG.length, cz332, aG, rfl, rfl, (sX6.trans s32), (K0 _), iz330, iz331, rz332, hM1⟩ (Nat.lt_succ_self _)))))
  ·replace hM1 := ifN hM1 hc13
   have hE := Option.some.inj hM1; subst hE
   try dsimp only [U0, Z0] at hM0
   have hE := Option.some.inj hM0; subst hE
   exact ⟨([.int .i64 u8, .int .i64 u9, .slice au10 u10.length cu10]), rfl, (z0 iu8 iu9 ru10), (sx3.trans sX6)⟩
theorem W0b (h : Hp) (csp0 : List Value) (p0 : l0) (rp0 : Y0.R h csp0 p0) (r : H7) (hM0 : l00 p0 = some r) :
  Tr Tryz.prog 220 #[.agg csp0.toArray] h fun v h' => ∃ (a0 : Option Addr) (n0 c0 : Nat), v = .slice a0 n0 c0 ∧ M0d.R h' [.slice a0 n0 c0] r ∧ Sub h h' := by
 obtain ⟨aN, aO, aL, aR, aM, aK, rfl, rfl, aS, aT, aJ⟩ := B0 rp0
 obtain ⟨rfl, aU⟩ := Sl.len aJ
 unfold l00 at hM0
 dsimp only at hM0
 refine T2 (args := [.agg #[.int .i64 aN, .int .i64 aO, .slice aL aK.length aM]]) (fn := Tryz.f220) rfl ?_
 obtain ⟨X1, hLX1, hM0⟩ := j0 hM0
 refine Exists.intro { vars := [4], boxes := [], owns := [0], fuel := true } (Exists.intro (fun vs os h' => ∃ (u2 : Int) (wu3 : List (List Value)) (u3 : List E4), vs.tail = [.int .i64 u2] ∧ os = [wu3] ∧ Sub h h' ∧ H0 u2 ∧ F2 (C4.R h') wu3 u3 ∧ C6 aK (Q1 vs) u2 u3 = some X1) (Exists.intro (fun _ _ => 0) ?_))
 refine And.intro (Exists.intro T0 ⟨0, [], ([] : H7), rfl, rfl, (Sub.refl _), (c64 (by decide) (by decide)), (show F2 (C4.R h) ([] : List (List Value)) ([] : H7) from trivial), hLX1⟩) ?_
 rintro v_0 wu3 m5 k4 ⟨u2, zzu3, u3, evX1, eoX1, sX1, iu2, fu3, hM1⟩
 cases evX1
 cases eoX1
 replace hM1 : C6 aK m5 u2 u3 = some X1 := hM1
 obtain _ | m5 := m5
 ·cases (show (none : Option _) = some X1 from hM1)
 rw [C6.eq_2] at hM1
 refine And.intro (fun hc6 => ?_) (fun hc6 => ?_)
 ·replace hM1 := ifP hM1 hc6
  obtain ⟨X7, hLX7, hM1⟩ := j0 hM1
  refine Exists.intro { vars := [5], boxes := [], owns := [0], fuel := true } (Exists.intro (fun vs os h' => ∃ (u8 : Int) (wu9 : List (List Value)) (u9 : List E4), vs.tail = [.int .i64 u8] ∧ os = [wu9] ∧ Sub k4 h' ∧ H0 u8 ∧ F2 (C4.R h') wu9 u9 ∧ Z3 aK u2 (Q1 vs) u8 u9 = some X7) (Exists.intro (fun _ _ => 0) ?_))
  refine And.intro (Exists.intro T0 ⟨(IntKind.i64.wrap (u2 + 1)), wu3, u3, rfl, rfl, (Sub.refl _), (K0 _), fu3, hLX7⟩) ?_
  rintro v_0 wu9 m11 k10 ⟨u8, zzu9, u9, evX7, eoX7, sX7, iu8, fu9, hM2⟩
  cases evX7
  cases eoX7
  replace hM2 : Z3 aK u2 m11 u8 u9 = some X7 := hM2
  obtain _ | m11 := m11
  ·cases (show (none : Option _) = some X7 from hM2)
  rw [Z3.eq_2] at hM2
  refine And.intro (fun hc12 => ?_) (fun hc12 => ?_)
  ·replace hM2 := ifP hM2 hc12
   obtain ⟨x13, gx13, hM2⟩ := j0 hM2
   obtain ⟨bx13, csx13, ex13, rx13⟩ := Sl.getI (r := Q0.toRp) (I0.mono (sX1.trans sX7) aJ) gx13 (by decide)
   refine And.intro bx13 ?_
   obtain ⟨aC, aV, aA, rfl, rfl, aH, aP, aF⟩ := D1 rx13
   try dsimp only at hM2
   refine Exists.intro _ (And.intro ex13 ?_)
   obtain ⟨x14, gx14, hM2⟩ := j0 hM2
   obtain ⟨bx14, csx14, ex14, rx14⟩ := Sl.getI (r := Q0.toRp) (I0.mono (sX1.trans sX7) aJ) gx14 (by decide)
   refine And.intro bx14 ?_
   obtain ⟨aD, aW, aB, rfl, rfl, aI, aQ, aG⟩ := D1 rx14
   try dsimp only at hM2
   refine Exists.intro _ (And.intro ex14 ?_)
   refine And.intro (fun hc15 => ?_) (fun hc15 => ?_)
   ·replace hM2 := ifP hM2 hc15
    obtain ⟨q16, gq16, hM2⟩ := j0 hM2
    refine And.intro (M2 gq16 (by first | rw [F2.length fu9, F2.length (show F2 (C4.R k10) ([[.int .i64 (if aB < aA then aB else aA), .int .i64 (if aB > aA then aB else aA)]] : List (List Value)) [((if aB < aA then aB else aA), (if aB > aA then aB else aA))] from ⟨(j2 (s7 aG aF) (s7 aG aF)), trivial⟩)] | exact congrArg (· + 1) (F2.length fu9))) ?_
    refine And.intro (fun hc17 => ?_) (fun hc17 => ?_)
    ·replace hM2 := ifP hM2 hc17
     obtain ⟨q18, gq18, hM2⟩ := j0 hM2
     refine And.intro (M2 gq18 (by first | rw [F2.length (F2.append fu9 (show F2 (C4.R k10) ([[.int .i64 (if aB < aA then aB else aA), .int .i64 (if aB > aA then aB else aA)]] : List (List Value)) [((if aB < aA then aB else aA), (if aB > aA then aB else aA))] from ⟨(j2 (s7 aG aF) (s7 aG aF)), trivial⟩)), F2.length (show F2 (C4.R k10) ([[.int .i64 (if aD < aC then aD else aC), .int .i64 (if aD > aC then aD else aC)]] : List (List Value)) [((if aD < aC then aD else aC), (if aD > aC then aD else aC))] from ⟨(j2 (s7 aI aH) (s7 aI aH)), trivial⟩)] | exact congrArg (· + 1) (F2.length (F2.append fu9 (show F2 (C4.R k10) ([[.int .i64 (if aB < aA then aB else aA), .int .i64 (if aB > aA then aB else aA)]] : List (List Value)) [((if aB < aA then aB else aA), (if aB > aA then aB else aA))] from ⟨(j2 (s7 aG aF) (s7 aG aF)), trivial⟩))))) ?_
     refine And.intro rfl (And.intro (by repeat (first | exact trivial | refine And.intro rfl ?_)) (And.intro (by repeat (first | exact trivial | refine And.intro rfl ?_)) (Exists.intro m11 (And.intro ⟨(IntKind.i64.wrap (u8 + 1)), ((wu9 ++ ([[.int .i64 (if aB < aA then aB else aA), .int .i64 (if aB > aA then aB else aA)]] : List (List Value))) ++ ([[.int .i64 (if aD < aC then aD else aC), .int .i64 (if aD > aC then aD else aC)]] : List (List Value))), ((u9 ++ [((if aB < aA then aB else aA), (if aB > aA then aB else aA))]) ++ [((if aD < aC then aD else aC), (if aD > aC then aD else aC))]), rfl, rfl, sX7, (K0 _), (F2.append (F2.append fu9 (show F2 (C4.R k10) ([[.int .i64 (if aB < aA then aB else aA), .int .i64 (if aB > aA then aB else aA)]] : List (List Value)) [((if aB < aA then aB else aA), (if aB > aA then aB else aA))] from ⟨(j2 (s7 aG aF) (s7 aG aF)), trivial⟩)) (show F2 (C4.R k10) ([[.int .i64 (if aD < aC then aD else aC), .int .i64 (if aD > aC then aD else aC)]] : List (List Value)) [((if aD < aC then aD else aC), (if aD > aC then aD else aC))] from ⟨(j2 (s7 aI aH) (s7 aI aH)), trivial⟩)), hM2⟩ (Nat.lt_succ_self _)))))
    ·replace hM2 := ifN hM2 hc17
     refine And.intro rfl (And.intro (by repeat (first | exact trivial | refine And.intro rfl ?_)) (And.intro (by repeat (first | exact trivial | refine And.intro rfl ?_)) (Exists.intro m11 (And.intro ⟨(IntKind.i64.wrap (u8 + 1)), (wu9 ++ ([[.int .i64 (if aB < aA then aB else aA), .int .i64 (if aB > aA then aB else aA)]] : List (List Value))), (u9 ++ [((if aB < aA then aB else aA), (if aB > aA then aB else aA))]), rfl, rfl, sX7, (K0 _), (F2.append fu9 (show F2 (C4.R k10) ([[.int .i64 (if aB < aA then aB else aA), .int .i64 (if aB > aA then aB else aA)]] : List (List Value)) [((if aB < aA then aB else aA), (if aB > aA then aB else aA))] from ⟨(j2 (s7 aG aF) (s7 aG aF)), trivial⟩)), hM2⟩ (Nat.lt_succ_self _)))))
   ·replace hM2 := ifN hM2 hc15
    refine And.intro (fun hc19 => ?_) (fun hc19 => ?_)
    ·replace hM2 := ifP hM2 hc19
     obtain ⟨q20, gq20, hM2⟩ := j0 hM2
     refine And.intro (M2 gq20 (by first | rw [F2.length fu9, F2.length (show F2 (C4.R k10) ([[.int .i64 (if aD < aC then aD else aC), .int .i64 (if aD > aC then aD else aC)]] : List (List Value)) [((if aD < aC then aD else aC), (if aD > aC then aD else aC))] from ⟨(j2 (s7 aI aH) (s7 aI aH)), trivial⟩)] | exact congrArg (· + 1) (F2.length fu9))) ?_
     refine And.intro rfl (And.intro (by repeat (first | exact trivial | refine And.intro rfl ?_)) (And.intro (by repeat (first | exact trivial | refine And.intro rfl ?_)) (Exists.intro m11 (And.intro ⟨(IntKind.i64.wrap (u8 + 1)), (wu9 ++ ([[.int .i64 (if aD < aC then aD else aC), .int .i64 (if aD > aC then aD else aC)]] : List (List Value))), (u9 ++ [((if aD < aC then aD else aC), (if aD > aC then aD else aC))]), rfl, rfl, sX7, (K0 _), (F2.append fu9 (show F2 (C4.R k10) ([[.int .i64 (if aD < aC then aD else aC), .int .i64 (if aD > aC then aD else aC)]] : List (List Value)) [((if aD < aC then aD else aC), (if aD > aC then aD else aC))] from ⟨(j2 (s7 aI aH) (s7 aI aH)), trivial⟩)), hM2⟩ (Nat.lt_succ_self _)))))
    ·replace hM2 := ifN hM2 hc19
     refine And.intro rfl (And.intro (by repeat (first | exact trivial | refine And.intro rfl ?_)) (And.intro (by repeat (first | exact trivial | refine And.intro rfl ?_)) (Exists.intro m11 (And.intro ⟨(IntKind.i64.wrap (u8 + 1)), wu9, u9, rfl, rfl, sX7, (K0 _), fu9, hM2⟩ (Nat.lt_succ_self _)))))
  ·replace hM2 := ifN hM2 hc12
   have hE := Option.some.inj hM2; subst hE
   try dsimp only [U0, Z0] at hM1
   refine And.intro rfl (And.intro (by repeat (first | exact trivial | refine And.intro rfl ?_)) (And.intro (by repeat (first | exact trivial | refine And.intro rfl ?_)) (Exists.intro m5 (And.intro ⟨(IntKind.i64.wrap (u2 + 1)), wu9, u9, rfl, rfl, (sX1.trans sX7), (K0 _), fu9, hM1⟩ (Nat.lt_succ_self _)))))
 ·replace hM1 := ifN hM1 hc6
  have hE := Option.some.inj hM1; subst hE
  try dsimp only [U0, Z0] at hM0
  intro v25 k26 f27
  obtain ⟨az28, cz28, rfl, rz28, sz28, lz28⟩ := E1.out (r := C4.toRp) f27 fu3
  have hE := Option.some.inj hM0; subst hE
  exact ⟨az28, u3.length, cz28, rfl, rz28, (sX1.trans sz28)⟩
theorem c09 (h : Hp) (csp0 : List Value) (p0 : l0) (rp0 : Y0.R h csp0 p0) (r : E4 × Bool) (hM0 : a8 p0 = some r) :
  Tr Tryz.prog 200 #[.agg csp0.toArray] h fun v h' => ∃ (cs0 : List Value), v = .tuple #[.agg cs0.toArray, .bool r.2] ∧ C4.R h' cs0 r.1 ∧ Sub h h' := by
 obtain ⟨aA, aB, aC, aN, aD, aI, rfl, rfl, aG, aH, aF⟩ := B0 rp0
 obtain ⟨rfl, aO⟩ := Sl.len aF
 unfold a8 at hM0
 dsimp only at hM0
 refine T2 (args := [.agg #[.int .i64 aA, .int .i64 aB, .slice aC aI.length aD]]) (fn := Tryz.f200) rfl ?_
 obtain ⟨x1, gx1, hM0⟩ := j0 hM0
 refine Tr.val (C5 _ [.int .i64 aA, .int .i64 aB, .slice aC aI.length aD] (aA, aB, aI) (z0 aG aH aF) _  gx1) ?_
 refine And.intro (fun hc2 => ?_) (fun hc2 => ?_)
 ·replace hM0 := ifP hM0 hc2
  have hE := Option.some.inj hM0; subst hE
  exact ⟨([.int .i64 0, .int .i64 0]), rfl, (j2 (c64 (by decide) (by decide)) (c64 (by decide) (by decide))), (Sub.refl _)⟩
 ·replace hM0 := ifN hM0 hc2
  obtain ⟨x3, gx3, hM0⟩ := j0 hM0
  refine Tr.mono (W0b _ [.int .i64 aA, .int .i64 aB, .slice aC aI.length aD] (aA, aB, aI) (z0 aG aH aF) _  gx3) ?_
  rintro v5 k4 ⟨ax3, nx3, cx3, rfl, rx3, sx3⟩
  obtain ⟨rfl, lx3⟩ := Sl.len rx3
  refine And.intro (fun hc6 => ?_) (fun hc6 => ?_)
  ·replace hM0 := ifP hM0 hc6
   have hE := Option.some.inj hM0; subst hE
   exact ⟨([.int .i64 0, .int .i64 0]), rfl, (j2 (c64 (by decide) (by decide)) (c64 (by decide) (by decide))), sx3⟩
  ·replace hM0 := ifN hM0 hc6
   obtain ⟨x7, gx7, hM0⟩ := j0 hM0
   obtain ⟨bx7, csx7, ex7, rx7⟩ := Sl.getI (r := C4.toRp) rx3 gx7 (by decide)
   refine And.intro bx7 ?_
   obtain ⟨aL, aM, rfl, rfl, aJ, aK⟩ := e01 rx7
   try dsimp only at hM0
   refine Exists.intro _ (And.intro ex7 ?_)
   have hE := Option.some.inj hM0; subst hE
   exact ⟨([.int .i64 aL, .int .i64 aM]), rfl, (j2 aJ aK), sx3⟩
theorem h08 (h : Hp) (p0 : Int) (ip0 : H0 p0) (csp1 : List Value) (p1 : E4) (rp1 : C4.R h csp1 p1) (r : Int) (hM0 : v00 p0 p1 = some r) :
  Tr Tryz.prog 221 #[.int .i64 p0, .agg csp1.toArray] h fun v h' => v = .int .i64 r ∧ h' = h := by
 obtain ⟨aA, aB, rfl, rfl, aC, aD⟩ := e01 rp1
 unfold v00 at hM0
 dsimp only at hM0
 refine Tr.forget (T2 (args := [.int .i64 p0, .agg #[.int .i64 aA, .int .i64 aB]]) (fn := Tryz.f221) rfl ?_)
 refine And.intro (fun hc1 => ?_) (fun hc1 => ?_)
 ·replace hM0 := ifP hM0 hc1
  refine And.intro (fun hc2 => ?_) (fun hc2 => ?_)
  ·replace hM0 := ifP hM0 hc2
   have hE := Option.some.inj hM0; subst hE
   exact And.intro rfl (Sub.refl _)
  ·replace hM0 := ifN hM0 hc2
   have hE := Option.some.inj hM0; subst hE
   exact And.intro rfl (Sub.refl _)
 ·replace hM0 := ifN hM0 hc1
  refine And.intro (fun hc3 => ?_) (fun hc3 => ?_)
  ·replace hM0 := ifP hM0 hc3
   have hE := Option.some.inj hM0; subst hE
   exact And.intro rfl (Sub.refl _)
  ·replace hM0 := ifN hM0 hc3
   have hE := Option.some.inj hM0; subst hE
   exact And.intro rfl (Sub.refl _)
theorem z05 (h : Hp) (csp0 : List Value) (p0 : l0) (rp0 : Y0.R h csp0 p0) (csp1 : List Value) (p1 : E4) (rp1 : C4.R h csp1 p1) (r : l0 × Bool) (hM0 : D6 p0 p1 = some r) :
  Tr Tryz.prog 201 #[.agg csp0.toArray, .agg csp1.toArray] h fun v h' => ∃ (cs0 : List Value), v = .tuple #[.agg cs0.toArray, .bool r.2] ∧ Y0.R h' cs0 r.1 ∧ Sub h h' := by
 obtain ⟨aD, aF, aG, bA, aH, aK, rfl, rfl, aI, aL, aC⟩ := B0 rp0
 obtain ⟨rfl, bB⟩ := Sl.len aC
 obtain ⟨aA, aB, rfl, rfl, aM, aN⟩ := e01 rp1
 unfold D6 at hM0
 dsimp only at hM0
 refine T2 (args := [.agg #[.int .i64 aD, .int .i64 aF, .slice aG aK.length aH], .agg #[.int .i64 aA, .int .i64 aB]]) (fn := Tryz.f201) rfl ?_
 obtain ⟨x1, gx1, hM0⟩ := j0 hM0
 refine Tr.val (C5 _ [.int .i64 aD, .int .i64 aF, .slice aG aK.length aH] (aD, aF, aK) (z0 aI aL aC) _  gx1) ?_
 refine And.intro (fun hc2 => ?_) (fun hc2 => ?_)
 ·replace hM0 := ifP hM0 hc2
  obtain ⟨x3, gx3, hM0⟩ := j0 hM0
  refine Tr.mono (Y3 _ [.int .i64 aD, .int .i64 aF, .slice aG aK.length aH] (aD, aF, aK) (z0 aI aL aC) _  gx3) ?_
  rintro v5 k4 ⟨csx3, rfl, rx3, sx3⟩
  obtain ⟨aY, aZ, aS, bC, aT, bE, rfl, rfl, aU, aV, aO⟩ := B0 rx3
  obtain ⟨rfl, bD⟩ := Sl.len aO
  try dsimp only at hM0
  have hE := Option.some.inj hM0; subst hE
  exact ⟨([.int .i64 aY, .int .i64 aZ, .slice aS bE.length aT]), rfl, (z0 aU aV aO), sx3⟩
 ·replace hM0 := ifN hM0 hc2
  obtain ⟨X6, hLX6, hM0⟩ := j0 hM0
  refine Exists.intro { vars := [7], boxes := [3], owns := [], fuel := true } (Exists.intro (fun vs os h' => ∃ (u7 : Int) (u8 : Int) (u9 : Int) (au10 : Option Addr) (nu10 cu10 : Nat) (u10 : J0), vs.tail = [.int .i64 u7, .int .i64 u8, .int .i64 u9, .slice au10 nu10 cu10] ∧ os = [] ∧ Sub h h' ∧ H0 u7 ∧ H0 u8 ∧ H0 u9 ∧ I0.R h' [.slice au10 nu10 cu10] u10 ∧ i4 aK aA aB (Q1 vs) u7 u8 u9 u10 = some X6) (Exists.intro (fun _ _ => 0) ?_))
  refine And.intro (Exists.intro T0 ⟨0, aD, (IntKind.i64.wrap (aF - 1)), none, 0, 0, [], rfl, rfl, (Sub.refl _), (c64 (by decide) (by decide)), aI, (K0 _), (T0e Q0 h), hLX6⟩) ?_
  rintro v_0 v_1 v_2 v_3 m12 k11 ⟨u7, u8, u9, au10, nu10, cu10, u10, evX6, eoX6, sX6, iu7, iu8, iu9, ru10, hM1⟩
  cases evX6
  cases eoX6
  replace hM1 : i4 aK aA aB m12 u7 u8 u9 u10 = some X6 := hM1
  obtain _ | m12 := m12
  ·cases (show (none : Option _) = some X6 from hM1)
  rw [i4.eq_2] at hM1
  obtain ⟨rfl, lu10⟩ := Sl.len ru10
  refine And.intro (fun hc13 => ?_) (fun hc13 => ?_)
  ·replace hM1 := ifP hM1 hc13
   obtain ⟨x14, gx14, hM1⟩ := j0 hM1
   obtain ⟨bx14, csx14, ex14, rx14⟩ := Sl.getI (r := Q0.toRp) (I0.mono sX6 aC) gx14 (by decide)
   refine And.intro bx14 ?_
   obtain ⟨aW, aJ, aX, rfl, rfl, aP, aQ, aR⟩ := D1 rx14
   try dsimp only at hM1
   refine Exists.intro _ (And.intro ex14 ?_)
   refine Or.inr (Or.inr (Or.inl (And.intro (And.intro (by kernel_rfl) (by kernel_rfl)) ?_)))
   obtain ⟨x15, gx15, hM1⟩ := j0 hM1
   obtain ⟨q16, gq16, hM1⟩ := j0 hM1
   have ix15 : H0 x15 := U2 gq16
   refine Or.inl (Exists.intro (.val (.int .i64 x15)) (And.intro ?_ ?_))
   ·intro k17 s18
    exact Tr.val (h08 _ aW aP [.int .i64 aA, .int .i64 aB] (aA, aB) (j2 aM aN) _ gx15) (And.intro rfl (And.intro rfl rfl))
   obtain ⟨x19, gx19, hM1⟩ := j0 hM1
   obtain ⟨q20, gq20, hM1⟩ := j0 hM1
   have ix19 : H0 x19 := U2 gq20
   refine Or.inl (Exists.intro (.val (.int .i64 x19)) (And.intro ?_ ?_))
   ·intro k21 s22
    exact Tr.val (h08 _ aX aR [.int .i64 aA, .int .i64 aB] (aA, aB) (j2 aM aN) _ gx19) (And.intro rfl (And.intro rfl rfl))
   refine Or.inl (Exists.intro (.agg [.val (.int .i64 x15), .val (.int .i64 aJ), .val (.int .i64 x19)]) (And.intro ?_ ?_))
   ·intro k23 s24
    exact And.intro rfl (And.intro rfl rfl)
   refine Or.inr ?_
   refine Or.inr ?_
   refine Exists.intro 1 (And.intro (And.intro rfl rfl) ?_)
   obtain ⟨x25, gx25, hM1⟩ := j0 hM1
   refine Tr.mono (n9 _ au10 u10.length cu10 u10 ru10 [.int .i64 x15, .int .i64 aJ, .int .i64 x19] (x15, aJ, x19) (V0 ix15 aQ ix19) _  gx25) ?_
   rintro v27 k26 ⟨ax25, nx25, cx25, rfl, rx25, sx25⟩
   obtain ⟨rfl, lx25⟩ := Sl.len rx25
   refine And.intro (And.intro rfl sx25) (And.intro (by first | exact trivial | exact rfl) ?_)
   refine And.intro trivial (And.intro (by first | exact trivial | exact rfl) ?_)
   refine And.intro rfl (And.intro (by repeat (first | exact trivial | refine And.intro rfl ?_)) (And.intro (by repeat (first | exact trivial | refine And.intro rfl ?_)) (Exists.intro m12 (And.intro ⟨(IntKind.i64.wrap (u7 + 1)), u8, u9, ax25, x25.length, cx25, x25, rfl, rfl, (sX6.trans sx25), (K0 _), iu8, iu9, rx25, hM1⟩ (Nat.lt_succ_self _)))))
  ·replace hM1 := ifN hM1 hc13
   have hE := Option.some.inj hM1; subst hE
   try dsimp only [U0, Z0] at hM0
   have hE := Option.some.inj hM0; subst hE
   exact ⟨([.int .i64 u8, .int .i64 u9, .slice au10 u10.length cu10]), rfl, (z0 iu8 iu9 ru10), sX6⟩
theorem V09 (h : Hp) (csp0 : List Value) (p0 : l0) (rp0 : Y0.R h csp0 p0) (r : l0 × E4 × Bool) (hM0 : B9 p0 = some r) :
  Tr Tryz.prog 145 #[.agg csp0.toArray] h fun v h' => ∃ (cs0 : List Value) (cs1 : List Value), v = .tuple #[.agg cs0.toArray, .agg cs1.toArray, .bool r.2.2] ∧ Y0.R h' cs0 r.1 ∧ C4.R h' cs1 r.2.1 ∧ Sub h h' := by
 obtain ⟨aA, aB, aF, bI, aG, aU, rfl, rfl, aL, aM, aH⟩ := B0 rp0
 obtain ⟨rfl, bJ⟩ := Sl.len aH
 unfold B9 at hM0
 dsimp only at hM0
 refine T2 (args := [.agg #[.int .i64 aA, .int .i64 aB, .slice aF aU.length aG]]) (fn := Tryz.f145) rfl ?_
 obtain ⟨x1, gx1, hM0⟩ := j0 hM0
 refine Tr.mono (c09 _ [.int .i64 aA, .int .i64 aB, .slice aF aU.length aG] (aA, aB, aU) (z0 aL aM aH) _  gx1) ?_
 rintro v3 k2 ⟨bD, rfl, aR, sx1⟩
 obtain ⟨bM, bN⟩ := x1
 dsimp only at hM0 aR
 obtain ⟨aC, aD, rfl, rfl, aI, aJ⟩ := e01 aR
 try dsimp only at hM0
 refine And.intro (fun hc4 => ?_) (fun hc4 => ?_)
 ·replace hM0 := ifP hM0 hc4
  obtain ⟨x5, gx5, hM0⟩ := j0 hM0
  refine Tr.mono (Y3 _ [.int .i64 aA, .int .i64 aB, .slice aF aU.length aG] (aA, aB, aU) (z0 aL aM (I0.mono sx1 aH)) _  gx5) ?_
  rintro v7 k6 ⟨csx5, rfl, rx5, sx5⟩
  obtain ⟨bE, bF, aX, bK, aY, bO, rfl, rfl, aZ, bA, aS⟩ := B0 rx5
  obtain ⟨rfl, bL⟩ := Sl.len aS
  try dsimp only at hM0
  have hE := Option.some.inj hM0; subst hE
  exact ⟨([.int .i64 bE, .int .i64 bF, .slice aX bO.length aY]), ([.int .i64 0, .int .i64 0]), rfl, (z0 aZ bA aS), (j2 (c64 (by decide) (by decide)) (c64 (by decide) (by decide))), (sx1.trans sx5)⟩
 ·replace hM0 := ifN hM0 hc4
  obtain ⟨x8, gx8, hM0⟩ := j0 hM0
  refine Tr.mono (z05 _ [.int .i64 aA, .int .i64 aB, .slice aF aU.length aG] (aA, aB, aU) (z0 aL aM (I0.mono sx1 aH)) [.int .i64 aC, .int .i64 aD] (aC, aD) (j2 aI aJ) _  gx8) ?_
  rintro v10 k9 ⟨bG, rfl, aT, sx8⟩
  obtain ⟨bP, bQ⟩ := x8
  dsimp only at hM0 aT
  obtain ⟨aV, aW, aN, bB, aO, bH, rfl, rfl, aP, aQ, aK⟩ := B0 aT
  obtain ⟨rfl, bC⟩ := Sl.len aK
  try dsimp only at hM0
  refine Or.inr (Or.inr (Or.inl (And.intro (And.intro (by kernel_rfl) (by kernel_rfl)) ?_)))
  refine Or.inr ?_
  refine Or.inr ?_
  refine Exists.intro 0 (And.intro (And.intro rfl rfl) ?_)
  refine And.intro trivial (And.intro (by first | exact trivial | exact rfl) ?_)
  refine And.intro trivial (And.intro (by first | exact trivial | exact rfl) ?_)
  have hE := Option.some.inj hM0; subst hE
  exact ⟨([.int .i64 aV, .int .i64 aW, .slice aN bH.length aO]), ([.int .i64 aC, .int .i64 aD]), rfl, (z0 aP aQ aK), (j2 aI aJ), (sx1.trans sx8)⟩
theorem D02 (h : Hp) (csp0 : List Value) (p0 : l0) (rp0 : Y0.R h csp0 p0) (r : l0 × H7) (hM0 : N6 p0 = some r) :
  Tr Tryz.prog 91 #[.agg csp0.toArray] h fun v h' => ∃ (cs0 : List Value) (a1 : Option Addr) (n1 c1 : Nat), v = .tuple #[.agg cs0.toArray, .slice a1 n1 c1] ∧ Y0.R h' cs0 r.1 ∧ M0d.R h' [.slice a1 n1 c1] r.2 ∧ Sub h h' := by
 obtain ⟨aT, aU, aP, bJ, aQ, bF, rfl, rfl, aV, aW, aR⟩ := B0 rp0
 obtain ⟨rfl, bK⟩ := Sl.len aR
 unfold N6 at hM0
 dsimp only at hM0
 refine T2 (args := [.agg #[.int .i64 aT, .int .i64 aU, .slice aP bF.length aQ]]) (fn := Tryz.f91) rfl ?_
 obtain ⟨x1, gx1, hM0⟩ := j0 hM0
 refine Tr.mono (Y3 _ [.int .i64 aT, .int .i64 aU, .slice aP bF.length aQ] (aT, aU, bF) (z0 aV aW aR) _  gx1) ?_
 rintro v3 k2 ⟨csx1, rfl, rx1, sx1⟩
 obtain ⟨bG, bH, aX, bL, aY, bI, rfl, rfl, aZ, bA, aS⟩ := B0 rx1
 obtain ⟨rfl, bM⟩ := Sl.len aS
 try dsimp only at hM0
 obtain ⟨X4, hLX4, hM0⟩ := j0 hM0
 refine Exists.intro { vars := [6], boxes := [2], owns := [0], fuel := true } (Exists.intro (fun vs os h' => ∃ (u5 : Int) (u6 : Int) (u7 : Int) (au8 : Option Addr) (nu8 cu8 : Nat) (u8 : J0) (wu9 : List (List Value)) (u9 : List E4), vs.tail = [.int .i64 u5, .int .i64 u6, .int .i64 u7, .slice au8 nu8 cu8] ∧ os = [wu9] ∧ Sub k2 h' ∧ H0 u5 ∧ H0 u6 ∧ H0 u7 ∧ I0.R h' [.slice au8 nu8 cu8] u8 ∧ F2 (C4.R h') wu9 u9 ∧ F5 (Q1 vs) u5 u6 u7 u8 u9 = some X4) (Exists.intro (fun _ _ => 0) ?_))
 refine And.intro (Exists.intro T0 ⟨0, bG, bH, aX, bI.length, aY, bI, [], ([] : H7), rfl, rfl, (Sub.refl _), (c64 (by decide) (by decide)), aZ, bA, aS, (show F2 (C4.R k2) ([] : List (List Value)) ([] : H7) from trivial), hLX4⟩) ?_
 rintro v_0 v_1 v_2 v_3 wu9 m11 k10 ⟨u5, u6, u7, au8, nu8, cu8, u8, zzu9, u9, evX4, eoX4, sX4, iu5, iu6, iu7, ru8, fu9, hM1⟩
 cases evX4
 cases eoX4
 replace hM1 : F5 m11 u5 u6 u7 u8 u9 = some X4 := hM1
 obtain _ | m11 := m11
 ·cases (show (none : Option _) = some X4 from hM1)
 rw [F5.eq_2] at hM1
 obtain ⟨rfl, lu8⟩ := Sl.len ru8
 refine And.intro (fun hc12 => ?_) (fun hc12 => ?_)
 ·replace hM1 := ifP hM1 hc12
  obtain ⟨x13, gx13, hM1⟩ := j0 hM1
  refine Tr.mono (V09 _ [.int .i64 u6, .int .i64 u7, .slice au8 u8.length cu8] (u6, u7, u8) (z0 iu6 iu7 ru8) _  gx13) ?_
  rintro v15 k14 ⟨bD, bE, rfl, aG, aH, sx13⟩
  obtain ⟨bN, bO, bP⟩ := x13
  dsimp only at hM1 aG aH
  obtain ⟨aM, aN, aI, bB, aJ, aO, rfl, rfl, aK, aL, aC⟩ := B0 aG
  obtain ⟨rfl, bC⟩ := Sl.len aC
  try dsimp only at hM1
  obtain ⟨aA, aB, rfl, rfl, aD, aF⟩ := e01 aH
  try dsimp only at hM1
  refine And.intro (fun hc16 => ?_) (fun hc16 => ?_)
  ·replace hM1 := ifP hM1 hc16
   intro v17 k18 f19
   obtain ⟨az20, cz20, rfl, rz20, sz20, lz20⟩ := E1.out (r := C4.toRp) f19 (F2.up (r := C4.toRp) sx13 fu9)
   have hE := Option.some.inj hM1; subst hE
   try dsimp only [G3, J3] at hM0
   have hE := Option.some.inj hM0; subst hE
   exact ⟨([.int .i64 u6, .int .i64 u7, .slice au8 u8.length cu8]), az20, u9.length, cz20, rfl, (z0 iu6 iu7 (I0.mono (sx13.trans sz20) ru8)), rz20, (((sx1.trans sX4).trans sx13).trans sz20)⟩
  ·replace hM1 := ifN hM1 hc16
   obtain ⟨q21, gq21, hM1⟩ := j0 hM1
   refine And.intro (M2 gq21 (by first | rw [F2.length (F2.up (r := C4.toRp) sx13 fu9), F2.length (show F2 (C4.R k14) ([[.int .i64 aA, .int .i64 aB]] : List (List Value)) [(aA, aB)] from ⟨(j2 aD aF), trivial⟩)] | exact congrArg (· + 1) (F2.length (F2.up (r := C4.toRp) sx13 fu9)))) ?_
   refine And.intro rfl (And.intro (by repeat (first | exact trivial | refine And.intro rfl ?_)) (And.intro (by repeat (first | exact trivial | refine And.intro rfl ?_)) (Exists.intro m11 (And.intro ⟨(IntKind.i64.wrap (u5 + 1)), aM, aN, aI, aO.length, aJ, aO, (wu9 ++ ([[.int .i64 aA, .int .i64 aB]] : List (List Value))), (u9 ++ [(aA, aB)]), rfl, rfl, (sX4.trans sx13), (K0 _), aK, aL, aC, (F2.append (F2.up (r := C4.toRp) sx13 fu9) (show F2 (C4.R k14) ([[.int .i64 aA, .int .i64 aB]] : List (List Value)) [(aA, aB)] from ⟨(j2 aD aF), trivial⟩)), hM1⟩ (Nat.lt_succ_self _)))))
 ·replace hM1 := ifN hM1 hc12
  have hE := Option.some.inj hM1; subst hE
  try dsimp only [U0, Z0] at hM0
  intro v22 k23 f24
  obtain ⟨az25, cz25, rfl, rz25, sz25, lz25⟩ := E1.out (r := C4.toRp) f24 fu9
  have hE := Option.some.inj hM0; subst hE
  exact ⟨([.int .i64 u6, .int .i64 u7, .slice au8 u8.length cu8]), az25, u9.length, cz25, rfl, (z0 iu6 iu7 (I0.mono sz25 ru8)), rz25, ((sx1.trans sX4).trans sz25)⟩
theorem d09 (h : Hp) (csp0 : List Value) (p0 : l0) (rp0 : Y0.R h csp0 p0) (r : l0 × Bool) (hM0 : c8 p0 = some r) :
  Tr Tryz.prog 93 #[.agg csp0.toArray] h fun v h' => ∃ (cs0 : List Value), v = .tuple #[.agg cs0.toArray, .bool r.2] ∧ Y0.R h' cs0 r.1 ∧ Sub h h' := by
 obtain ⟨aB, aA, aC, aQ, aD, aM, rfl, rfl, aH, aI, aF⟩ := B0 rp0
 obtain ⟨rfl, aR⟩ := Sl.len aF
 unfold c8 at hM0
 dsimp only at hM0
 refine T2 (args := [.agg #[.int .i64 aB, .int .i64 aA, .slice aC aM.length aD]]) (fn := Tryz.f93) rfl ?_
 obtain ⟨x1, gx1, hM0⟩ := j0 hM0
 refine Tr.mono (Y3 _ [.int .i64 aB, .int .i64 aA, .slice aC aM.length aD] (aB, aA, aM) (z0 aH aI aF) _  gx1) ?_
 rintro v3 k2 ⟨csx1, rfl, rx1, sx1⟩
 obtain ⟨aN, aP, aJ, aS, aK, aU, rfl, rfl, aL, aO, aG⟩ := B0 rx1
 obtain ⟨rfl, aT⟩ := Sl.len aG
 try dsimp only at hM0
 obtain ⟨x4, gx4, hM0⟩ := j0 hM0
 refine Tr.val (C5 _ [.int .i64 aB, .int .i64 aA, .slice aC aM.length aD] (aB, aA, aM) (z0 aH aI (I0.mono sx1 aF)) _  gx4) ?_
 refine And.intro (fun hc5 => ?_) (fun hc5 => ?_)
 ·replace hM0 := ifP hM0 hc5
  have hE := Option.some.inj hM0; subst hE
  exact ⟨([.int .i64 aN, .int .i64 aP, .slice aJ aU.length aK]), rfl, (z0 aL aO aG), sx1⟩
 ·replace hM0 := ifN hM0 hc5
  have hE := Option.some.inj hM0; subst hE
  exact ⟨([.int .i64 aN, .int .i64 (IntKind.i64.wrap (aA + 1)), .slice aJ aU.length aK]), rfl, (z0 aL (K0 _) aG), sx1⟩
theorem A05 (h : Hp) (csp0 : List Value) (p0 : l0) (rp0 : Y0.R h csp0 p0) (csp1 : List Value) (p1 : C0) (rp1 : Q0.R h csp1 p1) (r : l0 × Bool) (hM0 : t8 p0 p1 = some r) :
  Tr Tryz.prog 94 #[.agg csp0.toArray, .agg csp1.toArray] h fun v h' => ∃ (cs0 : List Value), v = .tuple #[.agg cs0.toArray, .bool r.2] ∧ Y0.R h' cs0 r.1 ∧ Sub h h' := by
 obtain ⟨aD, aF, aA, aW, aB, aL, rfl, rfl, aG, aH, aC⟩ := B0 rp0
 obtain ⟨rfl, aX⟩ := Sl.len aC
 obtain ⟨aI, aJ, aK, rfl, rfl, aM, aN, aO⟩ := D1 rp1
 unfold t8 at hM0
 dsimp only at hM0
 refine T2 (args := [.agg #[.int .i64 aD, .int .i64 aF, .slice aA aL.length aB], .agg #[.int .i64 aI, .int .i64 aJ, .int .i64 aK]]) (fn := Tryz.f94) rfl ?_
 obtain ⟨x1, gx1, hM0⟩ := j0 hM0
 refine Tr.mono (Y3 _ [.int .i64 aD, .int .i64 aF, .slice aA aL.length aB] (aD, aF, aL) (z0 aG aH aC) _  gx1) ?_
 rintro v3 k2 ⟨csx1, rfl, rx1, sx1⟩
 obtain ⟨aS, aT, aU, aY, aV, bA, rfl, rfl, aP, aQ, aR⟩ := B0 rx1
 obtain ⟨rfl, aZ⟩ := Sl.len aR
 try dsimp only at hM0
 obtain ⟨x4, gx4, hM0⟩ := j0 hM0
 refine Tr.val (C5 _ [.int .i64 aD, .int .i64 aF, .slice aA aL.length aB] (aD, aF, aL) (z0 aG aH (I0.mono sx1 aC)) _  gx4) ?_
 obtain ⟨x5, gx5, hM0⟩ := j0 hM0
 refine Exists.intro (.bool x5) (And.intro (fun q => u06 _ [.int .i64 aD, .int .i64 aF, .slice aA aL.length aB] (aD, aF, aL) (z0 aG aH (I0.mono sx1 aC)) [.int .i64 aI, .int .i64 aJ, .int .i64 aK] (aI, aJ, aK) (V0 aM aN aO) _  (N2 gx5 q)) ?_)
 refine And.intro (fun hc6 => ?_) (fun hc6 => ?_)
 ·replace hM0 := ifP hM0 hc6
  have hE := Option.some.inj hM0; subst hE
  exact ⟨([.int .i64 aS, .int .i64 aT, .slice aU bA.length aV]), rfl, (z0 aP aQ aR), sx1⟩
 ·replace hM0 := ifN hM0 hc6
  obtain ⟨x7, gx7, hM0⟩ := j0 hM0
  refine Tr.mono (n9 _ aA aL.length aB aL (I0.mono sx1 aC) [.int .i64 aI, .int .i64 aJ, .int .i64 aK] (aI, aJ, aK) (V0 aM aN aO) _  gx7) ?_
  rintro v9 k8 ⟨ax7, nx7, cx7, rfl, rx7, sx7⟩
  obtain ⟨rfl, lx7⟩ := Sl.len rx7
  refine Or.inr (Or.inr (Or.inl (And.intro (And.intro (by kernel_rfl) (by kernel_rfl)) ?_)))
  refine Or.inr ?_
  refine Exists.intro 0 (And.intro (And.intro rfl rfl) ?_)
  refine And.intro trivial (And.intro (by first | exact trivial | exact rfl) ?_)
  have hE := Option.some.inj hM0; subst hE
  exact ⟨([.int .i64 aS, .int .i64 aT, .slice ax7 x7.length cx7]), rfl, (z0 aP aQ rx7), (sx1.trans sx7)⟩
theorem Z05 (h : Hp) (csp0 : List Value) (p0 : l0) (rp0 : Y0.R h csp0 p0) (r : J0) (hM0 : S6 p0 = some r) :
  Tr Tryz.prog 92 #[.agg csp0.toArray] h fun v h' => ∃ (a0 : Option Addr) (n0 c0 : Nat), v = .slice a0 n0 c0 ∧ I0.R h' [.slice a0 n0 c0] r ∧ Sub h h' := by
 obtain ⟨aA, aB, aD, aJ, aF, aC, rfl, rfl, aG, aI, aH⟩ := B0 rp0
 obtain ⟨rfl, aK⟩ := Sl.len aH
 unfold S6 at hM0
 dsimp only at hM0
 refine T2 (args := [.agg #[.int .i64 aA, .int .i64 aB, .slice aD aC.length aF]]) (fn := Tryz.f92) rfl ?_
 obtain ⟨X1, hLX1, hM0⟩ := j0 hM0
 refine Exists.intro { vars := [4], boxes := [], owns := [0], fuel := true } (Exists.intro (fun vs os h' => ∃ (u2 : Int) (wu3 : List (List Value)) (u3 : List C0), vs.tail = [.int .i64 u2] ∧ os = [wu3] ∧ Sub h h' ∧ H0 u2 ∧ F2 (Q0.R h') wu3 u3 ∧ H4 aB aA aC (Q1 vs) u2 u3 = some X1) (Exists.intro (fun _ _ => 0) ?_))
 refine And.intro (Exists.intro T0 ⟨0, [], ([] : J0), rfl, rfl, (Sub.refl _), (c64 (by decide) (by decide)), (show F2 (Q0.R h) ([] : List (List Value)) ([] : J0) from trivial), hLX1⟩) ?_
 rintro v_0 wu3 m5 k4 ⟨u2, zzu3, u3, evX1, eoX1, sX1, iu2, fu3, hM1⟩
 cases evX1
 cases eoX1
 replace hM1 : H4 aB aA aC m5 u2 u3 = some X1 := hM1
 obtain _ | m5 := m5
 ·cases (show (none : Option _) = some X1 from hM1)
 rw [H4.eq_2] at hM1
 obtain ⟨x6, gx6, hM1⟩ := j0 hM1
 refine Exists.intro (.bool x6) (And.intro (fun q => G9 _ [.int .i64 aA, .int .i64 aB, .slice aD aC.length aF] (aA, aB, aC) (z0 aG aI (I0.mono sX1 aH)) _  (N2 gx6 q)) ?_)
 refine And.intro (fun hc7 => ?_) (fun hc7 => ?_)
 ·replace hM1 := ifP hM1 hc7
  obtain ⟨x8, gx8, hM1⟩ := j0 hM1
  refine Tr.mono (T03 _ aA aG _  gx8) ?_
  rintro v10 k9 ⟨ax8, nx8, cx8, rfl, rx8, sx8⟩
  obtain ⟨rfl, lx8⟩ := Sl.len rx8
  obtain ⟨X11, hLX11, hM1⟩ := j0 hM1
  refine Exists.intro { vars := [6], boxes := [], owns := [0], fuel := true } (Exists.intro (fun vs os h' => ∃ (u12 : Int) (wu13 : List (List Value)) (u13 : List C0), vs.tail = [.int .i64 u12] ∧ os = [wu13] ∧ Sub k9 h' ∧ H0 u12 ∧ F2 (Q0.R h') wu13 u13 ∧ B3 x8 aA aB aC u2 (Q1 vs) u12 u13 = some X11) (Exists.intro (fun _ _ => 0) ?_))
  refine And.intro (Exists.intro T0 ⟨0, wu3, u3, rfl, rfl, (Sub.refl _), (c64 (by decide) (by decide)), (F2.up (r := Q0.toRp) sx8 fu3), hLX11⟩) ?_
  rintro v_0 wu13 m15 k14 ⟨u12, zzu13, u13, evX11, eoX11, sX11, iu12, fu13, hM2⟩
  cases evX11
  cases eoX11
  replace hM2 : B3 x8 aA aB aC u2 m15 u12 u13 = some X11 := hM2
  obtain _ | m15 := m15
  ·cases (show (none : Option _) = some X11 from hM2)
  rw [B3.eq_2] at hM2
  refine And.intro (fun hc16 => ?_) (fun hc16 => ?_)
  ·replace hM2 := ifP hM2 hc16
   refine Or.inl (And.intro (And.intro (by kernel_rfl) (by kernel_rfl)) ?_)
   obtain ⟨x17, gx17, hM2⟩ := j0 hM2
   obtain ⟨bx17, csx17, ex17, rx17⟩ := Sl.getI (r := Wp.int.toRp) (K1.mono sX11 rx8) gx17 (by decide)
   refine And.intro bx17 ?_
   obtain ⟨rfl, ix17⟩ := rx17
   refine Exists.intro _ (And.intro ex17 ?_)
   obtain ⟨x18, gx18, hM2⟩ := j0 hM2
   refine Exists.intro (.int .i64 x18) (And.intro (j01 _ [.int .i64 aA, .int .i64 aB, .slice aD aC.length aF] (aA, aB, aC) (z0 aG aI (I0.mono ((sX1.trans sx8).trans sX11) aH)) u2 iu2 x17 ix17 _  gx18) ?_)
   obtain ⟨q19, gq19, hM2⟩ := j0 hM2
   have ix18 : H0 x18 := U2 gq19
   refine And.intro (fun hc20 => ?_) (fun hc20 => ?_)
   ·replace hM2 := ifP hM2 hc20
    obtain ⟨x21, gx21, hM2⟩ := j0 hM2
    obtain ⟨bx21, csx21, ex21, rx21⟩ := Sl.getI (r := Wp.int.toRp) (K1.mono sX11 rx8) gx21 (by decide)
    refine And.intro bx21 ?_
    obtain ⟨rfl, ix21⟩ := rx21
    refine Exists.intro _ (And.intro ex21 ?_)
    obtain ⟨q22, gq22, hM2⟩ := j0 hM2
    refine And.intro (M2 gq22 (by first | rw [F2.length fu13, F2.length (show F2 (Q0.R k14) ([[.int .i64 u2, .int .i64 x21, .int .i64 (-1)]] : List (List Value)) [(u2, x21, (-1))] from ⟨(V0 iu2 ix21 (c64 (by decide) (by decide))), trivial⟩)] | exact congrArg (· + 1) (F2.length fu13))) ?_
    refine And.intro rfl (And.intro (by repeat (first | exact trivial | refine And.intro rfl ?_)) (And.intro (by repeat (first | exact trivial | refine And.intro rfl ?_)) (Exists.intro m15 (And.intro ⟨(IntKind.i64.wrap (u12 + 1)), (wu13 ++ ([[.int .i64 u2, .int .i64 x21, .int .i64 (-1)]] : List (List Value))), (u13 ++ [(u2, x21, (-1))]), rfl, rfl, sX11, (K0 _), (F2.append fu13 (show F2 (Q0.R k14) ([[.int .i64 u2, .int .i64 x21, .int .i64 (-1)]] : List (List Value)) [(u2, x21, (-1))] from ⟨(V0 iu2 ix21 (c64 (by decide) (by decide))), trivial⟩)), hM2⟩ (Nat.lt_succ_self _)))))
   ·replace hM2 := ifN hM2 hc20
    refine And.intro rfl (And.intro (by repeat (first | exact trivial | refine And.intro rfl ?_)) (And.intro (by repeat (first | exact trivial | refine And.intro rfl ?_)) (Exists.intro m15 (And.intro ⟨(IntKind.i64.wrap (u12 + 1)), wu13, u13, rfl, rfl, sX11, (K0 _), fu13, hM2⟩ (Nat.lt_succ_self _)))))
  ·replace hM2 := ifN hM2 hc16
   have hE := Option.some.inj hM2; subst hE
   try dsimp only [U0, Z0] at hM1
   refine And.intro rfl (And.intro (by repeat (first | exact trivial | refine And.intro rfl ?_)) (And.intro (by repeat (first | exact trivial | refine And.intro rfl ?_)) (Exists.intro m5 (And.intro ⟨(IntKind.i64.wrap (u2 + 1)), wu13, u13, rfl, rfl, ((sX1.trans sx8).trans sX11), (K0 _), fu13, hM1⟩ (Nat.lt_succ_self _)))))
 ·replace hM1 := ifN hM1 hc7
  have hE := Option.some.inj hM1; subst hE
  try dsimp only [U0, Z0] at hM0
  intro v27 k28 f29
  obtain ⟨az30, cz30, rfl, rz30, sz30, lz30⟩ := E1.out (r := Q0.toRp) f29 fu3
  have hE := Option.some.inj hM0; subst hE
  exact ⟨az30, u3.length, cz30, rfl, rz30, (sX1.trans sz30)⟩
end Go.Proofs.YtfdlgbfeceodeaaGreat
namespace Go.Proofs.YtfdlgbfeceodeaaGreat
open Go.H
set_option linter.unusedVariables false
set_option linter.unusedSimpArgs false
set_option maxRecDepth 10000
set_option maxHeartbeats 0
theorem U06 (h : Hp) (csp0 : List Value) (p0 : D0) (rp0 : j1.R h csp0 p0) (csp1 : List Value) (p1 : l0) (rp1 : Y0.R h csp1 p1) (r : l0 × Bool × Bool) (hM0 : y8 p0 p1 = some r) :
  Tr Tryz.prog 28 #[.agg csp0.toArray, .agg csp1.toArray] h fun v h' => ∃ (cs0 : List Value), v = .tuple #[.agg cs0.toArray, .bool r.2.1, .bool r.2.2] ∧ Y0.R h' cs0 r.1 ∧ Sub h h' := by
 obtain ⟨bO, bE, gN, bF, dX, rfl, rfl, cU, bG⟩ := A2 rp0
 obtain ⟨rfl, gO⟩ := Sl.len bG
 obtain ⟨aG, aC, aJ, gP, aK, aQ, rfl, rfl, aM, aH, aL⟩ := B0 rp1
 obtain ⟨rfl, gQ⟩ := Sl.len aL
 unfold y8 at hM0
 dsimp only at hM0
 refine T2 (args := [.agg #[.int .i64 bO, .slice bE dX.length bF], .agg #[.int .i64 aG, .int .i64 aC, .slice aJ aQ.length aK]]) (fn := Tryz.f28) rfl ?_
 obtain ⟨x1, gx1, hM0⟩ := j0 hM0
 refine Tr.val (R9 _ [.int .i64 bO, .slice bE dX.length bF] (bO, dX) (J2 cU bG) _  gx1) ?_
 obtain ⟨x2, gx2, hM0⟩ := j0 hM0
 refine Exists.intro (.bool x2) (And.intro (fun q => G9 _ [.int .i64 aG, .int .i64 aC, .slice aJ aQ.length aK] (aG, aC, aQ) (z0 aM aH aL) _  (N2 gx2 q)) ?_)
 refine And.intro (fun hc3 => ?_) (fun hc3 => ?_)
 ·replace hM0 := ifP hM0 hc3
  obtain ⟨x4, gx4, hM0⟩ := j0 hM0
  refine Tr.mono (Y3 _ [.int .i64 aG, .int .i64 aC, .slice aJ aQ.length aK] (aG, aC, aQ) (z0 aM aH aL) _  gx4) ?_
  rintro v6 k5 ⟨csx4, rfl, rx4, sx4⟩
  obtain ⟨fL, fM, dY, gR, dZ, iO, rfl, rfl, eA, eB, cV⟩ := B0 rx4
  obtain ⟨rfl, gS⟩ := Sl.len cV
  try dsimp only at hM0
  have hE := Option.some.inj hM0; subst hE
  exact ⟨([.int .i64 fL, .int .i64 fM, .slice dY iO.length dZ]), rfl, (z0 eA eB cV), sx4⟩
 ·replace hM0 := ifN hM0 hc3
  obtain ⟨x7, gx7, hM0⟩ := j0 hM0
  obtain ⟨cX, eC⟩ := x7
  try dsimp only at hM0
  refine Tr.val (R06 _ [.int .i64 bO, .slice bE dX.length bF] (bO, dX) (J2 cU bG) [.int .i64 aG, .int .i64 aC, .slice aJ aQ.length aK] (aG, aC, aQ) (z0 aM aH aL) _  gx7) ?_
  obtain ⟨q8, gq8, hM0⟩ := j0 hM0
  have cW : H0 cX := U2 gq8
  obtain ⟨q9, gq9, hM0⟩ := j0 hM0
  have gT : H0 eC := U2 gq9
  refine And.intro (fun hc10 => ?_) (fun hc10 => ?_)
  ·replace hM0 := ifP hM0 hc10
   refine Or.inr (Or.inr (Or.inr (Or.inr (Exists.intro 13 (And.intro (And.intro (by kernel_rfl) (by kernel_rfl)) ?_)))))
   obtain ⟨x11, gx11, hM0⟩ := j0 hM0
   obtain ⟨bx11, csx11, ex11, rx11⟩ := Sl.getI (r := K1.toRp) bG gx11 (by decide)
   obtain ⟨ax11, nx11, cx11, rfl⟩ := Wp.slice_cell rx11
   obtain ⟨rfl, lx11⟩ := Sl.len rx11
   refine Or.inl (Exists.intro (.hel (.slice bE dX.length bF) eC 1 0) (And.intro ?_ ?_))
   ·intro k12 s13
    exact And.intro bx11 (And.intro rfl (And.intro rfl rfl))
   refine Or.inl (Exists.intro (.val (.slice ax11 x11.length cx11)) (And.intro ?_ ?_))
   ·intro k14 s15
    exact Exists.intro _ (And.intro (i7.up s15 ex11) (And.intro rfl (And.intro rfl rfl)))
   obtain ⟨x16, gx16, hM0⟩ := j0 hM0
   obtain ⟨eD, bP⟩ := x16
   try dsimp only at hM0
   obtain ⟨aD, aF, aN⟩ := eD
   try dsimp only at hM0
   refine Or.inr (Exists.intro (fun v hh => ∃ (aI : Value), v = .tuple #[aI, .bool bP] ∧ (fun v hh => ∃ (aA : Option Addr) (aB : Nat), v = .agg #[.int .i64 aD, .int .i64 aF, .slice aA aN.length aB] ∧ H0 aD ∧ H0 aF ∧ I0.R hh [.slice aA aN.length aB] aN ∧ aN.length ≤ 9223372036854775807) aI hh) (And.intro (fun v h1 h2 sb q => by obtain ⟨aI, e, aV⟩ := q; exact ⟨aI, e, (by obtain ⟨aA, aB, e, f0, f1, f2, f3⟩ := aV; exact ⟨aA, aB, e, f0, f1, I0.mono sb f2, f3⟩)⟩) (And.intro ?_ ?_)))
   ·intro k17 s18
    refine Tr.mono (y05 _ [.int .i64 aG, .int .i64 aC, .slice aJ aQ.length aK] (aG, aC, aQ) (z0 aM aH (I0.mono s18 aL)) cX cW ax11 x11.length cx11 x11 (K1.mono s18 rx11) cX cW _ gx16) ?_
    rintro _ kk ⟨fC, rfl, cY, sb⟩
    obtain ⟨eE, eF, aS, dW, aT, eG, rfl, ey, bL, bM, aU⟩ := B0 cY
    cases ey
    obtain ⟨rfl, bN⟩ := Sl.len aU
    exact And.intro F03 (And.intro sb ⟨(.agg #[.int .i64 aD, .int .i64 aF, .slice aS aN.length aT]), rfl, ⟨aS, aT, rfl, bL, bM, aU, bN⟩⟩)
   refine Or.inr (Exists.intro (fun v hh => ∃ (aI : Value), v = .tuple #[aI, .bool bP] ∧ (fun v hh => ∃ (aA : Option Addr) (aB : Nat), v = .agg #[.int .i64 aD, .int .i64 aF, .slice aA aN.length aB] ∧ H0 aD ∧ H0 aF ∧ I0.R hh [.slice aA aN.length aB] aN ∧ aN.length ≤ 9223372036854775807) aI hh) (And.intro (fun v h1 h2 sb q => by obtain ⟨aI, e, aV⟩ := q; exact ⟨aI, e, (by obtain ⟨aA, aB, e, f0, f1, f2, f3⟩ := aV; exact ⟨aA, aB, e, f0, f1, I0.mono sb f2, f3⟩)⟩) (And.intro ?_ ?_)))
   ·intro k19 s20
    rintro _ ⟨_, rfl, ⟨az21p02, cz21p02, rfl, iz21p00, iz21p01, rz21p02, lz21p02⟩⟩
    exact And.intro F03 (And.intro (Sub.refl _) ⟨(.agg #[.int .i64 aD, .int .i64 aF, .slice az21p02 aN.length cz21p02]), rfl, ⟨az21p02, cz21p02, rfl, iz21p00, iz21p01, rz21p02, lz21p02⟩⟩)
   refine Or.inr (Exists.intro (fun v hh => ∃ (aA : Option Addr) (aB : Nat), v = .agg #[.int .i64 aD, .int .i64 aF, .slice aA aN.length aB] ∧ H0 aD ∧ H0 aF ∧ I0.R hh [.slice aA aN.length aB] aN ∧ aN.length ≤ 9223372036854775807) (And.intro (fun v h1 h2 sb q => by obtain ⟨aA, aB, e, f0, f1, f2, f3⟩ := q; exact ⟨aA, aB, e, f0, f1, I0.mono sb f2, f3⟩) (And.intro ?_ ?_)))
   ·intro k22 s23
    rintro _ ⟨_, rfl, ⟨az24p02, cz24p02, rfl, iz24p00, iz24p01, rz24p02, lz24p02⟩⟩
    exact And.intro F03 (And.intro (Sub.refl _) ⟨az24p02, cz24p02, rfl, iz24p00, iz24p01, rz24p02, lz24p02⟩)
   refine Or.inl (Exists.intro (.val (.bool bP)) (And.intro ?_ ?_))
   ·intro k25 s26
    rintro _ ⟨_, rfl, ⟨az27p02, cz27p02, rfl, iz27p00, iz27p01, rz27p02, lz27p02⟩⟩
    exact And.intro rfl (And.intro rfl rfl)
   intro k28 s29
   rintro _ ⟨az302, cz302, rfl, iz300, iz301, rz302, lz302⟩
   rintro _ ⟨_, rfl, ⟨az31p02, cz31p02, rfl, iz31p00, iz31p01, rz31p02, lz31p02⟩⟩
   rintro _ ⟨_, rfl, ⟨az32p02, cz32p02, rfl, iz32p00, iz32p01, rz32p02, lz32p02⟩⟩
   refine And.intro (fun hc33 => ?_) (fun hc33 => ?_)
   ·replace hM0 := ifP hM0 hc33
    obtain ⟨x34, gx34, hM0⟩ := j0 hM0
    refine Tr.mono (Y3 _ [.int .i64 aG, .int .i64 aC, .slice aJ aQ.length aK] (aG, aC, aQ) (z0 aM aH (I0.mono s29 aL)) _  gx34) ?_
    rintro v36 k35 ⟨csx34, rfl, rx34, sx34⟩
    obtain ⟨eH, eI, cZ, fN, dA, gU, rfl, rfl, dB, dC, bQ⟩ := B0 rx34
    obtain ⟨rfl, fO⟩ := Sl.len bQ
    try dsimp only at hM0
    have hE := Option.some.inj hM0; subst hE
    exact ⟨([.int .i64 eH, .int .i64 eI, .slice cZ gU.length dA]), rfl, (z0 dB dC bQ), (s29.trans sx34)⟩
   ·replace hM0 := ifN hM0 hc33
    obtain ⟨x37, gx37, hM0⟩ := j0 hM0
    refine Tr.mono (D02 _ [.int .i64 aD, .int .i64 aF, .slice az302 aN.length cz302] (aD, aF, aN) (z0 iz300 iz301 rz302) _  gx37) ?_
    rintro v39 k38 ⟨fD, fP, fQ, fR, rfl, bR, bS, sx37⟩
    obtain ⟨gV, gW⟩ := x37
    dsimp only at hM0 bR bS
    obtain ⟨cO, cP, bT, eJ, bU, fE, rfl, rfl, bV, bW, aW⟩ := B0 bR
    obtain ⟨rfl, eM⟩ := Sl.len aW
    try dsimp only at hM0
    obtain ⟨rfl, fS⟩ := Sl.len bS
    have hE := Option.some.inj hM0; subst hE
    exact ⟨([.int .i64 cO, .int .i64 cP, .slice bT fE.length bU]), rfl, (z0 bV bW aW), (s29.trans sx37)⟩
  ·replace hM0 := ifN hM0 hc10
   obtain ⟨x40, gx40, hM0⟩ := j0 hM0
   refine Tr.mono (Z05 _ [.int .i64 aG, .int .i64 aC, .slice aJ aQ.length aK] (aG, aC, aQ) (z0 aM aH aL) _  gx40) ?_
   rintro v42 k41 ⟨ax40, nx40, cx40, rfl, rx40, sx40⟩
   obtain ⟨rfl, lx40⟩ := Sl.len rx40
   refine And.intro (fun hc43 => ?_) (fun hc43 => ?_)
   ·replace hM0 := ifP hM0 hc43
    obtain ⟨x44, gx44, hM0⟩ := j0 hM0
    refine Tr.mono (Y3 _ [.int .i64 aG, .int .i64 aC, .slice aJ aQ.length aK] (aG, aC, aQ) (z0 aM aH (I0.mono sx40 aL)) _  gx44) ?_
    rintro v46 k45 ⟨csx44, rfl, rx44, sx44⟩
    obtain ⟨eN, eO, dD, fT, dE, gX, rfl, rfl, dF, dG, bX⟩ := B0 rx44
    obtain ⟨rfl, fU⟩ := Sl.len bX
    try dsimp only at hM0
    have hE := Option.some.inj hM0; subst hE
    exact ⟨([.int .i64 eN, .int .i64 eO, .slice dD gX.length dE]), rfl, (z0 dF dG bX), (sx40.trans sx44)⟩
   ·replace hM0 := ifN hM0 hc43
    obtain ⟨x47, gx47, hM0⟩ := j0 hM0
    refine Tr.mono (d09 _ [.int .i64 aG, .int .i64 aC, .slice aJ aQ.length aK] (aG, aC, aQ) (z0 aM aH (I0.mono sx40 aL)) _  gx47) ?_
    rintro v49 k48 ⟨fF, rfl, bY, sx47⟩
    obtain ⟨gY, gZ⟩ := x47
    dsimp only at hM0 bY
    obtain ⟨aO, aP, aX, eP, aY, bH, rfl, rfl, aZ, bA, aR⟩ := B0 bY
    obtain ⟨rfl, eQ⟩ := Sl.len aR
    try dsimp only at hM0
    refine And.intro (fun hc50 => ?_) (fun hc50 => ?_)
    ·replace hM0 := ifP hM0 hc50
     obtain ⟨x51, gx51, hM0⟩ := j0 hM0
     refine Tr.mono (Y3 _ [.int .i64 aG, .int .i64 aC, .slice aJ aQ.length aK] (aG, aC, aQ) (z0 aM aH (I0.mono (sx40.trans sx47) aL)) _  gx51) ?_
     rintro v53 k52 ⟨csx51, rfl, rx51, sx51⟩
     obtain ⟨eR, eT, dH, fV, dI, hJ, rfl, rfl, dJ, dK, bZ⟩ := B0 rx51
     obtain ⟨rfl, fW⟩ := Sl.len bZ
     try dsimp only at hM0
     have hE := Option.some.inj hM0; subst hE
     exact ⟨([.int .i64 eR, .int .i64 eT, .slice dH hJ.length dI]), rfl, (z0 dJ dK bZ), ((sx40.trans sx47).trans sx51)⟩
    ·replace hM0 := ifN hM0 hc50
     refine Or.inr (Or.inr (Or.inr (Or.inr (Exists.intro 12 (And.intro (And.intro (by kernel_rfl) (by kernel_rfl)) ?_)))))
     obtain ⟨x54, gx54, hM0⟩ := j0 hM0
     obtain ⟨bx54, csx54, ex54, rx54⟩ := Sl.getI (r := Q0.toRp) (I0.mono sx47 rx40) gx54 (by decide)
     obtain ⟨bI, hU, hY, rfl, rfl, dL, fX, fY⟩ := D1 rx54
     try dsimp only at hM0
     refine Or.inl (Exists.intro (.hel (.slice ax40 x40.length cx40) 0 3 0) (And.intro ?_ ?_))
     ·intro k55 s56
      exact And.intro bx54 (And.intro rfl (And.intro rfl rfl))
     refine Or.inl (Exists.intro (.val (.int .i64 bI)) (And.intro ?_ ?_))
     ·intro k57 s58
      exact Exists.intro _ (And.intro (i7.up s58 ex54) (And.intro rfl (And.intro rfl rfl)))
     obtain ⟨x59, gx59, hM0⟩ := j0 hM0
     obtain ⟨bx59, csx59, ex59, rx59⟩ := Sl.getI (r := Q0.toRp) (I0.mono sx47 rx40) gx59 (by decide)
     obtain ⟨hZ, bJ, iA, rfl, rfl, fZ, dM, gA⟩ := D1 rx59
     try dsimp only at hM0
     refine Or.inl (Exists.intro (.hel (.slice ax40 x40.length cx40) 0 3 0) (And.intro ?_ ?_))
     ·intro k60 s61
      exact And.intro bx59 (And.intro rfl (And.intro rfl rfl))
     refine Or.inl (Exists.intro (.val (.int .i64 bJ)) (And.intro ?_ ?_))
     ·intro k62 s63
      exact Exists.intro _ (And.intro (i7.up s63 ex59) (And.intro rfl (And.intro rfl rfl)))
     refine Or.inl (Exists.intro (.agg [.val (.int .i64 bI), .val (.int .i64 bJ), .val (.int .i64 aC)]) (And.intro ?_ ?_))
     ·intro k64 s65
      exact And.intro rfl (And.intro rfl rfl)
     intro k66 s67
     obtain ⟨x68, gx68, hM0⟩ := j0 hM0
     obtain ⟨bx68, csx68, ex68, rx68⟩ := Sl.getI (r := Q0.toRp) (I0.mono (sx47.trans s67) rx40) gx68 (by decide)
     refine And.intro bx68 ?_
     obtain ⟨iB, iC, iD, rfl, rfl, gB, gC, gD⟩ := D1 rx68
     try dsimp only at hM0
     refine Exists.intro _ (And.intro ex68 ?_)
     refine And.intro (fun hc69 => ?_) (fun hc69 => ?_)
     ·replace hM0 := ifP hM0 hc69
      refine Or.inr (Or.inr (Or.inl (And.intro (And.intro (by kernel_rfl) (by kernel_rfl)) ?_)))
      obtain ⟨x70, gx70, hM0⟩ := j0 hM0
      obtain ⟨bx70, csx70, ex70, rx70⟩ := Sl.getI (r := Q0.toRp) (I0.mono (sx47.trans s67) rx40) gx70 (by decide)
      obtain ⟨iE, bB, iF, rfl, rfl, gE, gF, gG⟩ := D1 rx70
      try dsimp only at hM0
      refine Or.inl (Exists.intro (.hel (.slice ax40 x40.length cx40) 0 3 0) (And.intro ?_ ?_))
      ·intro k71 s72
       exact And.intro bx70 (And.intro rfl (And.intro rfl rfl))
      refine Or.inl (Exists.intro (.hel (.slice ax40 x40.length cx40) 0 3 1) (And.intro ?_ ?_))
      ·intro hh sb
       exact And.intro rfl (And.intro rfl rfl)
      refine Or.inl (Exists.intro (.val (.int .i64 bB)) (And.intro ?_ ?_))
      ·intro k73 s74
       exact Exists.intro _ (And.intro (i7.up s74 ex70) (And.intro rfl (And.intro rfl rfl)))
      refine Or.inl (Exists.intro (.val (.int .i64 (IntKind.i64.wrap (0 - bB)))) (And.intro ?_ ?_))
      ·intro k75 s76
       exact And.intro rfl (And.intro rfl rfl)
      obtain ⟨x77, gx77, hM0⟩ := j0 hM0
      obtain ⟨bx77, csx77, ex77, rx77⟩ := Sl.getI (r := Q0.toRp) (I0.mono (sx47.trans s67) rx40) gx77 (by decide)
      obtain ⟨bK, iG, iH, rfl, rfl, dN, gH, gI⟩ := D1 rx77
      try dsimp only at hM0
      refine Or.inl (Exists.intro (.hel (.slice ax40 x40.length cx40) 0 3 0) (And.intro ?_ ?_))
      ·intro k78 s79
       exact And.intro bx77 (And.intro rfl (And.intro rfl rfl))
      refine Or.inl (Exists.intro (.hel (.slice ax40 x40.length cx40) 0 3 0) (And.intro ?_ ?_))
      ·intro hh sb
       exact And.intro rfl (And.intro rfl rfl)
      refine Or.inl (Exists.intro (.val (.int .i64 bK)) (And.intro ?_ ?_))
      ·intro k80 s81
       exact Exists.intro _ (And.intro (i7.up s81 ex77) (And.intro rfl (And.intro rfl rfl)))
      refine Or.inl (Exists.intro (.agg [.val (.int .i64 aC), .val (.int .i64 (IntKind.i64.wrap (0 - bB))), .val (.int .i64 bK)]) (And.intro ?_ ?_))
      ·intro k82 s83
       exact And.intro rfl (And.intro rfl rfl)
      refine Or.inr ?_
      refine Exists.intro 0 (And.intro (And.intro rfl rfl) ?_)
      refine And.intro trivial (And.intro (by first | exact trivial | exact rfl) ?_)
      obtain ⟨x84, gx84, hM0⟩ := j0 hM0
      refine Tr.mono (A05 _ [.int .i64 aO, .int .i64 aP, .slice aX bH.length aY] (aO, aP, bH) (z0 aZ bA (I0.mono s67 aR)) [.int .i64 aC, .int .i64 (IntKind.i64.wrap (0 - bB)), .int .i64 bK] (aC, (IntKind.i64.wrap (0 - bB)), bK) (V0 aH (K0 _) dN) _  gx84) ?_
      rintro v86 k85 ⟨fH, rfl, cA, sx84⟩
      obtain ⟨iI, iJ⟩ := x84
      dsimp only at hM0 cA
      obtain ⟨cQ, cR, cC, eU, cD, fI, rfl, rfl, cE, cG, bC⟩ := B0 cA
      obtain ⟨rfl, eV⟩ := Sl.len bC
      try dsimp only at hM0
      refine And.intro (fun hc87 => ?_) (fun hc87 => ?_)
      ·replace hM0 := ifP hM0 hc87
       obtain ⟨x88, gx88, hM0⟩ := j0 hM0
       refine Tr.mono (Y3 _ [.int .i64 aG, .int .i64 aC, .slice aJ aQ.length aK] (aG, aC, aQ) (z0 aM aH (I0.mono (((sx40.trans sx47).trans s67).trans sx84) aL)) _  gx88) ?_
       rintro v90 k89 ⟨csx88, rfl, rx88, sx88⟩
       obtain ⟨eW, eX, dO, gJ, dP, iK, rfl, rfl, dQ, dR, cH⟩ := B0 rx88
       obtain ⟨rfl, gK⟩ := Sl.len cH
       try dsimp only at hM0
       have hE := Option.some.inj hM0; subst hE
       exact ⟨([.int .i64 eW, .int .i64 eX, .slice dO iK.length dP]), rfl, (z0 dQ dR cH), ((((sx40.trans sx47).trans s67).trans sx84).trans sx88)⟩
      ·replace hM0 := ifN hM0 hc87
       have hE := Option.some.inj hM0; subst hE
       exact ⟨([.int .i64 cQ, .int .i64 cR, .slice cC fI.length cD]), rfl, (z0 cE cG bC), (((sx40.trans sx47).trans s67).trans sx84)⟩
     ·replace hM0 := ifN hM0 hc69
      obtain ⟨x91, gx91, hM0⟩ := j0 hM0
      refine Tr.mono (A05 _ [.int .i64 aO, .int .i64 aP, .slice aX bH.length aY] (aO, aP, bH) (z0 aZ bA (I0.mono s67 aR)) [.int .i64 bI, .int .i64 bJ, .int .i64 aC] (bI, bJ, aC) (V0 dL dM aH) _  gx91) ?_
      rintro v93 k92 ⟨fJ, rfl, cI, sx91⟩
      obtain ⟨iL, iM⟩ := x91
      dsimp only at hM0 cI
      obtain ⟨cS, cT, cJ, eY, cK, fK, rfl, rfl, cL, cM, bD⟩ := B0 cI
      obtain ⟨rfl, eZ⟩ := Sl.len bD
      try dsimp only at hM0
      refine And.intro (fun hc94 => ?_) (fun hc94 => ?_)
      ·replace hM0 := ifP hM0 hc94
       obtain ⟨x95, gx95, hM0⟩ := j0 hM0
       refine Tr.mono (Y3 _ [.int .i64 aG, .int .i64 aC, .slice aJ aQ.length aK] (aG, aC, aQ) (z0 aM aH (I0.mono (((sx40.trans sx47).trans s67).trans sx91) aL)) _  gx95) ?_
       rintro v97 k96 ⟨csx95, rfl, rx95, sx95⟩
       obtain ⟨fA, fB, dS, gL, dT, iN, rfl, rfl, dU, dV, cN⟩ := B0 rx95
       obtain ⟨rfl, gM⟩ := Sl.len cN
       try dsimp only at hM0
       have hE := Option.some.inj hM0; subst hE
       exact ⟨([.int .i64 fA, .int .i64 fB, .slice dS iN.length dT]), rfl, (z0 dU dV cN), ((((sx40.trans sx47).trans s67).trans sx91).trans sx95)⟩
      ·replace hM0 := ifN hM0 hc94
       have hE := Option.some.inj hM0; subst hE
       exact ⟨([.int .i64 cS, .int .i64 cT, .slice cJ fK.length cK]), rfl, (z0 cL cM bD), (((sx40.trans sx47).trans s67).trans sx91)⟩
end Go.Proofs.YtfdlgbfeceodeaaGreat
namespace Go.Proofs.YtfdlgbfeceodeaaGreat
open Go.H
set_option linter.unusedVariables false
set_option linter.unusedSimpArgs false
set_option maxRecDepth 10000
theorem e09 (h : Hp) (csp0 : List Value) (p0 : l0) (rp0 : Y0.R h csp0 p0) (r : l0 × P0) (hM0 : Z8 p0 = some r) :
  Tr Tryz.prog 188 #[.agg csp0.toArray] h fun v h' => ∃ (cs0 : List Value) (a1 : Option Addr) (n1 c1 : Nat), v = .tuple #[.agg cs0.toArray, .slice a1 n1 c1] ∧ Y0.R h' cs0 r.1 ∧ K1.R h' [.slice a1 n1 c1] r.2 ∧ Sub h h' := by
 obtain ⟨aA, aB, aF, bD, aG, aD, rfl, rfl, aI, aJ, aH⟩ := B0 rp0
 obtain ⟨rfl, bE⟩ := Sl.len aH
 unfold Z8 at hM0
 dsimp only at hM0
 refine T2 (args := [.agg #[.int .i64 aA, .int .i64 aB, .slice aF aD.length aG]]) (fn := Tryz.f188) rfl ?_
 obtain ⟨x1, gx1, hM0⟩ := j0 hM0
 refine Tr.mono (Y3 _ [.int .i64 aA, .int .i64 aB, .slice aF aD.length aG] (aA, aB, aD) (z0 aI aJ aH) _  gx1) ?_
 rintro v3 k2 ⟨csx1, rfl, rx1, sx1⟩
 obtain ⟨bA, bB, aT, bF, aU, bC, rfl, rfl, aV, aW, aS⟩ := B0 rx1
 obtain ⟨rfl, bG⟩ := Sl.len aS
 try dsimp only at hM0
 obtain ⟨X4, hLX4, hM0⟩ := j0 hM0
 refine Exists.intro { vars := [6], boxes := [], owns := [0], fuel := true } (Exists.intro (fun vs os h' => ∃ (u5 : Int) (wu6 : List (List Value)) (u6 : List Int), vs.tail = [.int .i64 u5] ∧ os = [wu6] ∧ Sub k2 h' ∧ H0 u5 ∧ F2 (Wp.int.R h') wu6 u6 ∧ B5 aB aA aD (Q1 vs) u5 u6 = some X4) (Exists.intro (fun _ _ => 0) ?_))
 refine And.intro (Exists.intro T0 ⟨0, [], ([] : P0), rfl, rfl, (Sub.refl _), (c64 (by decide) (by decide)), (show F2 (Wp.int.R k2) ([] : List (List Value)) ([] : P0) from trivial), hLX4⟩) ?_
 rintro v_0 wu6 m8 k7 ⟨u5, zzu6, u6, evX4, eoX4, sX4, iu5, fu6, hM1⟩
 cases evX4
 cases eoX4
 replace hM1 : B5 aB aA aD m8 u5 u6 = some X4 := hM1
 obtain _ | m8 := m8
 ·cases (show (none : Option _) = some X4 from hM1)
 rw [B5.eq_2] at hM1
 obtain ⟨x9, gx9, hM1⟩ := j0 hM1
 refine Exists.intro (.bool x9) (And.intro (fun q => C5 _ [.int .i64 aA, .int .i64 aB, .slice aF aD.length aG] (aA, aB, aD) (z0 aI aJ (I0.mono (sx1.trans sX4) aH)) _  (N2 gx9 q)) ?_)
 refine And.intro (fun hc10 => ?_) (fun hc10 => ?_)
 ·replace hM1 := ifP hM1 hc10
  obtain ⟨q11, gq11, hM1⟩ := j0 hM1
  refine And.intro (M2 gq11 (by first | rw [F2.length fu6, F2.length (show F2 (Wp.int.R k7) ([[.int .i64 u5]] : List (List Value)) [u5] from ⟨⟨rfl, iu5⟩, trivial⟩)] | exact congrArg (· + 1) (F2.length fu6))) ?_
  refine And.intro rfl (And.intro (by repeat (first | exact trivial | refine And.intro rfl ?_)) (And.intro (by repeat (first | exact trivial | refine And.intro rfl ?_)) (Exists.intro m8 (And.intro ⟨(IntKind.i64.wrap (u5 + 1)), (wu6 ++ ([[.int .i64 u5]] : List (List Value))), (u6 ++ [u5]), rfl, rfl, sX4, (K0 _), (F2.append fu6 (show F2 (Wp.int.R k7) ([[.int .i64 u5]] : List (List Value)) [u5] from ⟨⟨rfl, iu5⟩, trivial⟩)), hM1⟩ (Nat.lt_succ_self _)))))
 ·replace hM1 := ifN hM1 hc10
  have hE := Option.some.inj hM1; subst hE
  try dsimp only [U0, Z0] at hM0
  obtain ⟨X16, hLX16, hM0⟩ := j0 hM0
  refine Exists.intro { vars := [5, 7], boxes := [2], owns := [], fuel := true, pubs := [5] } (Exists.intro (fun vs os h' => ∃ (au17 : Option Addr) (nu17 cu17 : Nat) (u17 : P0) (u18 : Int) (u19 : Int) (u20 : Int) (au21 : Option Addr) (nu21 cu21 : Nat) (u21 : J0), vs.tail = [.slice au17 nu17 cu17, .int .i64 u18, .int .i64 u19, .int .i64 u20, .slice au21 nu21 cu21] ∧ os = [] ∧ Sub k7 h' ∧ K1.R h' [.slice au17 nu17 cu17] u17 ∧ H0 u18 ∧ H0 u19 ∧ H0 u20 ∧ I0.R h' [.slice au21 nu21 cu21] u21 ∧ A5 aA aB aD (Q1 vs) u17 u18 u19 u20 u21 = some X16) (Exists.intro (fun _ _ => 0) ?_))
  intro v12 k13 f14
  obtain ⟨az15, cz15, rfl, rz15, sz15, lz15⟩ := E1.out (r := Wp.int.toRp) f14 fu6
  refine And.intro (Exists.intro T0 ⟨az15, u6.length, cz15, u6, 0, bA, bB, aT, bC.length, aU, bC, rfl, rfl, sz15, rz15, (c64 (by decide) (by decide)), aV, aW, (I0.mono (sX4.trans sz15) aS), hLX16⟩) ?_
  rintro v_0 v_1 v_2 v_3 v_4 m23 k22 ⟨au17, nu17, cu17, u17, u18, u19, u20, au21, nu21, cu21, u21, evX16, eoX16, sX16, ru17, iu18, iu19, iu20, ru21, hM1⟩
  cases evX16
  cases eoX16
  replace hM1 : A5 aA aB aD m23 u17 u18 u19 u20 u21 = some X16 := hM1
  obtain _ | m23 := m23
  ·cases (show (none : Option _) = some X16 from hM1)
  rw [A5.eq_2] at hM1
  obtain ⟨rfl, lu17⟩ := Sl.len ru17
  obtain ⟨rfl, lu21⟩ := Sl.len ru21
  obtain ⟨x24, gx24, hM1⟩ := j0 hM1
  refine Exists.intro (.bool x24) (And.intro (fun q => C5 _ [.int .i64 aA, .int .i64 aB, .slice aF aD.length aG] (aA, aB, aD) (z0 aI aJ (I0.mono ((sx1.trans sX4).trans sX16) aH)) _  (N2 gx24 q)) ?_)
  refine And.intro (fun hc25 => ?_) (fun hc25 => ?_)
  ·replace hM1 := ifP hM1 hc25
   obtain ⟨x26, gx26, hM1⟩ := j0 hM1
   refine Tr.val (i0c _ [.int .i64 u19, .int .i64 u20, .slice au21 u21.length cu21] (u19, u20, u21) (z0 iu19 iu20 ru21) _  gx26) ?_
   obtain ⟨q27, gq27, hM1⟩ := j0 hM1
   have ix26 : H0 x26 := U2 gq27
   refine And.intro (fun hc28 => ?_) (fun hc28 => ?_)
   ·replace hM1 := ifP hM1 hc28
    have hE := Option.some.inj hM1; subst hE
    try dsimp only [G3, J3] at hM0
    have hE := Option.some.inj hM0; subst hE
    exact ⟨([.int .i64 u19, .int .i64 u20, .slice au21 u21.length cu21]), au17, u17.length, cu17, rfl, (z0 iu19 iu20 ru21), ru17, ((sx1.trans sX4).trans sX16)⟩
   ·replace hM1 := ifN hM1 hc28
    obtain ⟨X29, hLX29, hM1⟩ := j0 hM1
    refine Exists.intro { vars := [11], boxes := [], owns := [1, 2], fuel := true } (Exists.intro (fun vs os h' => ∃ (u30 : Int) (wu31 : List (List Value)) (u31 : List Int) (wu32 : List (List Value)) (u32 : List Int), vs.tail = [.int .i64 u30] ∧ os = [wu31, wu32] ∧ Sub k22 h' ∧ H0 u30 ∧ F2 (Wp.int.R h') wu31 u31 ∧ F2 (Wp.int.R h') wu32 u32 ∧ V4 u20 x26 u17 (Q1 vs) u30 u31 u32 = some X29) (Exists.intro (fun _ _ => 0) ?_))
    refine And.intro (Exists.intro T0 ⟨0, [], ([] : P0), [], ([] : P0), rfl, rfl, (Sub.refl _), (c64 (by decide) (by decide)), (show F2 (Wp.int.R k22) ([] : List (List Value)) ([] : P0) from trivial), (show F2 (Wp.int.R k22) ([] : List (List Value)) ([] : P0) from trivial), hLX29⟩) ?_
    rintro v_0 wu31 wu32 m34 k33 ⟨u30, zzu31, u31, zzu32, u32, evX29, eoX29, sX29, iu30, fu31, fu32, hM2⟩
    cases evX29
    cases eoX29
    replace hM2 : V4 u20 x26 u17 m34 u30 u31 u32 = some X29 := hM2
    obtain _ | m34 := m34
    ·cases (show (none : Option _) = some X29 from hM2)
    rw [V4.eq_2] at hM2
    refine And.intro (fun hc35 => ?_) (fun hc35 => ?_)
    ·replace hM2 := ifP hM2 hc35
     refine And.intro (fun hc36 => ?_) (fun hc36 => ?_)
     ·replace hM2 := ifP hM2 hc36
      obtain ⟨q37, gq37, hM2⟩ := j0 hM2
      refine And.intro (M2 gq37 (by first | rw [F2.length fu31, F2.length (show F2 (Wp.int.R k33) ([[.int .i64 u30]] : List (List Value)) [u30] from ⟨⟨rfl, iu30⟩, trivial⟩)] | exact congrArg (· + 1) (F2.length fu31))) ?_
      obtain ⟨x38, gx38, hM2⟩ := j0 hM2
      obtain ⟨bx38, csx38, ex38, rx38⟩ := Sl.getI (r := Wp.int.toRp) (K1.mono sX29 ru17) gx38 (by decide)
      refine And.intro bx38 ?_
      obtain ⟨rfl, ix38⟩ := rx38
      refine Exists.intro _ (And.intro ex38 ?_)
      obtain ⟨q39, gq39, hM2⟩ := j0 hM2
      refine And.intro (M2 gq39 (by first | rw [F2.length fu32, F2.length (show F2 (Wp.int.R k33) ([[.int .i64 x38]] : List (List Value)) [x38] from ⟨⟨rfl, ix38⟩, trivial⟩)] | exact congrArg (· + 1) (F2.length fu32))) ?_
      refine And.intro rfl (And.intro (by repeat (first | exact trivial | refine And.intro rfl ?_)) (And.intro (by repeat (first | exact trivial | refine And.intro rfl ?_)) (Exists.intro m34 (And.intro ⟨(IntKind.i64.wrap (u30 + 1)), (wu31 ++ ([[.int .i64 u30]] : List (List Value))), (u31 ++ [u30]), (wu32 ++ ([[.int .i64 x38]] : List (List Value))), (u32 ++ [x38]), rfl, rfl, sX29, (K0 _), (F2.append fu31 (show F2 (Wp.int.R k33) ([[.int .i64 u30]] : List (List Value)) [u30] from ⟨⟨rfl, iu30⟩, trivial⟩)), (F2.append fu32 (show F2 (Wp.int.R k33) ([[.int .i64 x38]] : List (List Value)) [x38] from ⟨⟨rfl, ix38⟩, trivial⟩)), hM2⟩ (Nat.lt_succ_self _)))))
     ·replace hM2 := ifN hM2 hc36
      refine And.intro rfl (And.intro (by repeat (first | exact trivial | refine And.intro rfl ?_)) (And.intro (by repeat (first | exact trivial | refine And.intro rfl ?_)) (Exists.intro m34 (And.intro ⟨(IntKind.i64.wrap (u30 + 1)), wu31, u31, wu32, u32, rfl, rfl, sX29, (K0 _), fu31, fu32, hM2⟩ (Nat.lt_succ_self _)))))
    ·replace hM2 := ifN hM2 hc35
     have hE := Option.some.inj hM2; subst hE
     try dsimp only [U0, Z0] at hM1
     refine Or.inl ?_
     intro v40 k41 f42
     obtain ⟨az43, cz43, rfl, rz43, sz43, lz43⟩ := E1.out (r := Wp.int.toRp) f42 fu31
     obtain ⟨x44, gx44, hM1⟩ := j0 hM1
     refine Tr.mono (Q01 _ [.int .i64 u19, .int .i64 u20, .slice au21 u21.length cu21] (u19, u20, u21) (z0 iu19 iu20 (I0.mono (sX29.trans sz43) ru21)) az43 u31.length cz43 u31 rz43 _  gx44) ?_
     rintro v46 k45 ⟨aZ, rfl, aK, sx44⟩
     obtain ⟨bH, bI⟩ := x44
     dsimp only at hM1 aK
     obtain ⟨aP, aQ, aL, aX, aM, aR, rfl, rfl, aN, aO, aC⟩ := B0 aK
     obtain ⟨rfl, aY⟩ := Sl.len aC
     try dsimp only at hM1
     intro v47 k48 f49
     obtain ⟨az50, cz50, rfl, rz50, sz50, lz50⟩ := E1.out (r := Wp.int.toRp) f49 (F2.up (r := Wp.int.toRp) (sz43.trans sx44) fu32)
     refine And.intro rfl (And.intro (by repeat (first | exact trivial | refine And.intro rfl ?_)) (And.intro (by repeat (first | exact trivial | refine And.intro rfl ?_)) (Exists.intro m23 (And.intro ⟨az50, u32.length, cz50, u32, (IntKind.i64.wrap (u18 + 1)), aP, aQ, aL, aR.length, aM, aR, rfl, rfl, ((((sX16.trans sX29).trans sz43).trans sx44).trans sz50), rz50, (K0 _), aN, aO, (I0.mono sz50 aC), hM1⟩ (Nat.lt_succ_self _)))))
  ·replace hM1 := ifN hM1 hc25
   have hE := Option.some.inj hM1; subst hE
   try dsimp only [U0, Z0] at hM0
   have hE := Option.some.inj hM0; subst hE
   exact ⟨([.int .i64 u19, .int .i64 u20, .slice au21 u21.length cu21]), au17, u17.length, cu17, rfl, (z0 iu19 iu20 ru21), ru17, ((sx1.trans sX4).trans sX16)⟩
theorem f09 (h : Hp) (csp0 : List Value) (p0 : l0) (rp0 : Y0.R h csp0 p0) (r : l0) (hM0 : g8 p0 = some r) :
  Tr Tryz.prog 129 #[.agg csp0.toArray] h fun v h' => ∃ (cs0 : List Value), v = .agg cs0.toArray ∧ Y0.R h' cs0 r ∧ Sub h h' := by
 obtain ⟨aX, aY, aP, bQ, aQ, bL, rfl, rfl, bB, bC, aR⟩ := B0 rp0
 obtain ⟨rfl, bR⟩ := Sl.len aR
 unfold g8 at hM0
 dsimp only at hM0
 refine T2 (args := [.agg #[.int .i64 aX, .int .i64 aY, .slice aP bL.length aQ]]) (fn := Tryz.f129) rfl ?_
 obtain ⟨x1, gx1, hM0⟩ := j0 hM0
 refine Tr.mono (D02 _ [.int .i64 aX, .int .i64 aY, .slice aP bL.length aQ] (aX, aY, bL) (z0 bB bC aR) _  gx1) ?_
 rintro v3 k2 ⟨bM, bS, bT, bU, rfl, aS, aT, sx1⟩
 obtain ⟨cD, cE⟩ := x1
 dsimp only at hM0 aS aT
 obtain ⟨aC, aD, aH, bH, aI, aZ, rfl, rfl, aJ, aK, aA⟩ := B0 aS
 obtain ⟨rfl, bI⟩ := Sl.len aA
 try dsimp only at hM0
 obtain ⟨rfl, bV⟩ := Sl.len aT
 obtain ⟨x4, gx4, hM0⟩ := j0 hM0
 refine Tr.mono (e09 _ [.int .i64 aC, .int .i64 aD, .slice aH aZ.length aI] (aC, aD, aZ) (z0 aJ aK aA) _  gx4) ?_
 rintro v6 k5 ⟨bN, bW, bX, bY, rfl, aU, aV, sx4⟩
 obtain ⟨cG, cH⟩ := x4
 dsimp only at hM0 aU aV
 obtain ⟨aF, aG, aL, bJ, aM, bA, rfl, rfl, aN, aO, aB⟩ := B0 aU
 obtain ⟨rfl, bK⟩ := Sl.len aB
 try dsimp only at hM0
 obtain ⟨rfl, bZ⟩ := Sl.len aV
 obtain ⟨x7, gx7, hM0⟩ := j0 hM0
 refine Tr.mono (H04 _ [.int .i64 aF, .int .i64 aG, .slice aL bA.length aM] (aF, aG, bA) (z0 aN aO aB) _  gx7) ?_
 rintro v9 k8 ⟨csx7, rfl, rx7, sx7⟩
 obtain ⟨bO, bP, bD, cA, bE, cI, rfl, rfl, bF, bG, aW⟩ := B0 rx7
 obtain ⟨rfl, cC⟩ := Sl.len aW
 try dsimp only at hM0
 have hE := Option.some.inj hM0; subst hE
 exact ⟨([.int .i64 bO, .int .i64 bP, .slice bD cI.length bE]), rfl, (z0 bF bG aW), ((sx1.trans sx4).trans sx7)⟩
end Go.Proofs.YtfdlgbfeceodeaaGreat
namespace Go.Proofs.YtfdlgbfeceodeaaGreat
open Go.H
set_option linter.unusedVariables false
set_option linter.unusedSimpArgs false
set_option maxRecDepth 10000
theorem w04 (h : Hp) (csp0 : List Value) (p0 : D0) (rp0 : j1.R h csp0 p0) (ap1 : Option Addr) (np1 cp1 : Nat) (p1 : V2) (rp1 : D3.R h [.slice ap1 np1 cp1] p1) (r : l0 × Bool) (hM0 : T7 p0 p1 = some r) :
  Tr Tryz.prog 65 #[.agg csp0.toArray, .slice ap1 np1 cp1] h fun v h' => ∃ (cs0 : List Value), v = .tuple #[.agg cs0.toArray, .bool r.2] ∧ Y0.R h' cs0 r.1 ∧ Sub h h' := by
 obtain ⟨aD, aM, cC, aN, aU, rfl, rfl, aO, aP⟩ := A2 rp0
 obtain ⟨rfl, cD⟩ := Sl.len aP
 obtain ⟨rfl, lp1⟩ := Sl.len rp1
 unfold T7 at hM0
 dsimp only at hM0
 refine T2 (args := [.agg #[.int .i64 aD, .slice aM aU.length aN], .slice ap1 p1.length cp1]) (fn := Tryz.f65) rfl ?_
 obtain ⟨x1, gx1, hM0⟩ := j0 hM0
 refine Tr.mono (U09 _ aD aO ap1 p1.length cp1 p1 rp1 _  gx1) ?_
 rintro v3 k2 ⟨bX, rfl, bD, sx1⟩
 obtain ⟨cN, cO⟩ := x1
 dsimp only at hM0 bD
 obtain ⟨aQ, aR, aV, bS, aW, bG, rfl, rfl, aX, aY, aJ⟩ := B0 bD
 obtain ⟨rfl, bT⟩ := Sl.len aJ
 try dsimp only at hM0
 obtain ⟨x4, gx4, hM0⟩ := j0 hM0
 refine Exists.intro (.bool x4) (And.intro (fun q => R9 _ [.int .i64 aD, .slice aM aU.length aN] (aD, aU) (J2 aO (D3.mono sx1 aP)) _  (N2 gx4 q)) ?_)
 refine And.intro (fun hc5 => ?_) (fun hc5 => ?_)
 ·replace hM0 := ifP hM0 hc5
  have hE := Option.some.inj hM0; subst hE
  exact ⟨([.int .i64 0, .int .i64 0, .slice none 0 0]), rfl, (z0 (c64 (by decide) (by decide)) (c64 (by decide) (by decide)) (T0e Q0 k2)), sx1⟩
 ·replace hM0 := ifN hM0 hc5
  obtain ⟨x6, gx6, hM0⟩ := j0 hM0
  refine Tr.mono (D02 _ [.int .i64 aQ, .int .i64 aR, .slice aV bG.length aW] (aQ, aR, bG) (z0 aX aY aJ) _  gx6) ?_
  rintro v8 k7 ⟨bY, cE, cG, cH, rfl, bE, bF, sx6⟩
  obtain ⟨cP, cQ⟩ := x6
  dsimp only at hM0 bE bF
  obtain ⟨bH, bI, aZ, bU, bA, bJ, rfl, rfl, bB, bC, aK⟩ := B0 bE
  obtain ⟨rfl, bV⟩ := Sl.len aK
  try dsimp only at hM0
  obtain ⟨rfl, cI⟩ := Sl.len bF
  obtain ⟨X9, hLX9, hM0⟩ := j0 hM0
  refine Exists.intro { vars := [10], boxes := [3], owns := [], fuel := true } (Exists.intro (fun vs os h' => ∃ (u10 : Int) (u11 : Int) (u12 : Int) (au13 : Option Addr) (nu13 cu13 : Nat) (u13 : J0), vs.tail = [.int .i64 u10, .int .i64 u11, .int .i64 u12, .slice au13 nu13 cu13] ∧ os = [] ∧ Sub k7 h' ∧ H0 u10 ∧ H0 u11 ∧ H0 u12 ∧ I0.R h' [.slice au13 nu13 cu13] u13 ∧ X2 aD aU (Q1 vs) u10 u11 u12 u13 = some X9) (Exists.intro (fun _ _ => 0) ?_))
  refine And.intro (Exists.intro T0 ⟨0, bH, bI, aZ, bJ.length, bA, bJ, rfl, rfl, (Sub.refl _), (c64 (by decide) (by decide)), bB, bC, aK, hLX9⟩) ?_
  rintro v_0 v_1 v_2 v_3 m15 k14 ⟨u10, u11, u12, au13, nu13, cu13, u13, evX9, eoX9, sX9, iu10, iu11, iu12, ru13, hM1⟩
  cases evX9
  cases eoX9
  replace hM1 : X2 aD aU m15 u10 u11 u12 u13 = some X9 := hM1
  obtain _ | m15 := m15
  ·cases (show (none : Option _) = some X9 from hM1)
  rw [X2.eq_2] at hM1
  obtain ⟨rfl, lu13⟩ := Sl.len ru13
  refine And.intro (fun hc16 => ?_) (fun hc16 => ?_)
  ·replace hM1 := ifP hM1 hc16
   obtain ⟨x17, gx17, hM1⟩ := j0 hM1
   refine Tr.mono (U06 _ [.int .i64 aD, .slice aM aU.length aN] (aD, aU) (J2 aO (D3.mono ((sx1.trans sx6).trans sX9) aP)) [.int .i64 u11, .int .i64 u12, .slice au13 u13.length cu13] (u11, u12, u13) (z0 iu11 iu12 ru13) _  gx17) ?_
   rintro v19 k18 ⟨bW, rfl, aS, sx17⟩
   obtain ⟨cJ, cK, cL⟩ := x17
   dsimp only at hM1 aS
   obtain ⟨aB, aC, aF, bO, aG, aL, rfl, rfl, aH, aI, aA⟩ := B0 aS
   obtain ⟨rfl, bP⟩ := Sl.len aA
   try dsimp only at hM1
   refine And.intro (fun hc20 => ?_) (fun hc20 => ?_)
   ·replace hM1 := ifP hM1 hc20
    have hE := Option.some.inj hM1; subst hE
    try dsimp only [G3, J3] at hM0
    have hE := Option.some.inj hM0; subst hE
    exact ⟨([.int .i64 0, .int .i64 0, .slice none 0 0]), rfl, (z0 (c64 (by decide) (by decide)) (c64 (by decide) (by decide)) (T0e Q0 k18)), (((sx1.trans sx6).trans sX9).trans sx17)⟩
   ·replace hM1 := ifN hM1 hc20
    refine And.intro (fun hc21 => ?_) (fun hc21 => ?_)
    ·replace hM1 := ifP hM1 hc21
     obtain ⟨x22, gx22, hM1⟩ := j0 hM1
     refine Tr.mono (f09 _ [.int .i64 aB, .int .i64 aC, .slice aF aL.length aG] (aB, aC, aL) (z0 aH aI aA) _  gx22) ?_
     rintro v24 k23 ⟨csx22, rfl, rx22, sx22⟩
     obtain ⟨bQ, bR, bK, bZ, bL, cM, rfl, rfl, bM, bN, aT⟩ := B0 rx22
     obtain ⟨rfl, cA⟩ := Sl.len aT
     try dsimp only at hM1
     have hE := Option.some.inj hM1; subst hE
     try dsimp only [G3, J3] at hM0
     have hE := Option.some.inj hM0; subst hE
     exact ⟨([.int .i64 bQ, .int .i64 bR, .slice bK cM.length bL]), rfl, (z0 bM bN aT), ((((sx1.trans sx6).trans sX9).trans sx17).trans sx22)⟩
    ·replace hM1 := ifN hM1 hc21
     refine And.intro rfl (And.intro (by repeat (first | exact trivial | refine And.intro rfl ?_)) (And.intro (by repeat (first | exact trivial | refine And.intro rfl ?_)) (Exists.intro m15 (And.intro ⟨(IntKind.i64.wrap (u10 + 1)), aB, aC, aF, aL.length, aG, aL, rfl, rfl, (sX9.trans sx17), (K0 _), aH, aI, aA, hM1⟩ (Nat.lt_succ_self _)))))
  ·replace hM1 := ifN hM1 hc16
   have hE := Option.some.inj hM1; subst hE
   try dsimp only [U0, Z0] at hM0
   have hE := Option.some.inj hM0; subst hE
   exact ⟨([.int .i64 0, .int .i64 0, .slice none 0 0]), rfl, (z0 (c64 (by decide) (by decide)) (c64 (by decide) (by decide)) (T0e Q0 k14)), ((sx1.trans sx6).trans sX9)⟩
end Go.Proofs.YtfdlgbfeceodeaaGreat
namespace Go.Proofs.YtfdlgbfeceodeaaGreat
open Go.H
set_option linter.unusedVariables false
set_option linter.unusedSimpArgs false
set_option maxRecDepth 10000
theorem M3 (h : Hp) (csp0 : List Value) (p0 : l0) (rp0 : Y0.R h csp0 p0) (r : l0) (hM0 : C2 p0 = some r) :
  Tr Tryz.prog 84 #[.agg csp0.toArray] h fun v h' => ∃ (g0 : Nat) (n0 c0 : Nat), v = .agg ([.int .i64 r.1, .int .i64 r.2.1, .slice (some ⟨g0, 0, none⟩) n0 c0] : List Value).toArray ∧ New Y0 h h' [.int .i64 r.1, .int .i64 r.2.1, .slice (some ⟨g0, 0, none⟩) n0 c0] r := by
 obtain ⟨aG, aH, aB, aJ, aC, aI, rfl, rfl, aD, aF, aA⟩ := B0 rp0
 obtain ⟨rfl, aK⟩ := Sl.len aA
 unfold C2 at hM0
 dsimp only at hM0
 refine T2 (args := [.agg #[.int .i64 aG, .int .i64 aH, .slice aB aI.length aC]]) (fn := Tryz.f84) rfl ?_
 refine Or.inr (Or.inr (Or.inl (And.intro (And.intro (by kernel_rfl) (by kernel_rfl)) ?_)))
 refine Or.inr ?_
 refine Or.inr ?_
 refine Or.inr ?_
 refine Or.inr ?_
 refine Exists.intro 0 (And.intro (And.intro rfl rfl) ?_)
 refine And.intro trivial (And.intro (by first | exact trivial | exact rfl) ?_)
 obtain ⟨vsy1, ey1, fy1⟩ := Sl.rows (r := Q0.toRp) aA
 refine Exists.intro vsy1 (And.intro ey1 ?_)
 obtain ⟨q2, gq2, hM0⟩ := j0 hM0
 refine And.intro (M2 gq2 (by first | rw [F2.length (show F2 (Q0.R h) ([] : List (List Value)) ([] : J0) from trivial), F2.length fy1] | exact congrArg (· + 1) (F2.length (show F2 (Q0.R h) ([] : List (List Value)) ([] : J0) from trivial)))) ?_
 refine And.intro trivial (And.intro (by first | exact trivial | exact rfl) ?_)
 refine And.intro trivial (And.intro (by first | exact trivial | exact rfl) ?_)
 refine And.intro trivial (And.intro (by first | exact trivial | exact rfl) ?_)
 intro v3 k4 f5
 obtain ⟨gz6, cz6, rfl, rz6, sz6, lz6⟩ := E1.outS (r := Q0.toRp) f5 (F2.append (show F2 (Q0.R h) ([] : List (List Value)) ([] : J0) from trivial) fy1)
 have hE := Option.some.inj hM0; subst hE
 exact ⟨gz6, ((([] : J0) ++ aI)).length, cz6, rfl, (New.pair (New.int aD) (New.pair (New.int aF) (E1.newPlain (r := Q0) f5 (F2.append (show F2 (Q0.R h) ([] : List (List Value)) ([] : J0) from trivial) fy1) (b09 _))))⟩
theorem W09 (h : Hp) (csp0 : List Value) (p0 : l0) (rp0 : Y0.R h csp0 p0) (p1 : Int) (ip1 : H0 p1) (r : Int) (hM0 : s9 p0 p1 = some r) :
  Tr Tryz.prog 194 #[.agg csp0.toArray, .int .i64 p1] h fun v h' => v = .int .i64 r ∧ h' = h := by
 obtain ⟨aF, aG, aB, aH, aC, aD, rfl, rfl, aI, aJ, aA⟩ := B0 rp0
 obtain ⟨rfl, aK⟩ := Sl.len aA
 unfold s9 at hM0
 dsimp only at hM0
 refine Tr.forget (T2 (args := [.agg #[.int .i64 aF, .int .i64 aG, .slice aB aD.length aC], .int .i64 p1]) (fn := Tryz.f194) rfl ?_)
 obtain ⟨X1, hLX1, hM0⟩ := j0 hM0
 refine Exists.intro { vars := [5, 11], boxes := [], owns := [], fuel := true } (Exists.intro (fun vs os h' => ∃ (u2 : Int) (u3 : Int), vs.tail = [.int .i64 u2, .int .i64 u3] ∧ os = [] ∧ Sub h h' ∧ H0 u2 ∧ H0 u3 ∧ P4 aD p1 (Q1 vs) u2 u3 = some X1) (Exists.intro (fun _ _ => 0) ?_))
 refine And.intro (Exists.intro T0 ⟨0, 0, rfl, rfl, (Sub.refl _), (c64 (by decide) (by decide)), (c64 (by decide) (by decide)), hLX1⟩) ?_
 rintro v_0 v_1 m5 k4 ⟨u2, u3, evX1, eoX1, sX1, iu2, iu3, hM1⟩
 cases evX1
 cases eoX1
 replace hM1 : P4 aD p1 m5 u2 u3 = some X1 := hM1
 obtain _ | m5 := m5
 ·cases (show (none : Option _) = some X1 from hM1)
 rw [P4.eq_2] at hM1
 refine And.intro (fun hc6 => ?_) (fun hc6 => ?_)
 ·replace hM1 := ifP hM1 hc6
  obtain ⟨x7, gx7, hM1⟩ := j0 hM1
  obtain ⟨bx7, csx7, ex7, rx7⟩ := Sl.getI (r := Q0.toRp) (I0.mono sX1 aA) gx7 (by decide)
  refine And.intro bx7 ?_
  obtain ⟨aO, aP, aQ, rfl, rfl, aL, aM, aN⟩ := D1 rx7
  try dsimp only at hM1
  refine Exists.intro _ (And.intro ex7 ?_)
  refine And.intro (fun hc8 => ?_) (fun hc8 => ?_)
  ·replace hM1 := ifP hM1 hc8
   refine And.intro (fun hc9 => ?_) (fun hc9 => ?_)
   ·replace hM1 := ifP hM1 hc9
    refine And.intro rfl (And.intro (by repeat (first | exact trivial | refine And.intro rfl ?_)) (And.intro (by repeat (first | exact trivial | refine And.intro rfl ?_)) (Exists.intro m5 (And.intro ⟨(IntKind.i64.wrap ((IntKind.i64.wrap (u2 + 1)) + 1)), (IntKind.i64.wrap (u3 + 1)), rfl, rfl, sX1, (K0 _), (K0 _), hM1⟩ (Nat.lt_succ_self _)))))
   ·replace hM1 := ifN hM1 hc9
    refine And.intro rfl (And.intro (by repeat (first | exact trivial | refine And.intro rfl ?_)) (And.intro (by repeat (first | exact trivial | refine And.intro rfl ?_)) (Exists.intro m5 (And.intro ⟨(IntKind.i64.wrap (u2 + 1)), (IntKind.i64.wrap (u3 + 1)), rfl, rfl, sX1, (K0 _), (K0 _), hM1⟩ (Nat.lt_succ_self _)))))
  ·replace hM1 := ifN hM1 hc8
   refine And.intro (fun hc10 => ?_) (fun hc10 => ?_)
   ·replace hM1 := ifP hM1 hc10
    refine And.intro rfl (And.intro (by repeat (first | exact trivial | refine And.intro rfl ?_)) (And.intro (by repeat (first | exact trivial | refine And.intro rfl ?_)) (Exists.intro m5 (And.intro ⟨(IntKind.i64.wrap (u2 + 1)), (IntKind.i64.wrap (u3 + 1)), rfl, rfl, sX1, (K0 _), (K0 _), hM1⟩ (Nat.lt_succ_self _)))))
   ·replace hM1 := ifN hM1 hc10
    refine And.intro rfl (And.intro (by repeat (first | exact trivial | refine And.intro rfl ?_)) (And.intro (by repeat (first | exact trivial | refine And.intro rfl ?_)) (Exists.intro m5 (And.intro ⟨u2, (IntKind.i64.wrap (u3 + 1)), rfl, rfl, sX1, iu2, (K0 _), hM1⟩ (Nat.lt_succ_self _)))))
 ·replace hM1 := ifN hM1 hc6
  have hE := Option.some.inj hM1; subst hE
  try dsimp only [U0, Z0] at hM0
  have hE := Option.some.inj hM0; subst hE
  exact And.intro rfl sX1
theorem a06 (h : Hp) (csp0 : List Value) (p0 : l0) (rp0 : Y0.R h csp0 p0) (p1 : Int) (ip1 : H0 p1) (r : (List Bool)) (hM0 : R7 p0 p1 = some r) :
  Tr Tryz.prog 193 #[.agg csp0.toArray, .int .i64 p1] h fun v h' => ∃ (a0 : Option Addr) (n0 c0 : Nat), v = .slice a0 n0 c0 ∧ (Wp.slice Wp.bool).R h' [.slice a0 n0 c0] r ∧ Sub h h' := by
 obtain ⟨aF, aG, aC, aK, aD, aA, rfl, rfl, aL, aM, aB⟩ := B0 rp0
 obtain ⟨rfl, aN⟩ := Sl.len aB
 unfold R7 at hM0
 dsimp only at hM0
 refine T2 (args := [.agg #[.int .i64 aF, .int .i64 aG, .slice aC aA.length aD], .int .i64 p1]) (fn := Tryz.f193) rfl ?_
 obtain ⟨q1, gq1, hM0⟩ := j0 hM0
 refine And.intro (U2 gq1) ?_
 obtain ⟨x2, gx2, hM0⟩ := j0 hM0
 obtain ⟨bx2, csx2, ex2, rx2⟩ := H6 (F2.rep (p := Wp.bool.R h) (a := [.bool false]) (b := false) rfl (aG.toNat)) gx2
 refine And.intro bx2 ?_
 obtain rfl := rx2
 refine Exists.intro _ (And.intro ex2 ?_)
 obtain ⟨X3, hLX3, hM0⟩ := j0 hM0
 refine Exists.intro { vars := [6], boxes := [], owns := [0], fuel := true, kept := [0] } (Exists.intro (fun vs os h' => ∃ (u4 : Bool) (wu5 : List (List Value)) (u5 : List Bool), vs.tail = [.bool u4] ∧ os = [wu5] ∧ Sub h h' ∧ F2 (Wp.bool.R h') wu5 u5 ∧ G4 aA (Q1 vs) u4 u5 = some X3) (Exists.intro (fun _ _ => 0) ?_))
 refine And.intro (Exists.intro T0 ⟨true, ((List.replicate aG.toNat ([.bool false] : List Value)).set p1.toNat [.bool true]), ((List.replicate aG.toNat (false : Bool)).set p1.toNat true), rfl, rfl, (Sub.refl _), (F2.set (p := Wp.bool.R h) (a := [.bool true]) (b := true) rfl p1.toNat (F2.rep (p := Wp.bool.R h) (a := [.bool false]) (b := false) rfl (aG.toNat))), hLX3⟩) ?_
 rintro v_0 wu5 m7 k6 ⟨u4, zzu5, u5, evX3, eoX3, sX3, fu5, hM1⟩
 cases evX3
 cases eoX3
 replace hM1 : G4 aA m7 u4 u5 = some X3 := hM1
 obtain _ | m7 := m7
 ·cases (show (none : Option _) = some X3 from hM1)
 rw [G4.eq_2] at hM1
 refine And.intro (fun hc8 => ?_) (fun hc8 => ?_)
 ·replace hM1 := ifP hM1 hc8
  obtain ⟨X9, hLX9, hM1⟩ := j0 hM1
  refine Exists.intro { vars := [6, 19], boxes := [], owns := [0], fuel := true, kept := [0] } (Exists.intro (fun vs os h' => ∃ (u10 : Bool) (u11 : Int) (wu12 : List (List Value)) (u12 : List Bool), vs.tail = [.bool u10, .int .i64 u11] ∧ os = [wu12] ∧ Sub k6 h' ∧ H0 u11 ∧ F2 (Wp.bool.R h') wu12 u12 ∧ S3 aA (Q1 vs) u10 u11 u12 = some X9) (Exists.intro (fun _ _ => 0) ?_))
  refine And.intro (Exists.intro T0 ⟨false, 0, wu5, u5, rfl, rfl, (Sub.refl _), (c64 (by decide) (by decide)), fu5, hLX9⟩) ?_
  rintro v_0 v_1 wu12 m14 k13 ⟨u10, u11, zzu12, u12, evX9, eoX9, sX9, iu11, fu12, hM2⟩
  cases evX9
  cases eoX9
  replace hM2 : S3 aA m14 u10 u11 u12 = some X9 := hM2
  obtain _ | m14 := m14
  ·cases (show (none : Option _) = some X9 from hM2)
  rw [S3.eq_2] at hM2
  refine And.intro (fun hc15 => ?_) (fun hc15 => ?_)
  ·replace hM2 := ifP hM2 hc15
   obtain ⟨x16, gx16, hM2⟩ := j0 hM2
   obtain ⟨bx16, csx16, ex16, rx16⟩ := Sl.getI (r := Q0.toRp) (I0.mono (sX3.trans sX9) aB) gx16 (by decide)
   refine And.intro bx16 ?_
   obtain ⟨aO, aP, aQ, rfl, rfl, aH, aI, aJ⟩ := D1 rx16
   try dsimp only at hM2
   refine Exists.intro _ (And.intro ex16 ?_)
   refine Or.inl (And.intro (And.intro (by kernel_rfl) (by kernel_rfl)) ?_)
   obtain ⟨x17, gx17, hM2⟩ := j0 hM2
   obtain ⟨bx17, csx17, ex17, rx17⟩ := H6 fu12 gx17
   refine And.intro bx17 ?_
   obtain rfl := rx17
   refine Exists.intro _ (And.intro ex17 ?_)
   obtain ⟨x18, gx18, hM2⟩ := j0 hM2
   obtain ⟨bx18, csx18, ex18, rx18⟩ := H6 fu12 gx18
   refine And.intro bx18 ?_
   obtain rfl := rx18
   refine Exists.intro _ (And.intro ex18 ?_)
   refine And.intro (fun hc19 => ?_) (fun hc19 => ?_)
   ·replace hM2 := ifP hM2 hc19
    obtain ⟨x20, gx20, hM2⟩ := j0 hM2
    obtain ⟨bx20, csx20, ex20, rx20⟩ := H6 fu12 gx20
    refine And.intro bx20 ?_
    obtain rfl := rx20
    refine Exists.intro _ (And.intro ex20 ?_)
    obtain ⟨x21, gx21, hM2⟩ := j0 hM2
    obtain ⟨bx21, csx21, ex21, rx21⟩ := H6 (F2.set (p := Wp.bool.R k13) (a := [.bool true]) (b := true) rfl aO.toNat fu12) gx21
    refine And.intro bx21 ?_
    obtain rfl := rx21
    refine Exists.intro _ (And.intro ex21 ?_)
    refine And.intro rfl (And.intro (by repeat (first | exact trivial | refine And.intro rfl ?_)) (And.intro (by repeat (first | exact trivial | refine And.intro rfl ?_)) (Exists.intro m14 (And.intro ⟨true, (IntKind.i64.wrap (u11 + 1)), ((wu12.set aO.toNat [.bool true]).set aQ.toNat [.bool true]), ((u12.set aO.toNat true).set aQ.toNat true), rfl, rfl, sX9, (K0 _), (F2.set (p := Wp.bool.R k13) (a := [.bool true]) (b := true) rfl aQ.toNat (F2.set (p := Wp.bool.R k13) (a := [.bool true]) (b := true) rfl aO.toNat fu12)), hM2⟩ (Nat.lt_succ_self _)))))
   ·replace hM2 := ifN hM2 hc19
    refine And.intro rfl (And.intro (by repeat (first | exact trivial | refine And.intro rfl ?_)) (And.intro (by repeat (first | exact trivial | refine And.intro rfl ?_)) (Exists.intro m14 (And.intro ⟨u10, (IntKind.i64.wrap (u11 + 1)), wu12, u12, rfl, rfl, sX9, (K0 _), fu12, hM2⟩ (Nat.lt_succ_self _)))))
  ·replace hM2 := ifN hM2 hc15
   have hE := Option.some.inj hM2; subst hE
   try dsimp only [U0, Z0] at hM1
   refine And.intro rfl (And.intro (by repeat (first | exact trivial | refine And.intro rfl ?_)) (And.intro (by repeat (first | exact trivial | refine And.intro rfl ?_)) (Exists.intro m7 (And.intro ⟨u10, wu12, u12, rfl, rfl, (sX3.trans sX9), fu12, hM1⟩ (Nat.lt_succ_self _)))))
 ·replace hM1 := ifN hM1 hc8
  have hE := Option.some.inj hM1; subst hE
  try dsimp only [U0, Z0] at hM0
  intro v27 k28 f29
  obtain ⟨az30, cz30, rfl, rz30, sz30, lz30⟩ := E1.out (r := Wp.bool.toRp) f29 fu5
  have hE := Option.some.inj hM0; subst hE
  exact ⟨az30, u5.length, cz30, rfl, rz30, (sX3.trans sz30)⟩
theorem B05 (h : Hp) (p0 : Int) (ip0 : H0 p0) (r : P0) (hM0 : r8 p0 = some r) :
  Tr Tryz.prog 156 #[.int .i64 p0] h fun v h' => ∃ (a0 : Option Addr) (n0 c0 : Nat), v = .slice a0 n0 c0 ∧ K1.R h' [.slice a0 n0 c0] r ∧ Sub h h' := by
 unfold r8 at hM0
 refine T2 (args := [.int .i64 p0]) (fn := Tryz.f156) rfl ?_
 obtain ⟨X1, hLX1, hM0⟩ := j0 hM0
 refine Exists.intro { vars := [4], boxes := [], owns := [0], fuel := true } (Exists.intro (fun vs os h' => ∃ (u2 : Int) (wu3 : List (List Value)) (u3 : List Int), vs.tail = [.int .i64 u2] ∧ os = [wu3] ∧ Sub h h' ∧ H0 u2 ∧ F2 (Wp.int.R h') wu3 u3 ∧ B6 p0 (Q1 vs) u2 u3 = some X1) (Exists.intro (fun _ _ => 0) ?_))
 refine And.intro (Exists.intro T0 ⟨1, [], ([] : P0), rfl, rfl, (Sub.refl _), (c64 (by decide) (by decide)), (show F2 (Wp.int.R h) ([] : List (List Value)) ([] : P0) from trivial), hLX1⟩) ?_
 rintro v_0 wu3 m5 k4 ⟨u2, zzu3, u3, evX1, eoX1, sX1, iu2, fu3, hM1⟩
 cases evX1
 cases eoX1
 replace hM1 : B6 p0 m5 u2 u3 = some X1 := hM1
 obtain _ | m5 := m5
 ·cases (show (none : Option _) = some X1 from hM1)
 rw [B6.eq_2] at hM1
 refine And.intro (fun hc6 => ?_) (fun hc6 => ?_)
 ·replace hM1 := ifP hM1 hc6
  obtain ⟨q7, gq7, hM1⟩ := j0 hM1
  refine And.intro (M2 gq7 (by first | rw [F2.length fu3, F2.length (show F2 (Wp.int.R k4) ([[.int .i64 u2], [.int .i64 (IntKind.i64.wrap (0 - u2))]] : List (List Value)) [u2, (IntKind.i64.wrap (0 - u2))] from ⟨⟨rfl, iu2⟩, ⟨⟨rfl, (K0 _)⟩, trivial⟩⟩)] | exact congrArg (· + 2) (F2.length fu3))) ?_
  refine And.intro rfl (And.intro (by repeat (first | exact trivial | refine And.intro rfl ?_)) (And.intro (by repeat (first | exact trivial | refine And.intro rfl ?_)) (Exists.intro m5 (And.intro ⟨(IntKind.i64.wrap (u2 + 1)), (wu3 ++ ([[.int .i64 u2], [.int .i64 (IntKind.i64.wrap (0 - u2))]] : List (List Value))), (u3 ++ [u2, (IntKind.i64.wrap (0 - u2))]), rfl, rfl, sX1, (K0 _), (F2.append fu3 (show F2 (Wp.int.R k4) ([[.int .i64 u2], [.int .i64 (IntKind.i64.wrap (0 - u2))]] : List (List Value)) [u2, (IntKind.i64.wrap (0 - u2))] from ⟨⟨rfl, iu2⟩, ⟨⟨rfl, (K0 _)⟩, trivial⟩⟩)), hM1⟩ (Nat.lt_succ_self _)))))
 ·replace hM1 := ifN hM1 hc6
  have hE := Option.some.inj hM1; subst hE
  try dsimp only [U0, Z0] at hM0
  intro v8 k9 f10
  obtain ⟨az11, cz11, rfl, rz11, sz11, lz11⟩ := E1.out (r := Wp.int.toRp) f10 fu3
  have hE := Option.some.inj hM0; subst hE
  exact ⟨az11, u3.length, cz11, rfl, rz11, (sX1.trans sz11)⟩
theorem F01 (h : Hp) (ap0 : Option Addr) (np0 cp0 : Nat) (p0 : J0) (rp0 : I0.R h [.slice ap0 np0 cp0] p0) (r : J0) (hM0 : V7 p0 = some r) :
  Tr Tryz.prog 154 #[.slice ap0 np0 cp0] h fun v h' => ∃ (a0 : Option Addr) (n0 c0 : Nat), v = .slice a0 n0 c0 ∧ New I0 h h' [.slice a0 n0 c0] r := by
 obtain ⟨rfl, lp0⟩ := Sl.len rp0
 unfold V7 at hM0
 refine T2 (args := [.slice ap0 p0.length cp0]) (fn := Tryz.f154) rfl ?_
 obtain ⟨vsy1, ey1, fy1⟩ := Sl.rows (r := Q0.toRp) rp0
 refine Exists.intro vsy1 (And.intro ey1 ?_)
 obtain ⟨q2, gq2, hM0⟩ := j0 hM0
 refine And.intro (M2 gq2 (by first | rw [F2.length (show F2 (Q0.R h) ([] : List (List Value)) ([] : J0) from trivial), F2.length fy1] | exact congrArg (· + 1) (F2.length (show F2 (Q0.R h) ([] : List (List Value)) ([] : J0) from trivial)))) ?_
 refine Or.inl ?_
 intro v3 k4 f5
 obtain ⟨q6, gq6, hM0⟩ := j0 hM0
 refine Tr.mono (O0f _ f5 (F2.append (show F2 (Q0.R h) ([] : List (List Value)) ([] : J0) from trivial) fy1) (U2 gq6)) ?_
 rintro _ kz7 ⟨rfl, vsz7, fz7, qz7⟩
 obtain ⟨az7, cz7, rfl, rz7, sz7, lz7⟩ := E1.out (r := Q0.toRp) fz7 qz7
 refine Tr.mono (P0f _ fz7 qz7) ?_
 rintro _ kz8 ⟨vsz8, fz8, qz8⟩
 obtain ⟨az8, cz8, rfl, rz8, sz8, lz8⟩ := E1.out (r := Q0.toRp) fz8 qz8
 have hE := Option.some.inj hM0; subst hE
 exact ⟨az8, ((n01 eqE (G03 M0 (([] : J0) ++ p0)))).length, cz8, rfl, (E1.newPlain (r := Q0) fz8 qz8 (b09 _))⟩
theorem H09 (h : Hp) (csp0 : List Value) (p0 : l0) (rp0 : Y0.R h csp0 p0) (ap1 : Option Addr) (np1 cp1 : Nat) (p1 : P0) (rp1 : K1.R h [.slice ap1 np1 cp1] p1) (r : l0) (hM0 : T00 p0 p1 = some r) :
  Tr Tryz.prog 195 #[.agg csp0.toArray, .slice ap1 np1 cp1] h fun v h' => ∃ (cs0 : List Value), v = .agg cs0.toArray ∧ New Y0 h h' cs0 r := by
 obtain ⟨aD, aJ, aF, aM, aG, aH, rfl, rfl, aI, aN, aC⟩ := B0 rp0
 obtain ⟨rfl, aO⟩ := Sl.len aC
 obtain ⟨rfl, lp1⟩ := Sl.len rp1
 unfold T00 at hM0
 dsimp only at hM0
 refine T2 (args := [.agg #[.int .i64 aD, .int .i64 aJ, .slice aF aH.length aG], .slice ap1 p1.length cp1]) (fn := Tryz.f195) rfl ?_
 obtain ⟨q1, gq1, hM0⟩ := j0 hM0
 refine And.intro (U2 gq1) ?_
 obtain ⟨m2, gm2, hM0⟩ := j0 hM0
 obtain rfl : (List.replicate aJ.toNat ([.int .i64 0] : List Value)).length = m2 := (F2.length (F2.rep (p := Wp.int.R h) (a := [.int .i64 0]) (b := 0) ⟨rfl, (c64 (by decide) (by decide))⟩ (aJ.toNat))).trans (Option.some.inj gm2)
 obtain ⟨q3, gq3, hM0⟩ := j0 hM0
 obtain ⟨X4, hLX4, hM0⟩ := j0 hM0
 refine Exists.intro { vars := [17], boxes := [], owns := [0], fuel := true, kept := [0] } (Exists.intro (fun vs os h' => ∃ (u5 : Int) (wu6 : List (List Value)) (u6 : List Int), vs.tail = [.int .i64 u5] ∧ os = [wu6] ∧ Sub h h' ∧ H0 u5 ∧ F2 (Wp.int.R h') wu6 u6 ∧ Y7 ((List.replicate aJ.toNat ([.int .i64 0] : List Value))).length (Q1 vs) u5 u6 = some X4) (Exists.intro (fun _ _ => 0) ?_))
 refine And.intro (Exists.intro T0 ⟨0, (List.replicate aJ.toNat ([.int .i64 0] : List Value)), (List.replicate aJ.toNat (0 : Int)), rfl, rfl, (Sub.refl _), (c64 (by decide) (by decide)), (F2.rep (p := Wp.int.R h) (a := [.int .i64 0]) (b := 0) ⟨rfl, (c64 (by decide) (by decide))⟩ (aJ.toNat)), hLX4⟩) ?_
 rintro v_0 wu6 m8 k7 ⟨u5, zzu6, u6, evX4, eoX4, sX4, iu5, fu6, hM1⟩
 cases evX4
 cases eoX4
 replace hM1 : Y7 ((List.replicate aJ.toNat ([.int .i64 0] : List Value))).length m8 u5 u6 = some X4 := hM1
 obtain _ | m8 := m8
 ·cases (show (none : Option _) = some X4 from hM1)
 rw [Y7.eq_2] at hM1
 refine And.intro (fun hc9 => ?_) (fun hc9 => ?_)
 ·replace hM1 := ifP hM1 hc9
  obtain ⟨x10, gx10, hM1⟩ := j0 hM1
  obtain ⟨bx10, csx10, ex10, rx10⟩ := H6 fu6 gx10
  refine And.intro bx10 ?_
  obtain ⟨rfl, ix10⟩ := rx10
  refine Exists.intro _ (And.intro ex10 ?_)
  refine And.intro rfl (And.intro (by repeat (first | exact trivial | refine And.intro rfl ?_)) (And.intro (by repeat (first | exact trivial | refine And.intro rfl ?_)) (Exists.intro m8 (And.intro ⟨(IntKind.i64.wrap (u5 + 1)), (wu6.set u5.toNat [.int .i64 (-1)]), (u6.set u5.toNat (-1)), rfl, rfl, sX4, (K0 _), (F2.set (p := Wp.int.R k7) (a := [.int .i64 (-1)]) (b := (-1)) ⟨rfl, (c64 (by decide) (by decide))⟩ u5.toNat fu6), hM1⟩ (Nat.lt_succ_self _)))))
 ·replace hM1 := ifN hM1 hc9
  have hE := Option.some.inj hM1; subst hE
  try dsimp only [U0, Z0] at hM0
  obtain ⟨X11, hLX11, hM0⟩ := j0 hM0
  refine Exists.intro { vars := [26], boxes := [], owns := [0], fuel := true, kept := [0] } (Exists.intro (fun vs os h' => ∃ (u12 : Int) (wu13 : List (List Value)) (u13 : List Int), vs.tail = [.int .i64 u12] ∧ os = [wu13] ∧ Sub k7 h' ∧ H0 u12 ∧ F2 (Wp.int.R h') wu13 u13 ∧ W7 p1 (Q1 vs) u12 u13 = some X11) (Exists.intro (fun _ _ => 0) ?_))
  refine And.intro (Exists.intro T0 ⟨0, wu6, u6, rfl, rfl, (Sub.refl _), (c64 (by decide) (by decide)), fu6, hLX11⟩) ?_
  rintro v_0 wu13 m15 k14 ⟨u12, zzu13, u13, evX11, eoX11, sX11, iu12, fu13, hM1⟩
  cases evX11
  cases eoX11
  replace hM1 : W7 p1 m15 u12 u13 = some X11 := hM1
  obtain _ | m15 := m15
  ·cases (show (none : Option _) = some X11 from hM1)
  rw [W7.eq_2] at hM1
  refine And.intro (fun hc16 => ?_) (fun hc16 => ?_)
  ·replace hM1 := ifP hM1 hc16
   obtain ⟨x17, gx17, hM1⟩ := j0 hM1
   obtain ⟨bx17, csx17, ex17, rx17⟩ := Sl.getI (r := Wp.int.toRp) (K1.mono (sX4.trans sX11) rp1) gx17 (by decide)
   refine And.intro bx17 ?_
   obtain ⟨rfl, ix17⟩ := rx17
   refine Exists.intro _ (And.intro ex17 ?_)
   obtain ⟨x18, gx18, hM1⟩ := j0 hM1
   obtain ⟨bx18, csx18, ex18, rx18⟩ := H6 fu13 gx18
   refine And.intro bx18 ?_
   obtain ⟨rfl, ix18⟩ := rx18
   refine Exists.intro _ (And.intro ex18 ?_)
   refine And.intro rfl (And.intro (by repeat (first | exact trivial | refine And.intro rfl ?_)) (And.intro (by repeat (first | exact trivial | refine And.intro rfl ?_)) (Exists.intro m15 (And.intro ⟨(IntKind.i64.wrap (u12 + 1)), (wu13.set x17.toNat [.int .i64 u12]), (u13.set x17.toNat u12), rfl, rfl, sX11, (K0 _), (F2.set (p := Wp.int.R k14) (a := [.int .i64 u12]) (b := u12) ⟨rfl, iu12⟩ x17.toNat fu13), hM1⟩ (Nat.lt_succ_self _)))))
  ·replace hM1 := ifN hM1 hc16
   have hE := Option.some.inj hM1; subst hE
   try dsimp only [U0, Z0] at hM0
   obtain ⟨X19, hLX19, hM0⟩ := j0 hM0
   refine Exists.intro { vars := [44], boxes := [2], owns := [1], fuel := true, nilsB := [(2, 2, 116, 3, 24)] } (Exists.intro (fun vs os h' => ∃ (u20 : Int) (u21 : Int) (u22 : Int) (wu23 : List (List Value)) (u23 : List C0), vs.tail = [.int .i64 u20, .int .i64 u21, .int .i64 u22] ∧ os = [wu23] ∧ Sub k14 h' ∧ H0 u20 ∧ H0 u21 ∧ H0 u22 ∧ F2 (Q0.R h') wu23 u23 ∧ z7 aH u13 (Q1 vs) u20 u21 u22 u23 = some X19) (Exists.intro (fun _ _ => 0) ?_))
   refine And.intro (Exists.intro T0 ⟨0, aD, ((p1.length : Nat) : Int), [], ([] : J0), rfl, rfl, (Sub.refl _), (c64 (by decide) (by decide)), aI, (a0l lp1), (show F2 (Q0.R k14) [] [] from trivial), hLX19⟩) ?_
   rintro v_0 v_1 v_2 wu23 m25 k24 ⟨u20, u21, u22, zzu23, u23, evX19, eoX19, sX19, iu20, iu21, iu22, fu23, hM1⟩
   cases evX19
   cases eoX19
   replace hM1 : z7 aH u13 m25 u20 u21 u22 u23 = some X19 := hM1
   obtain _ | m25 := m25
   ·cases (show (none : Option _) = some X19 from hM1)
   rw [z7.eq_2] at hM1
   refine And.intro (fun hc26 => ?_) (fun hc26 => ?_)
   ·replace hM1 := ifP hM1 hc26
    obtain ⟨x27, gx27, hM1⟩ := j0 hM1
    obtain ⟨bx27, csx27, ex27, rx27⟩ := Sl.getI (r := Q0.toRp) (I0.mono ((sX4.trans sX11).trans sX19) aC) gx27 (by decide)
    refine And.intro bx27 ?_
    obtain ⟨aP, aA, aQ, rfl, rfl, aK, aB, aL⟩ := D1 rx27
    try dsimp only at hM1
    refine Exists.intro _ (And.intro ex27 ?_)
    obtain ⟨x28, gx28, hM1⟩ := j0 hM1
    obtain ⟨bx28, csx28, ex28, rx28⟩ := H6 (F2.up (r := Wp.int.toRp) sX19 fu13) gx28
    refine And.intro bx28 ?_
    obtain ⟨rfl, ix28⟩ := rx28
    refine Exists.intro _ (And.intro ex28 ?_)
    obtain ⟨x29, gx29, hM1⟩ := j0 hM1
    obtain ⟨csx29, ex29, rx29⟩ := C07 (F2.up (r := Wp.int.toRp) sX19 fu13) gx29 (A04 k24)
    refine And.intro (fun q => (ex29 q).1) ?_
    obtain ⟨rfl, ix29⟩ := rx29
    refine Exists.intro _ (And.intro (fun q => (ex29 q).2) ?_)
    refine And.intro (fun hc30 => ?_) (fun hc30 => ?_)
    ·replace hM1 := ifP hM1 hc30
     refine Or.inr (Or.inr (Or.inl (And.intro (And.intro (by kernel_rfl) (by kernel_rfl)) ?_)))
     obtain ⟨x31, gx31, hM1⟩ := j0 hM1
     obtain ⟨bx31, csx31, ex31, rx31⟩ := H6 (F2.up (r := Wp.int.toRp) sX19 fu13) gx31
     obtain ⟨rfl, ix31⟩ := rx31
     refine Or.inl ?_
     apply Exists.intro
     refine And.intro ?_ ?_
     ·intro k32 s33
      exact And.intro bx31 (And.intro rfl (And.intro rfl rfl))
     refine Or.inl (Exists.intro (.val (.int .i64 x31)) (And.intro ?_ ?_))
     ·intro k34 s35
      exact Exists.intro _ (And.intro ex31 (And.intro rfl (And.intro rfl rfl)))
     obtain ⟨x36, gx36, hM1⟩ := j0 hM1
     obtain ⟨bx36, csx36, ex36, rx36⟩ := H6 (F2.up (r := Wp.int.toRp) sX19 fu13) gx36
     obtain ⟨rfl, ix36⟩ := rx36
     refine Or.inl ?_
     apply Exists.intro
     refine And.intro ?_ ?_
     ·intro k37 s38
      exact And.intro bx36 (And.intro rfl (And.intro rfl rfl))
     refine Or.inl (Exists.intro (.val (.int .i64 x36)) (And.intro ?_ ?_))
     ·intro k39 s40
      exact Exists.intro _ (And.intro ex36 (And.intro rfl (And.intro rfl rfl)))
     refine Or.inl (Exists.intro (.agg [.val (.int .i64 x31), .val (.int .i64 aA), .val (.int .i64 x36)]) (And.intro ?_ ?_))
     ·intro k41 s42
      exact And.intro rfl (And.intro rfl rfl)
     refine Or.inr ?_
     refine Or.inr ?_
     refine Or.inr ?_
     refine Exists.intro 0 (And.intro (And.intro rfl rfl) ?_)
     refine And.intro trivial (And.intro (by first | exact trivial | exact rfl) ?_)
     obtain ⟨q43, gq43, hM1⟩ := j0 hM1
     refine And.intro (M2 gq43 (by first | rw [F2.length fu23, F2.length (show F2 (Q0.R k24) ([[.int .i64 x31, .int .i64 aA, .int .i64 x36]] : List (List Value)) [(x31, aA, x36)] from ⟨(V0 ix31 aB ix36), trivial⟩)] | exact congrArg (· + 1) (F2.length fu23))) ?_
     refine And.intro trivial (And.intro (by first | exact trivial | exact rfl) ?_)
     refine And.intro trivial (And.intro (by first | exact trivial | exact rfl) ?_)
     refine And.intro rfl (And.intro (by repeat (first | exact trivial | refine And.intro rfl ?_)) (And.intro (by repeat (first | exact trivial | refine And.intro rfl ?_)) (Exists.intro m25 (And.intro ⟨(IntKind.i64.wrap (u20 + 1)), u21, u22, (wu23 ++ ([[.int .i64 x31, .int .i64 aA, .int .i64 x36]] : List (List Value))), (u23 ++ [(x31, aA, x36)]), rfl, rfl, sX19, (K0 _), iu21, iu22, (F2.append fu23 (show F2 (Q0.R k24) ([[.int .i64 x31, .int .i64 aA, .int .i64 x36]] : List (List Value)) [(x31, aA, x36)] from ⟨(V0 ix31 aB ix36), trivial⟩)), hM1⟩ (Nat.lt_succ_self _)))))
    ·replace hM1 := ifN hM1 hc30
     refine And.intro rfl (And.intro (by repeat (first | exact trivial | refine And.intro rfl ?_)) (And.intro (by repeat (first | exact trivial | refine And.intro rfl ?_)) (Exists.intro m25 (And.intro ⟨(IntKind.i64.wrap (u20 + 1)), u21, u22, wu23, u23, rfl, rfl, sX19, (K0 _), iu21, iu22, fu23, hM1⟩ (Nat.lt_succ_self _)))))
   ·replace hM1 := ifN hM1 hc26
    have hE := Option.some.inj hM1; subst hE
    try dsimp only [U0, Z0] at hM0
    refine Or.inl ?_
    intro v44 k45 f46
    obtain ⟨az47, cz47, rfl, rz47, sz47, lz47⟩ := E1.out (r := Q0.toRp) f46 fu23
    obtain ⟨x48, gx48, hM0⟩ := j0 hM0
    refine Tr.mono (F01 _ az47 u23.length cz47 u23 rz47 _  gx48) ?_
    rintro v50 k49 ⟨ax48, nx48, cx48, rfl, wx48⟩
    have sx48 : Sub k45 k49 := wx48.sub
    have rx48 := wx48.r
    obtain ⟨rfl, lx48⟩ := Sl.len rx48
    have hE := Option.some.inj hM0; subst hE
    exact ⟨([.int .i64 u21, .int .i64 u22, .slice ax48 x48.length cx48]), rfl, (New.pair (New.int iu21) (New.pair (New.int iu22) (New.from wx48 (((sX4.trans sX11).trans sX19).trans sz47))))⟩
end Go.Proofs.YtfdlgbfeceodeaaGreat
namespace Go.Proofs.YtfdlgbfeceodeaaGreat
open Go.H
set_option linter.unusedVariables false
set_option linter.unusedSimpArgs false
set_option maxRecDepth 10000
theorem X09 (h : Hp) (ap0 : Option Addr) (np0 cp0 : Nat) (p0 : P0) (rp0 : K1.R h [.slice ap0 np0 cp0] p0) (r : P0) (hM0 : t9 p0 = some r) :
  Tr Tryz.prog 164 #[.slice ap0 np0 cp0] h fun v h' => ∃ (g0 : Nat) (n0 c0 : Nat), v = .slice (some ⟨g0, 0, none⟩) n0 c0 ∧ New K1 h h' [.slice (some ⟨g0, 0, none⟩) n0 c0] r := by
 obtain ⟨rfl, lp0⟩ := Sl.len rp0
 unfold t9 at hM0
 refine T2 (args := [.slice ap0 p0.length cp0]) (fn := Tryz.f164) rfl ?_
 obtain ⟨vsy1, ey1, fy1⟩ := Sl.rows (r := Wp.int.toRp) rp0
 refine Exists.intro vsy1 (And.intro ey1 ?_)
 obtain ⟨q2, gq2, hM0⟩ := j0 hM0
 refine And.intro (M2 gq2 (by first | rw [F2.length (show F2 (Wp.int.R h) ([] : List (List Value)) ([] : P0) from trivial), F2.length fy1] | exact congrArg (· + 1) (F2.length (show F2 (Wp.int.R h) ([] : List (List Value)) ([] : P0) from trivial)))) ?_
 intro v3 k4 f5
 obtain ⟨gz6, cz6, rfl, rz6, sz6, lz6⟩ := E1.outS (r := Wp.int.toRp) f5 (F2.append (show F2 (Wp.int.R h) ([] : List (List Value)) ([] : P0) from trivial) fy1)
 have hE := Option.some.inj hM0; subst hE
 exact ⟨gz6, ((([] : P0) ++ p0)).length, cz6, rfl, (E1.newPlain (r := Wp.int) f5 (F2.append (show F2 (Wp.int.R h) ([] : List (List Value)) ([] : P0) from trivial) fy1) (t0h _))⟩
theorem i08 (h : Hp) (csp0 : List Value) (p0 : l0) (rp0 : Y0.R h csp0 p0) (p1 : Int) (ip1 : H0 p1) (r : P0 × V2) (hM0 : W9 p0 p1 = some r) :
  Tr Tryz.prog 212 #[.agg csp0.toArray, .int .i64 p1] h fun v h' => ∃ (a0 : Option Addr) (n0 c0 : Nat) (a1 : Option Addr) (n1 c1 : Nat), v = .tuple #[.slice a0 n0 c0, .slice a1 n1 c1] ∧ K1.R h' [.slice a0 n0 c0] r.1 ∧ D3.R h' [.slice a1 n1 c1] r.2 ∧ Sub h h' := by
 obtain ⟨aA, aB, aD, aJ, aF, aC, rfl, rfl, aG, aI, aH⟩ := B0 rp0
 obtain ⟨rfl, aK⟩ := Sl.len aH
 unfold W9 at hM0
 dsimp only at hM0
 refine T2 (args := [.agg #[.int .i64 aA, .int .i64 aB, .slice aD aC.length aF], .int .i64 p1]) (fn := Tryz.f212) rfl ?_
 obtain ⟨q1, gq1, hM0⟩ := j0 hM0
 refine And.intro (U2 gq1) ?_
 obtain ⟨x2, gx2, hM0⟩ := j0 hM0
 obtain ⟨bx2, csx2, ex2, rx2⟩ := H6 (F2.rep (p := Wp.opt.R h) (a := [.slice none 0 0]) (b := none) (j0l h) (aB.toNat)) gx2
 refine And.intro bx2 ?_
 obtain ⟨ax2, nx2, cx2, rfl, ox2, qx2⟩ := rx2
 obtain ⟨rfl, lx2⟩ := Sl.len qx2
 intro v3 k4 f5
 obtain ⟨gz6, cz6, rfl, rz6, sz6, lz6⟩ := E1.outS (r := Wp.int.toRp) f5 (show F2 (Wp.int.R h) ([] : List (List Value)) ([] : P0) from trivial)
 refine Exists.intro _ (And.intro ex2 ?_)
 obtain ⟨X7, hLX7, hM0⟩ := j0 hM0
 refine Exists.intro { vars := [8], boxes := [], owns := [0, 2], fuel := true, kept := [0] } (Exists.intro (fun vs os h' => ∃ (u8 : Int) (wu9 : List (List Value)) (u9 : List (Option P0)) (wu10 : List (List Value)) (u10 : List Int), vs.tail = [.int .i64 u8] ∧ os = [wu9, wu10] ∧ Sub k4 h' ∧ H0 u8 ∧ F2 (Wp.opt.R h') wu9 u9 ∧ F2 (Wp.int.R h') wu10 u10 ∧ L5 aA aB aC (Q1 vs) u8 u9 u10 = some X7) (Exists.intro (fun _ _ => 0) ?_))
 refine And.intro (Exists.intro T0 ⟨0, ((List.replicate aB.toNat ([.slice none 0 0] : List Value)).set p1.toNat [.slice (some ⟨gz6, 0, none⟩) (([] : P0)).length cz6]), ((List.replicate aB.toNat (none : Option P0)).set p1.toNat (some ([] : P0))), ([[.int .i64 p1]] : List (List Value)), [p1], rfl, rfl, (Sub.refl _), (c64 (by decide) (by decide)), (F2.set (p := Wp.opt.R k4) (a := [.slice (some ⟨gz6, 0, none⟩) (([] : P0)).length cz6]) (b := some ([] : P0)) (k0l rz6) p1.toNat (F2.up (r := Wp.opt.toRp) sz6 (F2.rep (p := Wp.opt.R h) (a := [.slice none 0 0]) (b := none) (j0l h) (aB.toNat)))), (show F2 (Wp.int.R k4) ([[.int .i64 p1]] : List (List Value)) [p1] from ⟨⟨rfl, ip1⟩, trivial⟩), hLX7⟩) ?_
 rintro v_0 wu9 wu10 m12 k11 ⟨u8, zzu9, u9, zzu10, u10, evX7, eoX7, sX7, iu8, fu9, fu10, hM1⟩
 cases evX7
 cases eoX7
 replace hM1 : L5 aA aB aC m12 u8 u9 u10 = some X7 := hM1
 obtain _ | m12 := m12
 ·cases (show (none : Option _) = some X7 from hM1)
 rw [L5.eq_2] at hM1
 obtain ⟨m13, gm13, hM1⟩ := j0 hM1
 obtain rfl : wu10.length = m13 := (F2.length fu10).trans (Option.some.inj gm13)
 obtain ⟨q14, gq14, hM1⟩ := j0 hM1
 refine And.intro (fun hc15 => ?_) (fun hc15 => ?_)
 ·replace hM1 := ifP hM1 hc15
  obtain ⟨x16, gx16, hM1⟩ := j0 hM1
  obtain ⟨bx16, csx16, ex16, rx16⟩ := H6 fu10 gx16
  refine And.intro bx16 ?_
  obtain ⟨rfl, ix16⟩ := rx16
  refine Exists.intro _ (And.intro ex16 ?_)
  obtain ⟨x17, gx17, hM1⟩ := j0 hM1
  refine Tr.mono (B05 _ aA aG _  gx17) ?_
  rintro v19 k18 ⟨ax17, nx17, cx17, rfl, rx17, sx17⟩
  obtain ⟨rfl, lx17⟩ := Sl.len rx17
  obtain ⟨X20, hLX20, hM1⟩ := j0 hM1
  refine Exists.intro { vars := [36], boxes := [], owns := [0, 2], fuel := true, kept := [0] } (Exists.intro (fun vs os h' => ∃ (u21 : Int) (wu22 : List (List Value)) (u22 : List (Option P0)) (wu23 : List (List Value)) (u23 : List Int), vs.tail = [.int .i64 u21] ∧ os = [wu22, wu23] ∧ Sub k18 h' ∧ H0 u21 ∧ F2 (Wp.opt.R h') wu22 u22 ∧ F2 (Wp.int.R h') wu23 u23 ∧ J4 x17 aA aB aC x16 (Q1 vs) u21 u22 u23 = some X20) (Exists.intro (fun _ _ => 0) ?_))
  refine And.intro (Exists.intro T0 ⟨0, wu9, u9, wu10, u10, rfl, rfl, (Sub.refl _), (c64 (by decide) (by decide)), (F2.up (r := Wp.opt.toRp) sx17 fu9), (F2.up (r := Wp.int.toRp) sx17 fu10), hLX20⟩) ?_
  rintro v_0 wu22 wu23 m25 k24 ⟨u21, zzu22, u22, zzu23, u23, evX20, eoX20, sX20, iu21, fu22, fu23, hM2⟩
  cases evX20
  cases eoX20
  replace hM2 : J4 x17 aA aB aC x16 m25 u21 u22 u23 = some X20 := hM2
  obtain _ | m25 := m25
  ·cases (show (none : Option _) = some X20 from hM2)
  rw [J4.eq_2] at hM2
  refine And.intro (fun hc26 => ?_) (fun hc26 => ?_)
  ·replace hM2 := ifP hM2 hc26
   obtain ⟨x27, gx27, hM2⟩ := j0 hM2
   obtain ⟨bx27, csx27, ex27, rx27⟩ := Sl.getI (r := Wp.int.toRp) (K1.mono sX20 rx17) gx27 (by decide)
   refine And.intro bx27 ?_
   obtain ⟨rfl, ix27⟩ := rx27
   refine Exists.intro _ (And.intro ex27 ?_)
   obtain ⟨x28, gx28, hM2⟩ := j0 hM2
   refine Tr.val (k01 _ [.int .i64 aA, .int .i64 aB, .slice aD aC.length aF] (aA, aB, aC) (z0 aG aI (I0.mono (((sz6.trans sX7).trans sx17).trans sX20) aH)) x16 ix16 x27 ix27 _  gx28) ?_
   obtain ⟨q29, gq29, hM2⟩ := j0 hM2
   have ix28 : H0 x28 := U2 gq29
   obtain ⟨x30, gx30, hM2⟩ := j0 hM2
   obtain ⟨csx30, ex30, rx30⟩ := C07 fu22 gx30 (f0m k24)
   refine And.intro (fun q => (ex30 q).1) ?_
   obtain ⟨ax30, nx30, cx30, rfl, ox30, qx30⟩ := rx30
   obtain ⟨rfl, lx30⟩ := Sl.len qx30
   refine Exists.intro _ (And.intro (fun q => (ex30 q).2) ?_)
   refine Exists.intro (x30.isNone) (And.intro (fun _ => by rw [← ox30]; exact e0m _ _ _ rfl _ _ _) ?_)
   refine And.intro (fun hc31 => ?_) (fun hc31 => ?_)
   ·replace hM2 := ifP hM2 hc31
    obtain ⟨x32, gx32, hM2⟩ := j0 hM2
    obtain ⟨bx32, csx32, ex32, rx32⟩ := H6 fu22 gx32
    refine And.intro bx32 ?_
    obtain ⟨ax32, nx32, cx32, rfl, ox32, qx32⟩ := rx32
    obtain ⟨rfl, lx32⟩ := Sl.len qx32
    refine Exists.intro _ (And.intro ex32 ?_)
    obtain ⟨x33, gx33, hM2⟩ := j0 hM2
    refine Tr.mono (X09 _ ax32 (x32.getD []).length cx32 (x32.getD []) qx32 _  gx33) ?_
    rintro v35 k34 ⟨gx33, nx33, cx33, rfl, wx33⟩
    have sx33 : Sub k24 k34 := wx33.sub
    have rx33 := wx33.r
    obtain ⟨rfl, lx33⟩ := Sl.len rx33
    obtain ⟨q36, gq36, hM2⟩ := j0 hM2
    obtain ⟨vsz37, rxz37, lnz37, apz37⟩ := New.app wx33 (Sub.refl _)
    refine Exists.intro vsz37 (And.intro rxz37 (And.intro (M2 gq36 (by first | rw [lnz37, F2.length (show F2 (Wp.int.R k34) ([[.int .i64 x27]] : List (List Value)) [x27] from ⟨⟨rfl, ix27⟩, trivial⟩)] | (rw [lnz37]; rfl))) ?_))
    intro vz37 kz37 happz37
    obtain ⟨wz37, gz37, oz37, nz37, cz37, rfl⟩ := apz37 _ _ _ _ _ (F3.ofPlain (t0h _) (show F2 (Wp.int.R k34) ([[.int .i64 x27]] : List (List Value)) [x27] from ⟨⟨rfl, ix27⟩, trivial⟩)) r7.ofPlain happz37
    have rz37 := wz37.r
    obtain ⟨ez37, lz37⟩ := Sl.len rz37
    subst ez37
    obtain ⟨x38, gx38, hM2⟩ := j0 hM2
    obtain ⟨bx38, csx38, ex38, rx38⟩ := H6 (F2.up (r := Wp.opt.toRp) wz37.sub fu22) gx38
    refine And.intro bx38 ?_
    obtain ⟨ax38, nx38, cx38, rfl, ox38, qx38⟩ := rx38
    obtain ⟨rfl, lx38⟩ := Sl.len qx38
    refine Exists.intro _ (And.intro ex38 ?_)
    obtain ⟨q39, gq39, hM2⟩ := j0 hM2
    refine And.intro (M2 gq39 (by first | rw [F2.length (F2.up (r := Wp.int.toRp) wz37.sub fu23), F2.length (show F2 (Wp.int.R kz37) ([[.int .i64 x28]] : List (List Value)) [x28] from ⟨⟨rfl, ix28⟩, trivial⟩)] | exact congrArg (· + 1) (F2.length (F2.up (r := Wp.int.toRp) wz37.sub fu23)))) ?_
    refine And.intro rfl (And.intro (by repeat (first | exact trivial | refine And.intro rfl ?_)) (And.intro (by repeat (first | exact trivial | refine And.intro rfl ?_)) (Exists.intro m25 (And.intro ⟨(IntKind.i64.wrap (u21 + 1)), (wu22.set x28.toNat [.slice (some ⟨gz37, oz37, none⟩) (x33 ++ [x27]).length cz37]), (u22.set x28.toNat (some (x33 ++ [x27]))), (wu23 ++ ([[.int .i64 x28]] : List (List Value))), (u23 ++ [x28]), rfl, rfl, (sX20.trans wz37.sub), (K0 _), (F2.set (p := Wp.opt.R kz37) (a := [.slice (some ⟨gz37, oz37, none⟩) (x33 ++ [x27]).length cz37]) (b := some (x33 ++ [x27])) (k0l rz37) x28.toNat (F2.up (r := Wp.opt.toRp) wz37.sub fu22)), (F2.append (F2.up (r := Wp.int.toRp) wz37.sub fu23) (show F2 (Wp.int.R kz37) ([[.int .i64 x28]] : List (List Value)) [x28] from ⟨⟨rfl, ix28⟩, trivial⟩)), hM2⟩ (Nat.lt_succ_self _)))))
   ·replace hM2 := ifN hM2 hc31
    refine And.intro rfl (And.intro (by repeat (first | exact trivial | refine And.intro rfl ?_)) (And.intro (by repeat (first | exact trivial | refine And.intro rfl ?_)) (Exists.intro m25 (And.intro ⟨(IntKind.i64.wrap (u21 + 1)), wu22, u22, wu23, u23, rfl, rfl, sX20, (K0 _), fu22, fu23, hM2⟩ (Nat.lt_succ_self _)))))
  ·replace hM2 := ifN hM2 hc26
   have hE := Option.some.inj hM2; subst hE
   try dsimp only [U0, Z0] at hM1
   refine And.intro rfl (And.intro (by repeat (first | exact trivial | refine And.intro rfl ?_)) (And.intro (by repeat (first | exact trivial | refine And.intro rfl ?_)) (Exists.intro m12 (And.intro ⟨(IntKind.i64.wrap (u8 + 1)), wu22, u22, wu23, u23, rfl, rfl, ((sX7.trans sx17).trans sX20), (K0 _), fu22, fu23, hM1⟩ (Nat.lt_succ_self _)))))
 ·replace hM1 := ifN hM1 hc15
  have hE := Option.some.inj hM1; subst hE
  try dsimp only [U0, Z0] at hM0
  intro v45 k46 f47
  obtain ⟨az48, cz48, rfl, rz48, sz48, lz48⟩ := E1.out (r := Wp.int.toRp) f47 fu10
  intro v49 k50 f51
  obtain ⟨az52, cz52, rfl, rz52, sz52, lz52⟩ := E1.out (r := K1.toRp) f51 (F2.ofOpt (F2.up (r := Wp.opt.toRp) sz48 fu9))
  have hE := Option.some.inj hM0; subst hE
  exact ⟨az48, u10.length, cz48, az52, (List.map (fun o : Option P0 => o.getD ([] : P0)) u9).length, cz52, rfl, (K1.mono sz52 rz48), rz52, (((sz6.trans sX7).trans sz48).trans sz52)⟩
theorem I04 (h : Hp) (csp0 : List Value) (p0 : l0) (rp0 : Y0.R h csp0 p0) (r : P0) (hM0 : d7 p0 = some r) :
  Tr Tryz.prog 197 #[.agg csp0.toArray] h fun v h' => ∃ (a0 : Option Addr) (n0 c0 : Nat), v = .slice a0 n0 c0 ∧ K1.R h' [.slice a0 n0 c0] r ∧ Sub h h' := by
 obtain ⟨aA, aB, aC, aN, aD, aK, rfl, rfl, aH, aI, aF⟩ := B0 rp0
 obtain ⟨rfl, aO⟩ := Sl.len aF
 unfold d7 at hM0
 dsimp only at hM0
 refine T2 (args := [.agg #[.int .i64 aA, .int .i64 aB, .slice aC aK.length aD]]) (fn := Tryz.f197) rfl ?_
 obtain ⟨x1, gx1, hM0⟩ := j0 hM0
 refine Tr.val (H9 _ [.int .i64 aA, .int .i64 aB, .slice aC aK.length aD] (aA, aB, aK) (z0 aH aI aF) _  gx1) ?_
 refine And.intro (fun hc2 => ?_) (fun hc2 => ?_)
 ·replace hM0 := ifP hM0 hc2
  intro v3 k4 f5
  obtain ⟨az6, cz6, rfl, rz6, sz6, lz6⟩ := E1.out (r := Wp.int.toRp) f5 (show F2 (Wp.int.R h) ([] : List (List Value)) ([] : P0) from trivial)
  have hE := Option.some.inj hM0; subst hE
  exact ⟨az6, (([] : P0)).length, cz6, rfl, rz6, sz6⟩
 ·replace hM0 := ifN hM0 hc2
  obtain ⟨x7, gx7, hM0⟩ := j0 hM0
  refine Tr.mono (i08 _ [.int .i64 aA, .int .i64 aB, .slice aC aK.length aD] (aA, aB, aK) (z0 aH aI aF) 0 (c64 (by decide) (by decide)) _  gx7) ?_
  rintro v9 k8 ⟨aL, aP, aM, aQ, aR, aS, rfl, aG, aJ, sx7⟩
  obtain ⟨aV, aW⟩ := x7
  dsimp only at hM0 aG aJ
  obtain ⟨rfl, aT⟩ := Sl.len aG
  obtain ⟨rfl, aU⟩ := Sl.len aJ
  have hE := Option.some.inj hM0; subst hE
  exact ⟨aL, aV.length, aM, rfl, aG, sx7⟩
theorem J04 (h : Hp) (csp0 : List Value) (p0 : l0) (rp0 : Y0.R h csp0 p0) (r : l0) (hM0 : g7 p0 = some r) :
  Tr Tryz.prog 139 #[.agg csp0.toArray] h fun v h' => ∃ (cs0 : List Value), v = .agg cs0.toArray ∧ New Y0 h h' cs0 r := by
 obtain ⟨aA, aB, aC, aZ, aD, aI, rfl, rfl, aG, aH, aF⟩ := B0 rp0
 obtain ⟨rfl, bA⟩ := Sl.len aF
 unfold g7 at hM0
 dsimp only at hM0
 refine T2 (args := [.agg #[.int .i64 aA, .int .i64 aB, .slice aC aI.length aD]]) (fn := Tryz.f139) rfl ?_
 obtain ⟨x1, gx1, hM0⟩ := j0 hM0
 refine Tr.val (H9 _ [.int .i64 aA, .int .i64 aB, .slice aC aI.length aD] (aA, aB, aI) (z0 aG aH aF) _  gx1) ?_
 refine And.intro (fun hc2 => ?_) (fun hc2 => ?_)
 ·replace hM0 := ifP hM0 hc2
  obtain ⟨x3, gx3, hM0⟩ := j0 hM0
  refine Tr.mono (M3 _ [.int .i64 aA, .int .i64 aB, .slice aC aI.length aD] (aA, aB, aI) (z0 aG aH aF) _  gx3) ?_
  rintro v5 k4 ⟨aO, bB, aP, rfl, wx3⟩
  have sx3 : Sub h k4 := wx3.sub
  have rx3 := wx3.r
  obtain ⟨aV, aW, bE⟩ := x3
  dsimp only at hM0 wx3 rx3
  obtain ⟨_, _, _, _, _, _, ecx3, exx3, aQ, aR, aS⟩ := B0 rx3
  cases ecx3
  cases exx3
  obtain ⟨rfl, bC⟩ := Sl.len aS
  try dsimp only at hM0
  have we6 := New.sndI (New.sndI (wx3))
  have hE := Option.some.inj hM0; subst hE
  exact ⟨([.int .i64 aV, .int .i64 aW, .slice (some ⟨aO, 0, none⟩) bE.length aP]), rfl, (New.pair (New.int aQ) (New.pair (New.int aR) we6))⟩
 ·replace hM0 := ifN hM0 hc2
  refine Or.inr (Or.inr (Or.inl (And.intro (And.intro (by kernel_rfl) (by kernel_rfl)) ?_)))
  refine Or.inr ?_
  refine Or.inr ?_
  refine Or.inr ?_
  refine Exists.intro 2 (And.intro (And.intro rfl rfl) ?_)
  obtain ⟨x7, gx7, hM0⟩ := j0 hM0
  refine Tr.mono (I04 _ [.int .i64 aA, .int .i64 aB, .slice aC aI.length aD] (aA, aB, aI) (z0 aG aH aF) _  gx7) ?_
  rintro v9 k8 ⟨ax7, nx7, cx7, rfl, rx7, sx7⟩
  obtain ⟨rfl, lx7⟩ := Sl.len rx7
  refine And.intro (And.intro rfl sx7) (And.intro (by first | exact trivial | exact rfl) ?_)
  obtain ⟨x10, gx10, hM0⟩ := j0 hM0
  refine Tr.mono (H09 _ [.int .i64 aA, .int .i64 aB, .slice aC aI.length aD] (aA, aB, aI) (z0 aG aH (I0.mono sx7 aF)) ax7 x7.length cx7 x7 rx7 _  gx10) ?_
  rintro v12 k11 ⟨csx10, rfl, wx10⟩
  have sx10 : Sub k8 k11 := wx10.sub
  have rx10 := wx10.r
  obtain ⟨aT, aU, aJ, aX, aK, bD, rfl, rfl, aL, aM, aN⟩ := B0 rx10
  obtain ⟨rfl, aY⟩ := Sl.len aN
  try dsimp only at hM0
  have we13 := New.sndI (New.sndI (wx10))
  refine And.intro (And.intro rfl sx10) (And.intro (by first | exact trivial | exact rfl) ?_)
  refine And.intro trivial (And.intro (by first | exact trivial | exact rfl) ?_)
  have hE := Option.some.inj hM0; subst hE
  exact ⟨([.int .i64 aT, .int .i64 aU, .slice aJ bD.length aK]), rfl, (New.pair (New.int aL) (New.pair (New.int aM) (New.from we13 sx7)))⟩
end Go.Proofs.YtfdlgbfeceodeaaGreat
namespace Go.Proofs.YtfdlgbfeceodeaaGreat
open Go.H
set_option linter.unusedVariables false
set_option linter.unusedSimpArgs false
set_option maxRecDepth 10000
theorem g09 (h : Hp) (csp0 : List Value) (p0 : l0) (rp0 : Y0.R h csp0 p0) (r : l0 × P0) (hM0 : W8 p0 = some r) :
  Tr Tryz.prog 137 #[.agg csp0.toArray] h fun v h' => ∃ (cs0 : List Value) (a1 : Option Addr) (n1 c1 : Nat), v = .tuple #[.agg cs0.toArray, .slice a1 n1 c1] ∧ New Y0 h h' cs0 r.1 ∧ K1.R h' [.slice a1 n1 c1] r.2 := by
 obtain ⟨aB, aA, aC, bB, aD, aR, rfl, rfl, aG, aH, aF⟩ := B0 rp0
 obtain ⟨rfl, bC⟩ := Sl.len aF
 unfold W8 at hM0
 dsimp only at hM0
 refine T2 (args := [.agg #[.int .i64 aB, .int .i64 aA, .slice aC aR.length aD]]) (fn := Tryz.f137) rfl ?_
 obtain ⟨x1, gx1, hM0⟩ := j0 hM0
 refine Tr.mono (M3 _ [.int .i64 aB, .int .i64 aA, .slice aC aR.length aD] (aB, aA, aR) (z0 aG aH aF) _  gx1) ?_
 rintro v3 k2 ⟨aI, bD, aJ, rfl, wx1⟩
 have sx1 : Sub h k2 := wx1.sub
 have rx1 := wx1.r
 obtain ⟨aS, aT, aY⟩ := x1
 dsimp only at hM0 wx1 rx1
 obtain ⟨_, _, _, _, _, _, ecx1, exx1, aK, aL, aU⟩ := B0 rx1
 cases ecx1
 cases exx1
 obtain ⟨rfl, bE⟩ := Sl.len aU
 try dsimp only at hM0
 have we4 := New.sndI (New.sndI (wx1))
 obtain ⟨x5, gx5, hM0⟩ := j0 hM0
 refine Tr.val (A8 _ [.int .i64 aB, .int .i64 aA, .slice aC aR.length aD] (aB, aA, aR) (z0 aG aH (I0.mono sx1 aF)) _  gx5) ?_
 refine And.intro (fun hc6 => ?_) (fun hc6 => ?_)
 ·replace hM0 := ifP hM0 hc6
  intro v7 k8 f9
  obtain ⟨az10, cz10, rfl, rz10, sz10, lz10⟩ := E1.out (r := Wp.int.toRp) f9 (show F2 (Wp.int.R k2) ([] : List (List Value)) ([] : P0) from trivial)
  have hE := Option.some.inj hM0; subst hE
  exact ⟨([.int .i64 aS, .int .i64 aT, .slice (some ⟨aI, 0, none⟩) aY.length aJ]), az10, (([] : P0)).length, cz10, rfl, (New.pair (New.int aK) (New.pair (New.int aL) (New.mono we4 sz10))), rz10⟩
 ·replace hM0 := ifN hM0 hc6
  obtain ⟨X11, hLX11, hM0⟩ := j0 hM0
  refine Exists.intro { vars := [6], boxes := [], owns := [0], fuel := true } (Exists.intro (fun vs os h' => ∃ (u12 : Int) (wu13 : List (List Value)) (u13 : List Int), vs.tail = [.int .i64 u12] ∧ os = [wu13] ∧ Sub k2 h' ∧ H0 u12 ∧ F2 (Wp.int.R h') wu13 u13 ∧ w5 aA (Q1 vs) u12 u13 = some X11) (Exists.intro (fun _ _ => 0) ?_))
  refine And.intro (Exists.intro T0 ⟨0, [], ([] : P0), rfl, rfl, (Sub.refl _), (c64 (by decide) (by decide)), (show F2 (Wp.int.R k2) ([] : List (List Value)) ([] : P0) from trivial), hLX11⟩) ?_
  rintro v_0 wu13 m15 k14 ⟨u12, zzu13, u13, evX11, eoX11, sX11, iu12, fu13, hM1⟩
  cases evX11
  cases eoX11
  replace hM1 : w5 aA m15 u12 u13 = some X11 := hM1
  obtain _ | m15 := m15
  ·cases (show (none : Option _) = some X11 from hM1)
  rw [w5.eq_2] at hM1
  refine And.intro (fun hc16 => ?_) (fun hc16 => ?_)
  ·replace hM1 := ifP hM1 hc16
   obtain ⟨q17, gq17, hM1⟩ := j0 hM1
   refine And.intro (M2 gq17 (by first | rw [F2.length fu13, F2.length (show F2 (Wp.int.R k14) ([[.int .i64 u12]] : List (List Value)) [u12] from ⟨⟨rfl, iu12⟩, trivial⟩)] | exact congrArg (· + 1) (F2.length fu13))) ?_
   refine And.intro rfl (And.intro (by repeat (first | exact trivial | refine And.intro rfl ?_)) (And.intro (by repeat (first | exact trivial | refine And.intro rfl ?_)) (Exists.intro m15 (And.intro ⟨(IntKind.i64.wrap (u12 + 1)), (wu13 ++ ([[.int .i64 u12]] : List (List Value))), (u13 ++ [u12]), rfl, rfl, sX11, (K0 _), (F2.append fu13 (show F2 (Wp.int.R k14) ([[.int .i64 u12]] : List (List Value)) [u12] from ⟨⟨rfl, iu12⟩, trivial⟩)), hM1⟩ (Nat.lt_succ_self _)))))
  ·replace hM1 := ifN hM1 hc16
   have hE := Option.some.inj hM1; subst hE
   try dsimp only [U0, Z0] at hM0
   obtain ⟨X22, hLX22, hM0⟩ := j0 hM0
   refine Exists.intro { vars := [5], boxes := [2], owns := [], fuel := true, pubs := [5] } (Exists.intro (fun vs os h' => ∃ (au23 : Option Addr) (nu23 cu23 : Nat) (u23 : P0) (u24 : Int) (u25 : Int) (au26 : Option Addr) (nu26 cu26 : Nat) (u26 : J0), vs.tail = [.slice au23 nu23 cu23, .int .i64 u24, .int .i64 u25, .slice au26 nu26 cu26] ∧ os = [] ∧ Sub h h' ∧ New K1 h h' [.slice au23 nu23 cu23] u23 ∧ H0 u24 ∧ H0 u25 ∧ New I0 h h' [.slice au26 nu26 cu26] u26 ∧ p6 (Q1 vs) u23 u24 u25 u26 = some X22) (Exists.intro (fun _ _ => 0) ?_))
   intro v18 k19 f20
   obtain ⟨az21, cz21, rfl, rz21, sz21, lz21⟩ := E1.out (r := Wp.int.toRp) f20 fu13
   refine And.intro (Exists.intro T0 ⟨az21, u13.length, cz21, u13, aS, aT, (some ⟨aI, 0, none⟩), aY.length, aJ, aY, rfl, rfl, ((sx1.trans sX11).trans sz21), (New.from (E1.newPlain (r := Wp.int) f20 fu13 (t0h _)) (sx1.trans sX11)), aK, aL, (New.mono we4 (sX11.trans sz21)), hLX22⟩) ?_
   rintro v_0 v_1 v_2 v_3 m28 k27 ⟨au23, nu23, cu23, u23, u24, u25, au26, nu26, cu26, u26, evX22, eoX22, sX22, wwu23, iu24, iu25, wwu26, hM1⟩
   cases evX22
   cases eoX22
   replace hM1 : p6 m28 u23 u24 u25 u26 = some X22 := hM1
   obtain _ | m28 := m28
   ·cases (show (none : Option _) = some X22 from hM1)
   rw [p6.eq_2] at hM1
   have ru23 := wwu23.r
   obtain ⟨rfl, lu23⟩ := Sl.len ru23
   have ru26 := wwu26.r
   obtain ⟨rfl, lu26⟩ := Sl.len ru26
   obtain ⟨x29, gx29, hM1⟩ := j0 hM1
   refine Tr.mono (a06 _ [.int .i64 u24, .int .i64 u25, .slice au26 u26.length cu26] (u24, u25, u26) (z0 iu24 iu25 ru26) 0 (c64 (by decide) (by decide)) _  gx29) ?_
   rintro v31 k30 ⟨ax29, nx29, cx29, rfl, rx29, sx29⟩
   obtain ⟨rfl, lx29⟩ := Sl.len rx29
   obtain ⟨X32, hLX32, hM1⟩ := j0 hM1
   refine Exists.intro { vars := [8, 9], boxes := [], owns := [], fuel := true } (Exists.intro (fun vs os h' => ∃ (u33 : Int) (u34 : Int), vs.tail = [.int .i64 u33, .int .i64 u34] ∧ os = [] ∧ Sub k30 h' ∧ H0 u33 ∧ H0 u34 ∧ R3 u25 u24 u26 x29 (Q1 vs) u33 u34 = some X32) (Exists.intro (fun _ _ => 0) ?_))
   refine And.intro (Exists.intro T0 ⟨0, 1, rfl, rfl, (Sub.refl _), (c64 (by decide) (by decide)), (c64 (by decide) (by decide)), hLX32⟩) ?_
   rintro v_0 v_1 m36 k35 ⟨u33, u34, evX32, eoX32, sX32, iu33, iu34, hM2⟩
   cases evX32
   cases eoX32
   replace hM2 : R3 u25 u24 u26 x29 m36 u33 u34 = some X32 := hM2
   obtain _ | m36 := m36
   ·cases (show (none : Option _) = some X32 from hM2)
   rw [R3.eq_2] at hM2
   refine And.intro (fun hc37 => ?_) (fun hc37 => ?_)
   ·replace hM2 := ifP hM2 hc37
    obtain ⟨x38, gx38, hM2⟩ := j0 hM2
    refine Tr.val (W09 _ [.int .i64 u24, .int .i64 u25, .slice au26 u26.length cu26] (u24, u25, u26) (z0 iu24 iu25 (I0.mono (sx29.trans sX32) ru26)) u34 iu34 _  gx38) ?_
    obtain ⟨q39, gq39, hM2⟩ := j0 hM2
    have ix38 : H0 x38 := U2 gq39
    obtain ⟨x40, gx40, hM2⟩ := j0 hM2
    obtain ⟨csx40, ex40, rx40⟩ := Sl.getG (r := Wp.bool.toRp) ((Wp.slice Wp.bool).mono sX32 rx29) gx40 (by decide) (A0l k35)
    refine And.intro (fun q => (ex40 q).1) ?_
    obtain rfl := rx40
    refine Exists.intro _ (And.intro (fun q => (ex40 q).2) ?_)
    refine And.intro (fun hc41 => ?_) (fun hc41 => ?_)
    ·replace hM2 := ifP hM2 hc41
     refine And.intro rfl (And.intro (by repeat (first | exact trivial | refine And.intro rfl ?_)) (And.intro (by repeat (first | exact trivial | refine And.intro rfl ?_)) (Exists.intro m36 (And.intro ⟨u34, (IntKind.i64.wrap (u34 + 1)), rfl, rfl, sX32, iu34, (K0 _), hM2⟩ (Nat.lt_succ_self _)))))
    ·replace hM2 := ifN hM2 hc41
     refine And.intro rfl (And.intro (by repeat (first | exact trivial | refine And.intro rfl ?_)) (And.intro (by repeat (first | exact trivial | refine And.intro rfl ?_)) (Exists.intro m36 (And.intro ⟨u33, (IntKind.i64.wrap (u34 + 1)), rfl, rfl, sX32, iu33, (K0 _), hM2⟩ (Nat.lt_succ_self _)))))
   ·replace hM2 := ifN hM2 hc37
    have hE := Option.some.inj hM2; subst hE
    try dsimp only [U0, Z0] at hM1
    refine And.intro (fun hc42 => ?_) (fun hc42 => ?_)
    ·replace hM1 := ifP hM1 hc42
     have hE := Option.some.inj hM1; subst hE
     try dsimp only [G3, J3] at hM0
     have hE := Option.some.inj hM0; subst hE
     exact ⟨([.int .i64 u24, .int .i64 u25, .slice au26 u26.length cu26]), au23, u23.length, cu23, rfl, (New.pair (New.int iu24) (New.pair (New.int iu25) (New.mono wwu26 (sx29.trans sX32)))), (K1.mono (sx29.trans sX32) ru23)⟩
    ·replace hM1 := ifN hM1 hc42
     obtain ⟨X43, hLX43, hM1⟩ := j0 hM1
     refine Exists.intro { vars := [11], boxes := [], owns := [1], fuel := true } (Exists.intro (fun vs os h' => ∃ (u44 : Int) (wu45 : List (List Value)) (u45 : List Int), vs.tail = [.int .i64 u44] ∧ os = [wu45] ∧ Sub k35 h' ∧ H0 u44 ∧ F2 (Wp.int.R h') wu45 u45 ∧ U4 u25 u33 (Q1 vs) u44 u45 = some X43) (Exists.intro (fun _ _ => 0) ?_))
     refine And.intro (Exists.intro T0 ⟨0, [], ([] : P0), rfl, rfl, (Sub.refl _), (c64 (by decide) (by decide)), (show F2 (Wp.int.R k35) ([] : List (List Value)) ([] : P0) from trivial), hLX43⟩) ?_
     rintro v_0 wu45 m47 k46 ⟨u44, zzu45, u45, evX43, eoX43, sX43, iu44, fu45, hM2⟩
     cases evX43
     cases eoX43
     replace hM2 : U4 u25 u33 m47 u44 u45 = some X43 := hM2
     obtain _ | m47 := m47
     ·cases (show (none : Option _) = some X43 from hM2)
     rw [U4.eq_2] at hM2
     refine And.intro (fun hc48 => ?_) (fun hc48 => ?_)
     ·replace hM2 := ifP hM2 hc48
      refine And.intro (fun hc49 => ?_) (fun hc49 => ?_)
      ·replace hM2 := ifP hM2 hc49
       obtain ⟨q50, gq50, hM2⟩ := j0 hM2
       refine And.intro (M2 gq50 (by first | rw [F2.length fu45, F2.length (show F2 (Wp.int.R k46) ([[.int .i64 u44]] : List (List Value)) [u44] from ⟨⟨rfl, iu44⟩, trivial⟩)] | exact congrArg (· + 1) (F2.length fu45))) ?_
       refine And.intro rfl (And.intro (by repeat (first | exact trivial | refine And.intro rfl ?_)) (And.intro (by repeat (first | exact trivial | refine And.intro rfl ?_)) (Exists.intro m47 (And.intro ⟨(IntKind.i64.wrap (u44 + 1)), (wu45 ++ ([[.int .i64 u44]] : List (List Value))), (u45 ++ [u44]), rfl, rfl, sX43, (K0 _), (F2.append fu45 (show F2 (Wp.int.R k46) ([[.int .i64 u44]] : List (List Value)) [u44] from ⟨⟨rfl, iu44⟩, trivial⟩)), hM2⟩ (Nat.lt_succ_self _)))))
      ·replace hM2 := ifN hM2 hc49
       refine And.intro rfl (And.intro (by repeat (first | exact trivial | refine And.intro rfl ?_)) (And.intro (by repeat (first | exact trivial | refine And.intro rfl ?_)) (Exists.intro m47 (And.intro ⟨(IntKind.i64.wrap (u44 + 1)), wu45, u45, rfl, rfl, sX43, (K0 _), fu45, hM2⟩ (Nat.lt_succ_self _)))))
     ·replace hM2 := ifN hM2 hc48
      have hE := Option.some.inj hM2; subst hE
      try dsimp only [U0, Z0] at hM1
      refine Or.inl ?_
      intro v51 k52 f53
      obtain ⟨az54, cz54, rfl, rz54, sz54, lz54⟩ := E1.out (r := Wp.int.toRp) f53 fu45
      obtain ⟨x55, gx55, hM1⟩ := j0 hM1
      refine Tr.mono (H09 _ [.int .i64 u24, .int .i64 u25, .slice au26 u26.length cu26] (u24, u25, u26) (z0 iu24 iu25 (I0.mono (((sx29.trans sX32).trans sX43).trans sz54) ru26)) az54 u45.length cz54 u45 rz54 _  gx55) ?_
      rintro v57 k56 ⟨csx55, rfl, wx55⟩
      have sx55 : Sub k52 k56 := wx55.sub
      have rx55 := wx55.r
      obtain ⟨aV, aW, aM, aZ, aN, aX, rfl, rfl, aO, aP, aQ⟩ := B0 rx55
      obtain ⟨rfl, bA⟩ := Sl.len aQ
      try dsimp only at hM1
      have we58 := New.sndI (New.sndI (wx55))
      obtain ⟨x61, gx61, hM1⟩ := j0 hM1
      obtain ⟨x62, gx62, hM1⟩ := j0 hM1
      obtain ⟨q63, gq63, hM1⟩ := j0 hM1
      obtain ⟨qaz64, baz64, eaz64, gz64, oz64, Az64, Cz64, usz64, vsz64, eqz64, qbz64, bbz64, lcz64, mcz64, rxz64, sxz64, luz64, lvz64, apz64⟩ := New.drop wwu23 ((((sx29.trans sX32).trans sX43).trans sz54).trans sx55) gx61 gx62 (N0l lu23 gx61 gx62)
      subst eqz64
      refine Or.inr (Or.inr (Or.inl (And.intro (And.intro (by kernel_rfl) (by kernel_rfl)) ?_)))
      refine Or.inl (Exists.intro (.val (.slice (some ⟨gz64, oz64, none⟩) x61.length cu23)) (And.intro ?_ ?_))
      ·intro hh sb
       obtain ⟨vs, e⟩ := eaz64 hh sb
       exact And.intro baz64 (Exists.intro vs (And.intro e (fun v _ hv => And.intro (congrArg AV.val (qaz64 v hv)) (And.intro rfl rfl))))
      refine Or.inl (Exists.intro (.val (.int .i64 (IntKind.i64.wrap (u33 + 1)))) (And.intro ?_ ?_))
      ·intro k59 s60
       exact And.intro rfl (And.intro rfl rfl)
      refine Or.inl (Exists.intro (.val (.slice Az64 x62.length Cz64)) (And.intro ?_ ?_))
      ·intro hh sb
       obtain ⟨vs, e⟩ := eaz64 hh sb
       exact And.intro bbz64 (Exists.intro vs (And.intro e (fun v _ hv => And.intro (congrArg AV.val (qbz64 v hv)) (And.intro rfl rfl))))
      refine Or.inr ?_
      refine Exists.intro 0 (And.intro (And.intro rfl rfl) ?_)
      refine Exists.intro vsz64 (And.intro sxz64 (Exists.intro usz64 (And.intro rxz64 (And.intro (M2 gq63 (by rw [luz64, lvz64])) ?_))))
      intro vz64 kz64 happz64
      obtain ⟨wz64, ⟨az64, nz64, cz64, rfl⟩, kpz64⟩ := apz64 _ _ happz64
      have rz64 := wz64.r
      obtain ⟨ez64, lz64⟩ := Sl.len rz64
      subst ez64
      refine And.intro trivial (And.intro (by first | exact trivial | exact rfl) ?_)
      have wy65 := kpz64 Q0.slice _ _ _ we58 (((sx29.trans sX32).trans sX43).trans sz54)
      refine And.intro rfl (And.intro (by repeat (first | exact trivial | refine And.intro rfl ?_)) (And.intro (by repeat (first | exact trivial | refine And.intro rfl ?_)) (Exists.intro m28 (And.intro ⟨az64, (x61 ++ x62).length, cz64, (x61 ++ x62), aV, aW, aM, aX.length, aN, aX, rfl, rfl, wz64.sub, wz64, aO, aP, wy65, hM1⟩ (Nat.lt_succ_self _)))))
end Go.Proofs.YtfdlgbfeceodeaaGreat
