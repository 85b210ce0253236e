/- Texts of the claim, joined: The walks of batch h1; The walks of batch i1; The walks of batch b1; The walks of batch a1; The walks of batch g2; The walks of batch g3. -/
import Derived.Test.YtknoadmdnjaocaaGreatPart18
import Derived.Test.YtknoadmdnjaocaaGreatChecked
import Derived.Test.YtknoadmdnjaocaaGreatH35
import Derived.Test.YtknoadmdnjaocaaGreatPart25
import Derived.Test.YtknoadmdnjaocaaGreatPart21
import Derived.Test.YtknoadmdnjaocaaGreatSE
import Derived.Test.YtknoadmdnjaocaaGreatH40
import Derived.Test.YtknoadmdnjaocaaGreatH41
namespace Go.Proofs.YtknoadmdnjaocaaGreat
open Go.H
set_option linter.unusedVariables false
set_option linter.unusedSimpArgs false
set_option maxRecDepth 10000
theorem y0b (h : Hp) (csp0 : List Value) (p0 : l0) (rp0 : P0.R h csp0 p0) (r : F7) (hM0 : b00 p0 = some r) :
  Tr Tryz.prog 344 #[.agg csp0.toArray] h fun v h' => ∃ (a0 : Option Addr) (n0 c0 : Nat), v = .slice a0 n0 c0 ∧ r0d.R h' [.slice a0 n0 c0] r ∧ Sub h h' := by
 obtain ⟨aN, aO, aL, aR, aM, aK, rfl, rfl, aS, aT, aJ⟩ := C0 rp0
 obtain ⟨rfl, aU⟩ := Sl.len aJ
 unfold b00 at hM0
 dsimp only at hM0
 refine T2 (args := [.agg #[.int .i64 aN, .int .i64 aO, .slice aL aK.length aM]]) (fn := Tryz.f344) rfl ?_
 obtain ⟨X1, hLX1, hM0⟩ := j0 hM0
 refine Exists.intro { vars := [4], boxes := [], owns := [0], fuel := true } (Exists.intro (fun vs os h' => ∃ (u2 : Int) (wu3 : List (List Value)) (u3 : List A4), vs.tail = [.int .i64 u2] ∧ os = [wu3] ∧ Sub h h' ∧ M0 u2 ∧ F2 (w4.R h') wu3 u3 ∧ A6 aK (C1 vs) u2 u3 = some X1) (Exists.intro (fun _ _ => 0) ?_))
 refine And.intro (Exists.intro I0 ⟨0, [], ([] : F7), rfl, rfl, (Sub.refl _), (c64 (by decide) (by decide)), (show F2 (w4.R h) ([] : List (List Value)) ([] : F7) from trivial), hLX1⟩) ?_
 rintro v_0 wu3 m5 k4 ⟨u2, zzu3, u3, evX1, eoX1, sX1, iu2, fu3, hM1⟩
 cases evX1
 cases eoX1
 replace hM1 : A6 aK m5 u2 u3 = some X1 := hM1
 obtain _ | m5 := m5
 ·cases (show (none : Option _) = some X1 from hM1)
 rw [A6.eq_2] at hM1
 refine And.intro (fun hc6 => ?_) (fun hc6 => ?_)
 ·replace hM1 := ifP hM1 hc6
  obtain ⟨X7, hLX7, hM1⟩ := j0 hM1
  refine Exists.intro { vars := [5], boxes := [], owns := [0], fuel := true } (Exists.intro (fun vs os h' => ∃ (u8 : Int) (wu9 : List (List Value)) (u9 : List A4), vs.tail = [.int .i64 u8] ∧ os = [wu9] ∧ Sub k4 h' ∧ M0 u8 ∧ F2 (w4.R h') wu9 u9 ∧ M3 aK u2 (C1 vs) u8 u9 = some X7) (Exists.intro (fun _ _ => 0) ?_))
  refine And.intro (Exists.intro I0 ⟨(IntKind.i64.wrap (u2 + 1)), wu3, u3, rfl, rfl, (Sub.refl _), (H0 _), fu3, hLX7⟩) ?_
  rintro v_0 wu9 m11 k10 ⟨u8, zzu9, u9, evX7, eoX7, sX7, iu8, fu9, hM2⟩
  cases evX7
  cases eoX7
  replace hM2 : M3 aK u2 m11 u8 u9 = some X7 := hM2
  obtain _ | m11 := m11
  ·cases (show (none : Option _) = some X7 from hM2)
  rw [M3.eq_2] at hM2
  refine And.intro (fun hc12 => ?_) (fun hc12 => ?_)
  ·replace hM2 := ifP hM2 hc12
   obtain ⟨x13, gx13, hM2⟩ := j0 hM2
   obtain ⟨bx13, csx13, ex13, rx13⟩ := Sl.getI (r := j1.toRp) (O0.mono (sX1.trans sX7) aJ) gx13 (by decide)
   refine And.intro bx13 ?_
   obtain ⟨aC, aV, aA, rfl, rfl, aH, aP, aF⟩ := F1 rx13
   try dsimp only at hM2
   refine Exists.intro _ (And.intro ex13 ?_)
   obtain ⟨x14, gx14, hM2⟩ := j0 hM2
   obtain ⟨bx14, csx14, ex14, rx14⟩ := Sl.getI (r := j1.toRp) (O0.mono (sX1.trans sX7) aJ) gx14 (by decide)
   refine And.intro bx14 ?_
   obtain ⟨aD, aW, aB, rfl, rfl, aI, aQ, aG⟩ := F1 rx14
   try dsimp only at hM2
   refine Exists.intro _ (And.intro ex14 ?_)
   refine And.intro (fun hc15 => ?_) (fun hc15 => ?_)
   ·replace hM2 := ifP hM2 hc15
    obtain ⟨q16, gq16, hM2⟩ := j0 hM2
    refine And.intro (E1 gq16 (by first | rw [F2.length fu9, F2.length (show F2 (w4.R k10) ([[.int .i64 (if aB < aA then aB else aA), .int .i64 (if aB > aA then aB else aA)]] : List (List Value)) [((if aB < aA then aB else aA), (if aB > aA then aB else aA))] from ⟨(P1 (r7 aG aF) (r7 aG aF)), trivial⟩)] | exact congrArg (· + 1) (F2.length fu9))) ?_
    refine And.intro (fun hc17 => ?_) (fun hc17 => ?_)
    ·replace hM2 := ifP hM2 hc17
     obtain ⟨q18, gq18, hM2⟩ := j0 hM2
     refine And.intro (E1 gq18 (by first | rw [F2.length (F2.append fu9 (show F2 (w4.R k10) ([[.int .i64 (if aB < aA then aB else aA), .int .i64 (if aB > aA then aB else aA)]] : List (List Value)) [((if aB < aA then aB else aA), (if aB > aA then aB else aA))] from ⟨(P1 (r7 aG aF) (r7 aG aF)), trivial⟩)), F2.length (show F2 (w4.R k10) ([[.int .i64 (if aD < aC then aD else aC), .int .i64 (if aD > aC then aD else aC)]] : List (List Value)) [((if aD < aC then aD else aC), (if aD > aC then aD else aC))] from ⟨(P1 (r7 aI aH) (r7 aI aH)), trivial⟩)] | exact congrArg (· + 1) (F2.length (F2.append fu9 (show F2 (w4.R k10) ([[.int .i64 (if aB < aA then aB else aA), .int .i64 (if aB > aA then aB else aA)]] : List (List Value)) [((if aB < aA then aB else aA), (if aB > aA then aB else aA))] from ⟨(P1 (r7 aG aF) (r7 aG aF)), trivial⟩))))) ?_
     refine And.intro rfl (And.intro (by repeat (first | exact trivial | refine And.intro rfl ?_)) (And.intro (by repeat (first | exact trivial | refine And.intro rfl ?_)) (Exists.intro m11 (And.intro ⟨(IntKind.i64.wrap (u8 + 1)), ((wu9 ++ ([[.int .i64 (if aB < aA then aB else aA), .int .i64 (if aB > aA then aB else aA)]] : List (List Value))) ++ ([[.int .i64 (if aD < aC then aD else aC), .int .i64 (if aD > aC then aD else aC)]] : List (List Value))), ((u9 ++ [((if aB < aA then aB else aA), (if aB > aA then aB else aA))]) ++ [((if aD < aC then aD else aC), (if aD > aC then aD else aC))]), rfl, rfl, sX7, (H0 _), (F2.append (F2.append fu9 (show F2 (w4.R k10) ([[.int .i64 (if aB < aA then aB else aA), .int .i64 (if aB > aA then aB else aA)]] : List (List Value)) [((if aB < aA then aB else aA), (if aB > aA then aB else aA))] from ⟨(P1 (r7 aG aF) (r7 aG aF)), trivial⟩)) (show F2 (w4.R k10) ([[.int .i64 (if aD < aC then aD else aC), .int .i64 (if aD > aC then aD else aC)]] : List (List Value)) [((if aD < aC then aD else aC), (if aD > aC then aD else aC))] from ⟨(P1 (r7 aI aH) (r7 aI aH)), trivial⟩)), hM2⟩ (Nat.lt_succ_self _)))))
    ·replace hM2 := ifN hM2 hc17
     refine And.intro rfl (And.intro (by repeat (first | exact trivial | refine And.intro rfl ?_)) (And.intro (by repeat (first | exact trivial | refine And.intro rfl ?_)) (Exists.intro m11 (And.intro ⟨(IntKind.i64.wrap (u8 + 1)), (wu9 ++ ([[.int .i64 (if aB < aA then aB else aA), .int .i64 (if aB > aA then aB else aA)]] : List (List Value))), (u9 ++ [((if aB < aA then aB else aA), (if aB > aA then aB else aA))]), rfl, rfl, sX7, (H0 _), (F2.append fu9 (show F2 (w4.R k10) ([[.int .i64 (if aB < aA then aB else aA), .int .i64 (if aB > aA then aB else aA)]] : List (List Value)) [((if aB < aA then aB else aA), (if aB > aA then aB else aA))] from ⟨(P1 (r7 aG aF) (r7 aG aF)), trivial⟩)), hM2⟩ (Nat.lt_succ_self _)))))
   ·replace hM2 := ifN hM2 hc15
    refine And.intro (fun hc19 => ?_) (fun hc19 => ?_)
    ·replace hM2 := ifP hM2 hc19
     obtain ⟨q20, gq20, hM2⟩ := j0 hM2
     refine And.intro (E1 gq20 (by first | rw [F2.length fu9, F2.length (show F2 (w4.R k10) ([[.int .i64 (if aD < aC then aD else aC), .int .i64 (if aD > aC then aD else aC)]] : List (List Value)) [((if aD < aC then aD else aC), (if aD > aC then aD else aC))] from ⟨(P1 (r7 aI aH) (r7 aI aH)), trivial⟩)] | exact congrArg (· + 1) (F2.length fu9))) ?_
     refine And.intro rfl (And.intro (by repeat (first | exact trivial | refine And.intro rfl ?_)) (And.intro (by repeat (first | exact trivial | refine And.intro rfl ?_)) (Exists.intro m11 (And.intro ⟨(IntKind.i64.wrap (u8 + 1)), (wu9 ++ ([[.int .i64 (if aD < aC then aD else aC), .int .i64 (if aD > aC then aD else aC)]] : List (List Value))), (u9 ++ [((if aD < aC then aD else aC), (if aD > aC then aD else aC))]), rfl, rfl, sX7, (H0 _), (F2.append fu9 (show F2 (w4.R k10) ([[.int .i64 (if aD < aC then aD else aC), .int .i64 (if aD > aC then aD else aC)]] : List (List Value)) [((if aD < aC then aD else aC), (if aD > aC then aD else aC))] from ⟨(P1 (r7 aI aH) (r7 aI aH)), trivial⟩)), hM2⟩ (Nat.lt_succ_self _)))))
    ·replace hM2 := ifN hM2 hc19
     refine And.intro rfl (And.intro (by repeat (first | exact trivial | refine And.intro rfl ?_)) (And.intro (by repeat (first | exact trivial | refine And.intro rfl ?_)) (Exists.intro m11 (And.intro ⟨(IntKind.i64.wrap (u8 + 1)), wu9, u9, rfl, rfl, sX7, (H0 _), fu9, hM2⟩ (Nat.lt_succ_self _)))))
  ·replace hM2 := ifN hM2 hc12
   have hE := Option.some.inj hM2; subst hE
   try dsimp only [K0, N0] at hM1
   refine And.intro rfl (And.intro (by repeat (first | exact trivial | refine And.intro rfl ?_)) (And.intro (by repeat (first | exact trivial | refine And.intro rfl ?_)) (Exists.intro m5 (And.intro ⟨(IntKind.i64.wrap (u2 + 1)), wu9, u9, rfl, rfl, (sX1.trans sX7), (H0 _), fu9, hM1⟩ (Nat.lt_succ_self _)))))
 ·replace hM1 := ifN hM1 hc6
  have hE := Option.some.inj hM1; subst hE
  try dsimp only [K0, N0] at hM0
  intro v25 k26 f27
  obtain ⟨az28, cz28, rfl, rz28, sz28, lz28⟩ := U0.out (r := w4.toRp) f27 fu3
  have hE := Option.some.inj hM0; subst hE
  exact ⟨az28, u3.length, cz28, rfl, rz28, (sX1.trans sz28)⟩
theorem J08 (h : Hp) (csp0 : List Value) (p0 : l0) (rp0 : P0.R h csp0 p0) (r : A4 × Bool) (hM0 : i8 p0 = some r) :
  Tr Tryz.prog 324 #[.agg csp0.toArray] h fun v h' => ∃ (cs0 : List Value), v = .tuple #[.agg cs0.toArray, .bool r.2] ∧ w4.R h' cs0 r.1 ∧ Sub h h' := by
 obtain ⟨aA, aB, aC, aN, aD, aI, rfl, rfl, aG, aH, aF⟩ := C0 rp0
 obtain ⟨rfl, aO⟩ := Sl.len aF
 unfold i8 at hM0
 dsimp only at hM0
 refine T2 (args := [.agg #[.int .i64 aA, .int .i64 aB, .slice aC aI.length aD]]) (fn := Tryz.f324) rfl ?_
 obtain ⟨x1, gx1, hM0⟩ := j0 hM0
 refine Tr.val (O7 _ [.int .i64 aA, .int .i64 aB, .slice aC aI.length aD] (aA, aB, aI) (z0 aG aH aF) _  gx1) ?_
 refine And.intro (fun hc2 => ?_) (fun hc2 => ?_)
 ·replace hM0 := ifP hM0 hc2
  have hE := Option.some.inj hM0; subst hE
  exact ⟨([.int .i64 0, .int .i64 0]), rfl, (P1 (c64 (by decide) (by decide)) (c64 (by decide) (by decide))), (Sub.refl _)⟩
 ·replace hM0 := ifN hM0 hc2
  obtain ⟨x3, gx3, hM0⟩ := j0 hM0
  refine Tr.mono (y0b _ [.int .i64 aA, .int .i64 aB, .slice aC aI.length aD] (aA, aB, aI) (z0 aG aH aF) _  gx3) ?_
  rintro v5 k4 ⟨ax3, nx3, cx3, rfl, rx3, sx3⟩
  obtain ⟨rfl, lx3⟩ := Sl.len rx3
  refine And.intro (fun hc6 => ?_) (fun hc6 => ?_)
  ·replace hM0 := ifP hM0 hc6
   have hE := Option.some.inj hM0; subst hE
   exact ⟨([.int .i64 0, .int .i64 0]), rfl, (P1 (c64 (by decide) (by decide)) (c64 (by decide) (by decide))), sx3⟩
  ·replace hM0 := ifN hM0 hc6
   obtain ⟨x7, gx7, hM0⟩ := j0 hM0
   obtain ⟨bx7, csx7, ex7, rx7⟩ := Sl.getI (r := w4.toRp) rx3 gx7 (by decide)
   refine And.intro bx7 ?_
   obtain ⟨aL, aM, rfl, rfl, aJ, aK⟩ := a01 rx7
   try dsimp only at hM0
   refine Exists.intro _ (And.intro ex7 ?_)
   have hE := Option.some.inj hM0; subst hE
   exact ⟨([.int .i64 aL, .int .i64 aM]), rfl, (P1 aJ aK), sx3⟩
theorem K07 (h : Hp) (p0 : Int) (ip0 : M0 p0) (csp1 : List Value) (p1 : A4) (rp1 : w4.R h csp1 p1) (r : Int) (hM0 : o00 p0 p1 = some r) :
  Tr Tryz.prog 345 #[.int .i64 p0, .agg csp1.toArray] h fun v h' => v = .int .i64 r ∧ h' = h := by
 obtain ⟨aA, aB, rfl, rfl, aC, aD⟩ := a01 rp1
 unfold o00 at hM0
 dsimp only at hM0
 refine Tr.forget (T2 (args := [.int .i64 p0, .agg #[.int .i64 aA, .int .i64 aB]]) (fn := Tryz.f345) rfl ?_)
 refine And.intro (fun hc1 => ?_) (fun hc1 => ?_)
 ·replace hM0 := ifP hM0 hc1
  refine And.intro (fun hc2 => ?_) (fun hc2 => ?_)
  ·replace hM0 := ifP hM0 hc2
   have hE := Option.some.inj hM0; subst hE
   exact And.intro rfl (Sub.refl _)
  ·replace hM0 := ifN hM0 hc2
   have hE := Option.some.inj hM0; subst hE
   exact And.intro rfl (Sub.refl _)
 ·replace hM0 := ifN hM0 hc1
  refine And.intro (fun hc3 => ?_) (fun hc3 => ?_)
  ·replace hM0 := ifP hM0 hc3
   have hE := Option.some.inj hM0; subst hE
   exact And.intro rfl (Sub.refl _)
  ·replace hM0 := ifN hM0 hc3
   have hE := Option.some.inj hM0; subst hE
   exact And.intro rfl (Sub.refl _)
theorem m05 (h : Hp) (csp0 : List Value) (p0 : l0) (rp0 : P0.R h csp0 p0) (csp1 : List Value) (p1 : A4) (rp1 : w4.R h csp1 p1) (r : l0 × Bool) (hM0 : B6 p0 p1 = some r) :
  Tr Tryz.prog 325 #[.agg csp0.toArray, .agg csp1.toArray] h fun v h' => ∃ (cs0 : List Value), v = .tuple #[.agg cs0.toArray, .bool r.2] ∧ P0.R h' cs0 r.1 ∧ Sub h h' := by
 obtain ⟨aD, aF, aG, bA, aH, aK, rfl, rfl, aI, aL, aC⟩ := C0 rp0
 obtain ⟨rfl, bB⟩ := Sl.len aC
 obtain ⟨aA, aB, rfl, rfl, aM, aN⟩ := a01 rp1
 unfold B6 at hM0
 dsimp only at hM0
 refine T2 (args := [.agg #[.int .i64 aD, .int .i64 aF, .slice aG aK.length aH], .agg #[.int .i64 aA, .int .i64 aB]]) (fn := Tryz.f325) rfl ?_
 obtain ⟨x1, gx1, hM0⟩ := j0 hM0
 refine Tr.val (O7 _ [.int .i64 aD, .int .i64 aF, .slice aG aK.length aH] (aD, aF, aK) (z0 aI aL aC) _  gx1) ?_
 refine And.intro (fun hc2 => ?_) (fun hc2 => ?_)
 ·replace hM0 := ifP hM0 hc2
  obtain ⟨x3, gx3, hM0⟩ := j0 hM0
  refine Tr.mono (h8 _ [.int .i64 aD, .int .i64 aF, .slice aG aK.length aH] (aD, aF, aK) (z0 aI aL aC) _  gx3) ?_
  rintro v5 k4 ⟨csx3, rfl, rx3, sx3⟩
  obtain ⟨aY, aZ, aS, bC, aT, bE, rfl, rfl, aU, aV, aO⟩ := C0 rx3
  obtain ⟨rfl, bD⟩ := Sl.len aO
  try dsimp only at hM0
  have hE := Option.some.inj hM0; subst hE
  exact ⟨([.int .i64 aY, .int .i64 aZ, .slice aS bE.length aT]), rfl, (z0 aU aV aO), sx3⟩
 ·replace hM0 := ifN hM0 hc2
  obtain ⟨X6, hLX6, hM0⟩ := j0 hM0
  refine Exists.intro { vars := [7], boxes := [3], owns := [], fuel := true } (Exists.intro (fun vs os h' => ∃ (u7 : Int) (u8 : Int) (u9 : Int) (au10 : Option Addr) (nu10 cu10 : Nat) (u10 : J0), vs.tail = [.int .i64 u7, .int .i64 u8, .int .i64 u9, .slice au10 nu10 cu10] ∧ os = [] ∧ Sub h h' ∧ M0 u7 ∧ M0 u8 ∧ M0 u9 ∧ O0.R h' [.slice au10 nu10 cu10] u10 ∧ R3 aK aA aB (C1 vs) u7 u8 u9 u10 = some X6) (Exists.intro (fun _ _ => 0) ?_))
  refine And.intro (Exists.intro I0 ⟨0, aD, (IntKind.i64.wrap (aF - 1)), none, 0, 0, [], rfl, rfl, (Sub.refl _), (c64 (by decide) (by decide)), aI, (H0 _), (a0l j1 h), hLX6⟩) ?_
  rintro v_0 v_1 v_2 v_3 m12 k11 ⟨u7, u8, u9, au10, nu10, cu10, u10, evX6, eoX6, sX6, iu7, iu8, iu9, ru10, hM1⟩
  cases evX6
  cases eoX6
  replace hM1 : R3 aK aA aB m12 u7 u8 u9 u10 = some X6 := hM1
  obtain _ | m12 := m12
  ·cases (show (none : Option _) = some X6 from hM1)
  rw [R3.eq_2] at hM1
  obtain ⟨rfl, lu10⟩ := Sl.len ru10
  refine And.intro (fun hc13 => ?_) (fun hc13 => ?_)
  ·replace hM1 := ifP hM1 hc13
   obtain ⟨x14, gx14, hM1⟩ := j0 hM1
   obtain ⟨bx14, csx14, ex14, rx14⟩ := Sl.getI (r := j1.toRp) (O0.mono sX6 aC) gx14 (by decide)
   refine And.intro bx14 ?_
   obtain ⟨aW, aJ, aX, rfl, rfl, aP, aQ, aR⟩ := F1 rx14
   try dsimp only at hM1
   refine Exists.intro _ (And.intro ex14 ?_)
   refine Or.inr (Or.inr (Or.inl (And.intro (And.intro (by kernel_rfl) (by kernel_rfl)) ?_)))
   obtain ⟨x15, gx15, hM1⟩ := j0 hM1
   obtain ⟨q16, gq16, hM1⟩ := j0 hM1
   have ix15 : M0 x15 := T0 gq16
   refine Or.inl (Exists.intro (.val (.int .i64 x15)) (And.intro ?_ ?_))
   ·intro k17 s18
    exact Tr.val (K07 _ aW aP [.int .i64 aA, .int .i64 aB] (aA, aB) (P1 aM aN) _ gx15) (And.intro rfl (And.intro rfl rfl))
   obtain ⟨x19, gx19, hM1⟩ := j0 hM1
   obtain ⟨q20, gq20, hM1⟩ := j0 hM1
   have ix19 : M0 x19 := T0 gq20
   refine Or.inl (Exists.intro (.val (.int .i64 x19)) (And.intro ?_ ?_))
   ·intro k21 s22
    exact Tr.val (K07 _ aX aR [.int .i64 aA, .int .i64 aB] (aA, aB) (P1 aM aN) _ gx19) (And.intro rfl (And.intro rfl rfl))
   refine Or.inl (Exists.intro (.agg [.val (.int .i64 x15), .val (.int .i64 aJ), .val (.int .i64 x19)]) (And.intro ?_ ?_))
   ·intro k23 s24
    exact And.intro rfl (And.intro rfl rfl)
   refine Or.inr ?_
   refine Or.inr ?_
   refine Exists.intro 1 (And.intro (And.intro rfl rfl) ?_)
   obtain ⟨x25, gx25, hM1⟩ := j0 hM1
   refine Tr.mono (I07 _ au10 u10.length cu10 u10 ru10 [.int .i64 x15, .int .i64 aJ, .int .i64 x19] (x15, aJ, x19) (K1 ix15 aQ ix19) _  gx25) ?_
   rintro v27 k26 ⟨ax25, nx25, cx25, rfl, rx25, sx25⟩
   obtain ⟨rfl, lx25⟩ := Sl.len rx25
   refine And.intro (And.intro rfl sx25) (And.intro (by first | exact trivial | exact rfl) ?_)
   refine And.intro trivial (And.intro (by first | exact trivial | exact rfl) ?_)
   refine And.intro rfl (And.intro (by repeat (first | exact trivial | refine And.intro rfl ?_)) (And.intro (by repeat (first | exact trivial | refine And.intro rfl ?_)) (Exists.intro m12 (And.intro ⟨(IntKind.i64.wrap (u7 + 1)), u8, u9, ax25, x25.length, cx25, x25, rfl, rfl, (sX6.trans sx25), (H0 _), iu8, iu9, rx25, hM1⟩ (Nat.lt_succ_self _)))))
  ·replace hM1 := ifN hM1 hc13
   have hE := Option.some.inj hM1; subst hE
   try dsimp only [K0, N0] at hM0
   have hE := Option.some.inj hM0; subst hE
   exact ⟨([.int .i64 u8, .int .i64 u9, .slice au10 u10.length cu10]), rfl, (z0 iu8 iu9 ru10), sX6⟩
theorem B09 (h : Hp) (csp0 : List Value) (p0 : l0) (rp0 : P0.R h csp0 p0) (r : l0 × A4 × Bool) (hM0 : A9 p0 = some r) :
  Tr Tryz.prog 302 #[.agg csp0.toArray] h fun v h' => ∃ (cs0 : List Value) (cs1 : List Value), v = .tuple #[.agg cs0.toArray, .agg cs1.toArray, .bool r.2.2] ∧ P0.R h' cs0 r.1 ∧ w4.R h' cs1 r.2.1 ∧ Sub h h' := by
 obtain ⟨aA, aB, aF, bI, aG, aU, rfl, rfl, aL, aM, aH⟩ := C0 rp0
 obtain ⟨rfl, bJ⟩ := Sl.len aH
 unfold A9 at hM0
 dsimp only at hM0
 refine T2 (args := [.agg #[.int .i64 aA, .int .i64 aB, .slice aF aU.length aG]]) (fn := Tryz.f302) rfl ?_
 obtain ⟨x1, gx1, hM0⟩ := j0 hM0
 refine Tr.mono (J08 _ [.int .i64 aA, .int .i64 aB, .slice aF aU.length aG] (aA, aB, aU) (z0 aL aM aH) _  gx1) ?_
 rintro v3 k2 ⟨bD, rfl, aR, sx1⟩
 obtain ⟨bM, bN⟩ := x1
 dsimp only at hM0 aR
 obtain ⟨aC, aD, rfl, rfl, aI, aJ⟩ := a01 aR
 try dsimp only at hM0
 refine And.intro (fun hc4 => ?_) (fun hc4 => ?_)
 ·replace hM0 := ifP hM0 hc4
  obtain ⟨x5, gx5, hM0⟩ := j0 hM0
  refine Tr.mono (h8 _ [.int .i64 aA, .int .i64 aB, .slice aF aU.length aG] (aA, aB, aU) (z0 aL aM (O0.mono sx1 aH)) _  gx5) ?_
  rintro v7 k6 ⟨csx5, rfl, rx5, sx5⟩
  obtain ⟨bE, bF, aX, bK, aY, bO, rfl, rfl, aZ, bA, aS⟩ := C0 rx5
  obtain ⟨rfl, bL⟩ := Sl.len aS
  try dsimp only at hM0
  have hE := Option.some.inj hM0; subst hE
  exact ⟨([.int .i64 bE, .int .i64 bF, .slice aX bO.length aY]), ([.int .i64 0, .int .i64 0]), rfl, (z0 aZ bA aS), (P1 (c64 (by decide) (by decide)) (c64 (by decide) (by decide))), (sx1.trans sx5)⟩
 ·replace hM0 := ifN hM0 hc4
  obtain ⟨x8, gx8, hM0⟩ := j0 hM0
  refine Tr.mono (m05 _ [.int .i64 aA, .int .i64 aB, .slice aF aU.length aG] (aA, aB, aU) (z0 aL aM (O0.mono sx1 aH)) [.int .i64 aC, .int .i64 aD] (aC, aD) (P1 aI aJ) _  gx8) ?_
  rintro v10 k9 ⟨bG, rfl, aT, sx8⟩
  obtain ⟨bP, bQ⟩ := x8
  dsimp only at hM0 aT
  obtain ⟨aV, aW, aN, bB, aO, bH, rfl, rfl, aP, aQ, aK⟩ := C0 aT
  obtain ⟨rfl, bC⟩ := Sl.len aK
  try dsimp only at hM0
  refine Or.inr (Or.inr (Or.inl (And.intro (And.intro (by kernel_rfl) (by kernel_rfl)) ?_)))
  refine Or.inr ?_
  refine Or.inr ?_
  refine Exists.intro 0 (And.intro (And.intro rfl rfl) ?_)
  refine And.intro trivial (And.intro (by first | exact trivial | exact rfl) ?_)
  refine And.intro trivial (And.intro (by first | exact trivial | exact rfl) ?_)
  have hE := Option.some.inj hM0; subst hE
  exact ⟨([.int .i64 aV, .int .i64 aW, .slice aN bH.length aO]), ([.int .i64 aC, .int .i64 aD]), rfl, (z0 aP aQ aK), (P1 aI aJ), (sx1.trans sx8)⟩
theorem z0b (h : Hp) (csp0 : List Value) (p0 : l0) (rp0 : P0.R h csp0 p0) (r : l0 × F7) (hM0 : c00 p0 = some r) :
  Tr Tryz.prog 255 #[.agg csp0.toArray] h fun v h' => ∃ (cs0 : List Value) (a1 : Option Addr) (n1 c1 : Nat), v = .tuple #[.agg cs0.toArray, .slice a1 n1 c1] ∧ P0.R h' cs0 r.1 ∧ r0d.R h' [.slice a1 n1 c1] r.2 ∧ Sub h h' := by
 obtain ⟨aT, aU, aP, bJ, aQ, bF, rfl, rfl, aV, aW, aR⟩ := C0 rp0
 obtain ⟨rfl, bK⟩ := Sl.len aR
 unfold c00 at hM0
 dsimp only at hM0
 refine T2 (args := [.agg #[.int .i64 aT, .int .i64 aU, .slice aP bF.length aQ]]) (fn := Tryz.f255) rfl ?_
 obtain ⟨x1, gx1, hM0⟩ := j0 hM0
 refine Tr.mono (h8 _ [.int .i64 aT, .int .i64 aU, .slice aP bF.length aQ] (aT, aU, bF) (z0 aV aW aR) _  gx1) ?_
 rintro v3 k2 ⟨csx1, rfl, rx1, sx1⟩
 obtain ⟨bG, bH, aX, bL, aY, bI, rfl, rfl, aZ, bA, aS⟩ := C0 rx1
 obtain ⟨rfl, bM⟩ := Sl.len aS
 try dsimp only at hM0
 obtain ⟨X4, hLX4, hM0⟩ := j0 hM0
 refine Exists.intro { vars := [6], boxes := [2], owns := [0], fuel := true } (Exists.intro (fun vs os h' => ∃ (u5 : Int) (u6 : Int) (u7 : Int) (au8 : Option Addr) (nu8 cu8 : Nat) (u8 : J0) (wu9 : List (List Value)) (u9 : List A4), vs.tail = [.int .i64 u5, .int .i64 u6, .int .i64 u7, .slice au8 nu8 cu8] ∧ os = [wu9] ∧ Sub k2 h' ∧ M0 u5 ∧ M0 u6 ∧ M0 u7 ∧ O0.R h' [.slice au8 nu8 cu8] u8 ∧ F2 (w4.R h') wu9 u9 ∧ E5 (C1 vs) u5 u6 u7 u8 u9 = some X4) (Exists.intro (fun _ _ => 0) ?_))
 refine And.intro (Exists.intro I0 ⟨0, bG, bH, aX, bI.length, aY, bI, [], ([] : F7), rfl, rfl, (Sub.refl _), (c64 (by decide) (by decide)), aZ, bA, aS, (show F2 (w4.R k2) ([] : List (List Value)) ([] : F7) from trivial), hLX4⟩) ?_
 rintro v_0 v_1 v_2 v_3 wu9 m11 k10 ⟨u5, u6, u7, au8, nu8, cu8, u8, zzu9, u9, evX4, eoX4, sX4, iu5, iu6, iu7, ru8, fu9, hM1⟩
 cases evX4
 cases eoX4
 replace hM1 : E5 m11 u5 u6 u7 u8 u9 = some X4 := hM1
 obtain _ | m11 := m11
 ·cases (show (none : Option _) = some X4 from hM1)
 rw [E5.eq_2] at hM1
 obtain ⟨rfl, lu8⟩ := Sl.len ru8
 refine And.intro (fun hc12 => ?_) (fun hc12 => ?_)
 ·replace hM1 := ifP hM1 hc12
  obtain ⟨x13, gx13, hM1⟩ := j0 hM1
  refine Tr.mono (B09 _ [.int .i64 u6, .int .i64 u7, .slice au8 u8.length cu8] (u6, u7, u8) (z0 iu6 iu7 ru8) _  gx13) ?_
  rintro v15 k14 ⟨bD, bE, rfl, aG, aH, sx13⟩
  obtain ⟨bN, bO, bP⟩ := x13
  dsimp only at hM1 aG aH
  obtain ⟨aM, aN, aI, bB, aJ, aO, rfl, rfl, aK, aL, aC⟩ := C0 aG
  obtain ⟨rfl, bC⟩ := Sl.len aC
  try dsimp only at hM1
  obtain ⟨aA, aB, rfl, rfl, aD, aF⟩ := a01 aH
  try dsimp only at hM1
  refine And.intro (fun hc16 => ?_) (fun hc16 => ?_)
  ·replace hM1 := ifP hM1 hc16
   intro v17 k18 f19
   obtain ⟨az20, cz20, rfl, rz20, sz20, lz20⟩ := U0.out (r := w4.toRp) f19 (F2.up (r := w4.toRp) sx13 fu9)
   have hE := Option.some.inj hM1; subst hE
   try dsimp only [j4, l4] at hM0
   have hE := Option.some.inj hM0; subst hE
   exact ⟨([.int .i64 u6, .int .i64 u7, .slice au8 u8.length cu8]), az20, u9.length, cz20, rfl, (z0 iu6 iu7 (O0.mono (sx13.trans sz20) ru8)), rz20, (((sx1.trans sX4).trans sx13).trans sz20)⟩
  ·replace hM1 := ifN hM1 hc16
   obtain ⟨q21, gq21, hM1⟩ := j0 hM1
   refine And.intro (E1 gq21 (by first | rw [F2.length (F2.up (r := w4.toRp) sx13 fu9), F2.length (show F2 (w4.R k14) ([[.int .i64 aA, .int .i64 aB]] : List (List Value)) [(aA, aB)] from ⟨(P1 aD aF), trivial⟩)] | exact congrArg (· + 1) (F2.length (F2.up (r := w4.toRp) sx13 fu9)))) ?_
   refine And.intro rfl (And.intro (by repeat (first | exact trivial | refine And.intro rfl ?_)) (And.intro (by repeat (first | exact trivial | refine And.intro rfl ?_)) (Exists.intro m11 (And.intro ⟨(IntKind.i64.wrap (u5 + 1)), aM, aN, aI, aO.length, aJ, aO, (wu9 ++ ([[.int .i64 aA, .int .i64 aB]] : List (List Value))), (u9 ++ [(aA, aB)]), rfl, rfl, (sX4.trans sx13), (H0 _), aK, aL, aC, (F2.append (F2.up (r := w4.toRp) sx13 fu9) (show F2 (w4.R k14) ([[.int .i64 aA, .int .i64 aB]] : List (List Value)) [(aA, aB)] from ⟨(P1 aD aF), trivial⟩)), hM1⟩ (Nat.lt_succ_self _)))))
 ·replace hM1 := ifN hM1 hc12
  have hE := Option.some.inj hM1; subst hE
  try dsimp only [K0, N0] at hM0
  intro v22 k23 f24
  obtain ⟨az25, cz25, rfl, rz25, sz25, lz25⟩ := U0.out (r := w4.toRp) f24 fu9
  have hE := Option.some.inj hM0; subst hE
  exact ⟨([.int .i64 u6, .int .i64 u7, .slice au8 u8.length cu8]), az25, u9.length, cz25, rfl, (z0 iu6 iu7 (O0.mono sz25 ru8)), rz25, ((sx1.trans sX4).trans sz25)⟩
theorem P05 (h : Hp) (csp0 : List Value) (p0 : l0) (rp0 : P0.R h csp0 p0) (r : J0) (hM0 : U6 p0 = some r) :
  Tr Tryz.prog 261 #[.agg csp0.toArray] h fun v h' => ∃ (a0 : Option Addr) (n0 c0 : Nat), v = .slice a0 n0 c0 ∧ O0.R h' [.slice a0 n0 c0] r ∧ Sub h h' := by
 obtain ⟨aA, aB, aD, aJ, aF, aC, rfl, rfl, aG, aI, aH⟩ := C0 rp0
 obtain ⟨rfl, aK⟩ := Sl.len aH
 unfold U6 at hM0
 dsimp only at hM0
 refine T2 (args := [.agg #[.int .i64 aA, .int .i64 aB, .slice aD aC.length aF]]) (fn := Tryz.f261) rfl ?_
 obtain ⟨X1, hLX1, hM0⟩ := j0 hM0
 refine Exists.intro { vars := [4], boxes := [], owns := [0], fuel := true } (Exists.intro (fun vs os h' => ∃ (u2 : Int) (wu3 : List (List Value)) (u3 : List F0), vs.tail = [.int .i64 u2] ∧ os = [wu3] ∧ Sub h h' ∧ M0 u2 ∧ F2 (j1.R h') wu3 u3 ∧ C4 aB aA aC (C1 vs) u2 u3 = some X1) (Exists.intro (fun _ _ => 0) ?_))
 refine And.intro (Exists.intro I0 ⟨0, [], ([] : J0), rfl, rfl, (Sub.refl _), (c64 (by decide) (by decide)), (show F2 (j1.R h) ([] : List (List Value)) ([] : J0) from trivial), hLX1⟩) ?_
 rintro v_0 wu3 m5 k4 ⟨u2, zzu3, u3, evX1, eoX1, sX1, iu2, fu3, hM1⟩
 cases evX1
 cases eoX1
 replace hM1 : C4 aB aA aC m5 u2 u3 = some X1 := hM1
 obtain _ | m5 := m5
 ·cases (show (none : Option _) = some X1 from hM1)
 rw [C4.eq_2] at hM1
 obtain ⟨x6, gx6, hM1⟩ := j0 hM1
 refine Exists.intro (.bool x6) (And.intro (fun q => F00 _ [.int .i64 aA, .int .i64 aB, .slice aD aC.length aF] (aA, aB, aC) (z0 aG aI (O0.mono sX1 aH)) _  (G2 gx6 q)) ?_)
 refine And.intro (fun hc7 => ?_) (fun hc7 => ?_)
 ·replace hM1 := ifP hM1 hc7
  obtain ⟨x8, gx8, hM1⟩ := j0 hM1
  refine Tr.mono (J03 _ aA aG _  gx8) ?_
  rintro v10 k9 ⟨ax8, nx8, cx8, rfl, rx8, sx8⟩
  obtain ⟨rfl, lx8⟩ := Sl.len rx8
  obtain ⟨X11, hLX11, hM1⟩ := j0 hM1
  refine Exists.intro { vars := [6], boxes := [], owns := [0], fuel := true } (Exists.intro (fun vs os h' => ∃ (u12 : Int) (wu13 : List (List Value)) (u13 : List F0), vs.tail = [.int .i64 u12] ∧ os = [wu13] ∧ Sub k9 h' ∧ M0 u12 ∧ F2 (j1.R h') wu13 u13 ∧ O2 x8 aA aB aC u2 (C1 vs) u12 u13 = some X11) (Exists.intro (fun _ _ => 0) ?_))
  refine And.intro (Exists.intro I0 ⟨0, wu3, u3, rfl, rfl, (Sub.refl _), (c64 (by decide) (by decide)), (F2.up (r := j1.toRp) sx8 fu3), hLX11⟩) ?_
  rintro v_0 wu13 m15 k14 ⟨u12, zzu13, u13, evX11, eoX11, sX11, iu12, fu13, hM2⟩
  cases evX11
  cases eoX11
  replace hM2 : O2 x8 aA aB aC u2 m15 u12 u13 = some X11 := hM2
  obtain _ | m15 := m15
  ·cases (show (none : Option _) = some X11 from hM2)
  rw [O2.eq_2] at hM2
  refine And.intro (fun hc16 => ?_) (fun hc16 => ?_)
  ·replace hM2 := ifP hM2 hc16
   refine Or.inl (And.intro (And.intro (by kernel_rfl) (by kernel_rfl)) ?_)
   obtain ⟨x17, gx17, hM2⟩ := j0 hM2
   obtain ⟨bx17, csx17, ex17, rx17⟩ := Sl.getI (r := Wp.int.toRp) (Q0.mono sX11 rx8) gx17 (by decide)
   refine And.intro bx17 ?_
   obtain ⟨rfl, ix17⟩ := rx17
   refine Exists.intro _ (And.intro ex17 ?_)
   obtain ⟨x18, gx18, hM2⟩ := j0 hM2
   refine Exists.intro (.int .i64 x18) (And.intro (j01 _ [.int .i64 aA, .int .i64 aB, .slice aD aC.length aF] (aA, aB, aC) (z0 aG aI (O0.mono ((sX1.trans sx8).trans sX11) aH)) u2 iu2 x17 ix17 _  gx18) ?_)
   obtain ⟨q19, gq19, hM2⟩ := j0 hM2
   have ix18 : M0 x18 := T0 gq19
   refine And.intro (fun hc20 => ?_) (fun hc20 => ?_)
   ·replace hM2 := ifP hM2 hc20
    obtain ⟨x21, gx21, hM2⟩ := j0 hM2
    obtain ⟨bx21, csx21, ex21, rx21⟩ := Sl.getI (r := Wp.int.toRp) (Q0.mono sX11 rx8) gx21 (by decide)
    refine And.intro bx21 ?_
    obtain ⟨rfl, ix21⟩ := rx21
    refine Exists.intro _ (And.intro ex21 ?_)
    obtain ⟨q22, gq22, hM2⟩ := j0 hM2
    refine And.intro (E1 gq22 (by first | rw [F2.length fu13, F2.length (show F2 (j1.R k14) ([[.int .i64 u2, .int .i64 x21, .int .i64 (-1)]] : List (List Value)) [(u2, x21, (-1))] from ⟨(K1 iu2 ix21 (c64 (by decide) (by decide))), trivial⟩)] | exact congrArg (· + 1) (F2.length fu13))) ?_
    refine And.intro rfl (And.intro (by repeat (first | exact trivial | refine And.intro rfl ?_)) (And.intro (by repeat (first | exact trivial | refine And.intro rfl ?_)) (Exists.intro m15 (And.intro ⟨(IntKind.i64.wrap (u12 + 1)), (wu13 ++ ([[.int .i64 u2, .int .i64 x21, .int .i64 (-1)]] : List (List Value))), (u13 ++ [(u2, x21, (-1))]), rfl, rfl, sX11, (H0 _), (F2.append fu13 (show F2 (j1.R k14) ([[.int .i64 u2, .int .i64 x21, .int .i64 (-1)]] : List (List Value)) [(u2, x21, (-1))] from ⟨(K1 iu2 ix21 (c64 (by decide) (by decide))), trivial⟩)), hM2⟩ (Nat.lt_succ_self _)))))
   ·replace hM2 := ifN hM2 hc20
    refine And.intro rfl (And.intro (by repeat (first | exact trivial | refine And.intro rfl ?_)) (And.intro (by repeat (first | exact trivial | refine And.intro rfl ?_)) (Exists.intro m15 (And.intro ⟨(IntKind.i64.wrap (u12 + 1)), wu13, u13, rfl, rfl, sX11, (H0 _), fu13, hM2⟩ (Nat.lt_succ_self _)))))
  ·replace hM2 := ifN hM2 hc16
   have hE := Option.some.inj hM2; subst hE
   try dsimp only [K0, N0] at hM1
   refine And.intro rfl (And.intro (by repeat (first | exact trivial | refine And.intro rfl ?_)) (And.intro (by repeat (first | exact trivial | refine And.intro rfl ?_)) (Exists.intro m5 (And.intro ⟨(IntKind.i64.wrap (u2 + 1)), wu13, u13, rfl, rfl, ((sX1.trans sx8).trans sX11), (H0 _), fu13, hM1⟩ (Nat.lt_succ_self _)))))
 ·replace hM1 := ifN hM1 hc7
  have hE := Option.some.inj hM1; subst hE
  try dsimp only [K0, N0] at hM0
  intro v27 k28 f29
  obtain ⟨az30, cz30, rfl, rz30, sz30, lz30⟩ := U0.out (r := j1.toRp) f29 fu3
  have hE := Option.some.inj hM0; subst hE
  exact ⟨az30, u3.length, cz30, rfl, rz30, (sX1.trans sz30)⟩
end Go.Proofs.YtknoadmdnjaocaaGreat
namespace Go.Proofs.YtknoadmdnjaocaaGreat
open Go.H
set_option linter.unusedVariables false
set_option linter.unusedSimpArgs false
set_option maxRecDepth 10000
theorem K08 (h : Hp) (csp0 : List Value) (p0 : l0) (rp0 : P0.R h csp0 p0) (r : l0 × D0) (hM0 : c9 p0 = some r) :
  Tr Tryz.prog 256 #[.agg csp0.toArray] h fun v h' => ∃ (cs0 : List Value) (a1 : Option Addr) (n1 c1 : Nat), v = .tuple #[.agg cs0.toArray, .slice a1 n1 c1] ∧ P0.R h' cs0 r.1 ∧ Q0.R h' [.slice a1 n1 c1] r.2 ∧ Sub h h' := by
 obtain ⟨aA, aB, aF, bD, aG, aD, rfl, rfl, aI, aJ, aH⟩ := C0 rp0
 obtain ⟨rfl, bE⟩ := Sl.len aH
 unfold c9 at hM0
 dsimp only at hM0
 refine T2 (args := [.agg #[.int .i64 aA, .int .i64 aB, .slice aF aD.length aG]]) (fn := Tryz.f256) rfl ?_
 obtain ⟨x1, gx1, hM0⟩ := j0 hM0
 refine Tr.mono (h8 _ [.int .i64 aA, .int .i64 aB, .slice aF aD.length aG] (aA, aB, aD) (z0 aI aJ aH) _  gx1) ?_
 rintro v3 k2 ⟨csx1, rfl, rx1, sx1⟩
 obtain ⟨bA, bB, aT, bF, aU, bC, rfl, rfl, aV, aW, aS⟩ := C0 rx1
 obtain ⟨rfl, bG⟩ := Sl.len aS
 try dsimp only at hM0
 obtain ⟨X4, hLX4, hM0⟩ := j0 hM0
 refine Exists.intro { vars := [6], boxes := [], owns := [0], fuel := true } (Exists.intro (fun vs os h' => ∃ (u5 : Int) (wu6 : List (List Value)) (u6 : List Int), vs.tail = [.int .i64 u5] ∧ os = [wu6] ∧ Sub k2 h' ∧ M0 u5 ∧ F2 (Wp.int.R h') wu6 u6 ∧ s5 aB aA aD (C1 vs) u5 u6 = some X4) (Exists.intro (fun _ _ => 0) ?_))
 refine And.intro (Exists.intro I0 ⟨0, [], ([] : D0), rfl, rfl, (Sub.refl _), (c64 (by decide) (by decide)), (show F2 (Wp.int.R k2) ([] : List (List Value)) ([] : D0) from trivial), hLX4⟩) ?_
 rintro v_0 wu6 m8 k7 ⟨u5, zzu6, u6, evX4, eoX4, sX4, iu5, fu6, hM1⟩
 cases evX4
 cases eoX4
 replace hM1 : s5 aB aA aD m8 u5 u6 = some X4 := hM1
 obtain _ | m8 := m8
 ·cases (show (none : Option _) = some X4 from hM1)
 rw [s5.eq_2] at hM1
 obtain ⟨x9, gx9, hM1⟩ := j0 hM1
 refine Exists.intro (.bool x9) (And.intro (fun q => O7 _ [.int .i64 aA, .int .i64 aB, .slice aF aD.length aG] (aA, aB, aD) (z0 aI aJ (O0.mono (sx1.trans sX4) aH)) _  (G2 gx9 q)) ?_)
 refine And.intro (fun hc10 => ?_) (fun hc10 => ?_)
 ·replace hM1 := ifP hM1 hc10
  obtain ⟨q11, gq11, hM1⟩ := j0 hM1
  refine And.intro (E1 gq11 (by first | rw [F2.length fu6, F2.length (show F2 (Wp.int.R k7) ([[.int .i64 u5]] : List (List Value)) [u5] from ⟨⟨rfl, iu5⟩, trivial⟩)] | exact congrArg (· + 1) (F2.length fu6))) ?_
  refine And.intro rfl (And.intro (by repeat (first | exact trivial | refine And.intro rfl ?_)) (And.intro (by repeat (first | exact trivial | refine And.intro rfl ?_)) (Exists.intro m8 (And.intro ⟨(IntKind.i64.wrap (u5 + 1)), (wu6 ++ ([[.int .i64 u5]] : List (List Value))), (u6 ++ [u5]), rfl, rfl, sX4, (H0 _), (F2.append fu6 (show F2 (Wp.int.R k7) ([[.int .i64 u5]] : List (List Value)) [u5] from ⟨⟨rfl, iu5⟩, trivial⟩)), hM1⟩ (Nat.lt_succ_self _)))))
 ·replace hM1 := ifN hM1 hc10
  have hE := Option.some.inj hM1; subst hE
  try dsimp only [K0, N0] at hM0
  obtain ⟨X16, hLX16, hM0⟩ := j0 hM0
  refine Exists.intro { vars := [5, 7], boxes := [2], owns := [], fuel := true, pubs := [5] } (Exists.intro (fun vs os h' => ∃ (au17 : Option Addr) (nu17 cu17 : Nat) (u17 : D0) (u18 : Int) (u19 : Int) (u20 : Int) (au21 : Option Addr) (nu21 cu21 : Nat) (u21 : J0), vs.tail = [.slice au17 nu17 cu17, .int .i64 u18, .int .i64 u19, .int .i64 u20, .slice au21 nu21 cu21] ∧ os = [] ∧ Sub k7 h' ∧ Q0.R h' [.slice au17 nu17 cu17] u17 ∧ M0 u18 ∧ M0 u19 ∧ M0 u20 ∧ O0.R h' [.slice au21 nu21 cu21] u21 ∧ p5 aA aB aD (C1 vs) u17 u18 u19 u20 u21 = some X16) (Exists.intro (fun _ _ => 0) ?_))
  intro v12 k13 f14
  obtain ⟨az15, cz15, rfl, rz15, sz15, lz15⟩ := U0.out (r := Wp.int.toRp) f14 fu6
  refine And.intro (Exists.intro I0 ⟨az15, u6.length, cz15, u6, 0, bA, bB, aT, bC.length, aU, bC, rfl, rfl, sz15, rz15, (c64 (by decide) (by decide)), aV, aW, (O0.mono (sX4.trans sz15) aS), hLX16⟩) ?_
  rintro v_0 v_1 v_2 v_3 v_4 m23 k22 ⟨au17, nu17, cu17, u17, u18, u19, u20, au21, nu21, cu21, u21, evX16, eoX16, sX16, ru17, iu18, iu19, iu20, ru21, hM1⟩
  cases evX16
  cases eoX16
  replace hM1 : p5 aA aB aD m23 u17 u18 u19 u20 u21 = some X16 := hM1
  obtain _ | m23 := m23
  ·cases (show (none : Option _) = some X16 from hM1)
  rw [p5.eq_2] at hM1
  obtain ⟨rfl, lu17⟩ := Sl.len ru17
  obtain ⟨rfl, lu21⟩ := Sl.len ru21
  obtain ⟨x24, gx24, hM1⟩ := j0 hM1
  refine Exists.intro (.bool x24) (And.intro (fun q => O7 _ [.int .i64 aA, .int .i64 aB, .slice aF aD.length aG] (aA, aB, aD) (z0 aI aJ (O0.mono ((sx1.trans sX4).trans sX16) aH)) _  (G2 gx24 q)) ?_)
  refine And.intro (fun hc25 => ?_) (fun hc25 => ?_)
  ·replace hM1 := ifP hM1 hc25
   obtain ⟨x26, gx26, hM1⟩ := j0 hM1
   refine Tr.val (j06 _ [.int .i64 u19, .int .i64 u20, .slice au21 u21.length cu21] (u19, u20, u21) (z0 iu19 iu20 ru21) _  gx26) ?_
   obtain ⟨q27, gq27, hM1⟩ := j0 hM1
   have ix26 : M0 x26 := T0 gq27
   refine And.intro (fun hc28 => ?_) (fun hc28 => ?_)
   ·replace hM1 := ifP hM1 hc28
    have hE := Option.some.inj hM1; subst hE
    try dsimp only [j4, l4] at hM0
    have hE := Option.some.inj hM0; subst hE
    exact ⟨([.int .i64 u19, .int .i64 u20, .slice au21 u21.length cu21]), au17, u17.length, cu17, rfl, (z0 iu19 iu20 ru21), ru17, ((sx1.trans sX4).trans sX16)⟩
   ·replace hM1 := ifN hM1 hc28
    obtain ⟨X29, hLX29, hM1⟩ := j0 hM1
    refine Exists.intro { vars := [11], boxes := [], owns := [1, 2], fuel := true } (Exists.intro (fun vs os h' => ∃ (u30 : Int) (wu31 : List (List Value)) (u31 : List Int) (wu32 : List (List Value)) (u32 : List Int), vs.tail = [.int .i64 u30] ∧ os = [wu31, wu32] ∧ Sub k22 h' ∧ M0 u30 ∧ F2 (Wp.int.R h') wu31 u31 ∧ F2 (Wp.int.R h') wu32 u32 ∧ P4 u20 x26 u17 (C1 vs) u30 u31 u32 = some X29) (Exists.intro (fun _ _ => 0) ?_))
    refine And.intro (Exists.intro I0 ⟨0, [], ([] : D0), [], ([] : D0), rfl, rfl, (Sub.refl _), (c64 (by decide) (by decide)), (show F2 (Wp.int.R k22) ([] : List (List Value)) ([] : D0) from trivial), (show F2 (Wp.int.R k22) ([] : List (List Value)) ([] : D0) from trivial), hLX29⟩) ?_
    rintro v_0 wu31 wu32 m34 k33 ⟨u30, zzu31, u31, zzu32, u32, evX29, eoX29, sX29, iu30, fu31, fu32, hM2⟩
    cases evX29
    cases eoX29
    replace hM2 : P4 u20 x26 u17 m34 u30 u31 u32 = some X29 := hM2
    obtain _ | m34 := m34
    ·cases (show (none : Option _) = some X29 from hM2)
    rw [P4.eq_2] at hM2
    refine And.intro (fun hc35 => ?_) (fun hc35 => ?_)
    ·replace hM2 := ifP hM2 hc35
     refine And.intro (fun hc36 => ?_) (fun hc36 => ?_)
     ·replace hM2 := ifP hM2 hc36
      obtain ⟨q37, gq37, hM2⟩ := j0 hM2
      refine And.intro (E1 gq37 (by first | rw [F2.length fu31, F2.length (show F2 (Wp.int.R k33) ([[.int .i64 u30]] : List (List Value)) [u30] from ⟨⟨rfl, iu30⟩, trivial⟩)] | exact congrArg (· + 1) (F2.length fu31))) ?_
      obtain ⟨x38, gx38, hM2⟩ := j0 hM2
      obtain ⟨bx38, csx38, ex38, rx38⟩ := Sl.getI (r := Wp.int.toRp) (Q0.mono sX29 ru17) gx38 (by decide)
      refine And.intro bx38 ?_
      obtain ⟨rfl, ix38⟩ := rx38
      refine Exists.intro _ (And.intro ex38 ?_)
      obtain ⟨q39, gq39, hM2⟩ := j0 hM2
      refine And.intro (E1 gq39 (by first | rw [F2.length fu32, F2.length (show F2 (Wp.int.R k33) ([[.int .i64 x38]] : List (List Value)) [x38] from ⟨⟨rfl, ix38⟩, trivial⟩)] | exact congrArg (· + 1) (F2.length fu32))) ?_
      refine And.intro rfl (And.intro (by repeat (first | exact trivial | refine And.intro rfl ?_)) (And.intro (by repeat (first | exact trivial | refine And.intro rfl ?_)) (Exists.intro m34 (And.intro ⟨(IntKind.i64.wrap (u30 + 1)), (wu31 ++ ([[.int .i64 u30]] : List (List Value))), (u31 ++ [u30]), (wu32 ++ ([[.int .i64 x38]] : List (List Value))), (u32 ++ [x38]), rfl, rfl, sX29, (H0 _), (F2.append fu31 (show F2 (Wp.int.R k33) ([[.int .i64 u30]] : List (List Value)) [u30] from ⟨⟨rfl, iu30⟩, trivial⟩)), (F2.append fu32 (show F2 (Wp.int.R k33) ([[.int .i64 x38]] : List (List Value)) [x38] from ⟨⟨rfl, ix38⟩, trivial⟩)), hM2⟩ (Nat.lt_succ_self _)))))
     ·replace hM2 := ifN hM2 hc36
      refine And.intro rfl (And.intro (by repeat (first | exact trivial | refine And.intro rfl ?_)) (And.intro (by repeat (first | exact trivial | refine And.intro rfl ?_)) (Exists.intro m34 (And.intro ⟨(IntKind.i64.wrap (u30 + 1)), wu31, u31, wu32, u32, rfl, rfl, sX29, (H0 _), fu31, fu32, hM2⟩ (Nat.lt_succ_self _)))))
    ·replace hM2 := ifN hM2 hc35
     have hE := Option.some.inj hM2; subst hE
     try dsimp only [K0, N0] at hM1
     refine Or.inl ?_
     intro v40 k41 f42
     obtain ⟨az43, cz43, rfl, rz43, sz43, lz43⟩ := U0.out (r := Wp.int.toRp) f42 fu31
     obtain ⟨x44, gx44, hM1⟩ := j0 hM1
     refine Tr.mono (f00 _ [.int .i64 u19, .int .i64 u20, .slice au21 u21.length cu21] (u19, u20, u21) (z0 iu19 iu20 (O0.mono (sX29.trans sz43) ru21)) az43 u31.length cz43 u31 rz43 _  gx44) ?_
     rintro v46 k45 ⟨aZ, rfl, aK, sx44⟩
     obtain ⟨bH, bI⟩ := x44
     dsimp only at hM1 aK
     obtain ⟨aP, aQ, aL, aX, aM, aR, rfl, rfl, aN, aO, aC⟩ := C0 aK
     obtain ⟨rfl, aY⟩ := Sl.len aC
     try dsimp only at hM1
     intro v47 k48 f49
     obtain ⟨az50, cz50, rfl, rz50, sz50, lz50⟩ := U0.out (r := Wp.int.toRp) f49 (F2.up (r := Wp.int.toRp) (sz43.trans sx44) fu32)
     refine And.intro rfl (And.intro (by repeat (first | exact trivial | refine And.intro rfl ?_)) (And.intro (by repeat (first | exact trivial | refine And.intro rfl ?_)) (Exists.intro m23 (And.intro ⟨az50, u32.length, cz50, u32, (IntKind.i64.wrap (u18 + 1)), aP, aQ, aL, aR.length, aM, aR, rfl, rfl, ((((sX16.trans sX29).trans sz43).trans sx44).trans sz50), rz50, (H0 _), aN, aO, (O0.mono sz50 aC), hM1⟩ (Nat.lt_succ_self _)))))
  ·replace hM1 := ifN hM1 hc25
   have hE := Option.some.inj hM1; subst hE
   try dsimp only [K0, N0] at hM0
   have hE := Option.some.inj hM0; subst hE
   exact ⟨([.int .i64 u19, .int .i64 u20, .slice au21 u21.length cu21]), au17, u17.length, cu17, rfl, (z0 iu19 iu20 ru21), ru17, ((sx1.trans sX4).trans sX16)⟩
theorem L08 (h : Hp) (csp0 : List Value) (p0 : l0) (rp0 : P0.R h csp0 p0) (r : l0) (hM0 : d9 p0 = some r) :
  Tr Tryz.prog 173 #[.agg csp0.toArray] h fun v h' => ∃ (cs0 : List Value), v = .agg cs0.toArray ∧ P0.R h' cs0 r ∧ Sub h h' := by
 obtain ⟨aX, aY, aP, bQ, aQ, bL, rfl, rfl, bB, bC, aR⟩ := C0 rp0
 obtain ⟨rfl, bR⟩ := Sl.len aR
 unfold d9 at hM0
 dsimp only at hM0
 refine T2 (args := [.agg #[.int .i64 aX, .int .i64 aY, .slice aP bL.length aQ]]) (fn := Tryz.f173) rfl ?_
 obtain ⟨x1, gx1, hM0⟩ := j0 hM0
 refine Tr.mono (z0b _ [.int .i64 aX, .int .i64 aY, .slice aP bL.length aQ] (aX, aY, bL) (z0 bB bC aR) _  gx1) ?_
 rintro v3 k2 ⟨bM, bS, bT, bU, rfl, aS, aT, sx1⟩
 obtain ⟨cD, cE⟩ := x1
 dsimp only at hM0 aS aT
 obtain ⟨aC, aD, aH, bH, aI, aZ, rfl, rfl, aJ, aK, aA⟩ := C0 aS
 obtain ⟨rfl, bI⟩ := Sl.len aA
 try dsimp only at hM0
 obtain ⟨rfl, bV⟩ := Sl.len aT
 obtain ⟨x4, gx4, hM0⟩ := j0 hM0
 refine Tr.mono (K08 _ [.int .i64 aC, .int .i64 aD, .slice aH aZ.length aI] (aC, aD, aZ) (z0 aJ aK aA) _  gx4) ?_
 rintro v6 k5 ⟨bN, bW, bX, bY, rfl, aU, aV, sx4⟩
 obtain ⟨cG, cH⟩ := x4
 dsimp only at hM0 aU aV
 obtain ⟨aF, aG, aL, bJ, aM, bA, rfl, rfl, aN, aO, aB⟩ := C0 aU
 obtain ⟨rfl, bK⟩ := Sl.len aB
 try dsimp only at hM0
 obtain ⟨rfl, bZ⟩ := Sl.len aV
 obtain ⟨x7, gx7, hM0⟩ := j0 hM0
 refine Tr.mono (o01 _ [.int .i64 aF, .int .i64 aG, .slice aL bA.length aM] (aF, aG, bA) (z0 aN aO aB) _  gx7) ?_
 rintro v9 k8 ⟨csx7, rfl, rx7, sx7⟩
 obtain ⟨bO, bP, bD, cA, bE, cI, rfl, rfl, bF, bG, aW⟩ := C0 rx7
 obtain ⟨rfl, cC⟩ := Sl.len aW
 try dsimp only at hM0
 have hE := Option.some.inj hM0; subst hE
 exact ⟨([.int .i64 bO, .int .i64 bP, .slice bD cI.length bE]), rfl, (z0 bF bG aW), ((sx1.trans sx4).trans sx7)⟩
end Go.Proofs.YtknoadmdnjaocaaGreat
namespace Go.Proofs.YtknoadmdnjaocaaGreat
open Go.H
set_option linter.unusedVariables false
set_option linter.unusedSimpArgs false
set_option maxRecDepth 10000
theorem O01 (h : Hp) (csp0 : List Value) (p0 : l0) (rp0 : P0.R h csp0 p0) (r : Bool) (hM0 : E6 p0 = some r) :
  Tr Tryz.prog 181 #[.agg csp0.toArray] h fun v h' => v = .bool r ∧ h' = h := by
 obtain ⟨aA, aB, aC, aJ, aD, aI, rfl, rfl, aG, aH, aF⟩ := C0 rp0
 obtain ⟨rfl, aK⟩ := Sl.len aF
 unfold E6 at hM0
 dsimp only at hM0
 refine Tr.forget (T2 (args := [.agg #[.int .i64 aA, .int .i64 aB, .slice aC aI.length aD]]) (fn := Tryz.f181) rfl ?_)
 refine And.intro (by kernel_rfl) ?_
 obtain ⟨x1, gx1, hM0⟩ := j0 hM0
 refine Or.inl (Exists.intro (.val (.bool x1)) (And.intro ?_ ?_))
 ·intro k2 s3
  exact Tr.val (J07 _ [.int .i64 aA, .int .i64 aB, .slice aC aI.length aD] (aA, aB, aI) (z0 aG aH (O0.mono s3 aF)) _ gx1) (And.intro rfl (And.intro rfl rfl))
 obtain ⟨x4, gx4, hM0⟩ := j0 hM0
 refine Or.inr (Exists.intro (fun v hh => ∃ (a : Option Addr) (c : Nat), v = .slice a x4.length c ∧ O0.R hh [.slice a x4.length c] x4 ∧ x4.length ≤ 9223372036854775807) (And.intro (fun v h1 h2 sb q => by obtain ⟨a, c, e, r, l⟩ := q; exact ⟨a, c, e, O0.mono sb r, l⟩) (And.intro ?_ ?_)))
 ·intro k5 s6 hq
  refine Tr.mono (P05 _ [.int .i64 aA, .int .i64 aB, .slice aC aI.length aD] (aA, aB, aI) (z0 aG aH (O0.mono s6 aF)) _ (G2 gx4 hq)) ?_
  rintro _ kk ⟨ax4, nx4, cx4, rfl, rx4, sb⟩
  obtain ⟨rfl, lx4⟩ := Sl.len rx4
  exact And.intro g09 (And.intro sb ⟨ax4, cx4, rfl, rx4, lx4⟩)
 obtain ⟨q7, gq7, hM0⟩ := j0 hM0
 refine Or.inl (Exists.intro (.val (.int .i64 ((x4.length : Nat) : Int))) (And.intro ?_ ?_))
 ·intro k8 s9 hq
  rintro _ ⟨az10, cz10, rfl, rz10, lz10⟩
  exact And.intro rfl (And.intro rfl rfl)
 refine Or.inl (Exists.intro (.val (.bool (decide (((x4.length : Nat) : Int) = 0)))) (And.intro ?_ ?_))
 ·intro k11 s12 hq
  exact And.intro rfl (And.intro rfl rfl)
 intro k13 s14
 have hE := Option.some.inj hM0; subst hE
 exact And.intro rfl s14
theorem C09 (h : Hp) (csp0 : List Value) (p0 : l0) (rp0 : P0.R h csp0 p0) (p1 : Int) (ip1 : M0 p1) (r : l0 × Bool) (hM0 : C9 p0 p1 = some r) :
  Tr Tryz.prog 186 #[.agg csp0.toArray, .int .i64 p1] h fun v h' => ∃ (cs0 : List Value), v = .tuple #[.agg cs0.toArray, .bool r.2] ∧ P0.R h' cs0 r.1 ∧ Sub h h' := by
 obtain ⟨aC, aA, aD, bL, aF, aT, rfl, rfl, aJ, aK, aG⟩ := C0 rp0
 obtain ⟨rfl, bM⟩ := Sl.len aG
 unfold C9 at hM0
 dsimp only at hM0
 refine T2 (args := [.agg #[.int .i64 aC, .int .i64 aA, .slice aD aT.length aF], .int .i64 p1]) (fn := Tryz.f186) rfl ?_
 obtain ⟨x1, gx1, hM0⟩ := j0 hM0
 refine Tr.val (F00 _ [.int .i64 aC, .int .i64 aA, .slice aD aT.length aF] (aC, aA, aT) (z0 aJ aK aG) _  gx1) ?_
 obtain ⟨x2, gx2, hM0⟩ := j0 hM0
 refine Exists.intro (.bool x2) (And.intro (fun q => N8 _ p1 ip1 0 (c64 (by decide) (by decide)) (IntKind.i64.wrap (aA - 1)) (H0 _) _  (G2 gx2 q)) ?_)
 refine And.intro (fun hc3 => ?_) (fun hc3 => ?_)
 ·replace hM0 := ifP hM0 hc3
  obtain ⟨x4, gx4, hM0⟩ := j0 hM0
  refine Tr.mono (h8 _ [.int .i64 aC, .int .i64 aA, .slice aD aT.length aF] (aC, aA, aT) (z0 aJ aK aG) _  gx4) ?_
  rintro v6 k5 ⟨csx4, rfl, rx4, sx4⟩
  obtain ⟨bH, bI, aY, bN, aZ, bS, rfl, rfl, bA, bB, aS⟩ := C0 rx4
  obtain ⟨rfl, bO⟩ := Sl.len aS
  try dsimp only at hM0
  have hE := Option.some.inj hM0; subst hE
  exact ⟨([.int .i64 bH, .int .i64 bI, .slice aY bS.length aZ]), rfl, (z0 bA bB aS), sx4⟩
 ·replace hM0 := ifN hM0 hc3
  obtain ⟨X7, hLX7, hM0⟩ := j0 hM0
  refine Exists.intro { vars := [7], boxes := [], owns := [0], fuel := true } (Exists.intro (fun vs os h' => ∃ (u8 : Int) (wu9 : List (List Value)) (u9 : List Int), vs.tail = [.int .i64 u8] ∧ os = [wu9] ∧ Sub h h' ∧ M0 u8 ∧ F2 (Wp.int.R h') wu9 u9 ∧ T3 aA p1 (C1 vs) u8 u9 = some X7) (Exists.intro (fun _ _ => 0) ?_))
  refine And.intro (Exists.intro I0 ⟨0, ([[.int .i64 p1]] : List (List Value)), [p1], rfl, rfl, (Sub.refl _), (c64 (by decide) (by decide)), (show F2 (Wp.int.R h) ([[.int .i64 p1]] : List (List Value)) [p1] from ⟨⟨rfl, ip1⟩, trivial⟩), hLX7⟩) ?_
  rintro v_0 wu9 m11 k10 ⟨u8, zzu9, u9, evX7, eoX7, sX7, iu8, fu9, hM1⟩
  cases evX7
  cases eoX7
  replace hM1 : T3 aA p1 m11 u8 u9 = some X7 := hM1
  obtain _ | m11 := m11
  ·cases (show (none : Option _) = some X7 from hM1)
  rw [T3.eq_2] at hM1
  refine And.intro (fun hc12 => ?_) (fun hc12 => ?_)
  ·replace hM1 := ifP hM1 hc12
   refine And.intro (fun hc13 => ?_) (fun hc13 => ?_)
   ·replace hM1 := ifP hM1 hc13
    obtain ⟨q14, gq14, hM1⟩ := j0 hM1
    refine And.intro (E1 gq14 (by first | rw [F2.length fu9, F2.length (show F2 (Wp.int.R k10) ([[.int .i64 u8]] : List (List Value)) [u8] from ⟨⟨rfl, iu8⟩, trivial⟩)] | exact congrArg (· + 1) (F2.length fu9))) ?_
    refine And.intro rfl (And.intro (by repeat (first | exact trivial | refine And.intro rfl ?_)) (And.intro (by repeat (first | exact trivial | refine And.intro rfl ?_)) (Exists.intro m11 (And.intro ⟨(IntKind.i64.wrap (u8 + 1)), (wu9 ++ ([[.int .i64 u8]] : List (List Value))), (u9 ++ [u8]), rfl, rfl, sX7, (H0 _), (F2.append fu9 (show F2 (Wp.int.R k10) ([[.int .i64 u8]] : List (List Value)) [u8] from ⟨⟨rfl, iu8⟩, trivial⟩)), hM1⟩ (Nat.lt_succ_self _)))))
   ·replace hM1 := ifN hM1 hc13
    refine And.intro rfl (And.intro (by repeat (first | exact trivial | refine And.intro rfl ?_)) (And.intro (by repeat (first | exact trivial | refine And.intro rfl ?_)) (Exists.intro m11 (And.intro ⟨(IntKind.i64.wrap (u8 + 1)), wu9, u9, rfl, rfl, sX7, (H0 _), fu9, hM1⟩ (Nat.lt_succ_self _)))))
  ·replace hM1 := ifN hM1 hc12
   have hE := Option.some.inj hM1; subst hE
   try dsimp only [K0, N0] at hM0
   refine Or.inl ?_
   intro v15 k16 f17
   obtain ⟨az18, cz18, rfl, rz18, sz18, lz18⟩ := U0.out (r := Wp.int.toRp) f17 fu9
   obtain ⟨x19, gx19, hM0⟩ := j0 hM0
   refine Tr.mono (f00 _ [.int .i64 aC, .int .i64 aA, .slice aD aT.length aF] (aC, aA, aT) (z0 aJ aK (O0.mono (sX7.trans sz18) aG)) az18 u9.length cz18 u9 rz18 _  gx19) ?_
   rintro v21 k20 ⟨bG, rfl, aL, sx19⟩
   obtain ⟨bP, bQ⟩ := x19
   dsimp only at hM0 aL
   obtain ⟨aH, aI, aM, bC, aN, aR, rfl, rfl, aO, aP, aB⟩ := C0 aL
   obtain ⟨rfl, bD⟩ := Sl.len aB
   try dsimp only at hM0
   obtain ⟨x22, gx22, hM0⟩ := j0 hM0
   refine Tr.mono (L08 _ [.int .i64 aH, .int .i64 aI, .slice aM aR.length aN] (aH, aI, aR) (z0 aO aP aB) _  gx22) ?_
   rintro v24 k23 ⟨csx22, rfl, rx22, sx22⟩
   obtain ⟨bE, bF, aU, bJ, aV, bR, rfl, rfl, aW, aX, aQ⟩ := C0 rx22
   obtain ⟨rfl, bK⟩ := Sl.len aQ
   try dsimp only at hM0
   have hE := Option.some.inj hM0; subst hE
   exact ⟨([.int .i64 bE, .int .i64 bF, .slice aU bR.length aV]), rfl, (z0 aW aX aQ), (((sX7.trans sz18).trans sx19).trans sx22)⟩
end Go.Proofs.YtknoadmdnjaocaaGreat
namespace Go.Proofs.YtknoadmdnjaocaaGreat
open Go.H
set_option linter.unusedVariables false
set_option linter.unusedSimpArgs false
set_option maxRecDepth 10000
set_option maxHeartbeats 0
theorem r04 (h : Hp) (csp0 : List Value) (p0 : l0) (rp0 : P0.R h csp0 p0) (r : Z2) (hM0 : T7 p0 = some r) :
  Tr Tryz.prog 102 #[.agg csp0.toArray] h fun v h' => ∃ (a0 : Option Addr) (n0 c0 : Nat), v = .slice a0 n0 c0 ∧ a04.R h' [.slice a0 n0 c0] r ∧ Sub h h' := by
 obtain ⟨aA, aB, aD, aJ, aF, aC, rfl, rfl, aH, aI, aG⟩ := C0 rp0
 obtain ⟨rfl, aK⟩ := Sl.len aG
 unfold T7 at hM0
 dsimp only at hM0
 refine T2 (args := [.agg #[.int .i64 aA, .int .i64 aB, .slice aD aC.length aF]]) (fn := Tryz.f102) rfl ?_
 obtain ⟨X1, hLX1, hM0⟩ := j0 hM0
 refine Exists.intro { vars := [4], boxes := [], owns := [0], fuel := true } (Exists.intro (fun vs os h' => ∃ (u2 : Int) (wu3 : List (List Value)) (u3 : List D0), vs.tail = [.int .i64 u2] ∧ os = [wu3] ∧ Sub h h' ∧ M0 u2 ∧ F2 (Q0.R h') wu3 u3 ∧ i5 aA aB aC (C1 vs) u2 u3 = some X1) (Exists.intro (fun _ _ => 0) ?_))
 refine And.intro (Exists.intro I0 ⟨1, [], ([] : Z2), rfl, rfl, (Sub.refl _), (c64 (by decide) (by decide)), (show F2 (Q0.R h) ([] : List (List Value)) ([] : Z2) from trivial), hLX1⟩) ?_
 rintro v_0 wu3 m5 k4 ⟨u2, zzu3, u3, evX1, eoX1, sX1, iu2, fu3, hM1⟩
 cases evX1
 cases eoX1
 replace hM1 : i5 aA aB aC m5 u2 u3 = some X1 := hM1
 obtain _ | m5 := m5
 ·cases (show (none : Option _) = some X1 from hM1)
 rw [i5.eq_2] at hM1
 obtain ⟨x6, gx6, hM1⟩ := j0 hM1
 refine Exists.intro (.bool x6) (And.intro (fun q => O01 _ [.int .i64 aA, .int .i64 aB, .slice aD aC.length aF] (aA, aB, aC) (z0 aH aI (O0.mono sX1 aG)) _  (G2 gx6 q)) ?_)
 refine And.intro (fun hc7 => ?_) (fun hc7 => ?_)
 ·replace hM1 := ifP hM1 hc7
  obtain ⟨X8, hLX8, hM1⟩ := j0 hM1
  refine Exists.intro { vars := [6], boxes := [], owns := [1], fuel := true } (Exists.intro (fun vs os h' => ∃ (u9 : Int) (wu10 : List (List Value)) (u10 : List Int), vs.tail = [.int .i64 u9] ∧ os = [wu10] ∧ Sub k4 h' ∧ M0 u9 ∧ F2 (Wp.int.R h') wu10 u10 ∧ Q5 aB aA aC u2 (C1 vs) u9 u10 = some X8) (Exists.intro (fun _ _ => 0) ?_))
  refine And.intro (Exists.intro I0 ⟨0, [], ([] : D0), rfl, rfl, (Sub.refl _), (c64 (by decide) (by decide)), (show F2 (Wp.int.R k4) ([] : List (List Value)) ([] : D0) from trivial), hLX8⟩) ?_
  rintro v_0 wu10 m12 k11 ⟨u9, zzu10, u10, evX8, eoX8, sX8, iu9, fu10, hM2⟩
  cases evX8
  cases eoX8
  replace hM2 : Q5 aB aA aC u2 m12 u9 u10 = some X8 := hM2
  obtain _ | m12 := m12
  ·cases (show (none : Option _) = some X8 from hM2)
  rw [Q5.eq_2] at hM2
  refine And.intro (fun hc13 => ?_) (fun hc13 => ?_)
  ·replace hM2 := ifP hM2 hc13
   obtain ⟨x14, gx14, hM2⟩ := j0 hM2
   refine Tr.val (j01 _ [.int .i64 aA, .int .i64 aB, .slice aD aC.length aF] (aA, aB, aC) (z0 aH aI (O0.mono (sX1.trans sX8) aG)) u9 iu9 u2 iu2 _  gx14) ?_
   obtain ⟨q15, gq15, hM2⟩ := j0 hM2
   have ix14 : M0 x14 := T0 gq15
   obtain ⟨q16, gq16, hM2⟩ := j0 hM2
   refine And.intro (E1 gq16 (by first | rw [F2.length fu10, F2.length (show F2 (Wp.int.R k11) ([[.int .i64 x14]] : List (List Value)) [x14] from ⟨⟨rfl, ix14⟩, trivial⟩)] | exact congrArg (· + 1) (F2.length fu10))) ?_
   refine And.intro rfl (And.intro (by repeat (first | exact trivial | refine And.intro rfl ?_)) (And.intro (by repeat (first | exact trivial | refine And.intro rfl ?_)) (Exists.intro m12 (And.intro ⟨(IntKind.i64.wrap (u9 + 1)), (wu10 ++ ([[.int .i64 x14]] : List (List Value))), (u10 ++ [x14]), rfl, rfl, sX8, (H0 _), (F2.append fu10 (show F2 (Wp.int.R k11) ([[.int .i64 x14]] : List (List Value)) [x14] from ⟨⟨rfl, ix14⟩, trivial⟩)), hM2⟩ (Nat.lt_succ_self _)))))
  ·replace hM2 := ifN hM2 hc13
   have hE := Option.some.inj hM2; subst hE
   try dsimp only [K0, N0] at hM1
   intro v17 k18 f19
   obtain ⟨az20, cz20, rfl, rz20, sz20, lz20⟩ := U0.out (r := Wp.int.toRp) f19 fu10
   obtain ⟨q21, gq21, hM1⟩ := j0 hM1
   refine And.intro (E1 gq21 (by first | rw [F2.length (F2.up (r := Q0.toRp) (sX8.trans sz20) fu3), F2.length (show F2 (Q0.R k18) ([[.slice az20 u10.length cz20]] : List (List Value)) [u10] from ⟨rz20, trivial⟩)] | exact congrArg (· + 1) (F2.length (F2.up (r := Q0.toRp) (sX8.trans sz20) fu3)))) ?_
   refine And.intro rfl (And.intro (by repeat (first | exact trivial | refine And.intro rfl ?_)) (And.intro (by repeat (first | exact trivial | refine And.intro rfl ?_)) (Exists.intro m5 (And.intro ⟨(IntKind.i64.wrap (u2 + 1)), (wu3 ++ ([[.slice az20 u10.length cz20]] : List (List Value))), (u3 ++ [u10]), rfl, rfl, ((sX1.trans sX8).trans sz20), (H0 _), (F2.append (F2.up (r := Q0.toRp) (sX8.trans sz20) fu3) (show F2 (Q0.R k18) ([[.slice az20 u10.length cz20]] : List (List Value)) [u10] from ⟨rz20, trivial⟩)), hM1⟩ (Nat.lt_succ_self _)))))
 ·replace hM1 := ifN hM1 hc7
  have hE := Option.some.inj hM1; subst hE
  try dsimp only [K0, N0] at hM0
  intro v31 k32 f33
  obtain ⟨az34, cz34, rfl, rz34, sz34, lz34⟩ := U0.out (r := Q0.toRp) f33 fu3
  have hE := Option.some.inj hM0; subst hE
  exact ⟨az34, u3.length, cz34, rfl, rz34, (sX1.trans sz34)⟩
theorem F02 (h : Hp) (p0 : Int) (ip0 : M0 p0) (r : D0) (hM0 : I4 p0 = some r) :
  Tr Tryz.prog 268 #[.int .i64 p0] h fun v h' => ∃ (a0 : Option Addr) (n0 c0 : Nat), v = .slice a0 n0 c0 ∧ Q0.R h' [.slice a0 n0 c0] r ∧ Sub h h' := by
 unfold I4 at hM0
 refine T2 (args := [.int .i64 p0]) (fn := Tryz.f268) rfl ?_
 obtain ⟨X1, hLX1, hM0⟩ := j0 hM0
 refine Exists.intro { vars := [4], boxes := [], owns := [0], fuel := true } (Exists.intro (fun vs os h' => ∃ (u2 : Int) (wu3 : List (List Value)) (u3 : List Int), vs.tail = [.int .i64 u2] ∧ os = [wu3] ∧ Sub h h' ∧ M0 u2 ∧ F2 (Wp.int.R h') wu3 u3 ∧ N1 p0 (C1 vs) u2 u3 = some X1) (Exists.intro (fun _ _ => 0) ?_))
 refine And.intro (Exists.intro I0 ⟨0, [], ([] : D0), rfl, rfl, (Sub.refl _), (c64 (by decide) (by decide)), (show F2 (Wp.int.R h) ([] : List (List Value)) ([] : D0) from trivial), hLX1⟩) ?_
 rintro v_0 wu3 m5 k4 ⟨u2, zzu3, u3, evX1, eoX1, sX1, iu2, fu3, hM1⟩
 cases evX1
 cases eoX1
 replace hM1 : N1 p0 m5 u2 u3 = some X1 := hM1
 obtain _ | m5 := m5
 ·cases (show (none : Option _) = some X1 from hM1)
 rw [N1.eq_2] at hM1
 refine And.intro (fun hc6 => ?_) (fun hc6 => ?_)
 ·replace hM1 := ifP hM1 hc6
  obtain ⟨q7, gq7, hM1⟩ := j0 hM1
  refine And.intro (E1 gq7 (by first | rw [F2.length fu3, F2.length (show F2 (Wp.int.R k4) ([[.int .i64 u2]] : List (List Value)) [u2] from ⟨⟨rfl, iu2⟩, trivial⟩)] | exact congrArg (· + 1) (F2.length fu3))) ?_
  refine And.intro rfl (And.intro (by repeat (first | exact trivial | refine And.intro rfl ?_)) (And.intro (by repeat (first | exact trivial | refine And.intro rfl ?_)) (Exists.intro m5 (And.intro ⟨(IntKind.i64.wrap (u2 + 1)), (wu3 ++ ([[.int .i64 u2]] : List (List Value))), (u3 ++ [u2]), rfl, rfl, sX1, (H0 _), (F2.append fu3 (show F2 (Wp.int.R k4) ([[.int .i64 u2]] : List (List Value)) [u2] from ⟨⟨rfl, iu2⟩, trivial⟩)), hM1⟩ (Nat.lt_succ_self _)))))
 ·replace hM1 := ifN hM1 hc6
  have hE := Option.some.inj hM1; subst hE
  try dsimp only [K0, N0] at hM0
  intro v8 k9 f10
  obtain ⟨az11, cz11, rfl, rz11, sz11, lz11⟩ := U0.out (r := Wp.int.toRp) f10 fu3
  have hE := Option.some.inj hM0; subst hE
  exact ⟨az11, u3.length, cz11, rfl, rz11, (sX1.trans sz11)⟩
theorem P01 (h : Hp) (ap0 : Option Addr) (np0 cp0 : Nat) (p0 : D0) (rp0 : Q0.R h [.slice ap0 np0 cp0] p0) (r : Bool) (hM0 : G6 p0 = some r) :
  Tr Tryz.prog 171 #[.slice ap0 np0 cp0] h fun v h' => v = .bool r ∧ h' = h := by
 obtain ⟨rfl, lp0⟩ := Sl.len rp0
 unfold G6 at hM0
 refine Tr.forget (T2 (args := [.slice ap0 p0.length cp0]) (fn := Tryz.f171) rfl ?_)
 obtain ⟨X1, hLX1, hM0⟩ := j0 hM0
 refine Exists.intro { vars := [3], boxes := [], owns := [], fuel := true } (Exists.intro (fun vs os h' => ∃ (u2 : Int), vs.tail = [.int .i64 u2] ∧ os = [] ∧ Sub h h' ∧ M0 u2 ∧ W3 p0 (C1 vs) u2 = some X1) (Exists.intro (fun _ _ => 0) ?_))
 refine And.intro (Exists.intro I0 ⟨0, rfl, rfl, (Sub.refl _), (c64 (by decide) (by decide)), hLX1⟩) ?_
 rintro v_0 m4 k3 ⟨u2, evX1, eoX1, sX1, iu2, hM1⟩
 cases evX1
 cases eoX1
 replace hM1 : W3 p0 m4 u2 = some X1 := hM1
 obtain _ | m4 := m4
 ·cases (show (none : Option _) = some X1 from hM1)
 rw [W3.eq_2] at hM1
 refine And.intro (fun hc5 => ?_) (fun hc5 => ?_)
 ·replace hM1 := ifP hM1 hc5
  obtain ⟨x6, gx6, hM1⟩ := j0 hM1
  obtain ⟨bx6, csx6, ex6, rx6⟩ := Sl.getI (r := Wp.int.toRp) (Q0.mono sX1 rp0) gx6 (by decide)
  refine And.intro bx6 ?_
  obtain ⟨rfl, ix6⟩ := rx6
  refine Exists.intro _ (And.intro ex6 ?_)
  obtain ⟨x7, gx7, hM1⟩ := j0 hM1
  refine Tr.val (N8 _ x6 ix6 0 (c64 (by decide) (by decide)) (IntKind.i64.wrap (((p0.length : Nat) : Int) - 1)) (H0 _) _  gx7) ?_
  refine And.intro (fun hc8 => ?_) (fun hc8 => ?_)
  ·replace hM1 := ifP hM1 hc8
   have hE := Option.some.inj hM1; subst hE
   try dsimp only [j4, l4] at hM0
   have hE := Option.some.inj hM0; subst hE
   exact And.intro rfl sX1
  ·replace hM1 := ifN hM1 hc8
   obtain ⟨X9, hLX9, hM1⟩ := j0 hM1
   refine Exists.intro { vars := [4], boxes := [], owns := [], fuel := true } (Exists.intro (fun vs os h' => ∃ (u10 : Int), vs.tail = [.int .i64 u10] ∧ os = [] ∧ Sub k3 h' ∧ M0 u10 ∧ V3 u2 p0 (C1 vs) u10 = some X9) (Exists.intro (fun _ _ => 0) ?_))
   refine And.intro (Exists.intro I0 ⟨0, rfl, rfl, (Sub.refl _), (c64 (by decide) (by decide)), hLX9⟩) ?_
   rintro v_0 m12 k11 ⟨u10, evX9, eoX9, sX9, iu10, hM2⟩
   cases evX9
   cases eoX9
   replace hM2 : V3 u2 p0 m12 u10 = some X9 := hM2
   obtain _ | m12 := m12
   ·cases (show (none : Option _) = some X9 from hM2)
   rw [V3.eq_2] at hM2
   refine And.intro (fun hc13 => ?_) (fun hc13 => ?_)
   ·replace hM2 := ifP hM2 hc13
    refine Or.inl (And.intro (And.intro (by kernel_rfl) (by kernel_rfl)) ?_)
    obtain ⟨x14, gx14, hM2⟩ := j0 hM2
    obtain ⟨bx14, csx14, ex14, rx14⟩ := Sl.getI (r := Wp.int.toRp) (Q0.mono (sX1.trans sX9) rp0) gx14 (by decide)
    refine And.intro bx14 ?_
    obtain ⟨rfl, ix14⟩ := rx14
    refine Exists.intro _ (And.intro ex14 ?_)
    obtain ⟨x15, gx15, hM2⟩ := j0 hM2
    obtain ⟨bx15, csx15, ex15, rx15⟩ := Sl.getI (r := Wp.int.toRp) (Q0.mono (sX1.trans sX9) rp0) gx15 (by decide)
    refine And.intro bx15 ?_
    obtain ⟨rfl, ix15⟩ := rx15
    refine Exists.intro _ (And.intro ex15 ?_)
    refine And.intro (fun hc16 => ?_) (fun hc16 => ?_)
    ·replace hM2 := ifP hM2 hc16
     have hE := Option.some.inj hM2; subst hE
     try dsimp only [j4, l4] at hM1
     have hE := Option.some.inj hM1; subst hE
     try dsimp only [j4, l4] at hM0
     have hE := Option.some.inj hM0; subst hE
     exact And.intro rfl (sX1.trans sX9)
    ·replace hM2 := ifN hM2 hc16
     refine And.intro rfl (And.intro (by repeat (first | exact trivial | refine And.intro rfl ?_)) (And.intro (by repeat (first | exact trivial | refine And.intro rfl ?_)) (Exists.intro m12 (And.intro ⟨(IntKind.i64.wrap (u10 + 1)), rfl, rfl, sX9, (H0 _), hM2⟩ (Nat.lt_succ_self _)))))
   ·replace hM2 := ifN hM2 hc13
    have hE := Option.some.inj hM2; subst hE
    try dsimp only [K0, N0] at hM1
    refine And.intro rfl (And.intro (by repeat (first | exact trivial | refine And.intro rfl ?_)) (And.intro (by repeat (first | exact trivial | refine And.intro rfl ?_)) (Exists.intro m4 (And.intro ⟨(IntKind.i64.wrap (u2 + 1)), rfl, rfl, (sX1.trans sX9), (H0 _), hM1⟩ (Nat.lt_succ_self _)))))
 ·replace hM1 := ifN hM1 hc5
  have hE := Option.some.inj hM1; subst hE
  try dsimp only [K0, N0] at hM0
  have hE := Option.some.inj hM0; subst hE
  exact And.intro rfl sX1
theorem G02 (h : Hp) (ap0 : Option Addr) (np0 cp0 : Nat) (p0 : D0) (rp0 : Q0.R h [.slice ap0 np0 cp0] p0) (ap1 : Option Addr) (np1 cp1 : Nat) (p1 : D0) (rp1 : Q0.R h [.slice ap1 np1 cp1] p1) (r : D0) (hM0 : w5 p0 p1 = some r) :
  Tr Tryz.prog 269 #[.slice ap0 np0 cp0, .slice ap1 np1 cp1] h fun v h' => ∃ (a0 : Option Addr) (n0 c0 : Nat), v = .slice a0 n0 c0 ∧ Q0.R h' [.slice a0 n0 c0] r ∧ Sub h h' := by
 obtain ⟨rfl, lp0⟩ := Sl.len rp0
 obtain ⟨rfl, lp1⟩ := Sl.len rp1
 unfold w5 at hM0
 refine T2 (args := [.slice ap0 p0.length cp0, .slice ap1 p1.length cp1]) (fn := Tryz.f269) rfl ?_
 obtain ⟨X1, hLX1, hM0⟩ := j0 hM0
 refine Exists.intro { vars := [6], boxes := [], owns := [0], fuel := true } (Exists.intro (fun vs os h' => ∃ (u2 : Int) (wu3 : List (List Value)) (u3 : List Int), vs.tail = [.int .i64 u2] ∧ os = [wu3] ∧ Sub h h' ∧ M0 u2 ∧ F2 (Wp.int.R h') wu3 u3 ∧ G1 p0 p1 (C1 vs) u2 u3 = some X1) (Exists.intro (fun _ _ => 0) ?_))
 refine And.intro (Exists.intro I0 ⟨0, [], ([] : D0), rfl, rfl, (Sub.refl _), (c64 (by decide) (by decide)), (show F2 (Wp.int.R h) ([] : List (List Value)) ([] : D0) from trivial), hLX1⟩) ?_
 rintro v_0 wu3 m5 k4 ⟨u2, zzu3, u3, evX1, eoX1, sX1, iu2, fu3, hM1⟩
 cases evX1
 cases eoX1
 replace hM1 : G1 p0 p1 m5 u2 u3 = some X1 := hM1
 obtain _ | m5 := m5
 ·cases (show (none : Option _) = some X1 from hM1)
 rw [G1.eq_2] at hM1
 obtain ⟨x6, gx6, hM1⟩ := j0 hM1
 refine Exists.intro (.bool x6) (And.intro (fun q => P01 _ ap0 p0.length cp0 p0 (Q0.mono sX1 rp0) _  (G2 gx6 q)) ?_)
 obtain ⟨x7, gx7, hM1⟩ := j0 hM1
 refine Exists.intro (.bool x7) (And.intro (fun q => P01 _ ap1 p1.length cp1 p1 (Q0.mono sX1 rp1) _  (G2 gx7 q)) ?_)
 refine And.intro (fun hc8 => ?_) (fun hc8 => ?_)
 ·replace hM1 := ifP hM1 hc8
  obtain ⟨x9, gx9, hM1⟩ := j0 hM1
  obtain ⟨bx9, csx9, ex9, rx9⟩ := Sl.getI (r := Wp.int.toRp) (Q0.mono sX1 rp0) gx9 (by decide)
  refine And.intro bx9 ?_
  obtain ⟨rfl, ix9⟩ := rx9
  refine Exists.intro _ (And.intro ex9 ?_)
  obtain ⟨x10, gx10, hM1⟩ := j0 hM1
  obtain ⟨bx10, csx10, ex10, rx10⟩ := Sl.getI (r := Wp.int.toRp) (Q0.mono sX1 rp1) gx10 (by decide)
  refine And.intro bx10 ?_
  obtain ⟨rfl, ix10⟩ := rx10
  refine Exists.intro _ (And.intro ex10 ?_)
  obtain ⟨q11, gq11, hM1⟩ := j0 hM1
  refine And.intro (E1 gq11 (by first | rw [F2.length fu3, F2.length (show F2 (Wp.int.R k4) ([[.int .i64 x10]] : List (List Value)) [x10] from ⟨⟨rfl, ix10⟩, trivial⟩)] | exact congrArg (· + 1) (F2.length fu3))) ?_
  refine And.intro rfl (And.intro (by repeat (first | exact trivial | refine And.intro rfl ?_)) (And.intro (by repeat (first | exact trivial | refine And.intro rfl ?_)) (Exists.intro m5 (And.intro ⟨(IntKind.i64.wrap (u2 + 1)), (wu3 ++ ([[.int .i64 x10]] : List (List Value))), (u3 ++ [x10]), rfl, rfl, sX1, (H0 _), (F2.append fu3 (show F2 (Wp.int.R k4) ([[.int .i64 x10]] : List (List Value)) [x10] from ⟨⟨rfl, ix10⟩, trivial⟩)), hM1⟩ (Nat.lt_succ_self _)))))
 ·replace hM1 := ifN hM1 hc8
  have hE := Option.some.inj hM1; subst hE
  try dsimp only [K0, N0] at hM0
  intro v12 k13 f14
  obtain ⟨az15, cz15, rfl, rz15, sz15, lz15⟩ := U0.out (r := Wp.int.toRp) f14 fu3
  have hE := Option.some.inj hM0; subst hE
  exact ⟨az15, u3.length, cz15, rfl, rz15, (sX1.trans sz15)⟩
theorem n05 (h : Hp) (csp0 : List Value) (p0 : l0) (rp0 : P0.R h csp0 p0) (r : Z2) (hM0 : H6 p0 = some r) :
  Tr Tryz.prog 195 #[.agg csp0.toArray] h fun v h' => ∃ (a0 : Option Addr) (n0 c0 : Nat), v = .slice a0 n0 c0 ∧ a04.R h' [.slice a0 n0 c0] r ∧ Sub h h' := by
 obtain ⟨aG, aA, aB, aJ, aC, aI, rfl, rfl, aH, aD, aF⟩ := C0 rp0
 obtain ⟨rfl, aK⟩ := Sl.len aF
 unfold H6 at hM0
 dsimp only at hM0
 refine T2 (args := [.agg #[.int .i64 aG, .int .i64 aA, .slice aB aI.length aC]]) (fn := Tryz.f195) rfl ?_
 obtain ⟨x1, gx1, hM0⟩ := j0 hM0
 refine Tr.mono (r04 _ [.int .i64 aG, .int .i64 aA, .slice aB aI.length aC] (aG, aA, aI) (z0 aH aD aF) _  gx1) ?_
 rintro v3 k2 ⟨ax1, nx1, cx1, rfl, rx1, sx1⟩
 obtain ⟨rfl, lx1⟩ := Sl.len rx1
 refine And.intro (fun hc4 => ?_) (fun hc4 => ?_)
 ·replace hM0 := ifP hM0 hc4
  intro v5 k6 f7
  obtain ⟨az8, cz8, rfl, rz8, sz8, lz8⟩ := U0.out (r := Q0.toRp) f7 (show F2 (Q0.R k2) ([] : List (List Value)) ([] : Z2) from trivial)
  have hE := Option.some.inj hM0; subst hE
  exact ⟨az8, (([] : Z2)).length, cz8, rfl, rz8, (sx1.trans sz8)⟩
 ·replace hM0 := ifN hM0 hc4
  obtain ⟨x9, gx9, hM0⟩ := j0 hM0
  refine Tr.mono (F02 _ aA aD _  gx9) ?_
  rintro v11 k10 ⟨ax9, nx9, cx9, rfl, rx9, sx9⟩
  obtain ⟨rfl, lx9⟩ := Sl.len rx9
  obtain ⟨X12, hLX12, hM0⟩ := j0 hM0
  refine Exists.intro { vars := [5], boxes := [], owns := [0], fuel := true } (Exists.intro (fun vs os h' => ∃ (u13 : Int) (wu14 : List (List Value)) (u14 : List D0), vs.tail = [.int .i64 u13] ∧ os = [wu14] ∧ Sub k10 h' ∧ M0 u13 ∧ F2 (Q0.R h') wu14 u14 ∧ Q4 x1 (C1 vs) u13 u14 = some X12) (Exists.intro (fun _ _ => 0) ?_))
  refine And.intro (Exists.intro I0 ⟨0, ([[.slice ax9 x9.length cx9]] : List (List Value)), [x9], rfl, rfl, (Sub.refl _), (c64 (by decide) (by decide)), (show F2 (Q0.R k10) ([[.slice ax9 x9.length cx9]] : List (List Value)) [x9] from ⟨rx9, trivial⟩), hLX12⟩) ?_
  rintro v_0 wu14 m16 k15 ⟨u13, zzu14, u14, evX12, eoX12, sX12, iu13, fu14, hM1⟩
  cases evX12
  cases eoX12
  replace hM1 : Q4 x1 m16 u13 u14 = some X12 := hM1
  obtain _ | m16 := m16
  ·cases (show (none : Option _) = some X12 from hM1)
  rw [Q4.eq_2] at hM1
  obtain ⟨m17, gm17, hM1⟩ := j0 hM1
  obtain rfl : wu14.length = m17 := (F2.length fu14).trans (Option.some.inj gm17)
  obtain ⟨q18, gq18, hM1⟩ := j0 hM1
  refine And.intro (fun hc19 => ?_) (fun hc19 => ?_)
  ·replace hM1 := ifP hM1 hc19
   obtain ⟨X20, hLX20, hM1⟩ := j0 hM1
   refine Exists.intro { vars := [6], boxes := [], owns := [0], fuel := true } (Exists.intro (fun vs os h' => ∃ (u21 : Int) (wu22 : List (List Value)) (u22 : List D0), vs.tail = [.int .i64 u21] ∧ os = [wu22] ∧ Sub k15 h' ∧ M0 u21 ∧ F2 (Q0.R h') wu22 u22 ∧ n3 x1 u13 (C1 vs) u21 u22 = some X20) (Exists.intro (fun _ _ => 0) ?_))
   refine And.intro (Exists.intro I0 ⟨0, wu14, u14, rfl, rfl, (Sub.refl _), (c64 (by decide) (by decide)), fu14, hLX20⟩) ?_
   rintro v_0 wu22 m24 k23 ⟨u21, zzu22, u22, evX20, eoX20, sX20, iu21, fu22, hM2⟩
   cases evX20
   cases eoX20
   replace hM2 : n3 x1 u13 m24 u21 u22 = some X20 := hM2
   obtain _ | m24 := m24
   ·cases (show (none : Option _) = some X20 from hM2)
   rw [n3.eq_2] at hM2
   refine And.intro (fun hc25 => ?_) (fun hc25 => ?_)
   ·replace hM2 := ifP hM2 hc25
    refine Or.inr (Or.inr (Or.inr (Or.inl (And.intro (And.intro (by kernel_rfl) (by kernel_rfl)) ?_))))
    obtain ⟨x26, gx26, hM2⟩ := j0 hM2
    obtain ⟨bx26, csx26, ex26, rx26⟩ := B3 fu22 gx26
    obtain ⟨ax26, nx26, cx26, rfl⟩ := Wp.slice_cell rx26
    obtain ⟨rfl, lx26⟩ := Sl.len rx26
    refine Or.inl ?_
    apply Exists.intro
    refine And.intro ?_ ?_
    ·intro k27 s28
     exact And.intro bx26 (And.intro rfl (And.intro rfl rfl))
    refine Or.inl (Exists.intro (.val (.slice ax26 x26.length cx26)) (And.intro ?_ ?_))
    ·intro k29 s30
     exact Exists.intro _ (And.intro ex26 (And.intro rfl (And.intro rfl rfl)))
    obtain ⟨x31, gx31, hM2⟩ := j0 hM2
    obtain ⟨bx31, csx31, ex31, rx31⟩ := Sl.getI (r := Q0.toRp) (a04.mono ((sx9.trans sX12).trans sX20) rx1) gx31 (by decide)
    obtain ⟨ax31, nx31, cx31, rfl⟩ := Wp.slice_cell rx31
    obtain ⟨rfl, lx31⟩ := Sl.len rx31
    refine Or.inl (Exists.intro (.hel (.slice ax1 x1.length cx1) u21 1 0) (And.intro ?_ ?_))
    ·intro k32 s33
     exact And.intro bx31 (And.intro rfl (And.intro rfl rfl))
    refine Or.inl (Exists.intro (.val (.slice ax31 x31.length cx31)) (And.intro ?_ ?_))
    ·intro k34 s35
     exact Exists.intro _ (And.intro (U00.up s35 ex31) (And.intro rfl (And.intro rfl rfl)))
    obtain ⟨x36, gx36, hM2⟩ := j0 hM2
    refine Or.inr (Exists.intro (fun v hh => ∃ (a : Option Addr) (c : Nat), v = .slice a x36.length c ∧ Q0.R hh [.slice a x36.length c] x36 ∧ x36.length ≤ 9223372036854775807) (And.intro (fun v h1 h2 sb q => by obtain ⟨a, c, e, r, l⟩ := q; exact ⟨a, c, e, Q0.mono sb r, l⟩) (And.intro ?_ ?_)))
    ·intro k37 s38
     refine Tr.mono (G02 _ ax26 x26.length cx26 x26 (Q0.mono s38 rx26) ax31 x31.length cx31 x31 (Q0.mono s38 rx31) _ gx36) ?_
     rintro _ kk ⟨ax36, nx36, cx36, rfl, rx36, sb⟩
     obtain ⟨rfl, lx36⟩ := Sl.len rx36
     exact And.intro g09 (And.intro sb ⟨ax36, cx36, rfl, rx36, lx36⟩)
    refine Or.inr (Exists.intro (fun v hh => ∃ (a : Option Addr) (c : Nat), v = .slice a x36.length c ∧ Q0.R hh [.slice a x36.length c] x36 ∧ x36.length ≤ 9223372036854775807) (And.intro (fun v h1 h2 sb q => by obtain ⟨a, c, e, r, l⟩ := q; exact ⟨a, c, e, Q0.mono sb r, l⟩) (And.intro ?_ ?_)))
    ·intro k39 s40
     rintro _ ⟨az41, cz41, rfl, rz41, lz41⟩
     exact And.intro g09 (And.intro (Sub.refl _) ⟨az41, cz41, rfl, rz41, lz41⟩)
    intro k42 s43
    rintro _ ⟨az44, cz44, rfl, rz44, lz44⟩
    rintro _ ⟨az45, cz45, rfl, rz45, lz45⟩
    obtain ⟨X46, hLX46, hM2⟩ := j0 hM2
    refine Exists.intro { vars := [8, 9], boxes := [], owns := [], fuel := true } (Exists.intro (fun vs os h' => ∃ (u47 : Bool) (u48 : Int), vs.tail = [.bool u47, .int .i64 u48] ∧ os = [] ∧ Sub k42 h' ∧ M0 u48 ∧ Y3 u22 x36 (C1 vs) u47 u48 = some X46) (Exists.intro (fun _ _ => 0) ?_))
    refine And.intro (Exists.intro I0 ⟨false, 0, rfl, rfl, (Sub.refl _), (c64 (by decide) (by decide)), hLX46⟩) ?_
    rintro v_0 v_1 m50 k49 ⟨u47, u48, evX46, eoX46, sX46, iu48, hM3⟩
    cases evX46
    cases eoX46
    replace hM3 : Y3 u22 x36 m50 u47 u48 = some X46 := hM3
    obtain _ | m50 := m50
    ·cases (show (none : Option _) = some X46 from hM3)
    rw [Y3.eq_2] at hM3
    obtain ⟨m51, gm51, hM3⟩ := j0 hM3
    obtain rfl : wu22.length = m51 := (F2.length (F2.up (r := Q0.toRp) (s43.trans sX46) fu22)).trans (Option.some.inj gm51)
    obtain ⟨q52, gq52, hM3⟩ := j0 hM3
    refine And.intro (fun hc53 => ?_) (fun hc53 => ?_)
    ·replace hM3 := ifP hM3 hc53
     obtain ⟨x54, gx54, hM3⟩ := j0 hM3
     obtain ⟨csx54, ex54, rx54⟩ := v02 (F2.up (r := Q0.toRp) (s43.trans sX46) fu22) gx54 (U0m Wp.int k49)
     refine And.intro (fun q => (ex54 q).1) ?_
     obtain ⟨ax54, nx54, cx54, rfl⟩ := Wp.slice_cell rx54
     obtain ⟨rfl, lx54⟩ := Sl.len rx54
     refine Exists.intro _ (And.intro (fun q => (ex54 q).2) ?_)
     obtain ⟨x55, gx55, hM3⟩ := j0 hM3
     refine Exists.intro (.bool x55) (And.intro (fun q => G07 _ ax54 x54.length cx54 x54 rx54 az44 x36.length cz44 x36 (Q0.mono sX46 rz44) _  (G2 gx55 q)) ?_)
     refine And.intro rfl (And.intro (by repeat (first | exact trivial | refine And.intro rfl ?_)) (And.intro (by repeat (first | exact trivial | refine And.intro rfl ?_)) (Exists.intro m50 (And.intro ⟨(bif u47 then true else x55), (IntKind.i64.wrap (u48 + 1)), rfl, rfl, sX46, (H0 _), hM3⟩ (Nat.lt_succ_self _)))))
    ·replace hM3 := ifN hM3 hc53
     have hE := Option.some.inj hM3; subst hE
     try dsimp only [K0, N0] at hM2
     refine And.intro (fun hc56 => ?_) (fun hc56 => ?_)
     ·replace hM2 := ifP hM2 hc56
      obtain ⟨m57, gm57, hM2⟩ := j0 hM2
      obtain rfl : wu22.length = m57 := (F2.length (F2.up (r := Q0.toRp) (s43.trans sX46) fu22)).trans (Option.some.inj gm57)
      obtain ⟨q58, gq58, hM2⟩ := j0 hM2
      refine And.intro (fun hc59 => ?_) (fun hc59 => ?_)
      ·replace hM2 := ifP hM2 hc59
       intro v60 k61 f62
       obtain ⟨az63, cz63, rfl, rz63, sz63, lz63⟩ := U0.out (r := Q0.toRp) f62 (show F2 (Q0.R k49) ([] : List (List Value)) ([] : Z2) from trivial)
       have hE := Option.some.inj hM2; subst hE
       try dsimp only [j4, l4] at hM1
       have hE := Option.some.inj hM1; subst hE
       try dsimp only [j4, l4] at hM0
       have hE := Option.some.inj hM0; subst hE
       exact ⟨az63, (([] : Z2)).length, cz63, rfl, rz63, ((((((sx1.trans sx9).trans sX12).trans sX20).trans s43).trans sX46).trans sz63)⟩
      ·replace hM2 := ifN hM2 hc59
       obtain ⟨q64, gq64, hM2⟩ := j0 hM2
       refine And.intro (E1 gq64 (by first | rw [F2.length (F2.up (r := Q0.toRp) (s43.trans sX46) fu22), F2.length (show F2 (Q0.R k49) ([[.slice az44 x36.length cz44]] : List (List Value)) [x36] from ⟨(Q0.mono sX46 rz44), trivial⟩)] | exact congrArg (· + 1) (F2.length (F2.up (r := Q0.toRp) (s43.trans sX46) fu22)))) ?_
       refine And.intro rfl (And.intro (by repeat (first | exact trivial | refine And.intro rfl ?_)) (And.intro (by repeat (first | exact trivial | refine And.intro rfl ?_)) (Exists.intro m24 (And.intro ⟨(IntKind.i64.wrap (u21 + 1)), (wu22 ++ ([[.slice az44 x36.length cz44]] : List (List Value))), (u22 ++ [x36]), rfl, rfl, ((sX20.trans s43).trans sX46), (H0 _), (F2.append (F2.up (r := Q0.toRp) (s43.trans sX46) fu22) (show F2 (Q0.R k49) ([[.slice az44 x36.length cz44]] : List (List Value)) [x36] from ⟨(Q0.mono sX46 rz44), trivial⟩)), hM2⟩ (Nat.lt_succ_self _)))))
     ·replace hM2 := ifN hM2 hc56
      refine And.intro rfl (And.intro (by repeat (first | exact trivial | refine And.intro rfl ?_)) (And.intro (by repeat (first | exact trivial | refine And.intro rfl ?_)) (Exists.intro m24 (And.intro ⟨(IntKind.i64.wrap (u21 + 1)), wu22, u22, rfl, rfl, ((sX20.trans s43).trans sX46), (H0 _), (F2.up (r := Q0.toRp) (s43.trans sX46) fu22), hM2⟩ (Nat.lt_succ_self _)))))
   ·replace hM2 := ifN hM2 hc25
    have hE := Option.some.inj hM2; subst hE
    try dsimp only [K0, N0] at hM1
    refine And.intro rfl (And.intro (by repeat (first | exact trivial | refine And.intro rfl ?_)) (And.intro (by repeat (first | exact trivial | refine And.intro rfl ?_)) (Exists.intro m16 (And.intro ⟨(IntKind.i64.wrap (u13 + 1)), wu22, u22, rfl, rfl, (sX12.trans sX20), (H0 _), fu22, hM1⟩ (Nat.lt_succ_self _)))))
  ·replace hM1 := ifN hM1 hc19
   have hE := Option.some.inj hM1; subst hE
   try dsimp only [K0, N0] at hM0
   intro v82 k83 f84
   obtain ⟨az85, cz85, rfl, rz85, sz85, lz85⟩ := U0.out (r := Q0.toRp) f84 fu14
   have hE := Option.some.inj hM0; subst hE
   exact ⟨az85, u14.length, cz85, rfl, rz85, (((sx1.trans sx9).trans sX12).trans sz85)⟩
theorem M08 (h : Hp) (csp0 : List Value) (p0 : l0) (rp0 : P0.R h csp0 p0) (r : Int) (hM0 : h9 p0 = some r) :
  Tr Tryz.prog 104 #[.agg csp0.toArray] h fun v h' => v = .int .i64 r ∧ h' = h := by
 obtain ⟨aD, aF, aA, aJ, aB, aI, rfl, rfl, aG, aH, aC⟩ := C0 rp0
 obtain ⟨rfl, aK⟩ := Sl.len aC
 unfold h9 at hM0
 dsimp only at hM0
 refine Tr.forget (T2 (args := [.agg #[.int .i64 aD, .int .i64 aF, .slice aA aI.length aB]]) (fn := Tryz.f104) rfl ?_)
 obtain ⟨x1, gx1, hM0⟩ := j0 hM0
 refine Tr.mono (n05 _ [.int .i64 aD, .int .i64 aF, .slice aA aI.length aB] (aD, aF, aI) (z0 aG aH aC) _  gx1) ?_
 rintro v3 k2 ⟨ax1, nx1, cx1, rfl, rx1, sx1⟩
 obtain ⟨rfl, lx1⟩ := Sl.len rx1
 refine And.intro (fun hc4 => ?_) (fun hc4 => ?_)
 ·replace hM0 := ifP hM0 hc4
  have hE := Option.some.inj hM0; subst hE
  exact And.intro rfl sx1
 ·replace hM0 := ifN hM0 hc4
  have hE := Option.some.inj hM0; subst hE
  exact And.intro rfl sx1
theorem Q05 (h : Hp) (csp0 : List Value) (p0 : l0) (rp0 : P0.R h csp0 p0) (r : D8) (hM0 : W6 p0 = some r) :
  Tr Tryz.prog 105 #[.agg csp0.toArray] h fun v h' => ∃ (a0 : Option Addr) (n0 c0 : Nat), v = .slice a0 n0 c0 ∧ W02.R h' [.slice a0 n0 c0] r ∧ Sub h h' := by
 obtain ⟨aJ, aK, aL, bF, aM, aP, rfl, rfl, aQ, aR, aN⟩ := C0 rp0
 obtain ⟨rfl, bG⟩ := Sl.len aN
 unfold W6 at hM0
 dsimp only at hM0
 refine T2 (args := [.agg #[.int .i64 aJ, .int .i64 aK, .slice aL aP.length aM]]) (fn := Tryz.f105) rfl ?_
 obtain ⟨X1, hLX1, hM0⟩ := j0 hM0
 refine Exists.intro { vars := [4], boxes := [], owns := [0], fuel := true } (Exists.intro (fun vs os h' => ∃ (u2 : Int) (wu3 : List (List Value)) (u3 : List l0), vs.tail = [.int .i64 u2] ∧ os = [wu3] ∧ Sub h h' ∧ M0 u2 ∧ F2 (P0.R h') wu3 u3 ∧ Q2 aK aJ aP (C1 vs) u2 u3 = some X1) (Exists.intro (fun _ _ => 0) ?_))
 refine And.intro (Exists.intro I0 ⟨0, [], ([] : D8), rfl, rfl, (Sub.refl _), (c64 (by decide) (by decide)), (show F2 (P0.R h) ([] : List (List Value)) ([] : D8) from trivial), hLX1⟩) ?_
 rintro v_0 wu3 m5 k4 ⟨u2, zzu3, u3, evX1, eoX1, sX1, iu2, fu3, hM1⟩
 cases evX1
 cases eoX1
 replace hM1 : Q2 aK aJ aP m5 u2 u3 = some X1 := hM1
 obtain _ | m5 := m5
 ·cases (show (none : Option _) = some X1 from hM1)
 rw [Q2.eq_2] at hM1
 obtain ⟨x6, gx6, hM1⟩ := j0 hM1
 refine Exists.intro (.bool x6) (And.intro (fun q => O01 _ [.int .i64 aJ, .int .i64 aK, .slice aL aP.length aM] (aJ, aK, aP) (z0 aQ aR (O0.mono sX1 aN)) _  (G2 gx6 q)) ?_)
 refine And.intro (fun hc7 => ?_) (fun hc7 => ?_)
 ·replace hM1 := ifP hM1 hc7
  obtain ⟨x8, gx8, hM1⟩ := j0 hM1
  refine Tr.mono (C09 _ [.int .i64 aJ, .int .i64 aK, .slice aL aP.length aM] (aJ, aK, aP) (z0 aQ aR (O0.mono sX1 aN)) u2 iu2 _  gx8) ?_
  rintro v10 k9 ⟨bC, rfl, aS, sx8⟩
  obtain ⟨bH, bI⟩ := x8
  dsimp only at hM1 aS
  obtain ⟨aA, aB, aD, bA, aF, aC, rfl, rfl, aH, aI, aG⟩ := C0 aS
  obtain ⟨rfl, bB⟩ := Sl.len aG
  try dsimp only at hM1
  obtain ⟨X11, hLX11, hM1⟩ := j0 hM1
  refine Exists.intro { vars := [7, 8], boxes := [], owns := [], fuel := true } (Exists.intro (fun vs os h' => ∃ (u12 : Bool) (u13 : Int), vs.tail = [.bool u12, .int .i64 u13] ∧ os = [] ∧ Sub k9 h' ∧ M0 u13 ∧ E4 u3 aA aB aC (C1 vs) u12 u13 = some X11) (Exists.intro (fun _ _ => 0) ?_))
  refine And.intro (Exists.intro I0 ⟨false, 0, rfl, rfl, (Sub.refl _), (c64 (by decide) (by decide)), hLX11⟩) ?_
  rintro v_0 v_1 m15 k14 ⟨u12, u13, evX11, eoX11, sX11, iu13, hM2⟩
  cases evX11
  cases eoX11
  replace hM2 : E4 u3 aA aB aC m15 u12 u13 = some X11 := hM2
  obtain _ | m15 := m15
  ·cases (show (none : Option _) = some X11 from hM2)
  rw [E4.eq_2] at hM2
  obtain ⟨m16, gm16, hM2⟩ := j0 hM2
  obtain rfl : wu3.length = m16 := (F2.length (F2.up (r := P0.toRp) (sx8.trans sX11) fu3)).trans (Option.some.inj gm16)
  obtain ⟨q17, gq17, hM2⟩ := j0 hM2
  refine And.intro (fun hc18 => ?_) (fun hc18 => ?_)
  ·replace hM2 := ifP hM2 hc18
   refine Or.inl (And.intro (And.intro (by kernel_rfl) (by kernel_rfl)) ?_)
   obtain ⟨x19, gx19, hM2⟩ := j0 hM2
   obtain ⟨csx19, ex19, rx19⟩ := v02 (F2.up (r := P0.toRp) (sx8.trans sX11) fu3) gx19 (b0l k14)
   refine And.intro (fun q => (ex19 q).1) ?_
   obtain ⟨aT, aU, aV, bD, aW, aZ, rfl, rfl, aX, aY, aO⟩ := C0 rx19
   obtain ⟨rfl, bE⟩ := Sl.len aO
   try dsimp only at hM2
   refine Exists.intro _ (And.intro (fun q => (ex19 q).2) ?_)
   obtain ⟨x20, gx20, hM2⟩ := j0 hM2
   refine Exists.intro (.bool x20) (And.intro (fun q => E02 _ [.int .i64 aT, .int .i64 aU, .slice aV aZ.length aW] (aT, aU, aZ) (z0 aX aY aO) [.int .i64 aA, .int .i64 aB, .slice aD aC.length aF] (aA, aB, aC) (z0 aH aI (O0.mono sX11 aG)) _  (G2 gx20 q)) ?_)
   refine And.intro rfl (And.intro (by repeat (first | exact trivial | refine And.intro rfl ?_)) (And.intro (by repeat (first | exact trivial | refine And.intro rfl ?_)) (Exists.intro m15 (And.intro ⟨(bif u12 then true else x20), (IntKind.i64.wrap (u13 + 1)), rfl, rfl, sX11, (H0 _), hM2⟩ (Nat.lt_succ_self _)))))
  ·replace hM2 := ifN hM2 hc18
   have hE := Option.some.inj hM2; subst hE
   try dsimp only [K0, N0] at hM1
   refine And.intro (fun hc21 => ?_) (fun hc21 => ?_)
   ·replace hM1 := ifP hM1 hc21
    obtain ⟨q22, gq22, hM1⟩ := j0 hM1
    refine And.intro (E1 gq22 (by first | rw [F2.length (F2.up (r := P0.toRp) (sx8.trans sX11) fu3), F2.length (show F2 (P0.R k14) ([[.int .i64 aA, .int .i64 aB, .slice aD aC.length aF]] : List (List Value)) [(aA, aB, aC)] from ⟨(z0 aH aI (O0.mono sX11 aG)), trivial⟩)] | exact congrArg (· + 1) (F2.length (F2.up (r := P0.toRp) (sx8.trans sX11) fu3)))) ?_
    refine And.intro rfl (And.intro (by repeat (first | exact trivial | refine And.intro rfl ?_)) (And.intro (by repeat (first | exact trivial | refine And.intro rfl ?_)) (Exists.intro m5 (And.intro ⟨(IntKind.i64.wrap (u2 + 1)), (wu3 ++ ([[.int .i64 aA, .int .i64 aB, .slice aD aC.length aF]] : List (List Value))), (u3 ++ [(aA, aB, aC)]), rfl, rfl, ((sX1.trans sx8).trans sX11), (H0 _), (F2.append (F2.up (r := P0.toRp) (sx8.trans sX11) fu3) (show F2 (P0.R k14) ([[.int .i64 aA, .int .i64 aB, .slice aD aC.length aF]] : List (List Value)) [(aA, aB, aC)] from ⟨(z0 aH aI (O0.mono sX11 aG)), trivial⟩)), hM1⟩ (Nat.lt_succ_self _)))))
   ·replace hM1 := ifN hM1 hc21
    refine And.intro rfl (And.intro (by repeat (first | exact trivial | refine And.intro rfl ?_)) (And.intro (by repeat (first | exact trivial | refine And.intro rfl ?_)) (Exists.intro m5 (And.intro ⟨(IntKind.i64.wrap (u2 + 1)), wu3, u3, rfl, rfl, ((sX1.trans sx8).trans sX11), (H0 _), (F2.up (r := P0.toRp) (sx8.trans sX11) fu3), hM1⟩ (Nat.lt_succ_self _)))))
 ·replace hM1 := ifN hM1 hc7
  have hE := Option.some.inj hM1; subst hE
  try dsimp only [K0, N0] at hM0
  intro v29 k30 f31
  obtain ⟨az32, cz32, rfl, rz32, sz32, lz32⟩ := U0.out (r := P0.toRp) f31 fu3
  have hE := Option.some.inj hM0; subst hE
  exact ⟨az32, u3.length, cz32, rfl, rz32, (sX1.trans sz32)⟩
theorem L07 (h : Hp) (csp0 : List Value) (p0 : l0) (rp0 : P0.R h csp0 p0) (r : ByteArray) (hM0 : L8 p0 = some r) :
  Tr Tryz.prog 47 #[.agg csp0.toArray] h fun v h' => v = .string r ∧ h' = h := by
 obtain ⟨aB, aA, aC, aJ, aD, aI, rfl, rfl, aH, aF, aG⟩ := C0 rp0
 obtain ⟨rfl, aK⟩ := Sl.len aG
 unfold L8 at hM0
 dsimp only at hM0
 refine Tr.forget (T2 (args := [.agg #[.int .i64 aB, .int .i64 aA, .slice aC aI.length aD]]) (fn := Tryz.f47) rfl ?_)
 obtain ⟨x1, gx1, hM0⟩ := j0 hM0
 refine Tr.mono (r04 _ [.int .i64 aB, .int .i64 aA, .slice aC aI.length aD] (aB, aA, aI) (z0 aH aF aG) _  gx1) ?_
 rintro v3 k2 ⟨ax1, nx1, cx1, rfl, rx1, sx1⟩
 obtain ⟨rfl, lx1⟩ := Sl.len rx1
 refine And.intro (fun hc4 => ?_) (fun hc4 => ?_)
 ·replace hM0 := ifP hM0 hc4
  have hE := Option.some.inj hM0; subst hE
  exact And.intro rfl sx1
 ·replace hM0 := ifN hM0 hc4
  refine Or.inr (Or.inr (Or.inr (Or.inl (And.intro (And.intro (by kernel_rfl) (by kernel_rfl)) ?_))))
  obtain ⟨x5, gx5, hM0⟩ := j0 hM0
  obtain ⟨q6, gq6, hM0⟩ := j0 hM0
  have ix5 : x5.size ≤ 9223372036854775807 := T0 gq6
  refine Or.inl (Exists.intro (.val (.string x5)) (And.intro ?_ ?_))
  ·intro k7 s8
   exact Tr.val (l9 _ aA aF _ gx5) (And.intro rfl (And.intro rfl rfl))
  obtain ⟨q9, gq9, hM0⟩ := j0 hM0
  have jq9 := T0 gq9
  refine Or.inl (Exists.intro (.val (.string ((⟨#[112, 111, 105, 110, 116, 115, 32]⟩ : ByteArray) ++ x5))) (And.intro ?_ ?_))
  ·intro k10 s11
   exact And.intro jq9 (And.intro rfl (And.intro rfl rfl))
  obtain ⟨q12, gq12, hM0⟩ := j0 hM0
  have jq12 := T0 gq12
  refine Or.inl (Exists.intro (.val (.string (((⟨#[112, 111, 105, 110, 116, 115, 32]⟩ : ByteArray) ++ x5) ++ (⟨#[32, 103, 114, 111, 117, 112, 32]⟩ : ByteArray)))) (And.intro ?_ ?_))
  ·intro k13 s14
   exact And.intro jq12 (And.intro rfl (And.intro rfl rfl))
  obtain ⟨x15, gx15, hM0⟩ := j0 hM0
  obtain ⟨q16, gq16, hM0⟩ := j0 hM0
  have ix15 : M0 x15 := T0 gq16
  refine Or.inl (Exists.intro (.val (.int .i64 x15)) (And.intro ?_ ?_))
  ·intro k17 s18
   exact Tr.val (M08 _ [.int .i64 aB, .int .i64 aA, .slice aC aI.length aD] (aB, aA, aI) (z0 aH aF (O0.mono (sx1.trans s18) aG)) _ gx15) (And.intro rfl (And.intro rfl rfl))
  obtain ⟨x19, gx19, hM0⟩ := j0 hM0
  obtain ⟨q20, gq20, hM0⟩ := j0 hM0
  have ix19 : x19.size ≤ 9223372036854775807 := T0 gq20
  refine Or.inl (Exists.intro (.val (.string x19)) (And.intro ?_ ?_))
  ·intro k21 s22
   exact Tr.val (l9 _ x15 ix15 _ gx19) (And.intro rfl (And.intro rfl rfl))
  obtain ⟨q23, gq23, hM0⟩ := j0 hM0
  have jq23 := T0 gq23
  refine Or.inl (Exists.intro (.val (.string ((((⟨#[112, 111, 105, 110, 116, 115, 32]⟩ : ByteArray) ++ x5) ++ (⟨#[32, 103, 114, 111, 117, 112, 32]⟩ : ByteArray)) ++ x19))) (And.intro ?_ ?_))
  ·intro k24 s25
   exact And.intro jq23 (And.intro rfl (And.intro rfl rfl))
  obtain ⟨q26, gq26, hM0⟩ := j0 hM0
  have jq26 := T0 gq26
  refine Or.inl (Exists.intro (.val (.string (((((⟨#[112, 111, 105, 110, 116, 115, 32]⟩ : ByteArray) ++ x5) ++ (⟨#[32, 103, 114, 111, 117, 112, 32]⟩ : ByteArray)) ++ x19) ++ (⟨#[32, 99, 111, 110, 106, 117, 103, 97, 116, 101, 115, 32]⟩ : ByteArray)))) (And.intro ?_ ?_))
  ·intro k27 s28
   exact And.intro jq26 (And.intro rfl (And.intro rfl rfl))
  obtain ⟨x29, gx29, hM0⟩ := j0 hM0
  refine Or.inr (Exists.intro (fun v hh => ∃ (a : Option Addr) (c : Nat), v = .slice a x29.length c ∧ W02.R hh [.slice a x29.length c] x29 ∧ x29.length ≤ 9223372036854775807) (And.intro (fun v h1 h2 sb q => by obtain ⟨a, c, e, r, l⟩ := q; exact ⟨a, c, e, W02.mono sb r, l⟩) (And.intro ?_ ?_)))
  ·intro k30 s31
   refine Tr.mono (Q05 _ [.int .i64 aB, .int .i64 aA, .slice aC aI.length aD] (aB, aA, aI) (z0 aH aF (O0.mono (sx1.trans s31) aG)) _ gx29) ?_
   rintro _ kk ⟨ax29, nx29, cx29, rfl, rx29, sb⟩
   obtain ⟨rfl, lx29⟩ := Sl.len rx29
   exact And.intro g09 (And.intro sb ⟨ax29, cx29, rfl, rx29, lx29⟩)
  obtain ⟨q32, gq32, hM0⟩ := j0 hM0
  refine Or.inl (Exists.intro (.val (.int .i64 ((x29.length : Nat) : Int))) (And.intro ?_ ?_))
  ·intro k33 s34
   rintro _ ⟨az35, cz35, rfl, rz35, lz35⟩
   exact And.intro rfl (And.intro rfl rfl)
  obtain ⟨x36, gx36, hM0⟩ := j0 hM0
  obtain ⟨q37, gq37, hM0⟩ := j0 hM0
  have ix36 : x36.size ≤ 9223372036854775807 := T0 gq37
  refine Or.inl (Exists.intro (.val (.string x36)) (And.intro ?_ ?_))
  ·intro k38 s39
   exact Tr.val (l9 _ ((x29.length : Nat) : Int) (p0h (T0 gq32)) _ gx36) (And.intro rfl (And.intro rfl rfl))
  obtain ⟨q40, gq40, hM0⟩ := j0 hM0
  have jq40 := T0 gq40
  refine Or.inl (Exists.intro (.val (.string ((((((⟨#[112, 111, 105, 110, 116, 115, 32]⟩ : ByteArray) ++ x5) ++ (⟨#[32, 103, 114, 111, 117, 112, 32]⟩ : ByteArray)) ++ x19) ++ (⟨#[32, 99, 111, 110, 106, 117, 103, 97, 116, 101, 115, 32]⟩ : ByteArray)) ++ x36))) (And.intro ?_ ?_))
  ·intro k41 s42
   exact And.intro jq40 (And.intro rfl (And.intro rfl rfl))
  intro k43 s44
  rintro _ ⟨az45, cz45, rfl, rz45, lz45⟩
  obtain ⟨X46, hLX46, hM0⟩ := j0 hM0
  refine Exists.intro { vars := [4, 5], boxes := [], owns := [], fuel := true } (Exists.intro (fun vs os h' => ∃ (u47 : ByteArray) (u48 : Int), vs.tail = [.string u47, .int .i64 u48] ∧ os = [] ∧ Sub k43 h' ∧ u47.size ≤ 9223372036854775807 ∧ M0 u48 ∧ Y4 x1 (C1 vs) u47 u48 = some X46) (Exists.intro (fun _ _ => 0) ?_))
  refine And.intro (Exists.intro I0 ⟨((((((⟨#[112, 111, 105, 110, 116, 115, 32]⟩ : ByteArray) ++ x5) ++ (⟨#[32, 103, 114, 111, 117, 112, 32]⟩ : ByteArray)) ++ x19) ++ (⟨#[32, 99, 111, 110, 106, 117, 103, 97, 116, 101, 115, 32]⟩ : ByteArray)) ++ x36), 0, rfl, rfl, (Sub.refl _), (u02 jq40), (c64 (by decide) (by decide)), hLX46⟩) ?_
  rintro v_0 v_1 m50 k49 ⟨u47, u48, evX46, eoX46, sX46, iu47, iu48, hM1⟩
  cases evX46
  cases eoX46
  replace hM1 : Y4 x1 m50 u47 u48 = some X46 := hM1
  obtain _ | m50 := m50
  ·cases (show (none : Option _) = some X46 from hM1)
  rw [Y4.eq_2] at hM1
  refine And.intro (fun hc51 => ?_) (fun hc51 => ?_)
  ·replace hM1 := ifP hM1 hc51
   refine Or.inl (And.intro (And.intro (by kernel_rfl) (by kernel_rfl)) ?_)
   obtain ⟨q52, gq52, hM1⟩ := j0 hM1
   have jq52 := T0 gq52
   refine And.intro jq52 ?_
   obtain ⟨x53, gx53, hM1⟩ := j0 hM1
   refine Exists.intro (.string x53) (And.intro (L0b _ (IntKind.i64.wrap (u48 + 1)) (H0 _) _  gx53) ?_)
   obtain ⟨q54, gq54, hM1⟩ := j0 hM1
   have ix53 : x53.size ≤ 9223372036854775807 := T0 gq54
   obtain ⟨q55, gq55, hM1⟩ := j0 hM1
   have jq55 := T0 gq55
   refine And.intro jq55 ?_
   obtain ⟨q56, gq56, hM1⟩ := j0 hM1
   have jq56 := T0 gq56
   refine And.intro jq56 ?_
   obtain ⟨x57, gx57, hM1⟩ := j0 hM1
   obtain ⟨bx57, csx57, ex57, rx57⟩ := Sl.getI (r := Q0.toRp) (a04.mono (s44.trans sX46) rx1) gx57 (by decide)
   refine And.intro bx57 ?_
   obtain ⟨ax57, nx57, cx57, rfl⟩ := Wp.slice_cell rx57
   obtain ⟨rfl, lx57⟩ := Sl.len rx57
   refine Exists.intro _ (And.intro ex57 ?_)
   obtain ⟨x58, gx58, hM1⟩ := j0 hM1
   refine Exists.intro (.string x58) (And.intro (k05 _ ax57 x57.length cx57 x57 rx57 _  gx58) ?_)
   obtain ⟨q59, gq59, hM1⟩ := j0 hM1
   have ix58 : x58.size ≤ 9223372036854775807 := T0 gq59
   obtain ⟨q60, gq60, hM1⟩ := j0 hM1
   have jq60 := T0 gq60
   refine And.intro jq60 ?_
   refine And.intro rfl (And.intro (by repeat (first | exact trivial | refine And.intro rfl ?_)) (And.intro (by repeat (first | exact trivial | refine And.intro rfl ?_)) (Exists.intro m50 (And.intro ⟨((((u47 ++ (⟨#[32]⟩ : ByteArray)) ++ x53) ++ (⟨#[32]⟩ : ByteArray)) ++ x58), (IntKind.i64.wrap (u48 + 1)), rfl, rfl, sX46, (u02 jq60), (H0 _), hM1⟩ (Nat.lt_succ_self _)))))
  ·replace hM1 := ifN hM1 hc51
   have hE := Option.some.inj hM1; subst hE
   try dsimp only [K0, N0] at hM0
   have hE := Option.some.inj hM0; subst hE
   exact And.intro rfl ((sx1.trans s44).trans sX46)
end Go.Proofs.YtknoadmdnjaocaaGreat
namespace Go.Proofs.YtknoadmdnjaocaaGreat
open Go.H
set_option linter.unusedVariables false
set_option linter.unusedSimpArgs false
set_option maxRecDepth 10000
theorem l8 (h : Hp) (csp0 : List Value) (p0 : l0) (rp0 : P0.R h csp0 p0) (r : l0) (hM0 : W4 p0 = some r) :
  Tr Tryz.prog 83 #[.agg csp0.toArray] h fun v h' => ∃ (g0 : Nat) (n0 c0 : Nat), v = .agg ([.int .i64 r.1, .int .i64 r.2.1, .slice (some ⟨g0, 0, none⟩) n0 c0] : List Value).toArray ∧ New P0 h h' [.int .i64 r.1, .int .i64 r.2.1, .slice (some ⟨g0, 0, none⟩) n0 c0] r := by
 obtain ⟨aG, aH, aB, aJ, aC, aI, rfl, rfl, aD, aF, aA⟩ := C0 rp0
 obtain ⟨rfl, aK⟩ := Sl.len aA
 unfold W4 at hM0
 dsimp only at hM0
 refine T2 (args := [.agg #[.int .i64 aG, .int .i64 aH, .slice aB aI.length aC]]) (fn := Tryz.f83) rfl ?_
 refine Or.inr (Or.inr (Or.inl (And.intro (And.intro (by kernel_rfl) (by kernel_rfl)) ?_)))
 refine Or.inr ?_
 refine Or.inr ?_
 refine Or.inr ?_
 refine Or.inr ?_
 refine Exists.intro 0 (And.intro (And.intro rfl rfl) ?_)
 refine And.intro trivial (And.intro (by first | exact trivial | exact rfl) ?_)
 obtain ⟨vsy1, ey1, fy1⟩ := Sl.rows (r := j1.toRp) aA
 refine Exists.intro vsy1 (And.intro ey1 ?_)
 obtain ⟨q2, gq2, hM0⟩ := j0 hM0
 refine And.intro (E1 gq2 (by first | rw [F2.length (show F2 (j1.R h) ([] : List (List Value)) ([] : J0) from trivial), F2.length fy1] | exact congrArg (· + 1) (F2.length (show F2 (j1.R h) ([] : List (List Value)) ([] : J0) from trivial)))) ?_
 refine And.intro trivial (And.intro (by first | exact trivial | exact rfl) ?_)
 refine And.intro trivial (And.intro (by first | exact trivial | exact rfl) ?_)
 refine And.intro trivial (And.intro (by first | exact trivial | exact rfl) ?_)
 intro v3 k4 f5
 obtain ⟨gz6, cz6, rfl, rz6, sz6, lz6⟩ := U0.outS (r := j1.toRp) f5 (F2.append (show F2 (j1.R h) ([] : List (List Value)) ([] : J0) from trivial) fy1)
 have hE := Option.some.inj hM0; subst hE
 exact ⟨gz6, ((([] : J0) ++ aI)).length, cz6, rfl, (New.pair (New.int aD) (New.pair (New.int aF) (U0.newPlain (r := j1) f5 (F2.append (show F2 (j1.R h) ([] : List (List Value)) ([] : J0) from trivial) fy1) (O0g _))))⟩
theorem D09 (h : Hp) (csp0 : List Value) (p0 : l0) (rp0 : P0.R h csp0 p0) (p1 : Int) (ip1 : M0 p1) (r : Int) (hM0 : y9 p0 p1 = some r) :
  Tr Tryz.prog 250 #[.agg csp0.toArray, .int .i64 p1] h fun v h' => v = .int .i64 r ∧ h' = h := by
 obtain ⟨aF, aG, aB, aH, aC, aD, rfl, rfl, aI, aJ, aA⟩ := C0 rp0
 obtain ⟨rfl, aK⟩ := Sl.len aA
 unfold y9 at hM0
 dsimp only at hM0
 refine Tr.forget (T2 (args := [.agg #[.int .i64 aF, .int .i64 aG, .slice aB aD.length aC], .int .i64 p1]) (fn := Tryz.f250) rfl ?_)
 obtain ⟨X1, hLX1, hM0⟩ := j0 hM0
 refine Exists.intro { vars := [5, 11], boxes := [], owns := [], fuel := true } (Exists.intro (fun vs os h' => ∃ (u2 : Int) (u3 : Int), vs.tail = [.int .i64 u2, .int .i64 u3] ∧ os = [] ∧ Sub h h' ∧ M0 u2 ∧ M0 u3 ∧ K4 aD p1 (C1 vs) u2 u3 = some X1) (Exists.intro (fun _ _ => 0) ?_))
 refine And.intro (Exists.intro I0 ⟨0, 0, rfl, rfl, (Sub.refl _), (c64 (by decide) (by decide)), (c64 (by decide) (by decide)), hLX1⟩) ?_
 rintro v_0 v_1 m5 k4 ⟨u2, u3, evX1, eoX1, sX1, iu2, iu3, hM1⟩
 cases evX1
 cases eoX1
 replace hM1 : K4 aD p1 m5 u2 u3 = some X1 := hM1
 obtain _ | m5 := m5
 ·cases (show (none : Option _) = some X1 from hM1)
 rw [K4.eq_2] at hM1
 refine And.intro (fun hc6 => ?_) (fun hc6 => ?_)
 ·replace hM1 := ifP hM1 hc6
  obtain ⟨x7, gx7, hM1⟩ := j0 hM1
  obtain ⟨bx7, csx7, ex7, rx7⟩ := Sl.getI (r := j1.toRp) (O0.mono sX1 aA) gx7 (by decide)
  refine And.intro bx7 ?_
  obtain ⟨aO, aP, aQ, rfl, rfl, aL, aM, aN⟩ := F1 rx7
  try dsimp only at hM1
  refine Exists.intro _ (And.intro ex7 ?_)
  refine And.intro (fun hc8 => ?_) (fun hc8 => ?_)
  ·replace hM1 := ifP hM1 hc8
   refine And.intro (fun hc9 => ?_) (fun hc9 => ?_)
   ·replace hM1 := ifP hM1 hc9
    refine And.intro rfl (And.intro (by repeat (first | exact trivial | refine And.intro rfl ?_)) (And.intro (by repeat (first | exact trivial | refine And.intro rfl ?_)) (Exists.intro m5 (And.intro ⟨(IntKind.i64.wrap ((IntKind.i64.wrap (u2 + 1)) + 1)), (IntKind.i64.wrap (u3 + 1)), rfl, rfl, sX1, (H0 _), (H0 _), hM1⟩ (Nat.lt_succ_self _)))))
   ·replace hM1 := ifN hM1 hc9
    refine And.intro rfl (And.intro (by repeat (first | exact trivial | refine And.intro rfl ?_)) (And.intro (by repeat (first | exact trivial | refine And.intro rfl ?_)) (Exists.intro m5 (And.intro ⟨(IntKind.i64.wrap (u2 + 1)), (IntKind.i64.wrap (u3 + 1)), rfl, rfl, sX1, (H0 _), (H0 _), hM1⟩ (Nat.lt_succ_self _)))))
  ·replace hM1 := ifN hM1 hc8
   refine And.intro (fun hc10 => ?_) (fun hc10 => ?_)
   ·replace hM1 := ifP hM1 hc10
    refine And.intro rfl (And.intro (by repeat (first | exact trivial | refine And.intro rfl ?_)) (And.intro (by repeat (first | exact trivial | refine And.intro rfl ?_)) (Exists.intro m5 (And.intro ⟨(IntKind.i64.wrap (u2 + 1)), (IntKind.i64.wrap (u3 + 1)), rfl, rfl, sX1, (H0 _), (H0 _), hM1⟩ (Nat.lt_succ_self _)))))
   ·replace hM1 := ifN hM1 hc10
    refine And.intro rfl (And.intro (by repeat (first | exact trivial | refine And.intro rfl ?_)) (And.intro (by repeat (first | exact trivial | refine And.intro rfl ?_)) (Exists.intro m5 (And.intro ⟨u2, (IntKind.i64.wrap (u3 + 1)), rfl, rfl, sX1, iu2, (H0 _), hM1⟩ (Nat.lt_succ_self _)))))
 ·replace hM1 := ifN hM1 hc6
  have hE := Option.some.inj hM1; subst hE
  try dsimp only [K0, N0] at hM0
  have hE := Option.some.inj hM0; subst hE
  exact And.intro rfl sX1
theorem t00 (h : Hp) (ap0 : Option Addr) (np0 cp0 : Nat) (p0 : J0) (rp0 : O0.R h [.slice ap0 np0 cp0] p0) (ap1 : Option Addr) (np1 cp1 : Nat) (p1 : J0) (rp1 : O0.R h [.slice ap1 np1 cp1] p1) (r : Bool) (hM0 : Y1 p0 p1 = some r) :
  Tr Tryz.prog 252 #[.slice ap0 np0 cp0, .slice ap1 np1 cp1] h fun v h' => v = .bool r ∧ h' = h := by
 obtain ⟨rfl, lp0⟩ := Sl.len rp0
 obtain ⟨rfl, lp1⟩ := Sl.len rp1
 unfold Y1 at hM0
 refine Tr.forget (T2 (args := [.slice ap0 p0.length cp0, .slice ap1 p1.length cp1]) (fn := Tryz.f252) rfl ?_)
 refine And.intro (fun hc1 => ?_) (fun hc1 => ?_)
 ·replace hM0 := ifP hM0 hc1
  have hE := Option.some.inj hM0; subst hE
  exact And.intro rfl (Sub.refl _)
 ·replace hM0 := ifN hM0 hc1
  obtain ⟨X2, hLX2, hM0⟩ := j0 hM0
  refine Exists.intro { vars := [13], boxes := [], owns := [], fuel := true } (Exists.intro (fun vs os h' => ∃ (u3 : Int), vs.tail = [.int .i64 u3] ∧ os = [] ∧ Sub h h' ∧ M0 u3 ∧ Z0 p0 p1 (C1 vs) u3 = some X2) (Exists.intro (fun _ _ => 0) ?_))
  refine And.intro (Exists.intro I0 ⟨0, rfl, rfl, (Sub.refl _), (c64 (by decide) (by decide)), hLX2⟩) ?_
  rintro v_0 m5 k4 ⟨u3, evX2, eoX2, sX2, iu3, hM1⟩
  cases evX2
  cases eoX2
  replace hM1 : Z0 p0 p1 m5 u3 = some X2 := hM1
  obtain _ | m5 := m5
  ·cases (show (none : Option _) = some X2 from hM1)
  rw [Z0.eq_2] at hM1
  refine And.intro (fun hc6 => ?_) (fun hc6 => ?_)
  ·replace hM1 := ifP hM1 hc6
   refine Or.inl (And.intro (And.intro (by kernel_rfl) (by kernel_rfl)) ?_)
   obtain ⟨x7, gx7, hM1⟩ := j0 hM1
   obtain ⟨bx7, csx7, ex7, rx7⟩ := Sl.getI (r := j1.toRp) (O0.mono sX2 rp0) gx7 (by decide)
   refine And.intro bx7 ?_
   obtain ⟨aA, aB, aC, rfl, rfl, aH, aI, aJ⟩ := F1 rx7
   try dsimp only at hM1
   refine Exists.intro _ (And.intro ex7 ?_)
   obtain ⟨x8, gx8, hM1⟩ := j0 hM1
   obtain ⟨bx8, csx8, ex8, rx8⟩ := Sl.getI (r := j1.toRp) (O0.mono sX2 rp1) gx8 (by decide)
   refine And.intro bx8 ?_
   obtain ⟨aD, aF, aG, rfl, rfl, aK, aL, aM⟩ := F1 rx8
   try dsimp only at hM1
   refine Exists.intro _ (And.intro ex8 ?_)
   refine Exists.intro (!eqE (aA, aB, aC) (aD, aF, aG)) (And.intro (O0d _ _ _ rfl _ _ _ _ _ _) ?_)
   refine And.intro (fun hc9 => ?_) (fun hc9 => ?_)
   ·replace hM1 := ifP hM1 hc9
    have hE := Option.some.inj hM1; subst hE
    try dsimp only [j4, l4] at hM0
    have hE := Option.some.inj hM0; subst hE
    exact And.intro rfl sX2
   ·replace hM1 := ifN hM1 hc9
    refine And.intro rfl (And.intro (by repeat (first | exact trivial | refine And.intro rfl ?_)) (And.intro (by repeat (first | exact trivial | refine And.intro rfl ?_)) (Exists.intro m5 (And.intro ⟨(IntKind.i64.wrap (u3 + 1)), rfl, rfl, sX2, (H0 _), hM1⟩ (Nat.lt_succ_self _)))))
  ·replace hM1 := ifN hM1 hc6
   have hE := Option.some.inj hM1; subst hE
   try dsimp only [K0, N0] at hM0
   have hE := Option.some.inj hM0; subst hE
   exact And.intro rfl sX2
theorem H02 (h : Hp) (csp0 : List Value) (p0 : l0) (rp0 : P0.R h csp0 p0) (csp1 : List Value) (p1 : l0) (rp1 : P0.R h csp1 p1) (r : Bool) (hM0 : p7 p0 p1 = some r) :
  Tr Tryz.prog 168 #[.agg csp0.toArray, .agg csp1.toArray] h fun v h' => v = .bool r ∧ h' = h := by
 obtain ⟨aH, aI, aA, aN, aB, aJ, rfl, rfl, aO, aP, aC⟩ := C0 rp0
 obtain ⟨rfl, aQ⟩ := Sl.len aC
 obtain ⟨aK, aL, aD, aR, aF, aM, rfl, rfl, aS, aT, aG⟩ := C0 rp1
 obtain ⟨rfl, aU⟩ := Sl.len aG
 unfold p7 at hM0
 dsimp only at hM0
 refine Tr.forget (T2 (args := [.agg #[.int .i64 aH, .int .i64 aI, .slice aA aJ.length aB], .agg #[.int .i64 aK, .int .i64 aL, .slice aD aM.length aF]]) (fn := Tryz.f168) rfl ?_)
 obtain ⟨x1, gx1, hM0⟩ := j0 hM0
 refine Exists.intro (.bool x1) (And.intro (fun q => t00 _ aA aJ.length aB aJ aC aD aM.length aF aM aG _  (G2 gx1 q)) ?_)
 have hE := Option.some.inj hM0; subst hE
 exact And.intro rfl (Sub.refl _)
theorem R05 (h : Hp) (csp0 : List Value) (p0 : l0) (rp0 : P0.R h csp0 p0) (p1 : Int) (ip1 : M0 p1) (r : (List Bool)) (hM0 : W7 p0 p1 = some r) :
  Tr Tryz.prog 249 #[.agg csp0.toArray, .int .i64 p1] h fun v h' => ∃ (a0 : Option Addr) (n0 c0 : Nat), v = .slice a0 n0 c0 ∧ (Wp.slice Wp.bool).R h' [.slice a0 n0 c0] r ∧ Sub h h' := by
 obtain ⟨aF, aG, aC, aK, aD, aA, rfl, rfl, aL, aM, aB⟩ := C0 rp0
 obtain ⟨rfl, aN⟩ := Sl.len aB
 unfold W7 at hM0
 dsimp only at hM0
 refine T2 (args := [.agg #[.int .i64 aF, .int .i64 aG, .slice aC aA.length aD], .int .i64 p1]) (fn := Tryz.f249) rfl ?_
 obtain ⟨q1, gq1, hM0⟩ := j0 hM0
 refine And.intro (T0 gq1) ?_
 obtain ⟨x2, gx2, hM0⟩ := j0 hM0
 obtain ⟨bx2, csx2, ex2, rx2⟩ := B3 (F2.rep (p := Wp.bool.R h) (a := [.bool false]) (b := false) rfl (aG.toNat)) gx2
 refine And.intro bx2 ?_
 obtain rfl := rx2
 refine Exists.intro _ (And.intro ex2 ?_)
 obtain ⟨X3, hLX3, hM0⟩ := j0 hM0
 refine Exists.intro { vars := [6], boxes := [], owns := [0], fuel := true, kept := [0] } (Exists.intro (fun vs os h' => ∃ (u4 : Bool) (wu5 : List (List Value)) (u5 : List Bool), vs.tail = [.bool u4] ∧ os = [wu5] ∧ Sub h h' ∧ F2 (Wp.bool.R h') wu5 u5 ∧ B4 aA (C1 vs) u4 u5 = some X3) (Exists.intro (fun _ _ => 0) ?_))
 refine And.intro (Exists.intro I0 ⟨true, ((List.replicate aG.toNat ([.bool false] : List Value)).set p1.toNat [.bool true]), ((List.replicate aG.toNat (false : Bool)).set p1.toNat true), rfl, rfl, (Sub.refl _), (F2.set (p := Wp.bool.R h) (a := [.bool true]) (b := true) rfl p1.toNat (F2.rep (p := Wp.bool.R h) (a := [.bool false]) (b := false) rfl (aG.toNat))), hLX3⟩) ?_
 rintro v_0 wu5 m7 k6 ⟨u4, zzu5, u5, evX3, eoX3, sX3, fu5, hM1⟩
 cases evX3
 cases eoX3
 replace hM1 : B4 aA m7 u4 u5 = some X3 := hM1
 obtain _ | m7 := m7
 ·cases (show (none : Option _) = some X3 from hM1)
 rw [B4.eq_2] at hM1
 refine And.intro (fun hc8 => ?_) (fun hc8 => ?_)
 ·replace hM1 := ifP hM1 hc8
  obtain ⟨X9, hLX9, hM1⟩ := j0 hM1
  refine Exists.intro { vars := [6, 19], boxes := [], owns := [0], fuel := true, kept := [0] } (Exists.intro (fun vs os h' => ∃ (u10 : Bool) (u11 : Int) (wu12 : List (List Value)) (u12 : List Bool), vs.tail = [.bool u10, .int .i64 u11] ∧ os = [wu12] ∧ Sub k6 h' ∧ M0 u11 ∧ F2 (Wp.bool.R h') wu12 u12 ∧ G3 aA (C1 vs) u10 u11 u12 = some X9) (Exists.intro (fun _ _ => 0) ?_))
  refine And.intro (Exists.intro I0 ⟨false, 0, wu5, u5, rfl, rfl, (Sub.refl _), (c64 (by decide) (by decide)), fu5, hLX9⟩) ?_
  rintro v_0 v_1 wu12 m14 k13 ⟨u10, u11, zzu12, u12, evX9, eoX9, sX9, iu11, fu12, hM2⟩
  cases evX9
  cases eoX9
  replace hM2 : G3 aA m14 u10 u11 u12 = some X9 := hM2
  obtain _ | m14 := m14
  ·cases (show (none : Option _) = some X9 from hM2)
  rw [G3.eq_2] at hM2
  refine And.intro (fun hc15 => ?_) (fun hc15 => ?_)
  ·replace hM2 := ifP hM2 hc15
   obtain ⟨x16, gx16, hM2⟩ := j0 hM2
   obtain ⟨bx16, csx16, ex16, rx16⟩ := Sl.getI (r := j1.toRp) (O0.mono (sX3.trans sX9) aB) gx16 (by decide)
   refine And.intro bx16 ?_
   obtain ⟨aO, aP, aQ, rfl, rfl, aH, aI, aJ⟩ := F1 rx16
   try dsimp only at hM2
   refine Exists.intro _ (And.intro ex16 ?_)
   refine Or.inl (And.intro (And.intro (by kernel_rfl) (by kernel_rfl)) ?_)
   obtain ⟨x17, gx17, hM2⟩ := j0 hM2
   obtain ⟨bx17, csx17, ex17, rx17⟩ := B3 fu12 gx17
   refine And.intro bx17 ?_
   obtain rfl := rx17
   refine Exists.intro _ (And.intro ex17 ?_)
   obtain ⟨x18, gx18, hM2⟩ := j0 hM2
   obtain ⟨bx18, csx18, ex18, rx18⟩ := B3 fu12 gx18
   refine And.intro bx18 ?_
   obtain rfl := rx18
   refine Exists.intro _ (And.intro ex18 ?_)
   refine And.intro (fun hc19 => ?_) (fun hc19 => ?_)
   ·replace hM2 := ifP hM2 hc19
    obtain ⟨x20, gx20, hM2⟩ := j0 hM2
    obtain ⟨bx20, csx20, ex20, rx20⟩ := B3 fu12 gx20
    refine And.intro bx20 ?_
    obtain rfl := rx20
    refine Exists.intro _ (And.intro ex20 ?_)
    obtain ⟨x21, gx21, hM2⟩ := j0 hM2
    obtain ⟨bx21, csx21, ex21, rx21⟩ := B3 (F2.set (p := Wp.bool.R k13) (a := [.bool true]) (b := true) rfl aO.toNat fu12) gx21
    refine And.intro bx21 ?_
    obtain rfl := rx21
    refine Exists.intro _ (And.intro ex21 ?_)
    refine And.intro rfl (And.intro (by repeat (first | exact trivial | refine And.intro rfl ?_)) (And.intro (by repeat (first | exact trivial | refine And.intro rfl ?_)) (Exists.intro m14 (And.intro ⟨true, (IntKind.i64.wrap (u11 + 1)), ((wu12.set aO.toNat [.bool true]).set aQ.toNat [.bool true]), ((u12.set aO.toNat true).set aQ.toNat true), rfl, rfl, sX9, (H0 _), (F2.set (p := Wp.bool.R k13) (a := [.bool true]) (b := true) rfl aQ.toNat (F2.set (p := Wp.bool.R k13) (a := [.bool true]) (b := true) rfl aO.toNat fu12)), hM2⟩ (Nat.lt_succ_self _)))))
   ·replace hM2 := ifN hM2 hc19
    refine And.intro rfl (And.intro (by repeat (first | exact trivial | refine And.intro rfl ?_)) (And.intro (by repeat (first | exact trivial | refine And.intro rfl ?_)) (Exists.intro m14 (And.intro ⟨u10, (IntKind.i64.wrap (u11 + 1)), wu12, u12, rfl, rfl, sX9, (H0 _), fu12, hM2⟩ (Nat.lt_succ_self _)))))
  ·replace hM2 := ifN hM2 hc15
   have hE := Option.some.inj hM2; subst hE
   try dsimp only [K0, N0] at hM1
   refine And.intro rfl (And.intro (by repeat (first | exact trivial | refine And.intro rfl ?_)) (And.intro (by repeat (first | exact trivial | refine And.intro rfl ?_)) (Exists.intro m7 (And.intro ⟨u10, wu12, u12, rfl, rfl, (sX3.trans sX9), fu12, hM1⟩ (Nat.lt_succ_self _)))))
 ·replace hM1 := ifN hM1 hc8
  have hE := Option.some.inj hM1; subst hE
  try dsimp only [K0, N0] at hM0
  intro v27 k28 f29
  obtain ⟨az30, cz30, rfl, rz30, sz30, lz30⟩ := U0.out (r := Wp.bool.toRp) f29 fu5
  have hE := Option.some.inj hM0; subst hE
  exact ⟨az30, u5.length, cz30, rfl, rz30, (sX3.trans sz30)⟩
theorem o05 (h : Hp) (p0 : Int) (ip0 : M0 p0) (r : D0) (hM0 : y8 p0 = some r) :
  Tr Tryz.prog 265 #[.int .i64 p0] h fun v h' => ∃ (a0 : Option Addr) (n0 c0 : Nat), v = .slice a0 n0 c0 ∧ Q0.R h' [.slice a0 n0 c0] r ∧ Sub h h' := by
 unfold y8 at hM0
 refine T2 (args := [.int .i64 p0]) (fn := Tryz.f265) rfl ?_
 obtain ⟨X1, hLX1, hM0⟩ := j0 hM0
 refine Exists.intro { vars := [4], boxes := [], owns := [0], fuel := true } (Exists.intro (fun vs os h' => ∃ (u2 : Int) (wu3 : List (List Value)) (u3 : List Int), vs.tail = [.int .i64 u2] ∧ os = [wu3] ∧ Sub h h' ∧ M0 u2 ∧ F2 (Wp.int.R h') wu3 u3 ∧ t6 p0 (C1 vs) u2 u3 = some X1) (Exists.intro (fun _ _ => 0) ?_))
 refine And.intro (Exists.intro I0 ⟨1, [], ([] : D0), rfl, rfl, (Sub.refl _), (c64 (by decide) (by decide)), (show F2 (Wp.int.R h) ([] : List (List Value)) ([] : D0) from trivial), hLX1⟩) ?_
 rintro v_0 wu3 m5 k4 ⟨u2, zzu3, u3, evX1, eoX1, sX1, iu2, fu3, hM1⟩
 cases evX1
 cases eoX1
 replace hM1 : t6 p0 m5 u2 u3 = some X1 := hM1
 obtain _ | m5 := m5
 ·cases (show (none : Option _) = some X1 from hM1)
 rw [t6.eq_2] at hM1
 refine And.intro (fun hc6 => ?_) (fun hc6 => ?_)
 ·replace hM1 := ifP hM1 hc6
  obtain ⟨q7, gq7, hM1⟩ := j0 hM1
  refine And.intro (E1 gq7 (by first | rw [F2.length fu3, F2.length (show F2 (Wp.int.R k4) ([[.int .i64 u2], [.int .i64 (IntKind.i64.wrap (0 - u2))]] : List (List Value)) [u2, (IntKind.i64.wrap (0 - u2))] from ⟨⟨rfl, iu2⟩, ⟨⟨rfl, (H0 _)⟩, trivial⟩⟩)] | exact congrArg (· + 2) (F2.length fu3))) ?_
  refine And.intro rfl (And.intro (by repeat (first | exact trivial | refine And.intro rfl ?_)) (And.intro (by repeat (first | exact trivial | refine And.intro rfl ?_)) (Exists.intro m5 (And.intro ⟨(IntKind.i64.wrap (u2 + 1)), (wu3 ++ ([[.int .i64 u2], [.int .i64 (IntKind.i64.wrap (0 - u2))]] : List (List Value))), (u3 ++ [u2, (IntKind.i64.wrap (0 - u2))]), rfl, rfl, sX1, (H0 _), (F2.append fu3 (show F2 (Wp.int.R k4) ([[.int .i64 u2], [.int .i64 (IntKind.i64.wrap (0 - u2))]] : List (List Value)) [u2, (IntKind.i64.wrap (0 - u2))] from ⟨⟨rfl, iu2⟩, ⟨⟨rfl, (H0 _)⟩, trivial⟩⟩)), hM1⟩ (Nat.lt_succ_self _)))))
 ·replace hM1 := ifN hM1 hc6
  have hE := Option.some.inj hM1; subst hE
  try dsimp only [K0, N0] at hM0
  intro v8 k9 f10
  obtain ⟨az11, cz11, rfl, rz11, sz11, lz11⟩ := U0.out (r := Wp.int.toRp) f10 fu3
  have hE := Option.some.inj hM0; subst hE
  exact ⟨az11, u3.length, cz11, rfl, rz11, (sX1.trans sz11)⟩
theorem k06 (h : Hp) (ap0 : Option Addr) (np0 cp0 : Nat) (p0 : J0) (rp0 : O0.R h [.slice ap0 np0 cp0] p0) (r : J0) (hM0 : K9 p0 = some r) :
  Tr Tryz.prog 178 #[.slice ap0 np0 cp0] h fun v h' => ∃ (a0 : Option Addr) (n0 c0 : Nat), v = .slice a0 n0 c0 ∧ New O0 h h' [.slice a0 n0 c0] r := by
 obtain ⟨rfl, lp0⟩ := Sl.len rp0
 unfold K9 at hM0
 refine T2 (args := [.slice ap0 p0.length cp0]) (fn := Tryz.f178) rfl ?_
 obtain ⟨vsy1, ey1, fy1⟩ := Sl.rows (r := j1.toRp) rp0
 refine Exists.intro vsy1 (And.intro ey1 ?_)
 obtain ⟨q2, gq2, hM0⟩ := j0 hM0
 refine And.intro (E1 gq2 (by first | rw [F2.length (show F2 (j1.R h) ([] : List (List Value)) ([] : J0) from trivial), F2.length fy1] | exact congrArg (· + 1) (F2.length (show F2 (j1.R h) ([] : List (List Value)) ([] : J0) from trivial)))) ?_
 refine Or.inl ?_
 intro v3 k4 f5
 obtain ⟨q6, gq6, hM0⟩ := j0 hM0
 refine Tr.mono (K0f _ f5 (F2.append (show F2 (j1.R h) ([] : List (List Value)) ([] : J0) from trivial) fy1) (T0 gq6)) ?_
 rintro _ kz7 ⟨rfl, vsz7, fz7, qz7⟩
 obtain ⟨az7, cz7, rfl, rz7, sz7, lz7⟩ := U0.out (r := j1.toRp) fz7 qz7
 refine Tr.mono (L0f _ fz7 qz7) ?_
 rintro _ kz8 ⟨vsz8, fz8, qz8⟩
 obtain ⟨az8, cz8, rfl, rz8, sz8, lz8⟩ := U0.out (r := j1.toRp) fz8 qz8
 have hE := Option.some.inj hM0; subst hE
 exact ⟨az8, ((n01 eqE (A03 V0 (([] : J0) ++ p0)))).length, cz8, rfl, (U0.newPlain (r := j1) fz8 qz8 (O0g _))⟩
theorem p05 (h : Hp) (csp0 : List Value) (p0 : l0) (rp0 : P0.R h csp0 p0) (ap1 : Option Addr) (np1 cp1 : Nat) (p1 : D0) (rp1 : Q0.R h [.slice ap1 np1 cp1] p1) (r : l0) (hM0 : Z9 p0 p1 = some r) :
  Tr Tryz.prog 251 #[.agg csp0.toArray, .slice ap1 np1 cp1] h fun v h' => ∃ (cs0 : List Value), v = .agg cs0.toArray ∧ New P0 h h' cs0 r := by
 obtain ⟨aD, aJ, aF, aM, aG, aH, rfl, rfl, aI, aN, aC⟩ := C0 rp0
 obtain ⟨rfl, aO⟩ := Sl.len aC
 obtain ⟨rfl, lp1⟩ := Sl.len rp1
 unfold Z9 at hM0
 dsimp only at hM0
 refine T2 (args := [.agg #[.int .i64 aD, .int .i64 aJ, .slice aF aH.length aG], .slice ap1 p1.length cp1]) (fn := Tryz.f251) rfl ?_
 obtain ⟨q1, gq1, hM0⟩ := j0 hM0
 refine And.intro (T0 gq1) ?_
 obtain ⟨m2, gm2, hM0⟩ := j0 hM0
 obtain rfl : (List.replicate aJ.toNat ([.int .i64 0] : List Value)).length = m2 := (F2.length (F2.rep (p := Wp.int.R h) (a := [.int .i64 0]) (b := 0) ⟨rfl, (c64 (by decide) (by decide))⟩ (aJ.toNat))).trans (Option.some.inj gm2)
 obtain ⟨q3, gq3, hM0⟩ := j0 hM0
 obtain ⟨X4, hLX4, hM0⟩ := j0 hM0
 refine Exists.intro { vars := [17], boxes := [], owns := [0], fuel := true, kept := [0] } (Exists.intro (fun vs os h' => ∃ (u5 : Int) (wu6 : List (List Value)) (u6 : List Int), vs.tail = [.int .i64 u5] ∧ os = [wu6] ∧ Sub h h' ∧ M0 u5 ∧ F2 (Wp.int.R h') wu6 u6 ∧ d8 ((List.replicate aJ.toNat ([.int .i64 0] : List Value))).length (C1 vs) u5 u6 = some X4) (Exists.intro (fun _ _ => 0) ?_))
 refine And.intro (Exists.intro I0 ⟨0, (List.replicate aJ.toNat ([.int .i64 0] : List Value)), (List.replicate aJ.toNat (0 : Int)), rfl, rfl, (Sub.refl _), (c64 (by decide) (by decide)), (F2.rep (p := Wp.int.R h) (a := [.int .i64 0]) (b := 0) ⟨rfl, (c64 (by decide) (by decide))⟩ (aJ.toNat)), hLX4⟩) ?_
 rintro v_0 wu6 m8 k7 ⟨u5, zzu6, u6, evX4, eoX4, sX4, iu5, fu6, hM1⟩
 cases evX4
 cases eoX4
 replace hM1 : d8 ((List.replicate aJ.toNat ([.int .i64 0] : List Value))).length m8 u5 u6 = some X4 := hM1
 obtain _ | m8 := m8
 ·cases (show (none : Option _) = some X4 from hM1)
 rw [d8.eq_2] at hM1
 refine And.intro (fun hc9 => ?_) (fun hc9 => ?_)
 ·replace hM1 := ifP hM1 hc9
  obtain ⟨x10, gx10, hM1⟩ := j0 hM1
  obtain ⟨bx10, csx10, ex10, rx10⟩ := B3 fu6 gx10
  refine And.intro bx10 ?_
  obtain ⟨rfl, ix10⟩ := rx10
  refine Exists.intro _ (And.intro ex10 ?_)
  refine And.intro rfl (And.intro (by repeat (first | exact trivial | refine And.intro rfl ?_)) (And.intro (by repeat (first | exact trivial | refine And.intro rfl ?_)) (Exists.intro m8 (And.intro ⟨(IntKind.i64.wrap (u5 + 1)), (wu6.set u5.toNat [.int .i64 (-1)]), (u6.set u5.toNat (-1)), rfl, rfl, sX4, (H0 _), (F2.set (p := Wp.int.R k7) (a := [.int .i64 (-1)]) (b := (-1)) ⟨rfl, (c64 (by decide) (by decide))⟩ u5.toNat fu6), hM1⟩ (Nat.lt_succ_self _)))))
 ·replace hM1 := ifN hM1 hc9
  have hE := Option.some.inj hM1; subst hE
  try dsimp only [K0, N0] at hM0
  obtain ⟨X11, hLX11, hM0⟩ := j0 hM0
  refine Exists.intro { vars := [26], boxes := [], owns := [0], fuel := true, kept := [0] } (Exists.intro (fun vs os h' => ∃ (u12 : Int) (wu13 : List (List Value)) (u13 : List Int), vs.tail = [.int .i64 u12] ∧ os = [wu13] ∧ Sub k7 h' ∧ M0 u12 ∧ F2 (Wp.int.R h') wu13 u13 ∧ c8 p1 (C1 vs) u12 u13 = some X11) (Exists.intro (fun _ _ => 0) ?_))
  refine And.intro (Exists.intro I0 ⟨0, wu6, u6, rfl, rfl, (Sub.refl _), (c64 (by decide) (by decide)), fu6, hLX11⟩) ?_
  rintro v_0 wu13 m15 k14 ⟨u12, zzu13, u13, evX11, eoX11, sX11, iu12, fu13, hM1⟩
  cases evX11
  cases eoX11
  replace hM1 : c8 p1 m15 u12 u13 = some X11 := hM1
  obtain _ | m15 := m15
  ·cases (show (none : Option _) = some X11 from hM1)
  rw [c8.eq_2] at hM1
  refine And.intro (fun hc16 => ?_) (fun hc16 => ?_)
  ·replace hM1 := ifP hM1 hc16
   obtain ⟨x17, gx17, hM1⟩ := j0 hM1
   obtain ⟨bx17, csx17, ex17, rx17⟩ := Sl.getI (r := Wp.int.toRp) (Q0.mono (sX4.trans sX11) rp1) gx17 (by decide)
   refine And.intro bx17 ?_
   obtain ⟨rfl, ix17⟩ := rx17
   refine Exists.intro _ (And.intro ex17 ?_)
   obtain ⟨x18, gx18, hM1⟩ := j0 hM1
   obtain ⟨bx18, csx18, ex18, rx18⟩ := B3 fu13 gx18
   refine And.intro bx18 ?_
   obtain ⟨rfl, ix18⟩ := rx18
   refine Exists.intro _ (And.intro ex18 ?_)
   refine And.intro rfl (And.intro (by repeat (first | exact trivial | refine And.intro rfl ?_)) (And.intro (by repeat (first | exact trivial | refine And.intro rfl ?_)) (Exists.intro m15 (And.intro ⟨(IntKind.i64.wrap (u12 + 1)), (wu13.set x17.toNat [.int .i64 u12]), (u13.set x17.toNat u12), rfl, rfl, sX11, (H0 _), (F2.set (p := Wp.int.R k14) (a := [.int .i64 u12]) (b := u12) ⟨rfl, iu12⟩ x17.toNat fu13), hM1⟩ (Nat.lt_succ_self _)))))
  ·replace hM1 := ifN hM1 hc16
   have hE := Option.some.inj hM1; subst hE
   try dsimp only [K0, N0] at hM0
   obtain ⟨X19, hLX19, hM0⟩ := j0 hM0
   refine Exists.intro { vars := [44], boxes := [2], owns := [1], fuel := true, nilsB := [(2, 2, 141, 3, 24)] } (Exists.intro (fun vs os h' => ∃ (u20 : Int) (u21 : Int) (u22 : Int) (wu23 : List (List Value)) (u23 : List F0), vs.tail = [.int .i64 u20, .int .i64 u21, .int .i64 u22] ∧ os = [wu23] ∧ Sub k14 h' ∧ M0 u20 ∧ M0 u21 ∧ M0 u22 ∧ F2 (j1.R h') wu23 u23 ∧ w7 aH u13 (C1 vs) u20 u21 u22 u23 = some X19) (Exists.intro (fun _ _ => 0) ?_))
   refine And.intro (Exists.intro I0 ⟨0, aD, ((p1.length : Nat) : Int), [], ([] : J0), rfl, rfl, (Sub.refl _), (c64 (by decide) (by decide)), aI, (p0h lp1), (show F2 (j1.R k14) [] [] from trivial), hLX19⟩) ?_
   rintro v_0 v_1 v_2 wu23 m25 k24 ⟨u20, u21, u22, zzu23, u23, evX19, eoX19, sX19, iu20, iu21, iu22, fu23, hM1⟩
   cases evX19
   cases eoX19
   replace hM1 : w7 aH u13 m25 u20 u21 u22 u23 = some X19 := hM1
   obtain _ | m25 := m25
   ·cases (show (none : Option _) = some X19 from hM1)
   rw [w7.eq_2] at hM1
   refine And.intro (fun hc26 => ?_) (fun hc26 => ?_)
   ·replace hM1 := ifP hM1 hc26
    obtain ⟨x27, gx27, hM1⟩ := j0 hM1
    obtain ⟨bx27, csx27, ex27, rx27⟩ := Sl.getI (r := j1.toRp) (O0.mono ((sX4.trans sX11).trans sX19) aC) gx27 (by decide)
    refine And.intro bx27 ?_
    obtain ⟨aP, aA, aQ, rfl, rfl, aK, aB, aL⟩ := F1 rx27
    try dsimp only at hM1
    refine Exists.intro _ (And.intro ex27 ?_)
    obtain ⟨x28, gx28, hM1⟩ := j0 hM1
    obtain ⟨bx28, csx28, ex28, rx28⟩ := B3 (F2.up (r := Wp.int.toRp) sX19 fu13) gx28
    refine And.intro bx28 ?_
    obtain ⟨rfl, ix28⟩ := rx28
    refine Exists.intro _ (And.intro ex28 ?_)
    obtain ⟨x29, gx29, hM1⟩ := j0 hM1
    obtain ⟨csx29, ex29, rx29⟩ := v02 (F2.up (r := Wp.int.toRp) sX19 fu13) gx29 (q0h k24)
    refine And.intro (fun q => (ex29 q).1) ?_
    obtain ⟨rfl, ix29⟩ := rx29
    refine Exists.intro _ (And.intro (fun q => (ex29 q).2) ?_)
    refine And.intro (fun hc30 => ?_) (fun hc30 => ?_)
    ·replace hM1 := ifP hM1 hc30
     refine Or.inr (Or.inr (Or.inl (And.intro (And.intro (by kernel_rfl) (by kernel_rfl)) ?_)))
     obtain ⟨x31, gx31, hM1⟩ := j0 hM1
     obtain ⟨bx31, csx31, ex31, rx31⟩ := B3 (F2.up (r := Wp.int.toRp) sX19 fu13) gx31
     obtain ⟨rfl, ix31⟩ := rx31
     refine Or.inl ?_
     apply Exists.intro
     refine And.intro ?_ ?_
     ·intro k32 s33
      exact And.intro bx31 (And.intro rfl (And.intro rfl rfl))
     refine Or.inl (Exists.intro (.val (.int .i64 x31)) (And.intro ?_ ?_))
     ·intro k34 s35
      exact Exists.intro _ (And.intro ex31 (And.intro rfl (And.intro rfl rfl)))
     obtain ⟨x36, gx36, hM1⟩ := j0 hM1
     obtain ⟨bx36, csx36, ex36, rx36⟩ := B3 (F2.up (r := Wp.int.toRp) sX19 fu13) gx36
     obtain ⟨rfl, ix36⟩ := rx36
     refine Or.inl ?_
     apply Exists.intro
     refine And.intro ?_ ?_
     ·intro k37 s38
      exact And.intro bx36 (And.intro rfl (And.intro rfl rfl))
     refine Or.inl (Exists.intro (.val (.int .i64 x36)) (And.intro ?_ ?_))
     ·intro k39 s40
      exact Exists.intro _ (And.intro ex36 (And.intro rfl (And.intro rfl rfl)))
     refine Or.inl (Exists.intro (.agg [.val (.int .i64 x31), .val (.int .i64 aA), .val (.int .i64 x36)]) (And.intro ?_ ?_))
     ·intro k41 s42
      exact And.intro rfl (And.intro rfl rfl)
     refine Or.inr ?_
     refine Or.inr ?_
     refine Or.inr ?_
     refine Exists.intro 0 (And.intro (And.intro rfl rfl) ?_)
     refine And.intro trivial (And.intro (by first | exact trivial | exact rfl) ?_)
     obtain ⟨q43, gq43, hM1⟩ := j0 hM1
     refine And.intro (E1 gq43 (by first | rw [F2.length fu23, F2.length (show F2 (j1.R k24) ([[.int .i64 x31, .int .i64 aA, .int .i64 x36]] : List (List Value)) [(x31, aA, x36)] from ⟨(K1 ix31 aB ix36), trivial⟩)] | exact congrArg (· + 1) (F2.length fu23))) ?_
     refine And.intro trivial (And.intro (by first | exact trivial | exact rfl) ?_)
     refine And.intro trivial (And.intro (by first | exact trivial | exact rfl) ?_)
     refine And.intro rfl (And.intro (by repeat (first | exact trivial | refine And.intro rfl ?_)) (And.intro (by repeat (first | exact trivial | refine And.intro rfl ?_)) (Exists.intro m25 (And.intro ⟨(IntKind.i64.wrap (u20 + 1)), u21, u22, (wu23 ++ ([[.int .i64 x31, .int .i64 aA, .int .i64 x36]] : List (List Value))), (u23 ++ [(x31, aA, x36)]), rfl, rfl, sX19, (H0 _), iu21, iu22, (F2.append fu23 (show F2 (j1.R k24) ([[.int .i64 x31, .int .i64 aA, .int .i64 x36]] : List (List Value)) [(x31, aA, x36)] from ⟨(K1 ix31 aB ix36), trivial⟩)), hM1⟩ (Nat.lt_succ_self _)))))
    ·replace hM1 := ifN hM1 hc30
     refine And.intro rfl (And.intro (by repeat (first | exact trivial | refine And.intro rfl ?_)) (And.intro (by repeat (first | exact trivial | refine And.intro rfl ?_)) (Exists.intro m25 (And.intro ⟨(IntKind.i64.wrap (u20 + 1)), u21, u22, wu23, u23, rfl, rfl, sX19, (H0 _), iu21, iu22, fu23, hM1⟩ (Nat.lt_succ_self _)))))
   ·replace hM1 := ifN hM1 hc26
    have hE := Option.some.inj hM1; subst hE
    try dsimp only [K0, N0] at hM0
    refine Or.inl ?_
    intro v44 k45 f46
    obtain ⟨az47, cz47, rfl, rz47, sz47, lz47⟩ := U0.out (r := j1.toRp) f46 fu23
    obtain ⟨x48, gx48, hM0⟩ := j0 hM0
    refine Tr.mono (k06 _ az47 u23.length cz47 u23 rz47 _  gx48) ?_
    rintro v50 k49 ⟨ax48, nx48, cx48, rfl, wx48⟩
    have sx48 : Sub k45 k49 := wx48.sub
    have rx48 := wx48.r
    obtain ⟨rfl, lx48⟩ := Sl.len rx48
    have hE := Option.some.inj hM0; subst hE
    exact ⟨([.int .i64 u21, .int .i64 u22, .slice ax48 x48.length cx48]), rfl, (New.pair (New.int iu21) (New.pair (New.int iu22) (New.from wx48 (((sX4.trans sX11).trans sX19).trans sz47))))⟩
end Go.Proofs.YtknoadmdnjaocaaGreat
namespace Go.Proofs.YtknoadmdnjaocaaGreat
open Go.H
set_option linter.unusedVariables false
set_option linter.unusedSimpArgs false
set_option maxRecDepth 10000
theorem E09 (h : Hp) (ap0 : Option Addr) (np0 cp0 : Nat) (p0 : D0) (rp0 : Q0.R h [.slice ap0 np0 cp0] p0) (r : D0) (hM0 : z9 p0 = some r) :
  Tr Tryz.prog 176 #[.slice ap0 np0 cp0] h fun v h' => ∃ (g0 : Nat) (n0 c0 : Nat), v = .slice (some ⟨g0, 0, none⟩) n0 c0 ∧ New Q0 h h' [.slice (some ⟨g0, 0, none⟩) n0 c0] r := by
 obtain ⟨rfl, lp0⟩ := Sl.len rp0
 unfold z9 at hM0
 refine T2 (args := [.slice ap0 p0.length cp0]) (fn := Tryz.f176) rfl ?_
 obtain ⟨vsy1, ey1, fy1⟩ := Sl.rows (r := Wp.int.toRp) rp0
 refine Exists.intro vsy1 (And.intro ey1 ?_)
 obtain ⟨q2, gq2, hM0⟩ := j0 hM0
 refine And.intro (E1 gq2 (by first | rw [F2.length (show F2 (Wp.int.R h) ([] : List (List Value)) ([] : D0) from trivial), F2.length fy1] | exact congrArg (· + 1) (F2.length (show F2 (Wp.int.R h) ([] : List (List Value)) ([] : D0) from trivial)))) ?_
 intro v3 k4 f5
 obtain ⟨gz6, cz6, rfl, rz6, sz6, lz6⟩ := U0.outS (r := Wp.int.toRp) f5 (F2.append (show F2 (Wp.int.R h) ([] : List (List Value)) ([] : D0) from trivial) fy1)
 have hE := Option.some.inj hM0; subst hE
 exact ⟨gz6, ((([] : D0) ++ p0)).length, cz6, rfl, (U0.newPlain (r := Wp.int) f5 (F2.append (show F2 (Wp.int.R h) ([] : List (List Value)) ([] : D0) from trivial) fy1) (h09 _))⟩
theorem M07 (h : Hp) (csp0 : List Value) (p0 : l0) (rp0 : P0.R h csp0 p0) (p1 : Int) (ip1 : M0 p1) (r : D0 × Z2) (hM0 : Q9 p0 p1 = some r) :
  Tr Tryz.prog 229 #[.agg csp0.toArray, .int .i64 p1] h fun v h' => ∃ (a0 : Option Addr) (n0 c0 : Nat) (a1 : Option Addr) (n1 c1 : Nat), v = .tuple #[.slice a0 n0 c0, .slice a1 n1 c1] ∧ Q0.R h' [.slice a0 n0 c0] r.1 ∧ a04.R h' [.slice a1 n1 c1] r.2 ∧ Sub h h' := by
 obtain ⟨aA, aB, aD, aJ, aF, aC, rfl, rfl, aG, aI, aH⟩ := C0 rp0
 obtain ⟨rfl, aK⟩ := Sl.len aH
 unfold Q9 at hM0
 dsimp only at hM0
 refine T2 (args := [.agg #[.int .i64 aA, .int .i64 aB, .slice aD aC.length aF], .int .i64 p1]) (fn := Tryz.f229) rfl ?_
 obtain ⟨q1, gq1, hM0⟩ := j0 hM0
 refine And.intro (T0 gq1) ?_
 obtain ⟨x2, gx2, hM0⟩ := j0 hM0
 obtain ⟨bx2, csx2, ex2, rx2⟩ := B3 (F2.rep (p := Wp.opt.R h) (a := [.slice none 0 0]) (b := none) (L0l h) (aB.toNat)) gx2
 refine And.intro bx2 ?_
 obtain ⟨ax2, nx2, cx2, rfl, ox2, qx2⟩ := rx2
 obtain ⟨rfl, lx2⟩ := Sl.len qx2
 intro v3 k4 f5
 obtain ⟨gz6, cz6, rfl, rz6, sz6, lz6⟩ := U0.outS (r := Wp.int.toRp) f5 (show F2 (Wp.int.R h) ([] : List (List Value)) ([] : D0) from trivial)
 refine Exists.intro _ (And.intro ex2 ?_)
 obtain ⟨X7, hLX7, hM0⟩ := j0 hM0
 refine Exists.intro { vars := [8], boxes := [], owns := [0, 2], fuel := true, kept := [0] } (Exists.intro (fun vs os h' => ∃ (u8 : Int) (wu9 : List (List Value)) (u9 : List (Option D0)) (wu10 : List (List Value)) (u10 : List Int), vs.tail = [.int .i64 u8] ∧ os = [wu9, wu10] ∧ Sub k4 h' ∧ M0 u8 ∧ F2 (Wp.opt.R h') wu9 u9 ∧ F2 (Wp.int.R h') wu10 u10 ∧ K5 aA aB aC (C1 vs) u8 u9 u10 = some X7) (Exists.intro (fun _ _ => 0) ?_))
 refine And.intro (Exists.intro I0 ⟨0, ((List.replicate aB.toNat ([.slice none 0 0] : List Value)).set p1.toNat [.slice (some ⟨gz6, 0, none⟩) (([] : D0)).length cz6]), ((List.replicate aB.toNat (none : Option D0)).set p1.toNat (some ([] : D0))), ([[.int .i64 p1]] : List (List Value)), [p1], rfl, rfl, (Sub.refl _), (c64 (by decide) (by decide)), (F2.set (p := Wp.opt.R k4) (a := [.slice (some ⟨gz6, 0, none⟩) (([] : D0)).length cz6]) (b := some ([] : D0)) (M0l rz6) p1.toNat (F2.up (r := Wp.opt.toRp) sz6 (F2.rep (p := Wp.opt.R h) (a := [.slice none 0 0]) (b := none) (L0l h) (aB.toNat)))), (show F2 (Wp.int.R k4) ([[.int .i64 p1]] : List (List Value)) [p1] from ⟨⟨rfl, ip1⟩, trivial⟩), hLX7⟩) ?_
 rintro v_0 wu9 wu10 m12 k11 ⟨u8, zzu9, u9, zzu10, u10, evX7, eoX7, sX7, iu8, fu9, fu10, hM1⟩
 cases evX7
 cases eoX7
 replace hM1 : K5 aA aB aC m12 u8 u9 u10 = some X7 := hM1
 obtain _ | m12 := m12
 ·cases (show (none : Option _) = some X7 from hM1)
 rw [K5.eq_2] at hM1
 obtain ⟨m13, gm13, hM1⟩ := j0 hM1
 obtain rfl : wu10.length = m13 := (F2.length fu10).trans (Option.some.inj gm13)
 obtain ⟨q14, gq14, hM1⟩ := j0 hM1
 refine And.intro (fun hc15 => ?_) (fun hc15 => ?_)
 ·replace hM1 := ifP hM1 hc15
  obtain ⟨x16, gx16, hM1⟩ := j0 hM1
  obtain ⟨bx16, csx16, ex16, rx16⟩ := B3 fu10 gx16
  refine And.intro bx16 ?_
  obtain ⟨rfl, ix16⟩ := rx16
  refine Exists.intro _ (And.intro ex16 ?_)
  obtain ⟨x17, gx17, hM1⟩ := j0 hM1
  refine Tr.mono (o05 _ aA aG _  gx17) ?_
  rintro v19 k18 ⟨ax17, nx17, cx17, rfl, rx17, sx17⟩
  obtain ⟨rfl, lx17⟩ := Sl.len rx17
  obtain ⟨X20, hLX20, hM1⟩ := j0 hM1
  refine Exists.intro { vars := [36], boxes := [], owns := [0, 2], fuel := true, kept := [0] } (Exists.intro (fun vs os h' => ∃ (u21 : Int) (wu22 : List (List Value)) (u22 : List (Option D0)) (wu23 : List (List Value)) (u23 : List Int), vs.tail = [.int .i64 u21] ∧ os = [wu22, wu23] ∧ Sub k18 h' ∧ M0 u21 ∧ F2 (Wp.opt.R h') wu22 u22 ∧ F2 (Wp.int.R h') wu23 u23 ∧ F4 x17 aA aB aC x16 (C1 vs) u21 u22 u23 = some X20) (Exists.intro (fun _ _ => 0) ?_))
  refine And.intro (Exists.intro I0 ⟨0, wu9, u9, wu10, u10, rfl, rfl, (Sub.refl _), (c64 (by decide) (by decide)), (F2.up (r := Wp.opt.toRp) sx17 fu9), (F2.up (r := Wp.int.toRp) sx17 fu10), hLX20⟩) ?_
  rintro v_0 wu22 wu23 m25 k24 ⟨u21, zzu22, u22, zzu23, u23, evX20, eoX20, sX20, iu21, fu22, fu23, hM2⟩
  cases evX20
  cases eoX20
  replace hM2 : F4 x17 aA aB aC x16 m25 u21 u22 u23 = some X20 := hM2
  obtain _ | m25 := m25
  ·cases (show (none : Option _) = some X20 from hM2)
  rw [F4.eq_2] at hM2
  refine And.intro (fun hc26 => ?_) (fun hc26 => ?_)
  ·replace hM2 := ifP hM2 hc26
   obtain ⟨x27, gx27, hM2⟩ := j0 hM2
   obtain ⟨bx27, csx27, ex27, rx27⟩ := Sl.getI (r := Wp.int.toRp) (Q0.mono sX20 rx17) gx27 (by decide)
   refine And.intro bx27 ?_
   obtain ⟨rfl, ix27⟩ := rx27
   refine Exists.intro _ (And.intro ex27 ?_)
   obtain ⟨x28, gx28, hM2⟩ := j0 hM2
   refine Tr.val (k01 _ [.int .i64 aA, .int .i64 aB, .slice aD aC.length aF] (aA, aB, aC) (z0 aG aI (O0.mono (((sz6.trans sX7).trans sx17).trans sX20) aH)) x16 ix16 x27 ix27 _  gx28) ?_
   obtain ⟨q29, gq29, hM2⟩ := j0 hM2
   have ix28 : M0 x28 := T0 gq29
   obtain ⟨x30, gx30, hM2⟩ := j0 hM2
   obtain ⟨csx30, ex30, rx30⟩ := v02 fu22 gx30 (K0m k24)
   refine And.intro (fun q => (ex30 q).1) ?_
   obtain ⟨ax30, nx30, cx30, rfl, ox30, qx30⟩ := rx30
   obtain ⟨rfl, lx30⟩ := Sl.len qx30
   refine Exists.intro _ (And.intro (fun q => (ex30 q).2) ?_)
   refine Exists.intro (x30.isNone) (And.intro (fun _ => by rw [← ox30]; exact J0m _ _ _ rfl _ _ _) ?_)
   refine And.intro (fun hc31 => ?_) (fun hc31 => ?_)
   ·replace hM2 := ifP hM2 hc31
    obtain ⟨x32, gx32, hM2⟩ := j0 hM2
    obtain ⟨bx32, csx32, ex32, rx32⟩ := B3 fu22 gx32
    refine And.intro bx32 ?_
    obtain ⟨ax32, nx32, cx32, rfl, ox32, qx32⟩ := rx32
    obtain ⟨rfl, lx32⟩ := Sl.len qx32
    refine Exists.intro _ (And.intro ex32 ?_)
    obtain ⟨x33, gx33, hM2⟩ := j0 hM2
    refine Tr.mono (E09 _ ax32 (x32.getD []).length cx32 (x32.getD []) qx32 _  gx33) ?_
    rintro v35 k34 ⟨gx33, nx33, cx33, rfl, wx33⟩
    have sx33 : Sub k24 k34 := wx33.sub
    have rx33 := wx33.r
    obtain ⟨rfl, lx33⟩ := Sl.len rx33
    obtain ⟨q36, gq36, hM2⟩ := j0 hM2
    obtain ⟨vsz37, rxz37, lnz37, apz37⟩ := New.app wx33 (Sub.refl _)
    refine Exists.intro vsz37 (And.intro rxz37 (And.intro (E1 gq36 (by first | rw [lnz37, F2.length (show F2 (Wp.int.R k34) ([[.int .i64 x27]] : List (List Value)) [x27] from ⟨⟨rfl, ix27⟩, trivial⟩)] | (rw [lnz37]; rfl))) ?_))
    intro vz37 kz37 happz37
    obtain ⟨wz37, gz37, oz37, nz37, cz37, rfl⟩ := apz37 _ _ _ _ _ (F3.ofPlain (h09 _) (show F2 (Wp.int.R k34) ([[.int .i64 x27]] : List (List Value)) [x27] from ⟨⟨rfl, ix27⟩, trivial⟩)) E7.ofPlain happz37
    have rz37 := wz37.r
    obtain ⟨ez37, lz37⟩ := Sl.len rz37
    subst ez37
    obtain ⟨x38, gx38, hM2⟩ := j0 hM2
    obtain ⟨bx38, csx38, ex38, rx38⟩ := B3 (F2.up (r := Wp.opt.toRp) wz37.sub fu22) gx38
    refine And.intro bx38 ?_
    obtain ⟨ax38, nx38, cx38, rfl, ox38, qx38⟩ := rx38
    obtain ⟨rfl, lx38⟩ := Sl.len qx38
    refine Exists.intro _ (And.intro ex38 ?_)
    obtain ⟨q39, gq39, hM2⟩ := j0 hM2
    refine And.intro (E1 gq39 (by first | rw [F2.length (F2.up (r := Wp.int.toRp) wz37.sub fu23), F2.length (show F2 (Wp.int.R kz37) ([[.int .i64 x28]] : List (List Value)) [x28] from ⟨⟨rfl, ix28⟩, trivial⟩)] | exact congrArg (· + 1) (F2.length (F2.up (r := Wp.int.toRp) wz37.sub fu23)))) ?_
    refine And.intro rfl (And.intro (by repeat (first | exact trivial | refine And.intro rfl ?_)) (And.intro (by repeat (first | exact trivial | refine And.intro rfl ?_)) (Exists.intro m25 (And.intro ⟨(IntKind.i64.wrap (u21 + 1)), (wu22.set x28.toNat [.slice (some ⟨gz37, oz37, none⟩) (x33 ++ [x27]).length cz37]), (u22.set x28.toNat (some (x33 ++ [x27]))), (wu23 ++ ([[.int .i64 x28]] : List (List Value))), (u23 ++ [x28]), rfl, rfl, (sX20.trans wz37.sub), (H0 _), (F2.set (p := Wp.opt.R kz37) (a := [.slice (some ⟨gz37, oz37, none⟩) (x33 ++ [x27]).length cz37]) (b := some (x33 ++ [x27])) (M0l rz37) x28.toNat (F2.up (r := Wp.opt.toRp) wz37.sub fu22)), (F2.append (F2.up (r := Wp.int.toRp) wz37.sub fu23) (show F2 (Wp.int.R kz37) ([[.int .i64 x28]] : List (List Value)) [x28] from ⟨⟨rfl, ix28⟩, trivial⟩)), hM2⟩ (Nat.lt_succ_self _)))))
   ·replace hM2 := ifN hM2 hc31
    refine And.intro rfl (And.intro (by repeat (first | exact trivial | refine And.intro rfl ?_)) (And.intro (by repeat (first | exact trivial | refine And.intro rfl ?_)) (Exists.intro m25 (And.intro ⟨(IntKind.i64.wrap (u21 + 1)), wu22, u22, wu23, u23, rfl, rfl, sX20, (H0 _), fu22, fu23, hM2⟩ (Nat.lt_succ_self _)))))
  ·replace hM2 := ifN hM2 hc26
   have hE := Option.some.inj hM2; subst hE
   try dsimp only [K0, N0] at hM1
   refine And.intro rfl (And.intro (by repeat (first | exact trivial | refine And.intro rfl ?_)) (And.intro (by repeat (first | exact trivial | refine And.intro rfl ?_)) (Exists.intro m12 (And.intro ⟨(IntKind.i64.wrap (u8 + 1)), wu22, u22, wu23, u23, rfl, rfl, ((sX7.trans sx17).trans sX20), (H0 _), fu22, fu23, hM1⟩ (Nat.lt_succ_self _)))))
 ·replace hM1 := ifN hM1 hc15
  have hE := Option.some.inj hM1; subst hE
  try dsimp only [K0, N0] at hM0
  intro v45 k46 f47
  obtain ⟨az48, cz48, rfl, rz48, sz48, lz48⟩ := U0.out (r := Wp.int.toRp) f47 fu10
  intro v49 k50 f51
  obtain ⟨az52, cz52, rfl, rz52, sz52, lz52⟩ := U0.out (r := Q0.toRp) f51 (F2.ofOpt (F2.up (r := Wp.opt.toRp) sz48 fu9))
  have hE := Option.some.inj hM0; subst hE
  exact ⟨az48, u10.length, cz48, az52, (List.map (fun o : Option D0 => o.getD ([] : D0)) u9).length, cz52, rfl, (Q0.mono sz52 rz48), rz52, (((sz6.trans sX7).trans sz48).trans sz52)⟩
theorem u04 (h : Hp) (csp0 : List Value) (p0 : l0) (rp0 : P0.R h csp0 p0) (r : D0) (hM0 : j7 p0 = some r) :
  Tr Tryz.prog 253 #[.agg csp0.toArray] h fun v h' => ∃ (a0 : Option Addr) (n0 c0 : Nat), v = .slice a0 n0 c0 ∧ Q0.R h' [.slice a0 n0 c0] r ∧ Sub h h' := by
 obtain ⟨aA, aB, aC, aN, aD, aK, rfl, rfl, aH, aI, aF⟩ := C0 rp0
 obtain ⟨rfl, aO⟩ := Sl.len aF
 unfold j7 at hM0
 dsimp only at hM0
 refine T2 (args := [.agg #[.int .i64 aA, .int .i64 aB, .slice aC aK.length aD]]) (fn := Tryz.f253) rfl ?_
 obtain ⟨x1, gx1, hM0⟩ := j0 hM0
 refine Tr.val (G9 _ [.int .i64 aA, .int .i64 aB, .slice aC aK.length aD] (aA, aB, aK) (z0 aH aI aF) _  gx1) ?_
 refine And.intro (fun hc2 => ?_) (fun hc2 => ?_)
 ·replace hM0 := ifP hM0 hc2
  intro v3 k4 f5
  obtain ⟨az6, cz6, rfl, rz6, sz6, lz6⟩ := U0.out (r := Wp.int.toRp) f5 (show F2 (Wp.int.R h) ([] : List (List Value)) ([] : D0) from trivial)
  have hE := Option.some.inj hM0; subst hE
  exact ⟨az6, (([] : D0)).length, cz6, rfl, rz6, sz6⟩
 ·replace hM0 := ifN hM0 hc2
  obtain ⟨x7, gx7, hM0⟩ := j0 hM0
  refine Tr.mono (M07 _ [.int .i64 aA, .int .i64 aB, .slice aC aK.length aD] (aA, aB, aK) (z0 aH aI aF) 0 (c64 (by decide) (by decide)) _  gx7) ?_
  rintro v9 k8 ⟨aL, aP, aM, aQ, aR, aS, rfl, aG, aJ, sx7⟩
  obtain ⟨aV, aW⟩ := x7
  dsimp only at hM0 aG aJ
  obtain ⟨rfl, aT⟩ := Sl.len aG
  obtain ⟨rfl, aU⟩ := Sl.len aJ
  have hE := Option.some.inj hM0; subst hE
  exact ⟨aL, aV.length, aM, rfl, aG, sx7⟩
theorem p01 (h : Hp) (csp0 : List Value) (p0 : l0) (rp0 : P0.R h csp0 p0) (r : l0) (hM0 : W5 p0 = some r) :
  Tr Tryz.prog 169 #[.agg csp0.toArray] h fun v h' => ∃ (cs0 : List Value), v = .agg cs0.toArray ∧ New P0 h h' cs0 r := by
 obtain ⟨aA, aB, aC, aZ, aD, aI, rfl, rfl, aG, aH, aF⟩ := C0 rp0
 obtain ⟨rfl, bA⟩ := Sl.len aF
 unfold W5 at hM0
 dsimp only at hM0
 refine T2 (args := [.agg #[.int .i64 aA, .int .i64 aB, .slice aC aI.length aD]]) (fn := Tryz.f169) rfl ?_
 obtain ⟨x1, gx1, hM0⟩ := j0 hM0
 refine Tr.val (G9 _ [.int .i64 aA, .int .i64 aB, .slice aC aI.length aD] (aA, aB, aI) (z0 aG aH aF) _  gx1) ?_
 refine And.intro (fun hc2 => ?_) (fun hc2 => ?_)
 ·replace hM0 := ifP hM0 hc2
  obtain ⟨x3, gx3, hM0⟩ := j0 hM0
  refine Tr.mono (l8 _ [.int .i64 aA, .int .i64 aB, .slice aC aI.length aD] (aA, aB, aI) (z0 aG aH aF) _  gx3) ?_
  rintro v5 k4 ⟨aO, bB, aP, rfl, wx3⟩
  have sx3 : Sub h k4 := wx3.sub
  have rx3 := wx3.r
  obtain ⟨aV, aW, bE⟩ := x3
  dsimp only at hM0 wx3 rx3
  obtain ⟨_, _, _, _, _, _, ecx3, exx3, aQ, aR, aS⟩ := C0 rx3
  cases ecx3
  cases exx3
  obtain ⟨rfl, bC⟩ := Sl.len aS
  try dsimp only at hM0
  have we6 := New.sndI (New.sndI (wx3))
  have hE := Option.some.inj hM0; subst hE
  exact ⟨([.int .i64 aV, .int .i64 aW, .slice (some ⟨aO, 0, none⟩) bE.length aP]), rfl, (New.pair (New.int aQ) (New.pair (New.int aR) we6))⟩
 ·replace hM0 := ifN hM0 hc2
  refine Or.inr (Or.inr (Or.inl (And.intro (And.intro (by kernel_rfl) (by kernel_rfl)) ?_)))
  refine Or.inr ?_
  refine Or.inr ?_
  refine Or.inr ?_
  refine Exists.intro 2 (And.intro (And.intro rfl rfl) ?_)
  obtain ⟨x7, gx7, hM0⟩ := j0 hM0
  refine Tr.mono (u04 _ [.int .i64 aA, .int .i64 aB, .slice aC aI.length aD] (aA, aB, aI) (z0 aG aH aF) _  gx7) ?_
  rintro v9 k8 ⟨ax7, nx7, cx7, rfl, rx7, sx7⟩
  obtain ⟨rfl, lx7⟩ := Sl.len rx7
  refine And.intro (And.intro rfl sx7) (And.intro (by first | exact trivial | exact rfl) ?_)
  obtain ⟨x10, gx10, hM0⟩ := j0 hM0
  refine Tr.mono (p05 _ [.int .i64 aA, .int .i64 aB, .slice aC aI.length aD] (aA, aB, aI) (z0 aG aH (O0.mono sx7 aF)) ax7 x7.length cx7 x7 rx7 _  gx10) ?_
  rintro v12 k11 ⟨csx10, rfl, wx10⟩
  have sx10 : Sub k8 k11 := wx10.sub
  have rx10 := wx10.r
  obtain ⟨aT, aU, aJ, aX, aK, bD, rfl, rfl, aL, aM, aN⟩ := C0 rx10
  obtain ⟨rfl, aY⟩ := Sl.len aN
  try dsimp only at hM0
  have we13 := New.sndI (New.sndI (wx10))
  refine And.intro (And.intro rfl sx10) (And.intro (by first | exact trivial | exact rfl) ?_)
  refine And.intro trivial (And.intro (by first | exact trivial | exact rfl) ?_)
  have hE := Option.some.inj hM0; subst hE
  exact ⟨([.int .i64 aT, .int .i64 aU, .slice aJ bD.length aK]), rfl, (New.pair (New.int aL) (New.pair (New.int aM) (New.from we13 sx7)))⟩
end Go.Proofs.YtknoadmdnjaocaaGreat
