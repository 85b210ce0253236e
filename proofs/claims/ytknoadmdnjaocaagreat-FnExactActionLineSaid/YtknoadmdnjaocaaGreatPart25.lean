/- Texts of the claim, joined: The walks of batch 1; The walks of batch 2; The walks of batch 4g; The walks of batch 4; The walks of batch 5e; The walks of batch 9; The walks of batch g1. -/
import Derived.Test.YtknoadmdnjaocaaGreatPart18
import Derived.Test.YtknoadmdnjaocaaGreatChecked
import Derived.Test.YtknoadmdnjaocaaGreatH35
import Derived.Test.YtknoadmdnjaocaaGreatSI
import Derived.Test.YtknoadmdnjaocaaGreatPart21
namespace Go.Proofs.YtknoadmdnjaocaaGreat
open Go.H
set_option linter.unusedVariables false
set_option linter.unusedSimpArgs false
set_option maxRecDepth 10000
theorem N8 (h : Hp) (p0 : Int) (ip0 : M0 p0) (p1 : Int) (ip1 : M0 p1) (p2 : Int) (ip2 : M0 p2) (r : Bool) (hM0 : l6 p0 p1 p2 = some r) :
  Tr Tryz.prog 88 #[.int .i64 p0, .int .i64 p1, .int .i64 p2] h fun v h' => v = .bool r ∧ h' = h := by
 unfold l6 at hM0
 refine Tr.forget (T2 (args := [.int .i64 p0, .int .i64 p1, .int .i64 p2]) (fn := Tryz.f88) rfl ?_)
 have hE := Option.some.inj hM0; subst hE
 exact And.intro rfl (Sub.refl _)
theorem V8 (h : Hp) (p0 : Int) (ip0 : M0 p0) (p1 : Int) (ip1 : M0 p1) (p2 : Int) (ip2 : M0 p2) (r : Bool) (hM0 : M6 p0 p1 p2 = some r) :
  Tr Tryz.prog 93 #[.int .i64 p0, .int .i64 p1, .int .i64 p2] h fun v h' => v = .bool r ∧ h' = h := by
 unfold M6 at hM0
 refine Tr.forget (T2 (args := [.int .i64 p0, .int .i64 p1, .int .i64 p2]) (fn := Tryz.f93) rfl ?_)
 have hE := Option.some.inj hM0; subst hE
 exact And.intro rfl (Sub.refl _)
theorem L00 (h : Hp) (p0 : Int) (ip0 : M0 p0) (p1 : Int) (ip1 : M0 p1) (r : Int) (hM0 : j6 p0 p1 = some r) :
  Tr Tryz.prog 305 #[.int .i64 p0, .int .i64 p1] h fun v h' => v = .int .i64 r ∧ h' = h := by
 unfold j6 at hM0
 refine Tr.forget (T2 (args := [.int .i64 p0, .int .i64 p1]) (fn := Tryz.f305) rfl ?_)
 refine And.intro (fun hc1 => ?_) (fun hc1 => ?_)
 ·replace hM0 := ifP hM0 hc1
  have hE := Option.some.inj hM0; subst hE
  exact And.intro rfl (Sub.refl _)
 ·replace hM0 := ifN hM0 hc1
  refine And.intro (fun hc2 => ?_) (fun hc2 => ?_)
  ·replace hM0 := ifP hM0 hc2
   have hE := Option.some.inj hM0; subst hE
   exact And.intro rfl (Sub.refl _)
  ·replace hM0 := ifN hM0 hc2
   have hE := Option.some.inj hM0; subst hE
   exact And.intro rfl (Sub.refl _)
end Go.Proofs.YtknoadmdnjaocaaGreat
namespace Go.Proofs.YtknoadmdnjaocaaGreat
open Go.H
set_option linter.unusedVariables false
set_option linter.unusedSimpArgs false
set_option maxRecDepth 10000
theorem l9 (h : Hp) (p0 : Int) (ip0 : M0 p0) (r : ByteArray) (hM0 : H5 p0 = some r) :
  Tr Tryz.prog 103 #[.int .i64 p0] h fun v h' => v = .string r ∧ h' = h := by
 unfold H5 at hM0
 refine Tr.forget (T2 (args := [.int .i64 p0]) (fn := Tryz.f103) rfl ?_)
 refine And.intro (fun hc1 => ?_) (fun hc1 => ?_)
 ·replace hM0 := ifP hM0 hc1
  have hE := Option.some.inj hM0; subst hE
  exact And.intro rfl (Sub.refl _)
 ·replace hM0 := ifN hM0 hc1
  obtain ⟨X2, hLX2, hM0⟩ := j0 hM0
  refine Exists.intro { vars := [0, 3], boxes := [], owns := [], fuel := true } (Exists.intro (fun vs os h' => ∃ (u3 : Int) (u4 : ByteArray), vs.tail = [.int .i64 u3, .string u4] ∧ os = [] ∧ Sub h h' ∧ M0 u3 ∧ u4.size ≤ 9223372036854775807 ∧ f4 (C1 vs) u3 u4 = some X2) (Exists.intro (fun _ _ => 0) ?_))
  refine And.intro (Exists.intro I0 ⟨p0, (⟨#[]⟩ : ByteArray), rfl, rfl, (Sub.refl _), ip0, (by decide), hLX2⟩) ?_
  rintro v_0 v_1 m6 k5 ⟨u3, u4, evX2, eoX2, sX2, iu3, iu4, hM1⟩
  cases evX2
  cases eoX2
  replace hM1 : f4 m6 u3 u4 = some X2 := hM1
  obtain _ | m6 := m6
  ·cases (show (none : Option _) = some X2 from hM1)
  rw [f4.eq_2] at hM1
  refine And.intro (fun hc7 => ?_) (fun hc7 => ?_)
  ·replace hM1 := ifP hM1 hc7
   obtain ⟨q8, gq8, hM1⟩ := j0 hM1
   refine And.intro (T0 gq8) ?_
   refine And.intro (fun hc9 => ?_) (fun hc9 => ?_)
   ·replace hM1 := ifP hM1 hc9
    refine Exists.intro [(IntKind.u8.wrap (IntKind.i64.wrap (48 + (IntKind.i64.wrap (0 - (Int.tmod u3 10))))))] (And.intro (F2.u8 (show F2 (Rp.u8.R k5) ([[.int .u8 (IntKind.u8.wrap (IntKind.i64.wrap (48 + (IntKind.i64.wrap (0 - (Int.tmod u3 10))))))]] : List (List Value)) [(IntKind.u8.wrap (IntKind.i64.wrap (48 + (IntKind.i64.wrap (0 - (Int.tmod u3 10))))))] from ⟨rfl, trivial⟩)) ?_)
    obtain ⟨q10, gq10, hM1⟩ := j0 hM1
    obtain ⟨q11, gq11, hM1⟩ := j0 hM1
    have jq11 := T0 gq11
    refine And.intro jq11 ?_
    obtain ⟨q12, gq12, hM1⟩ := j0 hM1
    refine And.intro (T0 gq12) ?_
    refine And.intro rfl (And.intro (by repeat (first | exact trivial | refine And.intro rfl ?_)) (And.intro (by repeat (first | exact trivial | refine And.intro rfl ?_)) (Exists.intro m6 (And.intro ⟨(IntKind.i64.wrap (Int.tdiv u3 10)), ((strOfNums [(IntKind.u8.wrap (IntKind.i64.wrap (48 + (IntKind.i64.wrap (0 - (Int.tmod u3 10))))))]) ++ u4), rfl, rfl, sX2, (H0 _), (u02 jq11), hM1⟩ (Nat.lt_succ_self _)))))
   ·replace hM1 := ifN hM1 hc9
    refine Exists.intro [(IntKind.u8.wrap (IntKind.i64.wrap (48 + (Int.tmod u3 10))))] (And.intro (F2.u8 (show F2 (Rp.u8.R k5) ([[.int .u8 (IntKind.u8.wrap (IntKind.i64.wrap (48 + (Int.tmod u3 10))))]] : List (List Value)) [(IntKind.u8.wrap (IntKind.i64.wrap (48 + (Int.tmod u3 10))))] from ⟨rfl, trivial⟩)) ?_)
    obtain ⟨q13, gq13, hM1⟩ := j0 hM1
    obtain ⟨q14, gq14, hM1⟩ := j0 hM1
    have jq14 := T0 gq14
    refine And.intro jq14 ?_
    obtain ⟨q15, gq15, hM1⟩ := j0 hM1
    refine And.intro (T0 gq15) ?_
    refine And.intro rfl (And.intro (by repeat (first | exact trivial | refine And.intro rfl ?_)) (And.intro (by repeat (first | exact trivial | refine And.intro rfl ?_)) (Exists.intro m6 (And.intro ⟨(IntKind.i64.wrap (Int.tdiv u3 10)), ((strOfNums [(IntKind.u8.wrap (IntKind.i64.wrap (48 + (Int.tmod u3 10))))]) ++ u4), rfl, rfl, sX2, (H0 _), (u02 jq14), hM1⟩ (Nat.lt_succ_self _)))))
  ·replace hM1 := ifN hM1 hc7
   have hE := Option.some.inj hM1; subst hE
   try dsimp only [K0, N0] at hM0
   refine And.intro (fun hc16 => ?_) (fun hc16 => ?_)
   ·replace hM0 := ifP hM0 hc16
    obtain ⟨q17, gq17, hM0⟩ := j0 hM0
    have jq17 := T0 gq17
    refine And.intro jq17 ?_
    have hE := Option.some.inj hM0; subst hE
    exact And.intro rfl sX2
   ·replace hM0 := ifN hM0 hc16
    have hE := Option.some.inj hM0; subst hE
    exact And.intro rfl sX2
theorem L0b (h : Hp) (p0 : Int) (ip0 : M0 p0) (r : ByteArray) (hM0 : E01 p0 = some r) :
  Tr Tryz.prog 106 #[.int .i64 p0] h fun v h' => v = .string r ∧ h' = h := by
 unfold E01 at hM0
 refine Tr.forget (T2 (args := [.int .i64 p0]) (fn := Tryz.f106) rfl ?_)
 refine And.intro (fun hc1 => ?_) (fun hc1 => ?_)
 ·replace hM0 := ifP hM0 hc1
  obtain ⟨x2, gx2, hM0⟩ := j0 hM0
  obtain ⟨bx2, csx2, ex2, rx2⟩ := B3 (show F2 (Wp.str.R h) ([[.string (⟨#[65]⟩ : ByteArray)], [.string (⟨#[66]⟩ : ByteArray)], [.string (⟨#[67]⟩ : ByteArray)]] : List (List Value)) [(⟨#[65]⟩ : ByteArray), (⟨#[66]⟩ : ByteArray), (⟨#[67]⟩ : ByteArray)] from ⟨⟨rfl, (by decide)⟩, ⟨⟨rfl, (by decide)⟩, ⟨⟨rfl, (by decide)⟩, trivial⟩⟩⟩) gx2
  refine And.intro bx2 ?_
  obtain ⟨rfl, ix2⟩ := rx2
  refine Exists.intro _ (And.intro ex2 ?_)
  have hE := Option.some.inj hM0; subst hE
  exact And.intro rfl (Sub.refl _)
 ·replace hM0 := ifN hM0 hc1
  obtain ⟨x3, gx3, hM0⟩ := j0 hM0
  obtain ⟨bx3, csx3, ex3, rx3⟩ := B3 (show F2 (Wp.str.R h) ([[.string (⟨#[97]⟩ : ByteArray)], [.string (⟨#[98]⟩ : ByteArray)], [.string (⟨#[99]⟩ : ByteArray)]] : List (List Value)) [(⟨#[97]⟩ : ByteArray), (⟨#[98]⟩ : ByteArray), (⟨#[99]⟩ : ByteArray)] from ⟨⟨rfl, (by decide)⟩, ⟨⟨rfl, (by decide)⟩, ⟨⟨rfl, (by decide)⟩, trivial⟩⟩⟩) gx3
  refine And.intro bx3 ?_
  obtain ⟨rfl, ix3⟩ := rx3
  refine Exists.intro _ (And.intro ex3 ?_)
  have hE := Option.some.inj hM0; subst hE
  exact And.intro rfl (Sub.refl _)
theorem r00 (h : Hp) (p0 : Int) (ip0 : M0 p0) (r : ByteArray) (hM0 : F6 p0 = some r) :
  Tr Tryz.prog 110 #[.int .i64 p0] h fun v h' => v = .string r ∧ h' = h := by
 unfold F6 at hM0
 refine Tr.forget (T2 (args := [.int .i64 p0]) (fn := Tryz.f110) rfl ?_)
 refine And.intro (fun hc1 => ?_) (fun hc1 => ?_)
 ·replace hM0 := ifP hM0 hc1
  have hE := Option.some.inj hM0; subst hE
  exact And.intro rfl (Sub.refl _)
 ·replace hM0 := ifN hM0 hc1
  obtain ⟨X2, hLX2, hM0⟩ := j0 hM0
  refine Exists.intro { vars := [4], boxes := [], owns := [0], fuel := true } (Exists.intro (fun vs os h' => ∃ (u3 : Int) (wu4 : List (List Value)) (u4 : List Int), vs.tail = [.int .i64 u3] ∧ os = [wu4] ∧ Sub h h' ∧ M0 u3 ∧ F2 (Rp.u8.R h') wu4 u4 ∧ i4 (C1 vs) u3 u4 = some X2) (Exists.intro (fun _ _ => 0) ?_))
  refine And.intro (Exists.intro I0 ⟨p0, [], ([] : (List Int)), rfl, rfl, (Sub.refl _), ip0, (show F2 (Rp.u8.R h) ([] : List (List Value)) ([] : (List Int)) from trivial), hLX2⟩) ?_
  rintro v_0 wu4 m6 k5 ⟨u3, zzu4, u4, evX2, eoX2, sX2, iu3, fu4, hM1⟩
  cases evX2
  cases eoX2
  replace hM1 : i4 m6 u3 u4 = some X2 := hM1
  obtain _ | m6 := m6
  ·cases (show (none : Option _) = some X2 from hM1)
  rw [i4.eq_2] at hM1
  refine And.intro (fun hc7 => ?_) (fun hc7 => ?_)
  ·replace hM1 := ifP hM1 hc7
   obtain ⟨q8, gq8, hM1⟩ := j0 hM1
   refine And.intro (T0 gq8) ?_
   refine And.intro (fun hc9 => ?_) (fun hc9 => ?_)
   ·replace hM1 := ifP hM1 hc9
    obtain ⟨q10, gq10, hM1⟩ := j0 hM1
    refine And.intro (E1 gq10 (by first | rw [F2.length fu4, F2.length (show F2 (Rp.u8.R k5) ([[.int .u8 (IntKind.u8.wrap (IntKind.i64.wrap (48 + (IntKind.i64.wrap (0 - (Int.tmod u3 10))))))]] : List (List Value)) [(IntKind.u8.wrap (IntKind.i64.wrap (48 + (IntKind.i64.wrap (0 - (Int.tmod u3 10))))))] from ⟨rfl, trivial⟩)] | exact congrArg (· + 1) (F2.length fu4))) ?_
    obtain ⟨q11, gq11, hM1⟩ := j0 hM1
    refine And.intro (T0 gq11) ?_
    refine And.intro rfl (And.intro (by repeat (first | exact trivial | refine And.intro rfl ?_)) (And.intro (by repeat (first | exact trivial | refine And.intro rfl ?_)) (Exists.intro m6 (And.intro ⟨(IntKind.i64.wrap (Int.tdiv u3 10)), (wu4 ++ ([[.int .u8 (IntKind.u8.wrap (IntKind.i64.wrap (48 + (IntKind.i64.wrap (0 - (Int.tmod u3 10))))))]] : List (List Value))), (u4 ++ [(IntKind.u8.wrap (IntKind.i64.wrap (48 + (IntKind.i64.wrap (0 - (Int.tmod u3 10))))))]), rfl, rfl, sX2, (H0 _), (F2.append fu4 (show F2 (Rp.u8.R k5) ([[.int .u8 (IntKind.u8.wrap (IntKind.i64.wrap (48 + (IntKind.i64.wrap (0 - (Int.tmod u3 10))))))]] : List (List Value)) [(IntKind.u8.wrap (IntKind.i64.wrap (48 + (IntKind.i64.wrap (0 - (Int.tmod u3 10))))))] from ⟨rfl, trivial⟩)), hM1⟩ (Nat.lt_succ_self _)))))
   ·replace hM1 := ifN hM1 hc9
    obtain ⟨q12, gq12, hM1⟩ := j0 hM1
    refine And.intro (E1 gq12 (by first | rw [F2.length fu4, F2.length (show F2 (Rp.u8.R k5) ([[.int .u8 (IntKind.u8.wrap (IntKind.i64.wrap (48 + (Int.tmod u3 10))))]] : List (List Value)) [(IntKind.u8.wrap (IntKind.i64.wrap (48 + (Int.tmod u3 10))))] from ⟨rfl, trivial⟩)] | exact congrArg (· + 1) (F2.length fu4))) ?_
    obtain ⟨q13, gq13, hM1⟩ := j0 hM1
    refine And.intro (T0 gq13) ?_
    refine And.intro rfl (And.intro (by repeat (first | exact trivial | refine And.intro rfl ?_)) (And.intro (by repeat (first | exact trivial | refine And.intro rfl ?_)) (Exists.intro m6 (And.intro ⟨(IntKind.i64.wrap (Int.tdiv u3 10)), (wu4 ++ ([[.int .u8 (IntKind.u8.wrap (IntKind.i64.wrap (48 + (Int.tmod u3 10))))]] : List (List Value))), (u4 ++ [(IntKind.u8.wrap (IntKind.i64.wrap (48 + (Int.tmod u3 10))))]), rfl, rfl, sX2, (H0 _), (F2.append fu4 (show F2 (Rp.u8.R k5) ([[.int .u8 (IntKind.u8.wrap (IntKind.i64.wrap (48 + (Int.tmod u3 10))))]] : List (List Value)) [(IntKind.u8.wrap (IntKind.i64.wrap (48 + (Int.tmod u3 10))))] from ⟨rfl, trivial⟩)), hM1⟩ (Nat.lt_succ_self _)))))
  ·replace hM1 := ifN hM1 hc7
   have hE := Option.some.inj hM1; subst hE
   try dsimp only [K0, N0] at hM0
   refine And.intro (fun hc14 => ?_) (fun hc14 => ?_)
   ·replace hM0 := ifP hM0 hc14
    obtain ⟨q15, gq15, hM0⟩ := j0 hM0
    refine And.intro (E1 gq15 (by first | rw [F2.length fu4, F2.length (show F2 (Rp.u8.R k5) ([[.int .u8 45]] : List (List Value)) [45] from ⟨rfl, trivial⟩)] | exact congrArg (· + 1) (F2.length fu4))) ?_
    obtain ⟨m16, gm16, hM0⟩ := j0 hM0
    obtain rfl : (wu4 ++ ([[.int .u8 45]] : List (List Value))).length = m16 := (F2.length (F2.append fu4 (show F2 (Rp.u8.R k5) ([[.int .u8 45]] : List (List Value)) [45] from ⟨rfl, trivial⟩))).trans (Option.some.inj gm16)
    obtain ⟨q17, gq17, hM0⟩ := j0 hM0
    obtain ⟨X18, hLX18, hM0⟩ := j0 hM0
    refine Exists.intro { vars := [6, 7], boxes := [], owns := [0], fuel := true, kept := [0] } (Exists.intro (fun vs os h' => ∃ (u19 : Int) (u20 : Int) (wu21 : List (List Value)) (u21 : List Int), vs.tail = [.int .i64 u19, .int .i64 u20] ∧ os = [wu21] ∧ Sub k5 h' ∧ M0 u19 ∧ M0 u20 ∧ F2 (Rp.u8.R h') wu21 u21 ∧ U2 (C1 vs) u19 u20 u21 = some X18) (Exists.intro (fun _ _ => 0) ?_))
    refine And.intro (Exists.intro I0 ⟨0, (IntKind.i64.wrap ((((wu4 ++ ([[.int .u8 45]] : List (List Value))).length : Nat) : Int) - 1)), (wu4 ++ ([[.int .u8 45]] : List (List Value))), (u4 ++ [45]), rfl, rfl, (Sub.refl _), (c64 (by decide) (by decide)), (H0 _), (F2.append fu4 (show F2 (Rp.u8.R k5) ([[.int .u8 45]] : List (List Value)) [45] from ⟨rfl, trivial⟩)), hLX18⟩) ?_
    rintro v_0 v_1 wu21 m23 k22 ⟨u19, u20, zzu21, u21, evX18, eoX18, sX18, iu19, iu20, fu21, hM1⟩
    cases evX18
    cases eoX18
    replace hM1 : U2 m23 u19 u20 u21 = some X18 := hM1
    obtain _ | m23 := m23
    ·cases (show (none : Option _) = some X18 from hM1)
    rw [U2.eq_2] at hM1
    refine And.intro (fun hc24 => ?_) (fun hc24 => ?_)
    ·replace hM1 := ifP hM1 hc24
     refine Or.inr (Or.inr (Or.inl (And.intro (And.intro (by kernel_rfl) (by kernel_rfl)) ?_)))
     obtain ⟨x25, gx25, hM1⟩ := j0 hM1
     obtain ⟨bx25, csx25, ex25, rx25⟩ := B3 fu21 gx25
     obtain rfl := rx25
     refine Or.inl ?_
     apply Exists.intro
     refine And.intro ?_ ?_
     ·intro k26 s27
      exact And.intro bx25 (And.intro rfl (And.intro rfl rfl))
     refine Or.inl (Exists.intro (.val (.int .u8 x25)) (And.intro ?_ ?_))
     ·intro k28 s29
      exact Exists.intro _ (And.intro ex25 (And.intro rfl (And.intro rfl rfl)))
     obtain ⟨x30, gx30, hM1⟩ := j0 hM1
     obtain ⟨bx30, csx30, ex30, rx30⟩ := B3 fu21 gx30
     obtain rfl := rx30
     refine Or.inl ?_
     apply Exists.intro
     refine And.intro ?_ ?_
     ·intro k31 s32
      exact And.intro bx30 (And.intro rfl (And.intro rfl rfl))
     refine Or.inl (Exists.intro (.val (.int .u8 x30)) (And.intro ?_ ?_))
     ·intro k33 s34
      exact Exists.intro _ (And.intro ex30 (And.intro rfl (And.intro rfl rfl)))
     refine Or.inr ?_
     refine Or.inr ?_
     refine Or.inr ?_
     refine Or.inr ?_
     refine Exists.intro 0 (And.intro (And.intro rfl rfl) ?_)
     obtain ⟨x35, gx35, hM1⟩ := j0 hM1
     obtain ⟨bx35, csx35, ex35, rx35⟩ := B3 fu21 gx35
     refine And.intro bx35 ?_
     obtain rfl := rx35
     refine And.intro trivial (And.intro (by first | exact trivial | exact rfl) ?_)
     refine Exists.intro _ (And.intro ex35 ?_)
     refine And.intro trivial (And.intro (by first | exact trivial | exact rfl) ?_)
     obtain ⟨x36, gx36, hM1⟩ := j0 hM1
     obtain ⟨bx36, csx36, ex36, rx36⟩ := B3 (F2.set (p := Rp.u8.R k22) (a := [.int .u8 x25]) (b := x25) rfl u19.toNat fu21) gx36
     refine And.intro bx36 ?_
     obtain rfl := rx36
     refine And.intro trivial (And.intro (by first | exact trivial | exact rfl) ?_)
     refine Exists.intro _ (And.intro ex36 ?_)
     refine And.intro trivial (And.intro (by first | exact trivial | exact rfl) ?_)
     refine And.intro rfl (And.intro (by repeat (first | exact trivial | refine And.intro rfl ?_)) (And.intro (by repeat (first | exact trivial | refine And.intro rfl ?_)) (Exists.intro m23 (And.intro ⟨(IntKind.i64.wrap (u19 + 1)), (IntKind.i64.wrap (u20 - 1)), ((wu21.set u19.toNat [.int .u8 x25]).set u20.toNat [.int .u8 x30]), ((u21.set u19.toNat x25).set u20.toNat x30), rfl, rfl, sX18, (H0 _), (H0 _), (F2.set (p := Rp.u8.R k22) (a := [.int .u8 x30]) (b := x30) rfl u20.toNat (F2.set (p := Rp.u8.R k22) (a := [.int .u8 x25]) (b := x25) rfl u19.toNat fu21)), hM1⟩ (Nat.lt_succ_self _)))))
    ·replace hM1 := ifN hM1 hc24
     have hE := Option.some.inj hM1; subst hE
     try dsimp only [K0, N0] at hM0
     refine Exists.intro u21 (And.intro (F2.u8 fu21) ?_)
     obtain ⟨q37, gq37, hM0⟩ := j0 hM0
     have hE := Option.some.inj hM0; subst hE
     exact And.intro rfl (sX2.trans sX18)
   ·replace hM0 := ifN hM0 hc14
    obtain ⟨m43, gm43, hM0⟩ := j0 hM0
    obtain rfl : wu4.length = m43 := (F2.length fu4).trans (Option.some.inj gm43)
    obtain ⟨q44, gq44, hM0⟩ := j0 hM0
    obtain ⟨X45, hLX45, hM0⟩ := j0 hM0
    refine Exists.intro { vars := [6, 7], boxes := [], owns := [0], fuel := true, kept := [0] } (Exists.intro (fun vs os h' => ∃ (u46 : Int) (u47 : Int) (wu48 : List (List Value)) (u48 : List Int), vs.tail = [.int .i64 u46, .int .i64 u47] ∧ os = [wu48] ∧ Sub k5 h' ∧ M0 u46 ∧ M0 u47 ∧ F2 (Rp.u8.R h') wu48 u48 ∧ U2 (C1 vs) u46 u47 u48 = some X45) (Exists.intro (fun _ _ => 0) ?_))
    refine And.intro (Exists.intro I0 ⟨0, (IntKind.i64.wrap (((wu4.length : Nat) : Int) - 1)), wu4, u4, rfl, rfl, (Sub.refl _), (c64 (by decide) (by decide)), (H0 _), fu4, hLX45⟩) ?_
    rintro v_0 v_1 wu48 m50 k49 ⟨u46, u47, zzu48, u48, evX45, eoX45, sX45, iu46, iu47, fu48, hM1⟩
    cases evX45
    cases eoX45
    replace hM1 : U2 m50 u46 u47 u48 = some X45 := hM1
    obtain _ | m50 := m50
    ·cases (show (none : Option _) = some X45 from hM1)
    rw [U2.eq_2] at hM1
    refine And.intro (fun hc51 => ?_) (fun hc51 => ?_)
    ·replace hM1 := ifP hM1 hc51
     refine Or.inr (Or.inr (Or.inl (And.intro (And.intro (by kernel_rfl) (by kernel_rfl)) ?_)))
     obtain ⟨x52, gx52, hM1⟩ := j0 hM1
     obtain ⟨bx52, csx52, ex52, rx52⟩ := B3 fu48 gx52
     obtain rfl := rx52
     refine Or.inl ?_
     apply Exists.intro
     refine And.intro ?_ ?_
     ·intro k53 s54
      exact And.intro bx52 (And.intro rfl (And.intro rfl rfl))
     refine Or.inl (Exists.intro (.val (.int .u8 x52)) (And.intro ?_ ?_))
     ·intro k55 s56
      exact Exists.intro _ (And.intro ex52 (And.intro rfl (And.intro rfl rfl)))
     obtain ⟨x57, gx57, hM1⟩ := j0 hM1
     obtain ⟨bx57, csx57, ex57, rx57⟩ := B3 fu48 gx57
     obtain rfl := rx57
     refine Or.inl ?_
     apply Exists.intro
     refine And.intro ?_ ?_
     ·intro k58 s59
      exact And.intro bx57 (And.intro rfl (And.intro rfl rfl))
     refine Or.inl (Exists.intro (.val (.int .u8 x57)) (And.intro ?_ ?_))
     ·intro k60 s61
      exact Exists.intro _ (And.intro ex57 (And.intro rfl (And.intro rfl rfl)))
     refine Or.inr ?_
     refine Or.inr ?_
     refine Or.inr ?_
     refine Or.inr ?_
     refine Exists.intro 0 (And.intro (And.intro rfl rfl) ?_)
     obtain ⟨x62, gx62, hM1⟩ := j0 hM1
     obtain ⟨bx62, csx62, ex62, rx62⟩ := B3 fu48 gx62
     refine And.intro bx62 ?_
     obtain rfl := rx62
     refine And.intro trivial (And.intro (by first | exact trivial | exact rfl) ?_)
     refine Exists.intro _ (And.intro ex62 ?_)
     refine And.intro trivial (And.intro (by first | exact trivial | exact rfl) ?_)
     obtain ⟨x63, gx63, hM1⟩ := j0 hM1
     obtain ⟨bx63, csx63, ex63, rx63⟩ := B3 (F2.set (p := Rp.u8.R k49) (a := [.int .u8 x52]) (b := x52) rfl u46.toNat fu48) gx63
     refine And.intro bx63 ?_
     obtain rfl := rx63
     refine And.intro trivial (And.intro (by first | exact trivial | exact rfl) ?_)
     refine Exists.intro _ (And.intro ex63 ?_)
     refine And.intro trivial (And.intro (by first | exact trivial | exact rfl) ?_)
     refine And.intro rfl (And.intro (by repeat (first | exact trivial | refine And.intro rfl ?_)) (And.intro (by repeat (first | exact trivial | refine And.intro rfl ?_)) (Exists.intro m50 (And.intro ⟨(IntKind.i64.wrap (u46 + 1)), (IntKind.i64.wrap (u47 - 1)), ((wu48.set u46.toNat [.int .u8 x52]).set u47.toNat [.int .u8 x57]), ((u48.set u46.toNat x52).set u47.toNat x57), rfl, rfl, sX45, (H0 _), (H0 _), (F2.set (p := Rp.u8.R k49) (a := [.int .u8 x57]) (b := x57) rfl u47.toNat (F2.set (p := Rp.u8.R k49) (a := [.int .u8 x52]) (b := x52) rfl u46.toNat fu48)), hM1⟩ (Nat.lt_succ_self _)))))
    ·replace hM1 := ifN hM1 hc51
     have hE := Option.some.inj hM1; subst hE
     try dsimp only [K0, N0] at hM0
     refine Exists.intro u48 (And.intro (F2.u8 fu48) ?_)
     obtain ⟨q64, gq64, hM0⟩ := j0 hM0
     have hE := Option.some.inj hM0; subst hE
     exact And.intro rfl (sX2.trans sX45)
theorem E07 (h : Hp) (p0 : Int) (ip0 : M0 p0) (r : ByteArray) (hM0 : K8 p0 = some r) :
  Tr Tryz.prog 114 #[.int .i64 p0] h fun v h' => v = .string r ∧ h' = h := by
 unfold K8 at hM0
 refine Tr.forget (T2 (args := [.int .i64 p0]) (fn := Tryz.f114) rfl ?_)
 obtain ⟨x1, gx1, hM0⟩ := j0 hM0
 refine Tr.val (V8 _ p0 ip0 1 (c64 (by decide) (by decide)) 3 (c64 (by decide) (by decide)) _  gx1) ?_
 refine And.intro (fun hc2 => ?_) (fun hc2 => ?_)
 ·replace hM0 := ifP hM0 hc2
  obtain ⟨q3, gq3, hM0⟩ := j0 hM0
  refine And.intro (T0 gq3) ?_
  have hE := Option.some.inj hM0; subst hE
  exact And.intro rfl (Sub.refl _)
 ·replace hM0 := ifN hM0 hc2
  obtain ⟨x4, gx4, hM0⟩ := j0 hM0
  refine Tr.val (V8 _ p0 ip0 (-3) (c64 (by decide) (by decide)) (-1) (c64 (by decide) (by decide)) _  gx4) ?_
  refine And.intro (fun hc5 => ?_) (fun hc5 => ?_)
  ·replace hM0 := ifP hM0 hc5
   obtain ⟨q6, gq6, hM0⟩ := j0 hM0
   refine And.intro (T0 gq6) ?_
   have hE := Option.some.inj hM0; subst hE
   exact And.intro rfl (Sub.refl _)
  ·replace hM0 := ifN hM0 hc5
   have hE := Option.some.inj hM0; subst hE
   exact And.intro rfl (Sub.refl _)
theorem F07 (h : Hp) (ap0 : Option Addr) (np0 cp0 : Nat) (p0 : (List ByteArray)) (rp0 : (Wp.slice Wp.str).R h [.slice ap0 np0 cp0] p0) (p1 : ByteArray) (ip1 : p1.size ≤ 9223372036854775807) (p2 : ByteArray) (ip2 : p2.size ≤ 9223372036854775807) (r : ByteArray) (hM0 : p00 p0 p1 p2 = some r) :
  Tr Tryz.prog 197 #[.slice ap0 np0 cp0, .string p1, .string p2] h fun v h' => v = .string r ∧ h' = h := by
 obtain ⟨rfl, lp0⟩ := Sl.len rp0
 unfold p00 at hM0
 refine Tr.forget (T2 (args := [.slice ap0 p0.length cp0, .string p1, .string p2]) (fn := Tryz.f197) rfl ?_)
 refine And.intro (fun hc1 => ?_) (fun hc1 => ?_)
 ·replace hM0 := ifP hM0 hc1
  have hE := Option.some.inj hM0; subst hE
  exact And.intro rfl (Sub.refl _)
 ·replace hM0 := ifN hM0 hc1
  obtain ⟨x2, gx2, hM0⟩ := j0 hM0
  obtain ⟨bx2, csx2, ex2, rx2⟩ := Sl.getI (r := Wp.str.toRp) rp0 gx2 (by decide)
  refine And.intro bx2 ?_
  obtain ⟨rfl, ix2⟩ := rx2
  refine Exists.intro _ (And.intro ex2 ?_)
  obtain ⟨x3, gx3, hM0⟩ := j0 hM0
  obtain ⟨qx3, vsx3, ex3, fx3⟩ := Sl.cutI (r := Wp.str.toRp) rp0 gx3
  refine And.intro qx3 (Exists.intro vsx3 (And.intro ex3 ?_))
  intro vx3 hvx3 _
  obtain ⟨ax3, cx3, rfl, rx3⟩ := fx3 vx3 hvx3
  have lx3 := (Sl.len rx3).2
  obtain ⟨X4, hLX4, hM0⟩ := j0 hM0
  refine Exists.intro { vars := [7, 20], boxes := [], owns := [], fuel := true } (Exists.intro (fun vs os h' => ∃ (u5 : ByteArray) (u6 : Int), vs.tail = [.string u5, .int .i64 u6] ∧ os = [] ∧ Sub h h' ∧ u5.size ≤ 9223372036854775807 ∧ M0 u6 ∧ L7 x3 p1 (C1 vs) u5 u6 = some X4) (Exists.intro (fun _ _ => 0) ?_))
  refine And.intro (Exists.intro I0 ⟨x2, 0, rfl, rfl, (Sub.refl _), ix2, (c64 (by decide) (by decide)), hLX4⟩) ?_
  rintro v_0 v_1 m8 k7 ⟨u5, u6, evX4, eoX4, sX4, iu5, iu6, hM1⟩
  cases evX4
  cases eoX4
  replace hM1 : L7 x3 p1 m8 u5 u6 = some X4 := hM1
  obtain _ | m8 := m8
  ·cases (show (none : Option _) = some X4 from hM1)
  rw [L7.eq_2] at hM1
  refine And.intro (fun hc9 => ?_) (fun hc9 => ?_)
  ·replace hM1 := ifP hM1 hc9
   obtain ⟨x10, gx10, hM1⟩ := j0 hM1
   obtain ⟨bx10, csx10, ex10, rx10⟩ := Sl.getI (r := Wp.str.toRp) ((Wp.slice Wp.str).mono sX4 rx3) gx10 (by decide)
   refine And.intro bx10 ?_
   obtain ⟨rfl, ix10⟩ := rx10
   refine Exists.intro _ (And.intro ex10 ?_)
   obtain ⟨q11, gq11, hM1⟩ := j0 hM1
   have jq11 := T0 gq11
   refine And.intro jq11 ?_
   obtain ⟨q12, gq12, hM1⟩ := j0 hM1
   have jq12 := T0 gq12
   refine And.intro jq12 ?_
   refine And.intro rfl (And.intro (by repeat (first | exact trivial | refine And.intro rfl ?_)) (And.intro (by repeat (first | exact trivial | refine And.intro rfl ?_)) (Exists.intro m8 (And.intro ⟨((u5 ++ p1) ++ x10), (IntKind.i64.wrap (u6 + 1)), rfl, rfl, sX4, (u02 jq12), (H0 _), hM1⟩ (Nat.lt_succ_self _)))))
  ·replace hM1 := ifN hM1 hc9
   have hE := Option.some.inj hM1; subst hE
   try dsimp only [K0, N0] at hM0
   have hE := Option.some.inj hM0; subst hE
   exact And.intro rfl sX4
end Go.Proofs.YtknoadmdnjaocaaGreat
namespace Go.Proofs.YtknoadmdnjaocaaGreat
open Go.H
set_option linter.unusedVariables false
set_option linter.unusedSimpArgs false
set_option maxRecDepth 10000
theorem M0b (h : Hp) (csp0 : List Value) (p0 : l0) (rp0 : P0.R h csp0 p0) (csp1 : List Value) (p1 : F0) (rp1 : j1.R h csp1 p1) (r : Bool) (hM0 : B00 p0 p1 = some r) :
  Tr Tryz.prog 310 #[.agg csp0.toArray, .agg csp1.toArray] h fun v h' => v = .bool r ∧ h' = h := by
 obtain ⟨aB, aA, aC, aN, aD, aQ, rfl, rfl, aF, aO, aG⟩ := C0 rp0
 obtain ⟨rfl, aP⟩ := Sl.len aG
 obtain ⟨aH, aI, aJ, rfl, rfl, aK, aL, aM⟩ := F1 rp1
 unfold B00 at hM0
 dsimp only at hM0
 refine Tr.forget (T2 (args := [.agg #[.int .i64 aB, .int .i64 aA, .slice aC aQ.length aD], .agg #[.int .i64 aH, .int .i64 aI, .int .i64 aJ]]) (fn := Tryz.f310) rfl ?_)
 obtain ⟨x1, gx1, hM0⟩ := j0 hM0
 refine Tr.val (N8 _ aH aK 0 (c64 (by decide) (by decide)) (IntKind.i64.wrap (aA - 1)) (H0 _) _  gx1) ?_
 obtain ⟨x2, gx2, hM0⟩ := j0 hM0
 refine Exists.intro (.bool x2) (And.intro (fun q => N8 _ aJ aM 0 (c64 (by decide) (by decide)) (IntKind.i64.wrap (aA - 1)) (H0 _) _  (G2 gx2 q)) ?_)
 obtain ⟨x3, gx3, hM0⟩ := j0 hM0
 refine Exists.intro (.bool x3) (And.intro (fun q => N8 _ aI aL 1 (c64 (by decide) (by decide)) aB aF _  (G2 gx3 q)) ?_)
 have hE := Option.some.inj hM0; subst hE
 exact And.intro rfl (Sub.refl _)
theorem V01 (h : Hp) (csp0 : List Value) (p0 : F0) (rp0 : j1.R h csp0 p0) (csp1 : List Value) (p1 : F0) (rp1 : j1.R h csp1 p1) (r : Int) (hM0 : T6 p0 p1 = some r) :
  Tr Tryz.prog 254 #[.agg csp0.toArray, .agg csp1.toArray] h fun v h' => v = .int .i64 r ∧ h' = h := by
 obtain ⟨aA, aB, aC, rfl, rfl, aH, aI, aJ⟩ := F1 rp0
 obtain ⟨aD, aF, aG, rfl, rfl, aK, aL, aM⟩ := F1 rp1
 unfold T6 at hM0
 dsimp only at hM0
 refine Tr.forget (T2 (args := [.agg #[.int .i64 aA, .int .i64 aB, .int .i64 aC], .agg #[.int .i64 aD, .int .i64 aF, .int .i64 aG]]) (fn := Tryz.f254) rfl ?_)
 obtain ⟨X1, hLX1, hM0⟩ := j0 hM0
 refine Exists.intro { vars := [7], boxes := [], owns := [], fuel := true } (Exists.intro (fun vs os h' => ∃ (u2 : Int), vs.tail = [.int .i64 u2] ∧ os = [] ∧ Sub h h' ∧ M0 u2 ∧ U5 aA aB aC aD aF aG (C1 vs) u2 = some X1) (Exists.intro (fun _ _ => 0) ?_))
 refine And.intro (Exists.intro I0 ⟨0, rfl, rfl, (Sub.refl _), (c64 (by decide) (by decide)), hLX1⟩) ?_
 rintro v_0 m4 k3 ⟨u2, evX1, eoX1, sX1, iu2, hM1⟩
 cases evX1
 cases eoX1
 replace hM1 : U5 aA aB aC aD aF aG m4 u2 = some X1 := hM1
 obtain _ | m4 := m4
 ·cases (show (none : Option _) = some X1 from hM1)
 rw [U5.eq_2] at hM1
 refine And.intro (fun hc5 => ?_) (fun hc5 => ?_)
 ·replace hM1 := ifP hM1 hc5
  refine Or.inl (And.intro (And.intro (by kernel_rfl) (by kernel_rfl)) ?_)
  obtain ⟨x6, gx6, hM1⟩ := j0 hM1
  obtain ⟨bx6, csx6, ex6, rx6⟩ := B3 (F2.up (r := Wp.int.toRp) sX1 (show F2 (Wp.int.R h) ([[.int .i64 aA], [.int .i64 aB], [.int .i64 aC]] : List (List Value)) [aA, aB, aC] from ⟨⟨rfl, aH⟩, ⟨⟨rfl, aI⟩, ⟨⟨rfl, aJ⟩, trivial⟩⟩⟩)) gx6
  refine And.intro bx6 ?_
  obtain ⟨rfl, ix6⟩ := rx6
  refine Exists.intro _ (And.intro ex6 ?_)
  obtain ⟨x7, gx7, hM1⟩ := j0 hM1
  obtain ⟨bx7, csx7, ex7, rx7⟩ := B3 (F2.up (r := Wp.int.toRp) sX1 (show F2 (Wp.int.R h) ([[.int .i64 aD], [.int .i64 aF], [.int .i64 aG]] : List (List Value)) [aD, aF, aG] from ⟨⟨rfl, aK⟩, ⟨⟨rfl, aL⟩, ⟨⟨rfl, aM⟩, trivial⟩⟩⟩)) gx7
  refine And.intro bx7 ?_
  obtain ⟨rfl, ix7⟩ := rx7
  refine Exists.intro _ (And.intro ex7 ?_)
  refine And.intro (fun hc8 => ?_) (fun hc8 => ?_)
  ·replace hM1 := ifP hM1 hc8
   have hE := Option.some.inj hM1; subst hE
   try dsimp only [j4, l4] at hM0
   have hE := Option.some.inj hM0; subst hE
   exact And.intro rfl sX1
  ·replace hM1 := ifN hM1 hc8
   refine Or.inl (And.intro (And.intro (by kernel_rfl) (by kernel_rfl)) ?_)
   obtain ⟨x9, gx9, hM1⟩ := j0 hM1
   obtain ⟨bx9, csx9, ex9, rx9⟩ := B3 (F2.up (r := Wp.int.toRp) sX1 (show F2 (Wp.int.R h) ([[.int .i64 aA], [.int .i64 aB], [.int .i64 aC]] : List (List Value)) [aA, aB, aC] from ⟨⟨rfl, aH⟩, ⟨⟨rfl, aI⟩, ⟨⟨rfl, aJ⟩, trivial⟩⟩⟩)) gx9
   refine And.intro bx9 ?_
   obtain ⟨rfl, ix9⟩ := rx9
   refine Exists.intro _ (And.intro ex9 ?_)
   obtain ⟨x10, gx10, hM1⟩ := j0 hM1
   obtain ⟨bx10, csx10, ex10, rx10⟩ := B3 (F2.up (r := Wp.int.toRp) sX1 (show F2 (Wp.int.R h) ([[.int .i64 aD], [.int .i64 aF], [.int .i64 aG]] : List (List Value)) [aD, aF, aG] from ⟨⟨rfl, aK⟩, ⟨⟨rfl, aL⟩, ⟨⟨rfl, aM⟩, trivial⟩⟩⟩)) gx10
   refine And.intro bx10 ?_
   obtain ⟨rfl, ix10⟩ := rx10
   refine Exists.intro _ (And.intro ex10 ?_)
   refine And.intro (fun hc11 => ?_) (fun hc11 => ?_)
   ·replace hM1 := ifP hM1 hc11
    have hE := Option.some.inj hM1; subst hE
    try dsimp only [j4, l4] at hM0
    have hE := Option.some.inj hM0; subst hE
    exact And.intro rfl sX1
   ·replace hM1 := ifN hM1 hc11
    refine And.intro rfl (And.intro (by repeat (first | exact trivial | refine And.intro rfl ?_)) (And.intro (by repeat (first | exact trivial | refine And.intro rfl ?_)) (Exists.intro m4 (And.intro ⟨(IntKind.i64.wrap (u2 + 1)), rfl, rfl, sX1, (H0 _), hM1⟩ (Nat.lt_succ_self _)))))
 ·replace hM1 := ifN hM1 hc5
  have hE := Option.some.inj hM1; subst hE
  try dsimp only [K0, N0] at hM0
  have hE := Option.some.inj hM0; subst hE
  exact And.intro rfl sX1
theorem O7 (h : Hp) (csp0 : List Value) (p0 : l0) (rp0 : P0.R h csp0 p0) (r : Bool) (hM0 : U4 p0 = some r) :
  Tr Tryz.prog 277 #[.agg csp0.toArray] h fun v h' => v = .bool r ∧ h' = h := by
 obtain ⟨aB, aC, aD, bB, aF, aI, rfl, rfl, aG, aH, aA⟩ := C0 rp0
 obtain ⟨rfl, bC⟩ := Sl.len aA
 unfold U4 at hM0
 dsimp only at hM0
 refine Tr.forget (T2 (args := [.agg #[.int .i64 aB, .int .i64 aC, .slice aD aI.length aF]]) (fn := Tryz.f277) rfl ?_)
 obtain ⟨X1, hLX1, hM0⟩ := j0 hM0
 refine Exists.intro { vars := [3], boxes := [], owns := [], fuel := true } (Exists.intro (fun vs os h' => ∃ (u2 : Int), vs.tail = [.int .i64 u2] ∧ os = [] ∧ Sub h h' ∧ M0 u2 ∧ o6 aI aB aC (C1 vs) u2 = some X1) (Exists.intro (fun _ _ => 0) ?_))
 refine And.intro (Exists.intro I0 ⟨0, rfl, rfl, (Sub.refl _), (c64 (by decide) (by decide)), hLX1⟩) ?_
 rintro v_0 m4 k3 ⟨u2, evX1, eoX1, sX1, iu2, hM1⟩
 cases evX1
 cases eoX1
 replace hM1 : o6 aI aB aC m4 u2 = some X1 := hM1
 obtain _ | m4 := m4
 ·cases (show (none : Option _) = some X1 from hM1)
 rw [o6.eq_2] at hM1
 refine And.intro (fun hc5 => ?_) (fun hc5 => ?_)
 ·replace hM1 := ifP hM1 hc5
  refine Or.inl (And.intro (And.intro (by kernel_rfl) (by kernel_rfl)) ?_)
  obtain ⟨x6, gx6, hM1⟩ := j0 hM1
  obtain ⟨bx6, csx6, ex6, rx6⟩ := Sl.getI (r := j1.toRp) (O0.mono sX1 aA) gx6 (by decide)
  refine And.intro bx6 ?_
  obtain ⟨aJ, aK, aL, rfl, rfl, aM, aN, aO⟩ := F1 rx6
  try dsimp only at hM1
  refine Exists.intro _ (And.intro ex6 ?_)
  obtain ⟨x7, gx7, hM1⟩ := j0 hM1
  refine Exists.intro (.bool x7) (And.intro (M0b _ [.int .i64 aB, .int .i64 aC, .slice aD aI.length aF] (aB, aC, aI) (z0 aG aH (O0.mono sX1 aA)) [.int .i64 aJ, .int .i64 aK, .int .i64 aL] (aJ, aK, aL) (K1 aM aN aO) _  gx7) ?_)
  obtain ⟨x8, gx8, hM1⟩ := j0 hM1
  obtain ⟨csx8, ex8, rx8⟩ := Sl.getG (r := j1.toRp) (O0.mono sX1 aA) gx8 (by decide) (n0g k3)
  refine And.intro (fun q => (ex8 q).1) ?_
  obtain ⟨aP, aQ, aR, rfl, rfl, aS, aT, aU⟩ := F1 rx8
  try dsimp only at hM1
  refine Exists.intro _ (And.intro (fun q => (ex8 q).2) ?_)
  obtain ⟨x9, gx9, hM1⟩ := j0 hM1
  obtain ⟨csx9, ex9, rx9⟩ := Sl.getG (r := j1.toRp) (O0.mono sX1 aA) gx9 (by decide) (n0g k3)
  refine And.intro (fun q => (ex9 q).1) ?_
  obtain ⟨aV, aW, aX, rfl, rfl, aY, aZ, bA⟩ := F1 rx9
  try dsimp only at hM1
  refine Exists.intro _ (And.intro (fun q => (ex9 q).2) ?_)
  obtain ⟨x10, gx10, hM1⟩ := j0 hM1
  refine Exists.intro (.int .i64 x10) (And.intro (fun q => V01 _ [.int .i64 aP, .int .i64 aQ, .int .i64 aR] (aP, aQ, aR) (K1 aS aT aU) [.int .i64 aV, .int .i64 aW, .int .i64 aX] (aV, aW, aX) (K1 aY aZ bA) _  (G2 gx10 q)) ?_)
  obtain ⟨q11, gq11, hM1⟩ := j0 hM1
  have ix10 : M0 x10 := T0 gq11
  refine And.intro (fun hc12 => ?_) (fun hc12 => ?_)
  ·replace hM1 := ifP hM1 hc12
   have hE := Option.some.inj hM1; subst hE
   try dsimp only [j4, l4] at hM0
   have hE := Option.some.inj hM0; subst hE
   exact And.intro rfl sX1
  ·replace hM1 := ifN hM1 hc12
   refine And.intro rfl (And.intro (by repeat (first | exact trivial | refine And.intro rfl ?_)) (And.intro (by repeat (first | exact trivial | refine And.intro rfl ?_)) (Exists.intro m4 (And.intro ⟨(IntKind.i64.wrap (u2 + 1)), rfl, rfl, sX1, (H0 _), hM1⟩ (Nat.lt_succ_self _)))))
 ·replace hM1 := ifN hM1 hc5
  have hE := Option.some.inj hM1; subst hE
  try dsimp only [K0, N0] at hM0
  obtain ⟨x13, gx13, hM0⟩ := j0 hM0
  refine Tr.val (N8 _ aB aG 1 (c64 (by decide) (by decide)) 3 (c64 (by decide) (by decide)) _  gx13) ?_
  obtain ⟨x14, gx14, hM0⟩ := j0 hM0
  refine Exists.intro (.bool x14) (And.intro (fun q => N8 _ aC aH 1 (c64 (by decide) (by decide)) 40 (c64 (by decide) (by decide)) _  (G2 gx14 q)) ?_)
  have hE := Option.some.inj hM0; subst hE
  exact And.intro rfl sX1
theorem y01 (h : Hp) (csp0 : List Value) (p0 : l0) (rp0 : P0.R h csp0 p0) (p1 : Int) (ip1 : M0 p1) (r : Bool) (hM0 : p6 p0 p1 = some r) :
  Tr Tryz.prog 266 #[.agg csp0.toArray, .int .i64 p1] h fun v h' => v = .bool r ∧ h' = h := by
 obtain ⟨aF, aA, aB, aG, aC, aK, rfl, rfl, aH, aI, aD⟩ := C0 rp0
 obtain ⟨rfl, aJ⟩ := Sl.len aD
 unfold p6 at hM0
 dsimp only at hM0
 refine Tr.forget (T2 (args := [.agg #[.int .i64 aF, .int .i64 aA, .slice aB aK.length aC], .int .i64 p1]) (fn := Tryz.f266) rfl ?_)
 obtain ⟨x1, gx1, hM0⟩ := j0 hM0
 refine Tr.val (V8 _ p1 ip1 0 (c64 (by decide) (by decide)) (IntKind.i64.wrap (aA - 1)) (H0 _) _  gx1) ?_
 have hE := Option.some.inj hM0; subst hE
 exact And.intro rfl (Sub.refl _)
theorem j05 (h : Hp) (csp0 : List Value) (p0 : l0) (rp0 : P0.R h csp0 p0) (csp1 : List Value) (p1 : F0) (rp1 : j1.R h csp1 p1) (r : Bool) (hM0 : G7 p0 p1 = some r) :
  Tr Tryz.prog 301 #[.agg csp0.toArray, .agg csp1.toArray] h fun v h' => v = .bool r ∧ h' = h := by
 obtain ⟨aA, aB, aC, aP, aD, aI, rfl, rfl, aF, aH, aG⟩ := C0 rp0
 obtain ⟨rfl, aQ⟩ := Sl.len aG
 obtain ⟨aJ, aK, aL, rfl, rfl, aM, aN, aO⟩ := F1 rp1
 unfold G7 at hM0
 dsimp only at hM0
 refine Tr.forget (T2 (args := [.agg #[.int .i64 aA, .int .i64 aB, .slice aC aI.length aD], .agg #[.int .i64 aJ, .int .i64 aK, .int .i64 aL]]) (fn := Tryz.f301) rfl ?_)
 obtain ⟨x1, gx1, hM0⟩ := j0 hM0
 refine Tr.val (y01 _ [.int .i64 aA, .int .i64 aB, .slice aC aI.length aD] (aA, aB, aI) (z0 aF aH aG) aJ aM _  gx1) ?_
 obtain ⟨x2, gx2, hM0⟩ := j0 hM0
 refine Exists.intro (.bool x2) (And.intro (fun q => y01 _ [.int .i64 aA, .int .i64 aB, .slice aC aI.length aD] (aA, aB, aI) (z0 aF aH aG) aL aO _  (G2 gx2 q)) ?_)
 obtain ⟨x3, gx3, hM0⟩ := j0 hM0
 refine Exists.intro (.bool x3) (And.intro (fun q => V8 _ aK aN 1 (c64 (by decide) (by decide)) aA aF _  (G2 gx3 q)) ?_)
 have hE := Option.some.inj hM0; subst hE
 exact And.intro rfl (Sub.refl _)
theorem W01 (h : Hp) (csp0 : List Value) (p0 : F0) (rp0 : j1.R h csp0 p0) (csp1 : List Value) (p1 : F0) (rp1 : j1.R h csp1 p1) (r : Int) (hM0 : V7 p0 p1 = some r) :
  Tr Tryz.prog 258 #[.agg csp0.toArray, .agg csp1.toArray] h fun v h' => v = .int .i64 r ∧ h' = h := by
 obtain ⟨aA, aB, aC, rfl, rfl, aD, aF, aG⟩ := F1 rp0
 obtain ⟨aH, aI, aJ, rfl, rfl, aK, aL, aM⟩ := F1 rp1
 unfold V7 at hM0
 dsimp only at hM0
 refine Tr.forget (T2 (args := [.agg #[.int .i64 aA, .int .i64 aB, .int .i64 aC], .agg #[.int .i64 aH, .int .i64 aI, .int .i64 aJ]]) (fn := Tryz.f258) rfl ?_)
 obtain ⟨x1, gx1, hM0⟩ := j0 hM0
 refine Tr.val (L00 _ aA aD aH aK _  gx1) ?_
 obtain ⟨q2, gq2, hM0⟩ := j0 hM0
 have ix1 : M0 x1 := T0 gq2
 refine And.intro (fun hc3 => ?_) (fun hc3 => ?_)
 ·replace hM0 := ifP hM0 hc3
  have hE := Option.some.inj hM0; subst hE
  exact And.intro rfl (Sub.refl _)
 ·replace hM0 := ifN hM0 hc3
  obtain ⟨x4, gx4, hM0⟩ := j0 hM0
  refine Tr.val (L00 _ aB aF aI aL _  gx4) ?_
  obtain ⟨q5, gq5, hM0⟩ := j0 hM0
  have ix4 : M0 x4 := T0 gq5
  refine And.intro (fun hc6 => ?_) (fun hc6 => ?_)
  ·replace hM0 := ifP hM0 hc6
   have hE := Option.some.inj hM0; subst hE
   exact And.intro rfl (Sub.refl _)
  ·replace hM0 := ifN hM0 hc6
   obtain ⟨x7, gx7, hM0⟩ := j0 hM0
   refine Tr.val (L00 _ aC aG aJ aM _  gx7) ?_
   obtain ⟨q8, gq8, hM0⟩ := j0 hM0
   have ix7 : M0 x7 := T0 gq8
   have hE := Option.some.inj hM0; subst hE
   exact And.intro rfl (Sub.refl _)
theorem h01 (h : Hp) (csp0 : List Value) (p0 : l0) (rp0 : P0.R h csp0 p0) (r : Bool) (hM0 : H7 p0 = some r) :
  Tr Tryz.prog 248 #[.agg csp0.toArray] h fun v h' => v = .bool r ∧ h' = h := by
 obtain ⟨aB, aC, aH, aV, aI, aR, rfl, rfl, aJ, aK, aA⟩ := C0 rp0
 obtain ⟨rfl, aW⟩ := Sl.len aA
 unfold H7 at hM0
 dsimp only at hM0
 refine Tr.forget (T2 (args := [.agg #[.int .i64 aB, .int .i64 aC, .slice aH aR.length aI]]) (fn := Tryz.f248) rfl ?_)
 obtain ⟨x1, gx1, hM0⟩ := j0 hM0
 refine Tr.val (V8 _ aB aJ 1 (c64 (by decide) (by decide)) 3 (c64 (by decide) (by decide)) _  gx1) ?_
 obtain ⟨x2, gx2, hM0⟩ := j0 hM0
 refine Exists.intro (.bool x2) (And.intro (fun q => V8 _ aC aK 1 (c64 (by decide) (by decide)) 40 (c64 (by decide) (by decide)) _  (G2 gx2 q)) ?_)
 refine And.intro (fun hc3 => ?_) (fun hc3 => ?_)
 ·replace hM0 := ifP hM0 hc3
  have hE := Option.some.inj hM0; subst hE
  exact And.intro rfl (Sub.refl _)
 ·replace hM0 := ifN hM0 hc3
  obtain ⟨X4, hLX4, hM0⟩ := j0 hM0
  refine Exists.intro { vars := [24], boxes := [], owns := [], fuel := true } (Exists.intro (fun vs os h' => ∃ (u5 : Int), vs.tail = [.int .i64 u5] ∧ os = [] ∧ Sub h h' ∧ M0 u5 ∧ r6 aR aB aC (C1 vs) u5 = some X4) (Exists.intro (fun _ _ => 0) ?_))
  refine And.intro (Exists.intro I0 ⟨0, rfl, rfl, (Sub.refl _), (c64 (by decide) (by decide)), hLX4⟩) ?_
  rintro v_0 m7 k6 ⟨u5, evX4, eoX4, sX4, iu5, hM1⟩
  cases evX4
  cases eoX4
  replace hM1 : r6 aR aB aC m7 u5 = some X4 := hM1
  obtain _ | m7 := m7
  ·cases (show (none : Option _) = some X4 from hM1)
  rw [r6.eq_2] at hM1
  refine And.intro (fun hc8 => ?_) (fun hc8 => ?_)
  ·replace hM1 := ifP hM1 hc8
   obtain ⟨x9, gx9, hM1⟩ := j0 hM1
   obtain ⟨bx9, csx9, ex9, rx9⟩ := Sl.getI (r := j1.toRp) (O0.mono sX4 aA) gx9 (by decide)
   refine And.intro bx9 ?_
   obtain ⟨aD, aF, aG, rfl, rfl, aL, aM, aN⟩ := F1 rx9
   try dsimp only at hM1
   refine Exists.intro _ (And.intro ex9 ?_)
   refine Or.inl (And.intro (And.intro (by kernel_rfl) (by kernel_rfl)) ?_)
   obtain ⟨x10, gx10, hM1⟩ := j0 hM1
   refine Exists.intro (.bool x10) (And.intro (j05 _ [.int .i64 aB, .int .i64 aC, .slice aH aR.length aI] (aB, aC, aR) (z0 aJ aK (O0.mono sX4 aA)) [.int .i64 aD, .int .i64 aF, .int .i64 aG] (aD, aF, aG) (K1 aL aM aN) _  gx10) ?_)
   obtain ⟨x11, gx11, hM1⟩ := j0 hM1
   obtain ⟨csx11, ex11, rx11⟩ := Sl.getG (r := j1.toRp) (O0.mono sX4 aA) gx11 (by decide) (n0g k6)
   refine And.intro (fun q => (ex11 q).1) ?_
   obtain ⟨aO, aP, aQ, rfl, rfl, aS, aT, aU⟩ := F1 rx11
   try dsimp only at hM1
   refine Exists.intro _ (And.intro (fun q => (ex11 q).2) ?_)
   obtain ⟨x12, gx12, hM1⟩ := j0 hM1
   refine Exists.intro (.int .i64 x12) (And.intro (fun q => W01 _ [.int .i64 aO, .int .i64 aP, .int .i64 aQ] (aO, aP, aQ) (K1 aS aT aU) [.int .i64 aD, .int .i64 aF, .int .i64 aG] (aD, aF, aG) (K1 aL aM aN) _  (G2 gx12 q)) ?_)
   obtain ⟨q13, gq13, hM1⟩ := j0 hM1
   have ix12 : M0 x12 := T0 gq13
   refine And.intro (fun hc14 => ?_) (fun hc14 => ?_)
   ·replace hM1 := ifP hM1 hc14
    have hE := Option.some.inj hM1; subst hE
    try dsimp only [j4, l4] at hM0
    have hE := Option.some.inj hM0; subst hE
    exact And.intro rfl sX4
   ·replace hM1 := ifN hM1 hc14
    refine And.intro rfl (And.intro (by repeat (first | exact trivial | refine And.intro rfl ?_)) (And.intro (by repeat (first | exact trivial | refine And.intro rfl ?_)) (Exists.intro m7 (And.intro ⟨(IntKind.i64.wrap (u5 + 1)), rfl, rfl, sX4, (H0 _), hM1⟩ (Nat.lt_succ_self _)))))
  ·replace hM1 := ifN hM1 hc8
   have hE := Option.some.inj hM1; subst hE
   try dsimp only [K0, N0] at hM0
   have hE := Option.some.inj hM0; subst hE
   exact And.intro rfl sX4
end Go.Proofs.YtknoadmdnjaocaaGreat
namespace Go.Proofs.YtknoadmdnjaocaaGreat
open Go.H
set_option linter.unusedVariables false
set_option linter.unusedSimpArgs false
set_option maxRecDepth 10000
theorem k05 (h : Hp) (ap0 : Option Addr) (np0 cp0 : Nat) (p0 : D0) (rp0 : Q0.R h [.slice ap0 np0 cp0] p0) (r : ByteArray) (hM0 : M7 p0 = some r) :
  Tr Tryz.prog 107 #[.slice ap0 np0 cp0] h fun v h' => v = .string r ∧ h' = h := by
 obtain ⟨rfl, lp0⟩ := Sl.len rp0
 unfold M7 at hM0
 refine Tr.forget (T2 (args := [.slice ap0 p0.length cp0]) (fn := Tryz.f107) rfl ?_)
 obtain ⟨X1, hLX1, hM0⟩ := j0 hM0
 refine Exists.intro { vars := [3, 4], boxes := [], owns := [], fuel := true } (Exists.intro (fun vs os h' => ∃ (u2 : ByteArray) (u3 : Int), vs.tail = [.string u2, .int .i64 u3] ∧ os = [] ∧ Sub h h' ∧ u2.size ≤ 9223372036854775807 ∧ M0 u3 ∧ Z1 p0 (C1 vs) u2 u3 = some X1) (Exists.intro (fun _ _ => 0) ?_))
 refine And.intro (Exists.intro I0 ⟨(⟨#[]⟩ : ByteArray), 0, rfl, rfl, (Sub.refl _), (by decide), (c64 (by decide) (by decide)), hLX1⟩) ?_
 rintro v_0 v_1 m5 k4 ⟨u2, u3, evX1, eoX1, sX1, iu2, iu3, hM1⟩
 cases evX1
 cases eoX1
 replace hM1 : Z1 p0 m5 u2 u3 = some X1 := hM1
 obtain _ | m5 := m5
 ·cases (show (none : Option _) = some X1 from hM1)
 rw [Z1.eq_2] at hM1
 refine And.intro (fun hc6 => ?_) (fun hc6 => ?_)
 ·replace hM1 := ifP hM1 hc6
  refine And.intro (fun hc7 => ?_) (fun hc7 => ?_)
  ·replace hM1 := ifP hM1 hc7
   obtain ⟨q8, gq8, hM1⟩ := j0 hM1
   have jq8 := T0 gq8
   refine And.intro jq8 ?_
   obtain ⟨x9, gx9, hM1⟩ := j0 hM1
   obtain ⟨bx9, csx9, ex9, rx9⟩ := Sl.getI (r := Wp.int.toRp) (Q0.mono sX1 rp0) gx9 (by decide)
   refine And.intro bx9 ?_
   obtain ⟨rfl, ix9⟩ := rx9
   refine Exists.intro _ (And.intro ex9 ?_)
   obtain ⟨x10, gx10, hM1⟩ := j0 hM1
   refine Tr.val (l9 _ x9 ix9 _  gx10) ?_
   obtain ⟨q11, gq11, hM1⟩ := j0 hM1
   have ix10 : x10.size ≤ 9223372036854775807 := T0 gq11
   obtain ⟨q12, gq12, hM1⟩ := j0 hM1
   have jq12 := T0 gq12
   refine And.intro jq12 ?_
   refine And.intro rfl (And.intro (by repeat (first | exact trivial | refine And.intro rfl ?_)) (And.intro (by repeat (first | exact trivial | refine And.intro rfl ?_)) (Exists.intro m5 (And.intro ⟨((u2 ++ (⟨#[32]⟩ : ByteArray)) ++ x10), (IntKind.i64.wrap (u3 + 1)), rfl, rfl, sX1, (u02 jq12), (H0 _), hM1⟩ (Nat.lt_succ_self _)))))
  ·replace hM1 := ifN hM1 hc7
   obtain ⟨x13, gx13, hM1⟩ := j0 hM1
   obtain ⟨bx13, csx13, ex13, rx13⟩ := Sl.getI (r := Wp.int.toRp) (Q0.mono sX1 rp0) gx13 (by decide)
   refine And.intro bx13 ?_
   obtain ⟨rfl, ix13⟩ := rx13
   refine Exists.intro _ (And.intro ex13 ?_)
   obtain ⟨x14, gx14, hM1⟩ := j0 hM1
   refine Tr.val (l9 _ x13 ix13 _  gx14) ?_
   obtain ⟨q15, gq15, hM1⟩ := j0 hM1
   have ix14 : x14.size ≤ 9223372036854775807 := T0 gq15
   obtain ⟨q16, gq16, hM1⟩ := j0 hM1
   have jq16 := T0 gq16
   refine And.intro jq16 ?_
   refine And.intro rfl (And.intro (by repeat (first | exact trivial | refine And.intro rfl ?_)) (And.intro (by repeat (first | exact trivial | refine And.intro rfl ?_)) (Exists.intro m5 (And.intro ⟨(u2 ++ x14), (IntKind.i64.wrap (u3 + 1)), rfl, rfl, sX1, (u02 jq16), (H0 _), hM1⟩ (Nat.lt_succ_self _)))))
 ·replace hM1 := ifN hM1 hc6
  have hE := Option.some.inj hM1; subst hE
  try dsimp only [K0, N0] at hM0
  refine And.intro (fun hc17 => ?_) (fun hc17 => ?_)
  ·replace hM0 := ifP hM0 hc17
   have hE := Option.some.inj hM0; subst hE
   exact And.intro rfl sX1
  ·replace hM0 := ifN hM0 hc17
   have hE := Option.some.inj hM0; subst hE
   exact And.intro rfl sX1
theorem l05 (h : Hp) (ap0 : Option Addr) (np0 cp0 : Nat) (p0 : D0) (rp0 : Q0.R h [.slice ap0 np0 cp0] p0) (r : ByteArray) (hM0 : N7 p0 = some r) :
  Tr Tryz.prog 115 #[.slice ap0 np0 cp0] h fun v h' => v = .string r ∧ h' = h := by
 obtain ⟨rfl, lp0⟩ := Sl.len rp0
 unfold N7 at hM0
 refine Tr.forget (T2 (args := [.slice ap0 p0.length cp0]) (fn := Tryz.f115) rfl ?_)
 obtain ⟨X1, hLX1, hM0⟩ := j0 hM0
 refine Exists.intro { vars := [9], boxes := [], owns := [0], fuel := true } (Exists.intro (fun vs os h' => ∃ (u2 : Int) (wu3 : List (List Value)) (u3 : List ByteArray), vs.tail = [.int .i64 u2] ∧ os = [wu3] ∧ Sub h h' ∧ M0 u2 ∧ F2 (Wp.str.R h') wu3 u3 ∧ U3 p0 (C1 vs) u2 u3 = some X1) (Exists.intro (fun _ _ => 0) ?_))
 refine And.intro (Exists.intro I0 ⟨0, [], ([] : (List ByteArray)), rfl, rfl, (Sub.refl _), (c64 (by decide) (by decide)), (show F2 (Wp.str.R h) ([] : List (List Value)) ([] : (List ByteArray)) from trivial), hLX1⟩) ?_
 rintro v_0 wu3 m5 k4 ⟨u2, zzu3, u3, evX1, eoX1, sX1, iu2, fu3, hM1⟩
 cases evX1
 cases eoX1
 replace hM1 : U3 p0 m5 u2 u3 = some X1 := hM1
 obtain _ | m5 := m5
 ·cases (show (none : Option _) = some X1 from hM1)
 rw [U3.eq_2] at hM1
 refine And.intro (fun hc6 => ?_) (fun hc6 => ?_)
 ·replace hM1 := ifP hM1 hc6
  obtain ⟨x7, gx7, hM1⟩ := j0 hM1
  obtain ⟨bx7, csx7, ex7, rx7⟩ := Sl.getI (r := Wp.int.toRp) (Q0.mono sX1 rp0) gx7 (by decide)
  refine And.intro bx7 ?_
  obtain ⟨rfl, ix7⟩ := rx7
  refine Exists.intro _ (And.intro ex7 ?_)
  obtain ⟨x8, gx8, hM1⟩ := j0 hM1
  refine Tr.val (r00 _ x7 ix7 _  gx8) ?_
  obtain ⟨q9, gq9, hM1⟩ := j0 hM1
  have ix8 : x8.size ≤ 9223372036854775807 := T0 gq9
  obtain ⟨q10, gq10, hM1⟩ := j0 hM1
  refine And.intro (E1 gq10 (by first | rw [F2.length fu3, F2.length (show F2 (Wp.str.R k4) ([[.string x8]] : List (List Value)) [x8] from ⟨⟨rfl, ix8⟩, trivial⟩)] | exact congrArg (· + 1) (F2.length fu3))) ?_
  refine And.intro rfl (And.intro (by repeat (first | exact trivial | refine And.intro rfl ?_)) (And.intro (by repeat (first | exact trivial | refine And.intro rfl ?_)) (Exists.intro m5 (And.intro ⟨(IntKind.i64.wrap (u2 + 1)), (wu3 ++ ([[.string x8]] : List (List Value))), (u3 ++ [x8]), rfl, rfl, sX1, (H0 _), (F2.append fu3 (show F2 (Wp.str.R k4) ([[.string x8]] : List (List Value)) [x8] from ⟨⟨rfl, ix8⟩, trivial⟩)), hM1⟩ (Nat.lt_succ_self _)))))
 ·replace hM1 := ifN hM1 hc6
  have hE := Option.some.inj hM1; subst hE
  try dsimp only [K0, N0] at hM0
  refine Or.inr ?_
  intro v11 k12 f13
  obtain ⟨az14, cz14, rfl, rz14, sz14, lz14⟩ := U0.out (r := Wp.str.toRp) f13 fu3
  obtain ⟨x15, gx15, hM0⟩ := j0 hM0
  refine Tr.val (F07 _ az14 u3.length cz14 u3 rz14 (⟨#[32]⟩ : ByteArray) (by decide) (⟨#[110, 111, 110, 101]⟩ : ByteArray) (by decide) _  gx15) (And.intro rfl ?_)
  obtain ⟨q16, gq16, hM0⟩ := j0 hM0
  have ix15 : x15.size ≤ 9223372036854775807 := T0 gq16
  have hE := Option.some.inj hM0; subst hE
  exact And.intro rfl sX1
end Go.Proofs.YtknoadmdnjaocaaGreat
namespace Go.Proofs.YtknoadmdnjaocaaGreat
open Go.H
set_option linter.unusedVariables false
set_option linter.unusedSimpArgs false
set_option maxRecDepth 10000
theorem G07 (h : Hp) (ap0 : Option Addr) (np0 cp0 : Nat) (p0 : D0) (rp0 : Q0.R h [.slice ap0 np0 cp0] p0) (ap1 : Option Addr) (np1 cp1 : Nat) (p1 : D0) (rp1 : Q0.R h [.slice ap1 np1 cp1] p1) (r : Bool) (hM0 : Q7 p0 p1 = some r) :
  Tr Tryz.prog 270 #[.slice ap0 np0 cp0, .slice ap1 np1 cp1] h fun v h' => v = .bool r ∧ h' = h := by
 obtain ⟨rfl, lp0⟩ := Sl.len rp0
 obtain ⟨rfl, lp1⟩ := Sl.len rp1
 unfold Q7 at hM0
 refine Tr.forget (T2 (args := [.slice ap0 p0.length cp0, .slice ap1 p1.length cp1]) (fn := Tryz.f270) rfl ?_)
 refine And.intro (fun hc1 => ?_) (fun hc1 => ?_)
 ·replace hM0 := ifP hM0 hc1
  have hE := Option.some.inj hM0; subst hE
  exact And.intro rfl (Sub.refl _)
 ·replace hM0 := ifN hM0 hc1
  obtain ⟨X2, hLX2, hM0⟩ := j0 hM0
  refine Exists.intro { vars := [5], boxes := [], owns := [], fuel := true } (Exists.intro (fun vs os h' => ∃ (u3 : Int), vs.tail = [.int .i64 u3] ∧ os = [] ∧ Sub h h' ∧ M0 u3 ∧ K3 p0 p1 (C1 vs) u3 = some X2) (Exists.intro (fun _ _ => 0) ?_))
  refine And.intro (Exists.intro I0 ⟨0, rfl, rfl, (Sub.refl _), (c64 (by decide) (by decide)), hLX2⟩) ?_
  rintro v_0 m5 k4 ⟨u3, evX2, eoX2, sX2, iu3, hM1⟩
  cases evX2
  cases eoX2
  replace hM1 : K3 p0 p1 m5 u3 = some X2 := hM1
  obtain _ | m5 := m5
  ·cases (show (none : Option _) = some X2 from hM1)
  rw [K3.eq_2] at hM1
  refine And.intro (fun hc6 => ?_) (fun hc6 => ?_)
  ·replace hM1 := ifP hM1 hc6
   refine Or.inl (And.intro (And.intro (by kernel_rfl) (by kernel_rfl)) ?_)
   obtain ⟨x7, gx7, hM1⟩ := j0 hM1
   obtain ⟨bx7, csx7, ex7, rx7⟩ := Sl.getI (r := Wp.int.toRp) (Q0.mono sX2 rp0) gx7 (by decide)
   refine And.intro bx7 ?_
   obtain ⟨rfl, ix7⟩ := rx7
   refine Exists.intro _ (And.intro ex7 ?_)
   obtain ⟨x8, gx8, hM1⟩ := j0 hM1
   obtain ⟨bx8, csx8, ex8, rx8⟩ := Sl.getI (r := Wp.int.toRp) (Q0.mono sX2 rp1) gx8 (by decide)
   refine And.intro bx8 ?_
   obtain ⟨rfl, ix8⟩ := rx8
   refine Exists.intro _ (And.intro ex8 ?_)
   refine And.intro (fun hc9 => ?_) (fun hc9 => ?_)
   ·replace hM1 := ifP hM1 hc9
    have hE := Option.some.inj hM1; subst hE
    try dsimp only [j4, l4] at hM0
    have hE := Option.some.inj hM0; subst hE
    exact And.intro rfl sX2
   ·replace hM1 := ifN hM1 hc9
    refine And.intro rfl (And.intro (by repeat (first | exact trivial | refine And.intro rfl ?_)) (And.intro (by repeat (first | exact trivial | refine And.intro rfl ?_)) (Exists.intro m5 (And.intro ⟨(IntKind.i64.wrap (u3 + 1)), rfl, rfl, sX2, (H0 _), hM1⟩ (Nat.lt_succ_self _)))))
  ·replace hM1 := ifN hM1 hc6
   have hE := Option.some.inj hM1; subst hE
   try dsimp only [K0, N0] at hM0
   have hE := Option.some.inj hM0; subst hE
   exact And.intro rfl sX2
theorem H07 (h : Hp) (ap0 : Option Addr) (np0 cp0 : Nat) (p0 : D0) (rp0 : Q0.R h [.slice ap0 np0 cp0] p0) (ap1 : Option Addr) (np1 cp1 : Nat) (p1 : D0) (rp1 : Q0.R h [.slice ap1 np1 cp1] p1) (r : Bool) (hM0 : J8 p0 p1 = some r) :
  Tr Tryz.prog 273 #[.slice ap0 np0 cp0, .slice ap1 np1 cp1] h fun v h' => v = .bool r ∧ h' = h := by
 obtain ⟨rfl, lp0⟩ := Sl.len rp0
 obtain ⟨rfl, lp1⟩ := Sl.len rp1
 unfold J8 at hM0
 refine Tr.forget (T2 (args := [.slice ap0 p0.length cp0, .slice ap1 p1.length cp1]) (fn := Tryz.f273) rfl ?_)
 refine And.intro (fun hc1 => ?_) (fun hc1 => ?_)
 ·replace hM0 := ifP hM0 hc1
  have hE := Option.some.inj hM0; subst hE
  exact And.intro rfl (Sub.refl _)
 ·replace hM0 := ifN hM0 hc1
  obtain ⟨X2, hLX2, hM0⟩ := j0 hM0
  refine Exists.intro { vars := [13], boxes := [], owns := [], fuel := true } (Exists.intro (fun vs os h' => ∃ (u3 : Int), vs.tail = [.int .i64 u3] ∧ os = [] ∧ Sub h h' ∧ M0 u3 ∧ L5 p0 p1 (C1 vs) u3 = some X2) (Exists.intro (fun _ _ => 0) ?_))
  refine And.intro (Exists.intro I0 ⟨0, rfl, rfl, (Sub.refl _), (c64 (by decide) (by decide)), hLX2⟩) ?_
  rintro v_0 m5 k4 ⟨u3, evX2, eoX2, sX2, iu3, hM1⟩
  cases evX2
  cases eoX2
  replace hM1 : L5 p0 p1 m5 u3 = some X2 := hM1
  obtain _ | m5 := m5
  ·cases (show (none : Option _) = some X2 from hM1)
  rw [L5.eq_2] at hM1
  refine And.intro (fun hc6 => ?_) (fun hc6 => ?_)
  ·replace hM1 := ifP hM1 hc6
   refine Or.inl (And.intro (And.intro (by kernel_rfl) (by kernel_rfl)) ?_)
   obtain ⟨x7, gx7, hM1⟩ := j0 hM1
   obtain ⟨bx7, csx7, ex7, rx7⟩ := Sl.getI (r := Wp.int.toRp) (Q0.mono sX2 rp0) gx7 (by decide)
   refine And.intro bx7 ?_
   obtain ⟨rfl, ix7⟩ := rx7
   refine Exists.intro _ (And.intro ex7 ?_)
   obtain ⟨x8, gx8, hM1⟩ := j0 hM1
   obtain ⟨bx8, csx8, ex8, rx8⟩ := Sl.getI (r := Wp.int.toRp) (Q0.mono sX2 rp1) gx8 (by decide)
   refine And.intro bx8 ?_
   obtain ⟨rfl, ix8⟩ := rx8
   refine Exists.intro _ (And.intro ex8 ?_)
   refine And.intro (fun hc9 => ?_) (fun hc9 => ?_)
   ·replace hM1 := ifP hM1 hc9
    have hE := Option.some.inj hM1; subst hE
    try dsimp only [j4, l4] at hM0
    have hE := Option.some.inj hM0; subst hE
    exact And.intro rfl sX2
   ·replace hM1 := ifN hM1 hc9
    refine And.intro rfl (And.intro (by repeat (first | exact trivial | refine And.intro rfl ?_)) (And.intro (by repeat (first | exact trivial | refine And.intro rfl ?_)) (Exists.intro m5 (And.intro ⟨(IntKind.i64.wrap (u3 + 1)), rfl, rfl, sX2, (H0 _), hM1⟩ (Nat.lt_succ_self _)))))
  ·replace hM1 := ifN hM1 hc6
   have hE := Option.some.inj hM1; subst hE
   try dsimp only [K0, N0] at hM0
   have hE := Option.some.inj hM0; subst hE
   exact And.intro rfl sX2
end Go.Proofs.YtknoadmdnjaocaaGreat
namespace Go.Proofs.YtknoadmdnjaocaaGreat
open Go.H
set_option linter.unusedVariables false
set_option linter.unusedSimpArgs false
set_option maxRecDepth 10000
theorem s00 (h : Hp) (ap0 : Option Addr) (np0 cp0 : Nat) (p0 : D0) (rp0 : Q0.R h [.slice ap0 np0 cp0] p0) (p1 : Int) (ip1 : M0 p1) (r : D0) (hM0 : t7 p0 p1 = some r) :
  Tr Tryz.prog 298 #[.slice ap0 np0 cp0, .int .i64 p1] h fun v h' => ∃ (a0 : Option Addr) (n0 c0 : Nat), v = .slice a0 n0 c0 ∧ Q0.R h' [.slice a0 n0 c0] r ∧ Sub h h' := by
 obtain ⟨rfl, lp0⟩ := Sl.len rp0
 unfold t7 at hM0
 refine T2 (args := [.slice ap0 p0.length cp0, .int .i64 p1]) (fn := Tryz.f298) rfl ?_
 obtain ⟨X1, hLX1, hM0⟩ := j0 hM0
 refine Exists.intro { vars := [6, 7], boxes := [], owns := [0], fuel := true } (Exists.intro (fun vs os h' => ∃ (u2 : Bool) (u3 : Int) (wu4 : List (List Value)) (u4 : List Int), vs.tail = [.bool u2, .int .i64 u3] ∧ os = [wu4] ∧ Sub h h' ∧ M0 u3 ∧ F2 (Wp.int.R h') wu4 u4 ∧ N3 p0 p1 (C1 vs) u2 u3 u4 = some X1) (Exists.intro (fun _ _ => 0) ?_))
 refine And.intro (Exists.intro I0 ⟨false, 0, [], ([] : D0), rfl, rfl, (Sub.refl _), (c64 (by decide) (by decide)), (show F2 (Wp.int.R h) ([] : List (List Value)) ([] : D0) from trivial), hLX1⟩) ?_
 rintro v_0 v_1 wu4 m6 k5 ⟨u2, u3, zzu4, u4, evX1, eoX1, sX1, iu3, fu4, hM1⟩
 cases evX1
 cases eoX1
 replace hM1 : N3 p0 p1 m6 u2 u3 u4 = some X1 := hM1
 obtain _ | m6 := m6
 ·cases (show (none : Option _) = some X1 from hM1)
 rw [N3.eq_2] at hM1
 refine And.intro (fun hc7 => ?_) (fun hc7 => ?_)
 ·replace hM1 := ifP hM1 hc7
  obtain ⟨x8, gx8, hM1⟩ := j0 hM1
  obtain ⟨bx8, csx8, ex8, rx8⟩ := Sl.getI (r := Wp.int.toRp) (Q0.mono sX1 rp0) gx8 (by decide)
  refine And.intro bx8 ?_
  obtain ⟨rfl, ix8⟩ := rx8
  refine Exists.intro _ (And.intro ex8 ?_)
  refine And.intro (fun hc9 => ?_) (fun hc9 => ?_)
  ·replace hM1 := ifP hM1 hc9
   obtain ⟨x10, gx10, hM1⟩ := j0 hM1
   obtain ⟨bx10, csx10, ex10, rx10⟩ := Sl.getI (r := Wp.int.toRp) (Q0.mono sX1 rp0) gx10 (by decide)
   refine And.intro bx10 ?_
   obtain ⟨rfl, ix10⟩ := rx10
   refine Exists.intro _ (And.intro ex10 ?_)
   refine And.intro (fun hc11 => ?_) (fun hc11 => ?_)
   ·replace hM1 := ifP hM1 hc11
    obtain ⟨q12, gq12, hM1⟩ := j0 hM1
    refine And.intro (E1 gq12 (by first | rw [F2.length fu4, F2.length (show F2 (Wp.int.R k5) ([[.int .i64 p1]] : List (List Value)) [p1] from ⟨⟨rfl, ip1⟩, trivial⟩)] | exact congrArg (· + 1) (F2.length fu4))) ?_
    obtain ⟨x13, gx13, hM1⟩ := j0 hM1
    obtain ⟨bx13, csx13, ex13, rx13⟩ := Sl.getI (r := Wp.int.toRp) (Q0.mono sX1 rp0) gx13 (by decide)
    refine And.intro bx13 ?_
    obtain ⟨rfl, ix13⟩ := rx13
    refine Exists.intro _ (And.intro ex13 ?_)
    obtain ⟨q14, gq14, hM1⟩ := j0 hM1
    refine And.intro (E1 gq14 (by first | rw [F2.length (F2.append fu4 (show F2 (Wp.int.R k5) ([[.int .i64 p1]] : List (List Value)) [p1] from ⟨⟨rfl, ip1⟩, trivial⟩)), F2.length (show F2 (Wp.int.R k5) ([[.int .i64 x13]] : List (List Value)) [x13] from ⟨⟨rfl, ix13⟩, trivial⟩)] | exact congrArg (· + 1) (F2.length (F2.append fu4 (show F2 (Wp.int.R k5) ([[.int .i64 p1]] : List (List Value)) [p1] from ⟨⟨rfl, ip1⟩, trivial⟩))))) ?_
    refine And.intro rfl (And.intro (by repeat (first | exact trivial | refine And.intro rfl ?_)) (And.intro (by repeat (first | exact trivial | refine And.intro rfl ?_)) (Exists.intro m6 (And.intro ⟨true, (IntKind.i64.wrap (u3 + 1)), ((wu4 ++ ([[.int .i64 p1]] : List (List Value))) ++ ([[.int .i64 x13]] : List (List Value))), ((u4 ++ [p1]) ++ [x13]), rfl, rfl, sX1, (H0 _), (F2.append (F2.append fu4 (show F2 (Wp.int.R k5) ([[.int .i64 p1]] : List (List Value)) [p1] from ⟨⟨rfl, ip1⟩, trivial⟩)) (show F2 (Wp.int.R k5) ([[.int .i64 x13]] : List (List Value)) [x13] from ⟨⟨rfl, ix13⟩, trivial⟩)), hM1⟩ (Nat.lt_succ_self _)))))
   ·replace hM1 := ifN hM1 hc11
    obtain ⟨x15, gx15, hM1⟩ := j0 hM1
    obtain ⟨bx15, csx15, ex15, rx15⟩ := Sl.getI (r := Wp.int.toRp) (Q0.mono sX1 rp0) gx15 (by decide)
    refine And.intro bx15 ?_
    obtain ⟨rfl, ix15⟩ := rx15
    refine Exists.intro _ (And.intro ex15 ?_)
    obtain ⟨q16, gq16, hM1⟩ := j0 hM1
    refine And.intro (E1 gq16 (by first | rw [F2.length fu4, F2.length (show F2 (Wp.int.R k5) ([[.int .i64 x15]] : List (List Value)) [x15] from ⟨⟨rfl, ix15⟩, trivial⟩)] | exact congrArg (· + 1) (F2.length fu4))) ?_
    refine And.intro rfl (And.intro (by repeat (first | exact trivial | refine And.intro rfl ?_)) (And.intro (by repeat (first | exact trivial | refine And.intro rfl ?_)) (Exists.intro m6 (And.intro ⟨true, (IntKind.i64.wrap (u3 + 1)), (wu4 ++ ([[.int .i64 x15]] : List (List Value))), (u4 ++ [x15]), rfl, rfl, sX1, (H0 _), (F2.append fu4 (show F2 (Wp.int.R k5) ([[.int .i64 x15]] : List (List Value)) [x15] from ⟨⟨rfl, ix15⟩, trivial⟩)), hM1⟩ (Nat.lt_succ_self _)))))
  ·replace hM1 := ifN hM1 hc9
   obtain ⟨x17, gx17, hM1⟩ := j0 hM1
   obtain ⟨bx17, csx17, ex17, rx17⟩ := Sl.getI (r := Wp.int.toRp) (Q0.mono sX1 rp0) gx17 (by decide)
   refine And.intro bx17 ?_
   obtain ⟨rfl, ix17⟩ := rx17
   refine Exists.intro _ (And.intro ex17 ?_)
   refine And.intro (fun hc18 => ?_) (fun hc18 => ?_)
   ·replace hM1 := ifP hM1 hc18
    obtain ⟨q19, gq19, hM1⟩ := j0 hM1
    refine And.intro (E1 gq19 (by first | rw [F2.length fu4, F2.length (show F2 (Wp.int.R k5) ([[.int .i64 p1]] : List (List Value)) [p1] from ⟨⟨rfl, ip1⟩, trivial⟩)] | exact congrArg (· + 1) (F2.length fu4))) ?_
    obtain ⟨x20, gx20, hM1⟩ := j0 hM1
    obtain ⟨bx20, csx20, ex20, rx20⟩ := Sl.getI (r := Wp.int.toRp) (Q0.mono sX1 rp0) gx20 (by decide)
    refine And.intro bx20 ?_
    obtain ⟨rfl, ix20⟩ := rx20
    refine Exists.intro _ (And.intro ex20 ?_)
    obtain ⟨q21, gq21, hM1⟩ := j0 hM1
    refine And.intro (E1 gq21 (by first | rw [F2.length (F2.append fu4 (show F2 (Wp.int.R k5) ([[.int .i64 p1]] : List (List Value)) [p1] from ⟨⟨rfl, ip1⟩, trivial⟩)), F2.length (show F2 (Wp.int.R k5) ([[.int .i64 x20]] : List (List Value)) [x20] from ⟨⟨rfl, ix20⟩, trivial⟩)] | exact congrArg (· + 1) (F2.length (F2.append fu4 (show F2 (Wp.int.R k5) ([[.int .i64 p1]] : List (List Value)) [p1] from ⟨⟨rfl, ip1⟩, trivial⟩))))) ?_
    refine And.intro rfl (And.intro (by repeat (first | exact trivial | refine And.intro rfl ?_)) (And.intro (by repeat (first | exact trivial | refine And.intro rfl ?_)) (Exists.intro m6 (And.intro ⟨true, (IntKind.i64.wrap (u3 + 1)), ((wu4 ++ ([[.int .i64 p1]] : List (List Value))) ++ ([[.int .i64 x20]] : List (List Value))), ((u4 ++ [p1]) ++ [x20]), rfl, rfl, sX1, (H0 _), (F2.append (F2.append fu4 (show F2 (Wp.int.R k5) ([[.int .i64 p1]] : List (List Value)) [p1] from ⟨⟨rfl, ip1⟩, trivial⟩)) (show F2 (Wp.int.R k5) ([[.int .i64 x20]] : List (List Value)) [x20] from ⟨⟨rfl, ix20⟩, trivial⟩)), hM1⟩ (Nat.lt_succ_self _)))))
   ·replace hM1 := ifN hM1 hc18
    obtain ⟨x22, gx22, hM1⟩ := j0 hM1
    obtain ⟨bx22, csx22, ex22, rx22⟩ := Sl.getI (r := Wp.int.toRp) (Q0.mono sX1 rp0) gx22 (by decide)
    refine And.intro bx22 ?_
    obtain ⟨rfl, ix22⟩ := rx22
    refine Exists.intro _ (And.intro ex22 ?_)
    obtain ⟨q23, gq23, hM1⟩ := j0 hM1
    refine And.intro (E1 gq23 (by first | rw [F2.length fu4, F2.length (show F2 (Wp.int.R k5) ([[.int .i64 x22]] : List (List Value)) [x22] from ⟨⟨rfl, ix22⟩, trivial⟩)] | exact congrArg (· + 1) (F2.length fu4))) ?_
    refine And.intro rfl (And.intro (by repeat (first | exact trivial | refine And.intro rfl ?_)) (And.intro (by repeat (first | exact trivial | refine And.intro rfl ?_)) (Exists.intro m6 (And.intro ⟨u2, (IntKind.i64.wrap (u3 + 1)), (wu4 ++ ([[.int .i64 x22]] : List (List Value))), (u4 ++ [x22]), rfl, rfl, sX1, (H0 _), (F2.append fu4 (show F2 (Wp.int.R k5) ([[.int .i64 x22]] : List (List Value)) [x22] from ⟨⟨rfl, ix22⟩, trivial⟩)), hM1⟩ (Nat.lt_succ_self _)))))
 ·replace hM1 := ifN hM1 hc7
  have hE := Option.some.inj hM1; subst hE
  try dsimp only [K0, N0] at hM0
  refine And.intro (fun hc24 => ?_) (fun hc24 => ?_)
  ·replace hM0 := ifP hM0 hc24
   obtain ⟨q25, gq25, hM0⟩ := j0 hM0
   refine And.intro (E1 gq25 (by first | rw [F2.length fu4, F2.length (show F2 (Wp.int.R k5) ([[.int .i64 p1]] : List (List Value)) [p1] from ⟨⟨rfl, ip1⟩, trivial⟩)] | exact congrArg (· + 1) (F2.length fu4))) ?_
   intro v26 k27 f28
   obtain ⟨az29, cz29, rfl, rz29, sz29, lz29⟩ := U0.out (r := Wp.int.toRp) f28 (F2.append fu4 (show F2 (Wp.int.R k5) ([[.int .i64 p1]] : List (List Value)) [p1] from ⟨⟨rfl, ip1⟩, trivial⟩))
   have hE := Option.some.inj hM0; subst hE
   exact ⟨az29, ((u4 ++ [p1])).length, cz29, rfl, rz29, (sX1.trans sz29)⟩
  ·replace hM0 := ifN hM0 hc24
   intro v30 k31 f32
   obtain ⟨az33, cz33, rfl, rz33, sz33, lz33⟩ := U0.out (r := Wp.int.toRp) f32 fu4
   have hE := Option.some.inj hM0; subst hE
   exact ⟨az33, u4.length, cz33, rfl, rz33, (sX1.trans sz33)⟩
theorem i01 (h : Hp) (ap0 : Option Addr) (np0 cp0 : Nat) (p0 : D0) (rp0 : Q0.R h [.slice ap0 np0 cp0] p0) (p1 : Int) (ip1 : M0 p1) (r : Bool) (hM0 : a8 p0 p1 = some r) :
  Tr Tryz.prog 160 #[.slice ap0 np0 cp0, .int .i64 p1] h fun v h' => v = .bool r ∧ h' = h := by
 obtain ⟨rfl, lp0⟩ := Sl.len rp0
 unfold a8 at hM0
 refine Tr.forget (T2 (args := [.slice ap0 p0.length cp0, .int .i64 p1]) (fn := Tryz.f160) rfl ?_)
 obtain ⟨X1, hLX1, hM0⟩ := j0 hM0
 refine Exists.intro { vars := [5], boxes := [], owns := [], fuel := true } (Exists.intro (fun vs os h' => ∃ (u2 : Int), vs.tail = [.int .i64 u2] ∧ os = [] ∧ Sub h h' ∧ M0 u2 ∧ I7 p0 p1 (C1 vs) u2 = some X1) (Exists.intro (fun _ _ => 0) ?_))
 refine And.intro (Exists.intro I0 ⟨0, rfl, rfl, (Sub.refl _), (c64 (by decide) (by decide)), hLX1⟩) ?_
 rintro v_0 m4 k3 ⟨u2, evX1, eoX1, sX1, iu2, hM1⟩
 cases evX1
 cases eoX1
 replace hM1 : I7 p0 p1 m4 u2 = some X1 := hM1
 obtain _ | m4 := m4
 ·cases (show (none : Option _) = some X1 from hM1)
 rw [I7.eq_2] at hM1
 refine And.intro (fun hc5 => ?_) (fun hc5 => ?_)
 ·replace hM1 := ifP hM1 hc5
  obtain ⟨x6, gx6, hM1⟩ := j0 hM1
  obtain ⟨bx6, csx6, ex6, rx6⟩ := Sl.getI (r := Wp.int.toRp) (Q0.mono sX1 rp0) gx6 (by decide)
  refine And.intro bx6 ?_
  obtain ⟨rfl, ix6⟩ := rx6
  refine Exists.intro _ (And.intro ex6 ?_)
  refine And.intro (fun hc7 => ?_) (fun hc7 => ?_)
  ·replace hM1 := ifP hM1 hc7
   have hE := Option.some.inj hM1; subst hE
   try dsimp only [j4, l4] at hM0
   have hE := Option.some.inj hM0; subst hE
   exact And.intro rfl sX1
  ·replace hM1 := ifN hM1 hc7
   refine And.intro rfl (And.intro (by repeat (first | exact trivial | refine And.intro rfl ?_)) (And.intro (by repeat (first | exact trivial | refine And.intro rfl ?_)) (Exists.intro m4 (And.intro ⟨(IntKind.i64.wrap (u2 + 1)), rfl, rfl, sX1, (H0 _), hM1⟩ (Nat.lt_succ_self _)))))
 ·replace hM1 := ifN hM1 hc5
  have hE := Option.some.inj hM1; subst hE
  try dsimp only [K0, N0] at hM0
  have hE := Option.some.inj hM0; subst hE
  exact And.intro rfl sX1
theorem H08 (h : Hp) (csp0 : List Value) (p0 : l0) (rp0 : P0.R h csp0 p0) (p1 : Int) (ip1 : M0 p1) (p2 : Int) (ip2 : M0 p2) (r : D0) (hM0 : Z8 p0 p1 p2 = some r) :
  Tr Tryz.prog 243 #[.agg csp0.toArray, .int .i64 p1, .int .i64 p2] h fun v h' => ∃ (a0 : Option Addr) (n0 c0 : Nat), v = .slice a0 n0 c0 ∧ Q0.R h' [.slice a0 n0 c0] r ∧ Sub h h' := by
 obtain ⟨aJ, aK, aF, aM, aG, aH, rfl, rfl, aN, aO, aB⟩ := C0 rp0
 obtain ⟨rfl, aP⟩ := Sl.len aB
 unfold Z8 at hM0
 dsimp only at hM0
 refine T2 (args := [.agg #[.int .i64 aJ, .int .i64 aK, .slice aF aH.length aG], .int .i64 p1, .int .i64 p2]) (fn := Tryz.f243) rfl ?_
 obtain ⟨X5, hLX5, hM0⟩ := j0 hM0
 refine Exists.intro { vars := [7, 8], boxes := [], owns := [], fuel := true, pubs := [7, 10] } (Exists.intro (fun vs os h' => ∃ (au6 : Option Addr) (nu6 cu6 : Nat) (u6 : D0) (u7 : Int), vs.tail = [.slice au6 nu6 cu6, .int .i64 u7] ∧ os = [] ∧ Sub h h' ∧ Q0.R h' [.slice au6 nu6 cu6] u6 ∧ M0 u7 ∧ D3 aH p2 p1 (C1 vs) u6 u7 = some X5) (Exists.intro (fun _ _ => 0) ?_))
 intro v1 k2 f3
 obtain ⟨az4, cz4, rfl, rz4, sz4, lz4⟩ := U0.out (r := Wp.int.toRp) f3 (show F2 (Wp.int.R h) ([] : List (List Value)) ([] : D0) from trivial)
 refine And.intro (Exists.intro I0 ⟨az4, (([] : D0)).length, cz4, ([] : D0), 0, rfl, rfl, sz4, rz4, (c64 (by decide) (by decide)), hLX5⟩) ?_
 rintro v_0 v_1 m9 k8 ⟨au6, nu6, cu6, u6, u7, evX5, eoX5, sX5, ru6, iu7, hM1⟩
 cases evX5
 cases eoX5
 replace hM1 : D3 aH p2 p1 m9 u6 u7 = some X5 := hM1
 obtain _ | m9 := m9
 ·cases (show (none : Option _) = some X5 from hM1)
 rw [D3.eq_2] at hM1
 obtain ⟨rfl, lu6⟩ := Sl.len ru6
 refine And.intro (fun hc10 => ?_) (fun hc10 => ?_)
 ·replace hM1 := ifP hM1 hc10
  obtain ⟨x11, gx11, hM1⟩ := j0 hM1
  obtain ⟨bx11, csx11, ex11, rx11⟩ := Sl.getI (r := j1.toRp) (O0.mono sX5 aB) gx11 (by decide)
  refine And.intro bx11 ?_
  obtain ⟨aC, aQ, aI, rfl, rfl, aA, aL, aD⟩ := F1 rx11
  try dsimp only at hM1
  refine Exists.intro _ (And.intro ex11 ?_)
  refine And.intro (fun hc12 => ?_) (fun hc12 => ?_)
  ·replace hM1 := ifP hM1 hc12
   obtain ⟨x13, gx13, hM1⟩ := j0 hM1
   refine Tr.mono (s00 _ au6 u6.length cu6 u6 ru6 aI aD _  gx13) ?_
   rintro v15 k14 ⟨ax13, nx13, cx13, rfl, rx13, sx13⟩
   obtain ⟨rfl, lx13⟩ := Sl.len rx13
   refine And.intro (fun hc16 => ?_) (fun hc16 => ?_)
   ·replace hM1 := ifP hM1 hc16
    obtain ⟨x17, gx17, hM1⟩ := j0 hM1
    refine Tr.mono (s00 _ ax13 x13.length cx13 x13 rx13 aC aA _  gx17) ?_
    rintro v19 k18 ⟨ax17, nx17, cx17, rfl, rx17, sx17⟩
    obtain ⟨rfl, lx17⟩ := Sl.len rx17
    refine And.intro rfl (And.intro (by repeat (first | exact trivial | refine And.intro rfl ?_)) (And.intro (by repeat (first | exact trivial | refine And.intro rfl ?_)) (Exists.intro m9 (And.intro ⟨ax17, x17.length, cx17, x17, (IntKind.i64.wrap (u7 + 1)), rfl, rfl, ((sX5.trans sx13).trans sx17), rx17, (H0 _), hM1⟩ (Nat.lt_succ_self _)))))
   ·replace hM1 := ifN hM1 hc16
    refine And.intro rfl (And.intro (by repeat (first | exact trivial | refine And.intro rfl ?_)) (And.intro (by repeat (first | exact trivial | refine And.intro rfl ?_)) (Exists.intro m9 (And.intro ⟨ax13, x13.length, cx13, x13, (IntKind.i64.wrap (u7 + 1)), rfl, rfl, (sX5.trans sx13), rx13, (H0 _), hM1⟩ (Nat.lt_succ_self _)))))
  ·replace hM1 := ifN hM1 hc12
   refine And.intro (fun hc20 => ?_) (fun hc20 => ?_)
   ·replace hM1 := ifP hM1 hc20
    obtain ⟨x21, gx21, hM1⟩ := j0 hM1
    refine Tr.mono (s00 _ au6 u6.length cu6 u6 ru6 aC aA _  gx21) ?_
    rintro v23 k22 ⟨ax21, nx21, cx21, rfl, rx21, sx21⟩
    obtain ⟨rfl, lx21⟩ := Sl.len rx21
    refine And.intro rfl (And.intro (by repeat (first | exact trivial | refine And.intro rfl ?_)) (And.intro (by repeat (first | exact trivial | refine And.intro rfl ?_)) (Exists.intro m9 (And.intro ⟨ax21, x21.length, cx21, x21, (IntKind.i64.wrap (u7 + 1)), rfl, rfl, (sX5.trans sx21), rx21, (H0 _), hM1⟩ (Nat.lt_succ_self _)))))
   ·replace hM1 := ifN hM1 hc20
    refine And.intro rfl (And.intro (by repeat (first | exact trivial | refine And.intro rfl ?_)) (And.intro (by repeat (first | exact trivial | refine And.intro rfl ?_)) (Exists.intro m9 (And.intro ⟨au6, u6.length, cu6, u6, (IntKind.i64.wrap (u7 + 1)), rfl, rfl, sX5, ru6, (H0 _), hM1⟩ (Nat.lt_succ_self _)))))
 ·replace hM1 := ifN hM1 hc10
  have hE := Option.some.inj hM1; subst hE
  try dsimp only [K0, N0] at hM0
  have hE := Option.some.inj hM0; subst hE
  exact ⟨au6, u6.length, cu6, rfl, ru6, sX5⟩
theorem j01 (h : Hp) (csp0 : List Value) (p0 : l0) (rp0 : P0.R h csp0 p0) (p1 : Int) (ip1 : M0 p1) (p2 : Int) (ip2 : M0 p2) (r : Int) (hM0 : O6 p0 p1 p2 = some r) :
  Tr Tryz.prog 159 #[.agg csp0.toArray, .int .i64 p1, .int .i64 p2] h fun v h' => v = .int .i64 r ∧ h' = h := by
 obtain ⟨aD, aF, aA, aJ, aB, aI, rfl, rfl, aG, aH, aC⟩ := C0 rp0
 obtain ⟨rfl, aK⟩ := Sl.len aC
 unfold O6 at hM0
 dsimp only at hM0
 refine Tr.forget (T2 (args := [.agg #[.int .i64 aD, .int .i64 aF, .slice aA aI.length aB], .int .i64 p1, .int .i64 p2]) (fn := Tryz.f159) rfl ?_)
 obtain ⟨x1, gx1, hM0⟩ := j0 hM0
 refine Tr.mono (H08 _ [.int .i64 aD, .int .i64 aF, .slice aA aI.length aB] (aD, aF, aI) (z0 aG aH aC) p1 ip1 p2 ip2 _  gx1) ?_
 rintro v3 k2 ⟨ax1, nx1, cx1, rfl, rx1, sx1⟩
 obtain ⟨rfl, lx1⟩ := Sl.len rx1
 refine And.intro (fun hc4 => ?_) (fun hc4 => ?_)
 ·replace hM0 := ifP hM0 hc4
  have hE := Option.some.inj hM0; subst hE
  exact And.intro rfl sx1
 ·replace hM0 := ifN hM0 hc4
  obtain ⟨x5, gx5, hM0⟩ := j0 hM0
  obtain ⟨bx5, csx5, ex5, rx5⟩ := Sl.getI (r := Wp.int.toRp) rx1 gx5 (by decide)
  refine And.intro bx5 ?_
  obtain ⟨rfl, ix5⟩ := rx5
  refine Exists.intro _ (And.intro ex5 ?_)
  have hE := Option.some.inj hM0; subst hE
  exact And.intro rfl sx1
theorem F00 (h : Hp) (csp0 : List Value) (p0 : l0) (rp0 : P0.R h csp0 p0) (r : Bool) (hM0 : Z6 p0 = some r) :
  Tr Tryz.prog 245 #[.agg csp0.toArray] h fun v h' => v = .bool r ∧ h' = h := by
 obtain ⟨aB, aC, aF, aP, aG, aD, rfl, rfl, aH, aI, aA⟩ := C0 rp0
 obtain ⟨rfl, aQ⟩ := Sl.len aA
 unfold Z6 at hM0
 dsimp only at hM0
 refine Tr.forget (T2 (args := [.agg #[.int .i64 aB, .int .i64 aC, .slice aF aD.length aG]]) (fn := Tryz.f245) rfl ?_)
 obtain ⟨X1, hLX1, hM0⟩ := j0 hM0
 refine Exists.intro { vars := [3], boxes := [], owns := [], fuel := true } (Exists.intro (fun vs os h' => ∃ (u2 : Int), vs.tail = [.int .i64 u2] ∧ os = [] ∧ Sub h h' ∧ M0 u2 ∧ J4 aD aB aC (C1 vs) u2 = some X1) (Exists.intro (fun _ _ => 0) ?_))
 refine And.intro (Exists.intro I0 ⟨0, rfl, rfl, (Sub.refl _), (c64 (by decide) (by decide)), hLX1⟩) ?_
 rintro v_0 m4 k3 ⟨u2, evX1, eoX1, sX1, iu2, hM1⟩
 cases evX1
 cases eoX1
 replace hM1 : J4 aD aB aC m4 u2 = some X1 := hM1
 obtain _ | m4 := m4
 ·cases (show (none : Option _) = some X1 from hM1)
 rw [J4.eq_2] at hM1
 obtain ⟨x5, gx5, hM1⟩ := j0 hM1
 refine Exists.intro (.bool x5) (And.intro (fun q => O7 _ [.int .i64 aB, .int .i64 aC, .slice aF aD.length aG] (aB, aC, aD) (z0 aH aI (O0.mono sX1 aA)) _  (G2 gx5 q)) ?_)
 refine And.intro (fun hc6 => ?_) (fun hc6 => ?_)
 ·replace hM1 := ifP hM1 hc6
  obtain ⟨X7, hLX7, hM1⟩ := j0 hM1
  refine Exists.intro { vars := [4], boxes := [], owns := [], fuel := true } (Exists.intro (fun vs os h' => ∃ (u8 : Int), vs.tail = [.int .i64 u8] ∧ os = [] ∧ Sub k3 h' ∧ M0 u8 ∧ M5 u2 aD (C1 vs) u8 = some X7) (Exists.intro (fun _ _ => 0) ?_))
  refine And.intro (Exists.intro I0 ⟨0, rfl, rfl, (Sub.refl _), (c64 (by decide) (by decide)), hLX7⟩) ?_
  rintro v_0 m10 k9 ⟨u8, evX7, eoX7, sX7, iu8, hM2⟩
  cases evX7
  cases eoX7
  replace hM2 : M5 u2 aD m10 u8 = some X7 := hM2
  obtain _ | m10 := m10
  ·cases (show (none : Option _) = some X7 from hM2)
  rw [M5.eq_2] at hM2
  refine And.intro (fun hc11 => ?_) (fun hc11 => ?_)
  ·replace hM2 := ifP hM2 hc11
   obtain ⟨x12, gx12, hM2⟩ := j0 hM2
   obtain ⟨bx12, csx12, ex12, rx12⟩ := Sl.getI (r := j1.toRp) (O0.mono (sX1.trans sX7) aA) gx12 (by decide)
   refine And.intro bx12 ?_
   obtain ⟨aR, aS, aT, rfl, rfl, aJ, aK, aL⟩ := F1 rx12
   try dsimp only at hM2
   refine Exists.intro _ (And.intro ex12 ?_)
   obtain ⟨x13, gx13, hM2⟩ := j0 hM2
   obtain ⟨bx13, csx13, ex13, rx13⟩ := Sl.getI (r := j1.toRp) (O0.mono (sX1.trans sX7) aA) gx13 (by decide)
   refine And.intro bx13 ?_
   obtain ⟨aU, aV, aW, rfl, rfl, aM, aN, aO⟩ := F1 rx13
   try dsimp only at hM2
   refine Exists.intro _ (And.intro ex13 ?_)
   refine And.intro (fun hc14 => ?_) (fun hc14 => ?_)
   ·replace hM2 := ifP hM2 hc14
    have hE := Option.some.inj hM2; subst hE
    try dsimp only [j4, l4] at hM1
    have hE := Option.some.inj hM1; subst hE
    try dsimp only [j4, l4] at hM0
    have hE := Option.some.inj hM0; subst hE
    exact And.intro rfl (sX1.trans sX7)
   ·replace hM2 := ifN hM2 hc14
    refine And.intro rfl (And.intro (by repeat (first | exact trivial | refine And.intro rfl ?_)) (And.intro (by repeat (first | exact trivial | refine And.intro rfl ?_)) (Exists.intro m10 (And.intro ⟨(IntKind.i64.wrap (u8 + 1)), rfl, rfl, sX7, (H0 _), hM2⟩ (Nat.lt_succ_self _)))))
  ·replace hM2 := ifN hM2 hc11
   have hE := Option.some.inj hM2; subst hE
   try dsimp only [K0, N0] at hM1
   refine And.intro rfl (And.intro (by repeat (first | exact trivial | refine And.intro rfl ?_)) (And.intro (by repeat (first | exact trivial | refine And.intro rfl ?_)) (Exists.intro m4 (And.intro ⟨(IntKind.i64.wrap (u2 + 1)), rfl, rfl, (sX1.trans sX7), (H0 _), hM1⟩ (Nat.lt_succ_self _)))))
 ·replace hM1 := ifN hM1 hc6
  have hE := Option.some.inj hM1; subst hE
  try dsimp only [K0, N0] at hM0
  obtain ⟨x18, gx18, hM0⟩ := j0 hM0
  refine Tr.val (O7 _ [.int .i64 aB, .int .i64 aC, .slice aF aD.length aG] (aB, aC, aD) (z0 aH aI (O0.mono sX1 aA)) _  gx18) ?_
  have hE := Option.some.inj hM0; subst hE
  exact And.intro rfl sX1
theorem I08 (h : Hp) (csp0 : List Value) (p0 : l0) (rp0 : P0.R h csp0 p0) (p1 : Int) (ip1 : M0 p1) (p2 : Int) (ip2 : M0 p2) (r : D0) (hM0 : a9 p0 p1 p2 = some r) :
  Tr Tryz.prog 274 #[.agg csp0.toArray, .int .i64 p1, .int .i64 p2] h fun v h' => ∃ (a0 : Option Addr) (n0 c0 : Nat), v = .slice a0 n0 c0 ∧ New Q0 h h' [.slice a0 n0 c0] r := by
 obtain ⟨aJ, aK, aG, aL, aH, aI, rfl, rfl, aM, aN, aC⟩ := C0 rp0
 obtain ⟨rfl, aO⟩ := Sl.len aC
 unfold a9 at hM0
 dsimp only at hM0
 refine T2 (args := [.agg #[.int .i64 aJ, .int .i64 aK, .slice aG aI.length aH], .int .i64 p1, .int .i64 p2]) (fn := Tryz.f274) rfl ?_
 obtain ⟨X1, hLX1, hM0⟩ := j0 hM0
 refine Exists.intro { vars := [14], boxes := [], owns := [0], fuel := true } (Exists.intro (fun vs os h' => ∃ (u2 : Int) (wu3 : List (List Value)) (u3 : List Int), vs.tail = [.int .i64 u2] ∧ os = [wu3] ∧ Sub h h' ∧ M0 u2 ∧ F2 (Wp.int.R h') wu3 u3 ∧ d4 aI p2 p1 (C1 vs) u2 u3 = some X1) (Exists.intro (fun _ _ => 0) ?_))
 refine And.intro (Exists.intro I0 ⟨0, [], ([] : D0), rfl, rfl, (Sub.refl _), (c64 (by decide) (by decide)), (show F2 (Wp.int.R h) ([] : List (List Value)) ([] : D0) from trivial), hLX1⟩) ?_
 rintro v_0 wu3 m5 k4 ⟨u2, zzu3, u3, evX1, eoX1, sX1, iu2, fu3, hM1⟩
 cases evX1
 cases eoX1
 replace hM1 : d4 aI p2 p1 m5 u2 u3 = some X1 := hM1
 obtain _ | m5 := m5
 ·cases (show (none : Option _) = some X1 from hM1)
 rw [d4.eq_2] at hM1
 refine And.intro (fun hc6 => ?_) (fun hc6 => ?_)
 ·replace hM1 := ifP hM1 hc6
  obtain ⟨x7, gx7, hM1⟩ := j0 hM1
  obtain ⟨bx7, csx7, ex7, rx7⟩ := Sl.getI (r := j1.toRp) (O0.mono sX1 aC) gx7 (by decide)
  refine And.intro bx7 ?_
  obtain ⟨aA, aQ, aB, rfl, rfl, aD, aP, aF⟩ := F1 rx7
  try dsimp only at hM1
  refine Exists.intro _ (And.intro ex7 ?_)
  refine And.intro (fun hc8 => ?_) (fun hc8 => ?_)
  ·replace hM1 := ifP hM1 hc8
   obtain ⟨q9, gq9, hM1⟩ := j0 hM1
   refine And.intro (E1 gq9 (by first | rw [F2.length fu3, F2.length (show F2 (Wp.int.R k4) ([[.int .i64 aB]] : List (List Value)) [aB] from ⟨⟨rfl, aF⟩, trivial⟩)] | exact congrArg (· + 1) (F2.length fu3))) ?_
   refine And.intro rfl (And.intro (by repeat (first | exact trivial | refine And.intro rfl ?_)) (And.intro (by repeat (first | exact trivial | refine And.intro rfl ?_)) (Exists.intro m5 (And.intro ⟨(IntKind.i64.wrap (u2 + 1)), (wu3 ++ ([[.int .i64 aB]] : List (List Value))), (u3 ++ [aB]), rfl, rfl, sX1, (H0 _), (F2.append fu3 (show F2 (Wp.int.R k4) ([[.int .i64 aB]] : List (List Value)) [aB] from ⟨⟨rfl, aF⟩, trivial⟩)), hM1⟩ (Nat.lt_succ_self _)))))
  ·replace hM1 := ifN hM1 hc8
   refine And.intro (fun hc10 => ?_) (fun hc10 => ?_)
   ·replace hM1 := ifP hM1 hc10
    obtain ⟨q11, gq11, hM1⟩ := j0 hM1
    refine And.intro (E1 gq11 (by first | rw [F2.length fu3, F2.length (show F2 (Wp.int.R k4) ([[.int .i64 aA]] : List (List Value)) [aA] from ⟨⟨rfl, aD⟩, trivial⟩)] | exact congrArg (· + 1) (F2.length fu3))) ?_
    refine And.intro rfl (And.intro (by repeat (first | exact trivial | refine And.intro rfl ?_)) (And.intro (by repeat (first | exact trivial | refine And.intro rfl ?_)) (Exists.intro m5 (And.intro ⟨(IntKind.i64.wrap (u2 + 1)), (wu3 ++ ([[.int .i64 aA]] : List (List Value))), (u3 ++ [aA]), rfl, rfl, sX1, (H0 _), (F2.append fu3 (show F2 (Wp.int.R k4) ([[.int .i64 aA]] : List (List Value)) [aA] from ⟨⟨rfl, aD⟩, trivial⟩)), hM1⟩ (Nat.lt_succ_self _)))))
   ·replace hM1 := ifN hM1 hc10
    refine And.intro rfl (And.intro (by repeat (first | exact trivial | refine And.intro rfl ?_)) (And.intro (by repeat (first | exact trivial | refine And.intro rfl ?_)) (Exists.intro m5 (And.intro ⟨(IntKind.i64.wrap (u2 + 1)), wu3, u3, rfl, rfl, sX1, (H0 _), fu3, hM1⟩ (Nat.lt_succ_self _)))))
 ·replace hM1 := ifN hM1 hc6
  have hE := Option.some.inj hM1; subst hE
  try dsimp only [K0, N0] at hM0
  refine Or.inl ?_
  intro v12 k13 f14
  obtain ⟨q15, gq15, hM0⟩ := j0 hM0
  refine Tr.mono (M0g _ f14 fu3 (T0 gq15)) ?_
  rintro _ kz16 ⟨rfl, vsz16, fz16, qz16⟩
  obtain ⟨az16, cz16, rfl, rz16, sz16, lz16⟩ := U0.out (r := Wp.int.toRp) fz16 qz16
  refine Tr.mono (N0g _ fz16 qz16) ?_
  rintro _ kz17 ⟨vsz17, fz17, qz17⟩
  obtain ⟨az17, cz17, rfl, rz17, sz17, lz17⟩ := U0.out (r := Wp.int.toRp) fz17 qz17
  have hE := Option.some.inj hM0; subst hE
  exact ⟨az17, ((n01 eqI (A03 P7 u3))).length, cz17, rfl, (New.from (U0.newPlain (r := Wp.int) fz17 qz17 (h09 _)) sX1)⟩
theorem k01 (h : Hp) (csp0 : List Value) (p0 : l0) (rp0 : P0.R h csp0 p0) (p1 : Int) (ip1 : M0 p1) (p2 : Int) (ip2 : M0 p2) (r : Int) (hM0 : P6 p0 p1 p2 = some r) :
  Tr Tryz.prog 199 #[.agg csp0.toArray, .int .i64 p1, .int .i64 p2] h fun v h' => v = .int .i64 r ∧ h' = h := by
 obtain ⟨aD, aF, aA, aJ, aB, aI, rfl, rfl, aG, aH, aC⟩ := C0 rp0
 obtain ⟨rfl, aK⟩ := Sl.len aC
 unfold P6 at hM0
 dsimp only at hM0
 refine Tr.forget (T2 (args := [.agg #[.int .i64 aD, .int .i64 aF, .slice aA aI.length aB], .int .i64 p1, .int .i64 p2]) (fn := Tryz.f199) rfl ?_)
 obtain ⟨x1, gx1, hM0⟩ := j0 hM0
 refine Tr.mono (I08 _ [.int .i64 aD, .int .i64 aF, .slice aA aI.length aB] (aD, aF, aI) (z0 aG aH aC) p1 ip1 p2 ip2 _  gx1) ?_
 rintro v3 k2 ⟨ax1, nx1, cx1, rfl, wx1⟩
 have sx1 : Sub h k2 := wx1.sub
 have rx1 := wx1.r
 obtain ⟨rfl, lx1⟩ := Sl.len rx1
 refine And.intro (fun hc4 => ?_) (fun hc4 => ?_)
 ·replace hM0 := ifP hM0 hc4
  have hE := Option.some.inj hM0; subst hE
  exact And.intro rfl sx1
 ·replace hM0 := ifN hM0 hc4
  obtain ⟨x5, gx5, hM0⟩ := j0 hM0
  obtain ⟨bx5, csx5, ex5, rx5⟩ := Sl.getI (r := Wp.int.toRp) rx1 gx5 (by decide)
  refine And.intro bx5 ?_
  obtain ⟨rfl, ix5⟩ := rx5
  refine Exists.intro _ (And.intro ex5 ?_)
  have hE := Option.some.inj hM0; subst hE
  exact And.intro rfl sx1
theorem G9 (h : Hp) (csp0 : List Value) (p0 : l0) (rp0 : P0.R h csp0 p0) (r : Bool) (hM0 : d6 p0 = some r) :
  Tr Tryz.prog 166 #[.agg csp0.toArray] h fun v h' => v = .bool r ∧ h' = h := by
 obtain ⟨aD, aF, aB, aP, aC, aG, rfl, rfl, aH, aI, aA⟩ := C0 rp0
 obtain ⟨rfl, aQ⟩ := Sl.len aA
 unfold d6 at hM0
 dsimp only at hM0
 refine Tr.forget (T2 (args := [.agg #[.int .i64 aD, .int .i64 aF, .slice aB aG.length aC]]) (fn := Tryz.f166) rfl ?_)
 obtain ⟨x1, gx1, hM0⟩ := j0 hM0
 refine Tr.val (h01 _ [.int .i64 aD, .int .i64 aF, .slice aB aG.length aC] (aD, aF, aG) (z0 aH aI aA) _  gx1) ?_
 refine And.intro (fun hc2 => ?_) (fun hc2 => ?_)
 ·replace hM0 := ifP hM0 hc2
  have hE := Option.some.inj hM0; subst hE
  exact And.intro rfl (Sub.refl _)
 ·replace hM0 := ifN hM0 hc2
  obtain ⟨X3, hLX3, hM0⟩ := j0 hM0
  refine Exists.intro { vars := [13], boxes := [], owns := [], fuel := true } (Exists.intro (fun vs os h' => ∃ (u4 : Int), vs.tail = [.int .i64 u4] ∧ os = [] ∧ Sub h h' ∧ M0 u4 ∧ O5 aG (C1 vs) u4 = some X3) (Exists.intro (fun _ _ => 0) ?_))
  refine And.intro (Exists.intro I0 ⟨0, rfl, rfl, (Sub.refl _), (c64 (by decide) (by decide)), hLX3⟩) ?_
  rintro v_0 m6 k5 ⟨u4, evX3, eoX3, sX3, iu4, hM1⟩
  cases evX3
  cases eoX3
  replace hM1 : O5 aG m6 u4 = some X3 := hM1
  obtain _ | m6 := m6
  ·cases (show (none : Option _) = some X3 from hM1)
  rw [O5.eq_2] at hM1
  refine And.intro (fun hc7 => ?_) (fun hc7 => ?_)
  ·replace hM1 := ifP hM1 hc7
   obtain ⟨x8, gx8, hM1⟩ := j0 hM1
   obtain ⟨bx8, csx8, ex8, rx8⟩ := Sl.getI (r := j1.toRp) (O0.mono sX3 aA) gx8 (by decide)
   refine And.intro bx8 ?_
   obtain ⟨aJ, aK, aL, rfl, rfl, aR, aS, aT⟩ := F1 rx8
   try dsimp only at hM1
   refine Exists.intro _ (And.intro ex8 ?_)
   obtain ⟨x9, gx9, hM1⟩ := j0 hM1
   obtain ⟨qx9, vsx9, ex9, fx9⟩ := Sl.cutI (r := j1.toRp) (O0.mono sX3 aA) gx9
   refine And.intro qx9 (Exists.intro vsx9 (And.intro ex9 ?_))
   intro vx9 hvx9 _
   obtain ⟨ax9, cx9, rfl, rx9⟩ := fx9 vx9 hvx9
   have lx9 := (Sl.len rx9).2
   obtain ⟨X10, hLX10, hM1⟩ := j0 hM1
   refine Exists.intro { vars := [24], boxes := [], owns := [], fuel := true } (Exists.intro (fun vs os h' => ∃ (u11 : Int), vs.tail = [.int .i64 u11] ∧ os = [] ∧ Sub k5 h' ∧ M0 u11 ∧ N5 x9 aK aJ aL (C1 vs) u11 = some X10) (Exists.intro (fun _ _ => 0) ?_))
   refine And.intro (Exists.intro I0 ⟨0, rfl, rfl, (Sub.refl _), (c64 (by decide) (by decide)), hLX10⟩) ?_
   rintro v_0 m13 k12 ⟨u11, evX10, eoX10, sX10, iu11, hM2⟩
   cases evX10
   cases eoX10
   replace hM2 : N5 x9 aK aJ aL m13 u11 = some X10 := hM2
   obtain _ | m13 := m13
   ·cases (show (none : Option _) = some X10 from hM2)
   rw [N5.eq_2] at hM2
   refine And.intro (fun hc14 => ?_) (fun hc14 => ?_)
   ·replace hM2 := ifP hM2 hc14
    obtain ⟨x15, gx15, hM2⟩ := j0 hM2
    obtain ⟨bx15, csx15, ex15, rx15⟩ := Sl.getI (r := j1.toRp) (O0.mono sX10 rx9) gx15 (by decide)
    refine And.intro bx15 ?_
    obtain ⟨aU, aV, aW, rfl, rfl, aM, aN, aO⟩ := F1 rx15
    try dsimp only at hM2
    refine Exists.intro _ (And.intro ex15 ?_)
    refine And.intro (fun hc16 => ?_) (fun hc16 => ?_)
    ·replace hM2 := ifP hM2 hc16
     have hE := Option.some.inj hM2; subst hE
     try dsimp only [j4, l4] at hM1
     have hE := Option.some.inj hM1; subst hE
     try dsimp only [j4, l4] at hM0
     have hE := Option.some.inj hM0; subst hE
     exact And.intro rfl (sX3.trans sX10)
    ·replace hM2 := ifN hM2 hc16
     refine And.intro rfl (And.intro (by repeat (first | exact trivial | refine And.intro rfl ?_)) (And.intro (by repeat (first | exact trivial | refine And.intro rfl ?_)) (Exists.intro m13 (And.intro ⟨(IntKind.i64.wrap (u11 + 1)), rfl, rfl, sX10, (H0 _), hM2⟩ (Nat.lt_succ_self _)))))
   ·replace hM2 := ifN hM2 hc14
    have hE := Option.some.inj hM2; subst hE
    try dsimp only [K0, N0] at hM1
    refine And.intro rfl (And.intro (by repeat (first | exact trivial | refine And.intro rfl ?_)) (And.intro (by repeat (first | exact trivial | refine And.intro rfl ?_)) (Exists.intro m6 (And.intro ⟨(IntKind.i64.wrap (u4 + 1)), rfl, rfl, (sX3.trans sX10), (H0 _), hM1⟩ (Nat.lt_succ_self _)))))
  ·replace hM1 := ifN hM1 hc7
   have hE := Option.some.inj hM1; subst hE
   try dsimp only [K0, N0] at hM0
   have hE := Option.some.inj hM0; subst hE
   exact And.intro rfl sX3
end Go.Proofs.YtknoadmdnjaocaaGreat
namespace Go.Proofs.YtknoadmdnjaocaaGreat
open Go.H
set_option linter.unusedVariables false
set_option linter.unusedSimpArgs false
set_option maxRecDepth 10000
theorem h8 (h : Hp) (csp0 : List Value) (p0 : l0) (rp0 : P0.R h csp0 p0) (r : l0) (hM0 : D5 p0 = some r) :
  Tr Tryz.prog 78 #[.agg csp0.toArray] h fun v h' => ∃ (cs0 : List Value), v = .agg cs0.toArray ∧ P0.R h' cs0 r ∧ Sub h h' := by
 obtain ⟨aB, aC, aD, aJ, aF, aI, rfl, rfl, aG, aH, aA⟩ := C0 rp0
 obtain ⟨rfl, aK⟩ := Sl.len aA
 unfold D5 at hM0
 dsimp only at hM0
 refine T2 (args := [.agg #[.int .i64 aB, .int .i64 aC, .slice aD aI.length aF]]) (fn := Tryz.f78) rfl ?_
 refine Or.inr (Or.inr (Or.inl (And.intro (And.intro (by kernel_rfl) (by kernel_rfl)) ?_)))
 refine Or.inr ?_
 refine Or.inr ?_
 refine Or.inr ?_
 refine Or.inr ?_
 refine Exists.intro 0 (And.intro (And.intro rfl rfl) ?_)
 refine And.intro trivial (And.intro (by first | exact trivial | exact rfl) ?_)
 obtain ⟨vsy1, ey1, fy1⟩ := Sl.rows (r := j1.toRp) aA
 refine Exists.intro vsy1 (And.intro ey1 ?_)
 obtain ⟨q2, gq2, hM0⟩ := j0 hM0
 refine And.intro (E1 gq2 (by first | rw [F2.length (show F2 (j1.R h) ([] : List (List Value)) ([] : J0) from trivial), F2.length fy1] | exact congrArg (· + 1) (F2.length (show F2 (j1.R h) ([] : List (List Value)) ([] : J0) from trivial)))) ?_
 refine And.intro trivial (And.intro (by first | exact trivial | exact rfl) ?_)
 refine And.intro trivial (And.intro (by first | exact trivial | exact rfl) ?_)
 refine And.intro trivial (And.intro (by first | exact trivial | exact rfl) ?_)
 intro v3 k4 f5
 obtain ⟨az6, cz6, rfl, rz6, sz6, lz6⟩ := U0.out (r := j1.toRp) f5 (F2.append (show F2 (j1.R h) ([] : List (List Value)) ([] : J0) from trivial) fy1)
 have hE := Option.some.inj hM0; subst hE
 exact ⟨([.int .i64 aB, .int .i64 aC, .slice az6 ((([] : J0) ++ aI)).length cz6]), rfl, (z0 aG aH rz6), sz6⟩
theorem I07 (h : Hp) (ap0 : Option Addr) (np0 cp0 : Nat) (p0 : J0) (rp0 : O0.R h [.slice ap0 np0 cp0] p0) (csp1 : List Value) (p1 : F0) (rp1 : j1.R h csp1 p1) (r : J0) (hM0 : n00 p0 p1 = some r) :
  Tr Tryz.prog 172 #[.slice ap0 np0 cp0, .agg csp1.toArray] h fun v h' => ∃ (a0 : Option Addr) (n0 c0 : Nat), v = .slice a0 n0 c0 ∧ O0.R h' [.slice a0 n0 c0] r ∧ Sub h h' := by
 obtain ⟨rfl, lp0⟩ := Sl.len rp0
 obtain ⟨aA, aB, aC, rfl, rfl, aD, aF, aG⟩ := F1 rp1
 unfold n00 at hM0
 dsimp only at hM0
 refine T2 (args := [.slice ap0 p0.length cp0, .agg #[.int .i64 aA, .int .i64 aB, .int .i64 aC]]) (fn := Tryz.f172) rfl ?_
 obtain ⟨X1, hLX1, hM0⟩ := j0 hM0
 refine Exists.intro { vars := [6, 7], boxes := [], owns := [0], fuel := true } (Exists.intro (fun vs os h' => ∃ (u2 : Bool) (u3 : Int) (wu4 : List (List Value)) (u4 : List F0), vs.tail = [.bool u2, .int .i64 u3] ∧ os = [wu4] ∧ Sub h h' ∧ M0 u3 ∧ F2 (j1.R h') wu4 u4 ∧ O3 p0 aA aB aC (C1 vs) u2 u3 u4 = some X1) (Exists.intro (fun _ _ => 0) ?_))
 refine And.intro (Exists.intro I0 ⟨false, 0, [], ([] : J0), rfl, rfl, (Sub.refl _), (c64 (by decide) (by decide)), (show F2 (j1.R h) ([] : List (List Value)) ([] : J0) from trivial), hLX1⟩) ?_
 rintro v_0 v_1 wu4 m6 k5 ⟨u2, u3, zzu4, u4, evX1, eoX1, sX1, iu3, fu4, hM1⟩
 cases evX1
 cases eoX1
 replace hM1 : O3 p0 aA aB aC m6 u2 u3 u4 = some X1 := hM1
 obtain _ | m6 := m6
 ·cases (show (none : Option _) = some X1 from hM1)
 rw [O3.eq_2] at hM1
 refine And.intro (fun hc7 => ?_) (fun hc7 => ?_)
 ·replace hM1 := ifP hM1 hc7
  refine Or.inl (And.intro (And.intro (by kernel_rfl) (by kernel_rfl)) ?_)
  obtain ⟨x8, gx8, hM1⟩ := j0 hM1
  obtain ⟨bx8, csx8, ex8, rx8⟩ := Sl.getI (r := j1.toRp) (O0.mono sX1 rp0) gx8 (by decide)
  refine And.intro bx8 ?_
  obtain ⟨bF, bG, bH, rfl, rfl, bI, bJ, bK⟩ := F1 rx8
  try dsimp only at hM1
  refine Exists.intro _ (And.intro ex8 ?_)
  obtain ⟨x9, gx9, hM1⟩ := j0 hM1
  refine Exists.intro (.int .i64 x9) (And.intro (V01 _ [.int .i64 aA, .int .i64 aB, .int .i64 aC] (aA, aB, aC) (K1 aD aF aG) [.int .i64 bF, .int .i64 bG, .int .i64 bH] (bF, bG, bH) (K1 bI bJ bK) _  gx9) ?_)
  obtain ⟨q10, gq10, hM1⟩ := j0 hM1
  have ix9 : M0 x9 := T0 gq10
  refine And.intro (fun hc11 => ?_) (fun hc11 => ?_)
  ·replace hM1 := ifP hM1 hc11
   refine And.intro (fun hc12 => ?_) (fun hc12 => ?_)
   ·replace hM1 := ifP hM1 hc12
    obtain ⟨q13, gq13, hM1⟩ := j0 hM1
    refine And.intro (E1 gq13 (by first | rw [F2.length fu4, F2.length (show F2 (j1.R k5) ([[.int .i64 aA, .int .i64 aB, .int .i64 aC]] : List (List Value)) [(aA, aB, aC)] from ⟨(K1 aD aF aG), trivial⟩)] | exact congrArg (· + 1) (F2.length fu4))) ?_
    obtain ⟨x14, gx14, hM1⟩ := j0 hM1
    obtain ⟨bx14, csx14, ex14, rx14⟩ := Sl.getI (r := j1.toRp) (O0.mono sX1 rp0) gx14 (by decide)
    refine And.intro bx14 ?_
    obtain ⟨aH, aI, aJ, rfl, rfl, aT, aU, aV⟩ := F1 rx14
    try dsimp only at hM1
    refine Exists.intro _ (And.intro ex14 ?_)
    obtain ⟨q15, gq15, hM1⟩ := j0 hM1
    refine And.intro (E1 gq15 (by first | rw [F2.length (F2.append fu4 (show F2 (j1.R k5) ([[.int .i64 aA, .int .i64 aB, .int .i64 aC]] : List (List Value)) [(aA, aB, aC)] from ⟨(K1 aD aF aG), trivial⟩)), F2.length (show F2 (j1.R k5) ([[.int .i64 aH, .int .i64 aI, .int .i64 aJ]] : List (List Value)) [(aH, aI, aJ)] from ⟨(K1 aT aU aV), trivial⟩)] | exact congrArg (· + 1) (F2.length (F2.append fu4 (show F2 (j1.R k5) ([[.int .i64 aA, .int .i64 aB, .int .i64 aC]] : List (List Value)) [(aA, aB, aC)] from ⟨(K1 aD aF aG), trivial⟩))))) ?_
    refine And.intro rfl (And.intro (by repeat (first | exact trivial | refine And.intro rfl ?_)) (And.intro (by repeat (first | exact trivial | refine And.intro rfl ?_)) (Exists.intro m6 (And.intro ⟨true, (IntKind.i64.wrap (u3 + 1)), ((wu4 ++ ([[.int .i64 aA, .int .i64 aB, .int .i64 aC]] : List (List Value))) ++ ([[.int .i64 aH, .int .i64 aI, .int .i64 aJ]] : List (List Value))), ((u4 ++ [(aA, aB, aC)]) ++ [(aH, aI, aJ)]), rfl, rfl, sX1, (H0 _), (F2.append (F2.append fu4 (show F2 (j1.R k5) ([[.int .i64 aA, .int .i64 aB, .int .i64 aC]] : List (List Value)) [(aA, aB, aC)] from ⟨(K1 aD aF aG), trivial⟩)) (show F2 (j1.R k5) ([[.int .i64 aH, .int .i64 aI, .int .i64 aJ]] : List (List Value)) [(aH, aI, aJ)] from ⟨(K1 aT aU aV), trivial⟩)), hM1⟩ (Nat.lt_succ_self _)))))
   ·replace hM1 := ifN hM1 hc12
    obtain ⟨x16, gx16, hM1⟩ := j0 hM1
    obtain ⟨bx16, csx16, ex16, rx16⟩ := Sl.getI (r := j1.toRp) (O0.mono sX1 rp0) gx16 (by decide)
    refine And.intro bx16 ?_
    obtain ⟨aK, aL, aM, rfl, rfl, aW, aX, aY⟩ := F1 rx16
    try dsimp only at hM1
    refine Exists.intro _ (And.intro ex16 ?_)
    obtain ⟨q17, gq17, hM1⟩ := j0 hM1
    refine And.intro (E1 gq17 (by first | rw [F2.length fu4, F2.length (show F2 (j1.R k5) ([[.int .i64 aK, .int .i64 aL, .int .i64 aM]] : List (List Value)) [(aK, aL, aM)] from ⟨(K1 aW aX aY), trivial⟩)] | exact congrArg (· + 1) (F2.length fu4))) ?_
    refine And.intro rfl (And.intro (by repeat (first | exact trivial | refine And.intro rfl ?_)) (And.intro (by repeat (first | exact trivial | refine And.intro rfl ?_)) (Exists.intro m6 (And.intro ⟨true, (IntKind.i64.wrap (u3 + 1)), (wu4 ++ ([[.int .i64 aK, .int .i64 aL, .int .i64 aM]] : List (List Value))), (u4 ++ [(aK, aL, aM)]), rfl, rfl, sX1, (H0 _), (F2.append fu4 (show F2 (j1.R k5) ([[.int .i64 aK, .int .i64 aL, .int .i64 aM]] : List (List Value)) [(aK, aL, aM)] from ⟨(K1 aW aX aY), trivial⟩)), hM1⟩ (Nat.lt_succ_self _)))))
  ·replace hM1 := ifN hM1 hc11
   refine And.intro (fun hc18 => ?_) (fun hc18 => ?_)
   ·replace hM1 := ifP hM1 hc18
    obtain ⟨q19, gq19, hM1⟩ := j0 hM1
    refine And.intro (E1 gq19 (by first | rw [F2.length fu4, F2.length (show F2 (j1.R k5) ([[.int .i64 aA, .int .i64 aB, .int .i64 aC]] : List (List Value)) [(aA, aB, aC)] from ⟨(K1 aD aF aG), trivial⟩)] | exact congrArg (· + 1) (F2.length fu4))) ?_
    obtain ⟨x20, gx20, hM1⟩ := j0 hM1
    obtain ⟨bx20, csx20, ex20, rx20⟩ := Sl.getI (r := j1.toRp) (O0.mono sX1 rp0) gx20 (by decide)
    refine And.intro bx20 ?_
    obtain ⟨aN, aO, aP, rfl, rfl, aZ, bA, bB⟩ := F1 rx20
    try dsimp only at hM1
    refine Exists.intro _ (And.intro ex20 ?_)
    obtain ⟨q21, gq21, hM1⟩ := j0 hM1
    refine And.intro (E1 gq21 (by first | rw [F2.length (F2.append fu4 (show F2 (j1.R k5) ([[.int .i64 aA, .int .i64 aB, .int .i64 aC]] : List (List Value)) [(aA, aB, aC)] from ⟨(K1 aD aF aG), trivial⟩)), F2.length (show F2 (j1.R k5) ([[.int .i64 aN, .int .i64 aO, .int .i64 aP]] : List (List Value)) [(aN, aO, aP)] from ⟨(K1 aZ bA bB), trivial⟩)] | exact congrArg (· + 1) (F2.length (F2.append fu4 (show F2 (j1.R k5) ([[.int .i64 aA, .int .i64 aB, .int .i64 aC]] : List (List Value)) [(aA, aB, aC)] from ⟨(K1 aD aF aG), trivial⟩))))) ?_
    refine And.intro rfl (And.intro (by repeat (first | exact trivial | refine And.intro rfl ?_)) (And.intro (by repeat (first | exact trivial | refine And.intro rfl ?_)) (Exists.intro m6 (And.intro ⟨true, (IntKind.i64.wrap (u3 + 1)), ((wu4 ++ ([[.int .i64 aA, .int .i64 aB, .int .i64 aC]] : List (List Value))) ++ ([[.int .i64 aN, .int .i64 aO, .int .i64 aP]] : List (List Value))), ((u4 ++ [(aA, aB, aC)]) ++ [(aN, aO, aP)]), rfl, rfl, sX1, (H0 _), (F2.append (F2.append fu4 (show F2 (j1.R k5) ([[.int .i64 aA, .int .i64 aB, .int .i64 aC]] : List (List Value)) [(aA, aB, aC)] from ⟨(K1 aD aF aG), trivial⟩)) (show F2 (j1.R k5) ([[.int .i64 aN, .int .i64 aO, .int .i64 aP]] : List (List Value)) [(aN, aO, aP)] from ⟨(K1 aZ bA bB), trivial⟩)), hM1⟩ (Nat.lt_succ_self _)))))
   ·replace hM1 := ifN hM1 hc18
    obtain ⟨x22, gx22, hM1⟩ := j0 hM1
    obtain ⟨bx22, csx22, ex22, rx22⟩ := Sl.getI (r := j1.toRp) (O0.mono sX1 rp0) gx22 (by decide)
    refine And.intro bx22 ?_
    obtain ⟨aQ, aR, aS, rfl, rfl, bC, bD, bE⟩ := F1 rx22
    try dsimp only at hM1
    refine Exists.intro _ (And.intro ex22 ?_)
    obtain ⟨q23, gq23, hM1⟩ := j0 hM1
    refine And.intro (E1 gq23 (by first | rw [F2.length fu4, F2.length (show F2 (j1.R k5) ([[.int .i64 aQ, .int .i64 aR, .int .i64 aS]] : List (List Value)) [(aQ, aR, aS)] from ⟨(K1 bC bD bE), trivial⟩)] | exact congrArg (· + 1) (F2.length fu4))) ?_
    refine And.intro rfl (And.intro (by repeat (first | exact trivial | refine And.intro rfl ?_)) (And.intro (by repeat (first | exact trivial | refine And.intro rfl ?_)) (Exists.intro m6 (And.intro ⟨u2, (IntKind.i64.wrap (u3 + 1)), (wu4 ++ ([[.int .i64 aQ, .int .i64 aR, .int .i64 aS]] : List (List Value))), (u4 ++ [(aQ, aR, aS)]), rfl, rfl, sX1, (H0 _), (F2.append fu4 (show F2 (j1.R k5) ([[.int .i64 aQ, .int .i64 aR, .int .i64 aS]] : List (List Value)) [(aQ, aR, aS)] from ⟨(K1 bC bD bE), trivial⟩)), hM1⟩ (Nat.lt_succ_self _)))))
 ·replace hM1 := ifN hM1 hc7
  have hE := Option.some.inj hM1; subst hE
  try dsimp only [K0, N0] at hM0
  refine And.intro (fun hc24 => ?_) (fun hc24 => ?_)
  ·replace hM0 := ifP hM0 hc24
   obtain ⟨q25, gq25, hM0⟩ := j0 hM0
   refine And.intro (E1 gq25 (by first | rw [F2.length fu4, F2.length (show F2 (j1.R k5) ([[.int .i64 aA, .int .i64 aB, .int .i64 aC]] : List (List Value)) [(aA, aB, aC)] from ⟨(K1 aD aF aG), trivial⟩)] | exact congrArg (· + 1) (F2.length fu4))) ?_
   intro v26 k27 f28
   obtain ⟨az29, cz29, rfl, rz29, sz29, lz29⟩ := U0.out (r := j1.toRp) f28 (F2.append fu4 (show F2 (j1.R k5) ([[.int .i64 aA, .int .i64 aB, .int .i64 aC]] : List (List Value)) [(aA, aB, aC)] from ⟨(K1 aD aF aG), trivial⟩))
   have hE := Option.some.inj hM0; subst hE
   exact ⟨az29, ((u4 ++ [(aA, aB, aC)])).length, cz29, rfl, rz29, (sX1.trans sz29)⟩
  ·replace hM0 := ifN hM0 hc24
   intro v30 k31 f32
   obtain ⟨az33, cz33, rfl, rz33, sz33, lz33⟩ := U0.out (r := j1.toRp) f32 fu4
   have hE := Option.some.inj hM0; subst hE
   exact ⟨az33, u4.length, cz33, rfl, rz33, (sX1.trans sz33)⟩
theorem A09 (h : Hp) (csp0 : List Value) (p0 : l0) (rp0 : P0.R h csp0 p0) (p1 : Int) (ip1 : M0 p1) (r : Int) (hM0 : F8 p0 p1 = some r) :
  Tr Tryz.prog 262 #[.agg csp0.toArray, .int .i64 p1] h fun v h' => v = .int .i64 r ∧ h' = h := by
 obtain ⟨aF, aG, aB, aK, aC, aD, rfl, rfl, aL, aM, aA⟩ := C0 rp0
 obtain ⟨rfl, aN⟩ := Sl.len aA
 unfold F8 at hM0
 dsimp only at hM0
 refine Tr.forget (T2 (args := [.agg #[.int .i64 aF, .int .i64 aG, .slice aB aD.length aC], .int .i64 p1]) (fn := Tryz.f262) rfl ?_)
 obtain ⟨X1, hLX1, hM0⟩ := j0 hM0
 refine Exists.intro { vars := [5, 6], boxes := [], owns := [], fuel := true } (Exists.intro (fun vs os h' => ∃ (u2 : Int) (u3 : Int), vs.tail = [.int .i64 u2, .int .i64 u3] ∧ os = [] ∧ Sub h h' ∧ M0 u2 ∧ M0 u3 ∧ L2 aD p1 (C1 vs) u2 u3 = some X1) (Exists.intro (fun _ _ => 0) ?_))
 refine And.intro (Exists.intro I0 ⟨0, 0, rfl, rfl, (Sub.refl _), (c64 (by decide) (by decide)), (c64 (by decide) (by decide)), hLX1⟩) ?_
 rintro v_0 v_1 m5 k4 ⟨u2, u3, evX1, eoX1, sX1, iu2, iu3, hM1⟩
 cases evX1
 cases eoX1
 replace hM1 : L2 aD p1 m5 u2 u3 = some X1 := hM1
 obtain _ | m5 := m5
 ·cases (show (none : Option _) = some X1 from hM1)
 rw [L2.eq_2] at hM1
 refine And.intro (fun hc6 => ?_) (fun hc6 => ?_)
 ·replace hM1 := ifP hM1 hc6
  obtain ⟨x7, gx7, hM1⟩ := j0 hM1
  obtain ⟨bx7, csx7, ex7, rx7⟩ := Sl.getI (r := j1.toRp) (O0.mono sX1 aA) gx7 (by decide)
  refine And.intro bx7 ?_
  obtain ⟨aX, aY, aZ, rfl, rfl, aO, aP, aQ⟩ := F1 rx7
  try dsimp only at hM1
  refine Exists.intro _ (And.intro ex7 ?_)
  refine And.intro (fun hc8 => ?_) (fun hc8 => ?_)
  ·replace hM1 := ifP hM1 hc8
   obtain ⟨x9, gx9, hM1⟩ := j0 hM1
   obtain ⟨bx9, csx9, ex9, rx9⟩ := Sl.getI (r := j1.toRp) (O0.mono sX1 aA) gx9 (by decide)
   refine And.intro bx9 ?_
   obtain ⟨bA, bB, bC, rfl, rfl, aR, aS, aT⟩ := F1 rx9
   try dsimp only at hM1
   refine Exists.intro _ (And.intro ex9 ?_)
   refine And.intro (fun hc10 => ?_) (fun hc10 => ?_)
   ·replace hM1 := ifP hM1 hc10
    refine And.intro rfl (And.intro (by repeat (first | exact trivial | refine And.intro rfl ?_)) (And.intro (by repeat (first | exact trivial | refine And.intro rfl ?_)) (Exists.intro m5 (And.intro ⟨(IntKind.i64.wrap ((IntKind.i64.wrap (u2 + 1)) + 1)), (IntKind.i64.wrap (u3 + 1)), rfl, rfl, sX1, (H0 _), (H0 _), hM1⟩ (Nat.lt_succ_self _)))))
   ·replace hM1 := ifN hM1 hc10
    refine And.intro rfl (And.intro (by repeat (first | exact trivial | refine And.intro rfl ?_)) (And.intro (by repeat (first | exact trivial | refine And.intro rfl ?_)) (Exists.intro m5 (And.intro ⟨(IntKind.i64.wrap (u2 + 1)), (IntKind.i64.wrap (u3 + 1)), rfl, rfl, sX1, (H0 _), (H0 _), hM1⟩ (Nat.lt_succ_self _)))))
  ·replace hM1 := ifN hM1 hc8
   obtain ⟨x11, gx11, hM1⟩ := j0 hM1
   obtain ⟨bx11, csx11, ex11, rx11⟩ := Sl.getI (r := j1.toRp) (O0.mono sX1 aA) gx11 (by decide)
   refine And.intro bx11 ?_
   obtain ⟨aU, aV, aW, rfl, rfl, aH, aI, aJ⟩ := F1 rx11
   try dsimp only at hM1
   refine Exists.intro _ (And.intro ex11 ?_)
   refine And.intro (fun hc12 => ?_) (fun hc12 => ?_)
   ·replace hM1 := ifP hM1 hc12
    refine And.intro rfl (And.intro (by repeat (first | exact trivial | refine And.intro rfl ?_)) (And.intro (by repeat (first | exact trivial | refine And.intro rfl ?_)) (Exists.intro m5 (And.intro ⟨(IntKind.i64.wrap (u2 + 1)), (IntKind.i64.wrap (u3 + 1)), rfl, rfl, sX1, (H0 _), (H0 _), hM1⟩ (Nat.lt_succ_self _)))))
   ·replace hM1 := ifN hM1 hc12
    refine And.intro rfl (And.intro (by repeat (first | exact trivial | refine And.intro rfl ?_)) (And.intro (by repeat (first | exact trivial | refine And.intro rfl ?_)) (Exists.intro m5 (And.intro ⟨u2, (IntKind.i64.wrap (u3 + 1)), rfl, rfl, sX1, iu2, (H0 _), hM1⟩ (Nat.lt_succ_self _)))))
 ·replace hM1 := ifN hM1 hc6
  have hE := Option.some.inj hM1; subst hE
  try dsimp only [K0, N0] at hM0
  have hE := Option.some.inj hM0; subst hE
  exact And.intro rfl sX1
theorem E02 (h : Hp) (csp0 : List Value) (p0 : l0) (rp0 : P0.R h csp0 p0) (csp1 : List Value) (p1 : l0) (rp1 : P0.R h csp1 p1) (r : Bool) (hM0 : n7 p0 p1 = some r) :
  Tr Tryz.prog 174 #[.agg csp0.toArray, .agg csp1.toArray] h fun v h' => v = .bool r ∧ h' = h := by
 obtain ⟨aJ, aK, aC, aT, aD, aF, rfl, rfl, aU, aV, aA⟩ := C0 rp0
 obtain ⟨rfl, aW⟩ := Sl.len aA
 obtain ⟨aL, aM, aG, aX, aH, aI, rfl, rfl, aY, aZ, aB⟩ := C0 rp1
 obtain ⟨rfl, bA⟩ := Sl.len aB
 unfold n7 at hM0
 dsimp only at hM0
 refine Tr.forget (T2 (args := [.agg #[.int .i64 aJ, .int .i64 aK, .slice aC aF.length aD], .agg #[.int .i64 aL, .int .i64 aM, .slice aG aI.length aH]]) (fn := Tryz.f174) rfl ?_)
 refine And.intro (fun hc1 => ?_) (fun hc1 => ?_)
 ·replace hM0 := ifP hM0 hc1
  have hE := Option.some.inj hM0; subst hE
  exact And.intro rfl (Sub.refl _)
 ·replace hM0 := ifN hM0 hc1
  obtain ⟨X2, hLX2, hM0⟩ := j0 hM0
  refine Exists.intro { vars := [5], boxes := [], owns := [], fuel := true } (Exists.intro (fun vs os h' => ∃ (u3 : Int), vs.tail = [.int .i64 u3] ∧ os = [] ∧ Sub h h' ∧ M0 u3 ∧ j5 aF aI (C1 vs) u3 = some X2) (Exists.intro (fun _ _ => 0) ?_))
  refine And.intro (Exists.intro I0 ⟨0, rfl, rfl, (Sub.refl _), (c64 (by decide) (by decide)), hLX2⟩) ?_
  rintro v_0 m5 k4 ⟨u3, evX2, eoX2, sX2, iu3, hM1⟩
  cases evX2
  cases eoX2
  replace hM1 : j5 aF aI m5 u3 = some X2 := hM1
  obtain _ | m5 := m5
  ·cases (show (none : Option _) = some X2 from hM1)
  rw [j5.eq_2] at hM1
  refine And.intro (fun hc6 => ?_) (fun hc6 => ?_)
  ·replace hM1 := ifP hM1 hc6
   refine Or.inl (And.intro (And.intro (by kernel_rfl) (by kernel_rfl)) ?_)
   obtain ⟨x7, gx7, hM1⟩ := j0 hM1
   obtain ⟨bx7, csx7, ex7, rx7⟩ := Sl.getI (r := j1.toRp) (O0.mono sX2 aA) gx7 (by decide)
   refine And.intro bx7 ?_
   obtain ⟨aN, aO, aP, rfl, rfl, bB, bC, bD⟩ := F1 rx7
   try dsimp only at hM1
   refine Exists.intro _ (And.intro ex7 ?_)
   obtain ⟨x8, gx8, hM1⟩ := j0 hM1
   obtain ⟨bx8, csx8, ex8, rx8⟩ := Sl.getI (r := j1.toRp) (O0.mono sX2 aB) gx8 (by decide)
   refine And.intro bx8 ?_
   obtain ⟨aQ, aR, aS, rfl, rfl, bE, bF, bG⟩ := F1 rx8
   try dsimp only at hM1
   refine Exists.intro _ (And.intro ex8 ?_)
   refine Exists.intro (!eqE (aN, aO, aP) (aQ, aR, aS)) (And.intro (O0d _ _ _ rfl _ _ _ _ _ _) ?_)
   refine And.intro (fun hc9 => ?_) (fun hc9 => ?_)
   ·replace hM1 := ifP hM1 hc9
    have hE := Option.some.inj hM1; subst hE
    try dsimp only [j4, l4] at hM0
    have hE := Option.some.inj hM0; subst hE
    exact And.intro rfl sX2
   ·replace hM1 := ifN hM1 hc9
    refine And.intro rfl (And.intro (by repeat (first | exact trivial | refine And.intro rfl ?_)) (And.intro (by repeat (first | exact trivial | refine And.intro rfl ?_)) (Exists.intro m5 (And.intro ⟨(IntKind.i64.wrap (u3 + 1)), rfl, rfl, sX2, (H0 _), hM1⟩ (Nat.lt_succ_self _)))))
  ·replace hM1 := ifN hM1 hc6
   have hE := Option.some.inj hM1; subst hE
   try dsimp only [K0, N0] at hM0
   have hE := Option.some.inj hM0; subst hE
   exact And.intro rfl sX2
theorem H06 (h : Hp) (csp0 : List Value) (p0 : l0) (rp0 : P0.R h csp0 p0) (p1 : Int) (ip1 : M0 p1) (r : D0) (hM0 : w8 p0 p1 = some r) :
  Tr Tryz.prog 299 #[.agg csp0.toArray, .int .i64 p1] h fun v h' => ∃ (a0 : Option Addr) (n0 c0 : Nat), v = .slice a0 n0 c0 ∧ Q0.R h' [.slice a0 n0 c0] r ∧ Sub h h' := by
 obtain ⟨aK, aH, aI, aO, aJ, aC, rfl, rfl, aL, aM, aD⟩ := C0 rp0
 obtain ⟨rfl, aP⟩ := Sl.len aD
 unfold w8 at hM0
 dsimp only at hM0
 refine T2 (args := [.agg #[.int .i64 aK, .int .i64 aH, .slice aI aC.length aJ], .int .i64 p1]) (fn := Tryz.f299) rfl ?_
 obtain ⟨x1, gx1, hM0⟩ := j0 hM0
 refine Tr.val (O7 _ [.int .i64 aK, .int .i64 aH, .slice aI aC.length aJ] (aK, aH, aC) (z0 aL aM aD) _  gx1) ?_
 obtain ⟨x2, gx2, hM0⟩ := j0 hM0
 refine Exists.intro (.bool x2) (And.intro (fun q => N8 _ p1 ip1 0 (c64 (by decide) (by decide)) (IntKind.i64.wrap (aH - 1)) (H0 _) _  (G2 gx2 q)) ?_)
 refine And.intro (fun hc3 => ?_) (fun hc3 => ?_)
 ·replace hM0 := ifP hM0 hc3
  intro v4 k5 f6
  obtain ⟨az7, cz7, rfl, rz7, sz7, lz7⟩ := U0.out (r := Wp.int.toRp) f6 (show F2 (Wp.int.R h) ([] : List (List Value)) ([] : D0) from trivial)
  have hE := Option.some.inj hM0; subst hE
  exact ⟨az7, (([] : D0)).length, cz7, rfl, rz7, sz7⟩
 ·replace hM0 := ifN hM0 hc3
  obtain ⟨X12, hLX12, hM0⟩ := j0 hM0
  refine Exists.intro { vars := [5, 6], boxes := [], owns := [], fuel := true, pubs := [5, 22] } (Exists.intro (fun vs os h' => ∃ (au13 : Option Addr) (nu13 cu13 : Nat) (u13 : D0) (u14 : Int), vs.tail = [.slice au13 nu13 cu13, .int .i64 u14] ∧ os = [] ∧ Sub h h' ∧ Q0.R h' [.slice au13 nu13 cu13] u13 ∧ M0 u14 ∧ L4 aC (C1 vs) u13 u14 = some X12) (Exists.intro (fun _ _ => 0) ?_))
  intro v8 k9 f10
  obtain ⟨az11, cz11, rfl, rz11, sz11, lz11⟩ := U0.out (r := Wp.int.toRp) f10 (show F2 (Wp.int.R h) ([[.int .i64 p1]] : List (List Value)) [p1] from ⟨⟨rfl, ip1⟩, trivial⟩)
  refine And.intro (Exists.intro I0 ⟨az11, ([p1]).length, cz11, [p1], 0, rfl, rfl, sz11, rz11, (c64 (by decide) (by decide)), hLX12⟩) ?_
  rintro v_0 v_1 m16 k15 ⟨au13, nu13, cu13, u13, u14, evX12, eoX12, sX12, ru13, iu14, hM1⟩
  cases evX12
  cases eoX12
  replace hM1 : L4 aC m16 u13 u14 = some X12 := hM1
  obtain _ | m16 := m16
  ·cases (show (none : Option _) = some X12 from hM1)
  rw [L4.eq_2] at hM1
  obtain ⟨rfl, lu13⟩ := Sl.len ru13
  refine And.intro (fun hc17 => ?_) (fun hc17 => ?_)
  ·replace hM1 := ifP hM1 hc17
   obtain ⟨X18, hLX18, hM1⟩ := j0 hM1
   refine Exists.intro { vars := [5, 7], boxes := [], owns := [], fuel := true } (Exists.intro (fun vs os h' => ∃ (au19 : Option Addr) (nu19 cu19 : Nat) (u19 : D0) (u20 : Int), vs.tail = [.slice au19 nu19 cu19, .int .i64 u20] ∧ os = [] ∧ Sub k15 h' ∧ Q0.R h' [.slice au19 nu19 cu19] u19 ∧ M0 u20 ∧ I2 aC (C1 vs) u19 u20 = some X18) (Exists.intro (fun _ _ => 0) ?_))
   refine And.intro (Exists.intro I0 ⟨au13, u13.length, cu13, u13, 0, rfl, rfl, (Sub.refl _), ru13, (c64 (by decide) (by decide)), hLX18⟩) ?_
   rintro v_0 v_1 m22 k21 ⟨au19, nu19, cu19, u19, u20, evX18, eoX18, sX18, ru19, iu20, hM2⟩
   cases evX18
   cases eoX18
   replace hM2 : I2 aC m22 u19 u20 = some X18 := hM2
   obtain _ | m22 := m22
   ·cases (show (none : Option _) = some X18 from hM2)
   rw [I2.eq_2] at hM2
   obtain ⟨rfl, lu19⟩ := Sl.len ru19
   refine And.intro (fun hc23 => ?_) (fun hc23 => ?_)
   ·replace hM2 := ifP hM2 hc23
    obtain ⟨x24, gx24, hM2⟩ := j0 hM2
    obtain ⟨bx24, csx24, ex24, rx24⟩ := Sl.getI (r := j1.toRp) (O0.mono (sX12.trans sX18) aD) gx24 (by decide)
    refine And.intro bx24 ?_
    obtain ⟨aF, aQ, aG, rfl, rfl, aA, aN, aB⟩ := F1 rx24
    try dsimp only at hM2
    refine Exists.intro _ (And.intro ex24 ?_)
    obtain ⟨x25, gx25, hM2⟩ := j0 hM2
    refine Tr.val (i01 _ au19 u19.length cu19 u19 ru19 aF aA _  gx25) ?_
    refine And.intro (fun hc26 => ?_) (fun hc26 => ?_)
    ·replace hM2 := ifP hM2 hc26
     obtain ⟨x27, gx27, hM2⟩ := j0 hM2
     refine Tr.mono (s00 _ au19 u19.length cu19 u19 ru19 aG aB _  gx27) ?_
     rintro v29 k28 ⟨ax27, nx27, cx27, rfl, rx27, sx27⟩
     obtain ⟨rfl, lx27⟩ := Sl.len rx27
     obtain ⟨x30, gx30, hM2⟩ := j0 hM2
     refine Tr.val (i01 _ ax27 x27.length cx27 x27 rx27 aG aB _  gx30) ?_
     refine And.intro (fun hc31 => ?_) (fun hc31 => ?_)
     ·replace hM2 := ifP hM2 hc31
      obtain ⟨x32, gx32, hM2⟩ := j0 hM2
      refine Tr.mono (s00 _ ax27 x27.length cx27 x27 rx27 aF aA _  gx32) ?_
      rintro v34 k33 ⟨ax32, nx32, cx32, rfl, rx32, sx32⟩
      obtain ⟨rfl, lx32⟩ := Sl.len rx32
      refine And.intro rfl (And.intro (by repeat (first | exact trivial | refine And.intro rfl ?_)) (And.intro (by repeat (first | exact trivial | refine And.intro rfl ?_)) (Exists.intro m22 (And.intro ⟨ax32, x32.length, cx32, x32, (IntKind.i64.wrap (u20 + 1)), rfl, rfl, ((sX18.trans sx27).trans sx32), rx32, (H0 _), hM2⟩ (Nat.lt_succ_self _)))))
     ·replace hM2 := ifN hM2 hc31
      refine And.intro rfl (And.intro (by repeat (first | exact trivial | refine And.intro rfl ?_)) (And.intro (by repeat (first | exact trivial | refine And.intro rfl ?_)) (Exists.intro m22 (And.intro ⟨ax27, x27.length, cx27, x27, (IntKind.i64.wrap (u20 + 1)), rfl, rfl, (sX18.trans sx27), rx27, (H0 _), hM2⟩ (Nat.lt_succ_self _)))))
    ·replace hM2 := ifN hM2 hc26
     obtain ⟨x35, gx35, hM2⟩ := j0 hM2
     refine Tr.val (i01 _ au19 u19.length cu19 u19 ru19 aG aB _  gx35) ?_
     refine And.intro (fun hc36 => ?_) (fun hc36 => ?_)
     ·replace hM2 := ifP hM2 hc36
      obtain ⟨x37, gx37, hM2⟩ := j0 hM2
      refine Tr.mono (s00 _ au19 u19.length cu19 u19 ru19 aF aA _  gx37) ?_
      rintro v39 k38 ⟨ax37, nx37, cx37, rfl, rx37, sx37⟩
      obtain ⟨rfl, lx37⟩ := Sl.len rx37
      refine And.intro rfl (And.intro (by repeat (first | exact trivial | refine And.intro rfl ?_)) (And.intro (by repeat (first | exact trivial | refine And.intro rfl ?_)) (Exists.intro m22 (And.intro ⟨ax37, x37.length, cx37, x37, (IntKind.i64.wrap (u20 + 1)), rfl, rfl, (sX18.trans sx37), rx37, (H0 _), hM2⟩ (Nat.lt_succ_self _)))))
     ·replace hM2 := ifN hM2 hc36
      refine And.intro rfl (And.intro (by repeat (first | exact trivial | refine And.intro rfl ?_)) (And.intro (by repeat (first | exact trivial | refine And.intro rfl ?_)) (Exists.intro m22 (And.intro ⟨au19, u19.length, cu19, u19, (IntKind.i64.wrap (u20 + 1)), rfl, rfl, sX18, ru19, (H0 _), hM2⟩ (Nat.lt_succ_self _)))))
   ·replace hM2 := ifN hM2 hc23
    have hE := Option.some.inj hM2; subst hE
    try dsimp only [K0, N0] at hM1
    refine And.intro rfl (And.intro (by repeat (first | exact trivial | refine And.intro rfl ?_)) (And.intro (by repeat (first | exact trivial | refine And.intro rfl ?_)) (Exists.intro m16 (And.intro ⟨au19, u19.length, cu19, u19, (IntKind.i64.wrap (u14 + 1)), rfl, rfl, (sX12.trans sX18), ru19, (H0 _), hM1⟩ (Nat.lt_succ_self _)))))
  ·replace hM1 := ifN hM1 hc17
   have hE := Option.some.inj hM1; subst hE
   try dsimp only [K0, N0] at hM0
   have hE := Option.some.inj hM0; subst hE
   exact ⟨au13, u13.length, cu13, rfl, ru13, sX12⟩
theorem j06 (h : Hp) (csp0 : List Value) (p0 : l0) (rp0 : P0.R h csp0 p0) (r : Int) (hM0 : I9 p0 = some r) :
  Tr Tryz.prog 246 #[.agg csp0.toArray] h fun v h' => v = .int .i64 r ∧ h' = h := by
 obtain ⟨aA, aB, aC, aJ, aD, aG, rfl, rfl, aH, aI, aF⟩ := C0 rp0
 obtain ⟨rfl, aK⟩ := Sl.len aF
 unfold I9 at hM0
 dsimp only at hM0
 refine Tr.forget (T2 (args := [.agg #[.int .i64 aA, .int .i64 aB, .slice aC aG.length aD]]) (fn := Tryz.f246) rfl ?_)
 obtain ⟨x1, gx1, hM0⟩ := j0 hM0
 refine Tr.mono (H06 _ [.int .i64 aA, .int .i64 aB, .slice aC aG.length aD] (aA, aB, aG) (z0 aH aI aF) 0 (c64 (by decide) (by decide)) _  gx1) ?_
 rintro v3 k2 ⟨ax1, nx1, cx1, rfl, rx1, sx1⟩
 obtain ⟨rfl, lx1⟩ := Sl.len rx1
 obtain ⟨X4, hLX4, hM0⟩ := j0 hM0
 refine Exists.intro { vars := [4], boxes := [], owns := [], fuel := true } (Exists.intro (fun vs os h' => ∃ (u5 : Int), vs.tail = [.int .i64 u5] ∧ os = [] ∧ Sub k2 h' ∧ M0 u5 ∧ c7 aB aA aG x1 (C1 vs) u5 = some X4) (Exists.intro (fun _ _ => 0) ?_))
 refine And.intro (Exists.intro I0 ⟨1, rfl, rfl, (Sub.refl _), (c64 (by decide) (by decide)), hLX4⟩) ?_
 rintro v_0 m7 k6 ⟨u5, evX4, eoX4, sX4, iu5, hM1⟩
 cases evX4
 cases eoX4
 replace hM1 : c7 aB aA aG x1 m7 u5 = some X4 := hM1
 obtain _ | m7 := m7
 ·cases (show (none : Option _) = some X4 from hM1)
 rw [c7.eq_2] at hM1
 refine And.intro (fun hc8 => ?_) (fun hc8 => ?_)
 ·replace hM1 := ifP hM1 hc8
  obtain ⟨x9, gx9, hM1⟩ := j0 hM1
  refine Tr.val (A09 _ [.int .i64 aA, .int .i64 aB, .slice aC aG.length aD] (aA, aB, aG) (z0 aH aI (O0.mono (sx1.trans sX4) aF)) u5 iu5 _  gx9) ?_
  obtain ⟨q10, gq10, hM1⟩ := j0 hM1
  have ix9 : M0 x9 := T0 gq10
  obtain ⟨x11, gx11, hM1⟩ := j0 hM1
  refine Exists.intro (.bool x11) (And.intro (fun q => i01 _ ax1 x1.length cx1 x1 (Q0.mono sX4 rx1) u5 iu5 _  (G2 gx11 q)) ?_)
  refine And.intro (fun hc12 => ?_) (fun hc12 => ?_)
  ·replace hM1 := ifP hM1 hc12
   have hE := Option.some.inj hM1; subst hE
   try dsimp only [j4, l4] at hM0
   have hE := Option.some.inj hM0; subst hE
   exact And.intro rfl (sx1.trans sX4)
  ·replace hM1 := ifN hM1 hc12
   refine And.intro rfl (And.intro (by repeat (first | exact trivial | refine And.intro rfl ?_)) (And.intro (by repeat (first | exact trivial | refine And.intro rfl ?_)) (Exists.intro m7 (And.intro ⟨(IntKind.i64.wrap (u5 + 1)), rfl, rfl, sX4, (H0 _), hM1⟩ (Nat.lt_succ_self _)))))
 ·replace hM1 := ifN hM1 hc8
  have hE := Option.some.inj hM1; subst hE
  try dsimp only [K0, N0] at hM0
  have hE := Option.some.inj hM0; subst hE
  exact And.intro rfl (sx1.trans sX4)
theorem f00 (h : Hp) (csp0 : List Value) (p0 : l0) (rp0 : P0.R h csp0 p0) (ap1 : Option Addr) (np1 cp1 : Nat) (p1 : D0) (rp1 : Q0.R h [.slice ap1 np1 cp1] p1) (r : l0 × Bool) (hM0 : l5 p0 p1 = some r) :
  Tr Tryz.prog 263 #[.agg csp0.toArray, .slice ap1 np1 cp1] h fun v h' => ∃ (cs0 : List Value), v = .tuple #[.agg cs0.toArray, .bool r.2] ∧ P0.R h' cs0 r.1 ∧ Sub h h' := by
 obtain ⟨aA, aB, aF, bD, aG, aD, rfl, rfl, aH, aI, aC⟩ := C0 rp0
 obtain ⟨rfl, bE⟩ := Sl.len aC
 obtain ⟨rfl, lp1⟩ := Sl.len rp1
 unfold l5 at hM0
 dsimp only at hM0
 refine T2 (args := [.agg #[.int .i64 aA, .int .i64 aB, .slice aF aD.length aG], .slice ap1 p1.length cp1]) (fn := Tryz.f263) rfl ?_
 obtain ⟨x1, gx1, hM0⟩ := j0 hM0
 refine Tr.val (O7 _ [.int .i64 aA, .int .i64 aB, .slice aF aD.length aG] (aA, aB, aD) (z0 aH aI aC) _  gx1) ?_
 refine And.intro (fun hc2 => ?_) (fun hc2 => ?_)
 ·replace hM0 := ifP hM0 hc2
  obtain ⟨x3, gx3, hM0⟩ := j0 hM0
  refine Tr.mono (h8 _ [.int .i64 aA, .int .i64 aB, .slice aF aD.length aG] (aA, aB, aD) (z0 aH aI aC) _  gx3) ?_
  rintro v5 k4 ⟨csx3, rfl, rx3, sx3⟩
  obtain ⟨aX, aY, aR, bF, aS, bK, rfl, rfl, aT, aU, aL⟩ := C0 rx3
  obtain ⟨rfl, bG⟩ := Sl.len aL
  try dsimp only at hM0
  have hE := Option.some.inj hM0; subst hE
  exact ⟨([.int .i64 aX, .int .i64 aY, .slice aR bK.length aS]), rfl, (z0 aT aU aL), sx3⟩
 ·replace hM0 := ifN hM0 hc2
  obtain ⟨q6, gq6, hM0⟩ := j0 hM0
  refine And.intro (T0 gq6) ?_
  obtain ⟨X7, hLX7, hM0⟩ := j0 hM0
  refine Exists.intro { vars := [8], boxes := [], owns := [0], fuel := true, kept := [0] } (Exists.intro (fun vs os h' => ∃ (u8 : Int) (wu9 : List (List Value)) (u9 : List Int), vs.tail = [.int .i64 u8] ∧ os = [wu9] ∧ Sub h h' ∧ M0 u8 ∧ F2 (Wp.int.R h') wu9 u9 ∧ P3 p1 aB aA aD (C1 vs) u8 u9 = some X7) (Exists.intro (fun _ _ => 0) ?_))
  refine And.intro (Exists.intro I0 ⟨0, (List.replicate aB.toNat ([.int .i64 0] : List Value)), (List.replicate aB.toNat (0 : Int)), rfl, rfl, (Sub.refl _), (c64 (by decide) (by decide)), (F2.rep (p := Wp.int.R h) (a := [.int .i64 0]) (b := 0) ⟨rfl, (c64 (by decide) (by decide))⟩ (aB.toNat)), hLX7⟩) ?_
  rintro v_0 wu9 m11 k10 ⟨u8, zzu9, u9, evX7, eoX7, sX7, iu8, fu9, hM1⟩
  cases evX7
  cases eoX7
  replace hM1 : P3 p1 aB aA aD m11 u8 u9 = some X7 := hM1
  obtain _ | m11 := m11
  ·cases (show (none : Option _) = some X7 from hM1)
  rw [P3.eq_2] at hM1
  refine And.intro (fun hc12 => ?_) (fun hc12 => ?_)
  ·replace hM1 := ifP hM1 hc12
   refine Or.inl (And.intro (And.intro (by kernel_rfl) (by kernel_rfl)) ?_)
   obtain ⟨x13, gx13, hM1⟩ := j0 hM1
   obtain ⟨bx13, csx13, ex13, rx13⟩ := Sl.getI (r := Wp.int.toRp) (Q0.mono sX7 rp1) gx13 (by decide)
   refine And.intro bx13 ?_
   obtain ⟨rfl, ix13⟩ := rx13
   refine Exists.intro _ (And.intro ex13 ?_)
   obtain ⟨x14, gx14, hM1⟩ := j0 hM1
   refine Exists.intro (.bool x14) (And.intro (N8 _ x13 ix13 0 (c64 (by decide) (by decide)) (IntKind.i64.wrap (aB - 1)) (H0 _) _  gx14) ?_)
   obtain ⟨x15, gx15, hM1⟩ := j0 hM1
   obtain ⟨csx15, ex15, rx15⟩ := Sl.getG (r := Wp.int.toRp) (Q0.mono sX7 rp1) gx15 (by decide) (q0h k10)
   refine And.intro (fun q => (ex15 q).1) ?_
   obtain ⟨rfl, ix15⟩ := rx15
   refine Exists.intro _ (And.intro (fun q => (ex15 q).2) ?_)
   obtain ⟨x16, gx16, hM1⟩ := j0 hM1
   obtain ⟨csx16, ex16, rx16⟩ := v02 fu9 gx16 (q0h k10)
   refine And.intro (fun q => (ex16 q).1) ?_
   obtain ⟨rfl, ix16⟩ := rx16
   refine Exists.intro _ (And.intro (fun q => (ex16 q).2) ?_)
   refine And.intro (fun hc17 => ?_) (fun hc17 => ?_)
   ·replace hM1 := ifP hM1 hc17
    obtain ⟨x18, gx18, hM1⟩ := j0 hM1
    refine Tr.mono (h8 _ [.int .i64 aA, .int .i64 aB, .slice aF aD.length aG] (aA, aB, aD) (z0 aH aI (O0.mono sX7 aC)) _  gx18) ?_
    rintro v20 k19 ⟨csx18, rfl, rx18, sx18⟩
    obtain ⟨aV, aW, aM, aZ, aN, bH, rfl, rfl, aO, aP, aJ⟩ := C0 rx18
    obtain ⟨rfl, bA⟩ := Sl.len aJ
    try dsimp only at hM1
    have hE := Option.some.inj hM1; subst hE
    try dsimp only [j4, l4] at hM0
    have hE := Option.some.inj hM0; subst hE
    exact ⟨([.int .i64 aV, .int .i64 aW, .slice aM bH.length aN]), rfl, (z0 aO aP aJ), (sX7.trans sx18)⟩
   ·replace hM1 := ifN hM1 hc17
    obtain ⟨x21, gx21, hM1⟩ := j0 hM1
    obtain ⟨bx21, csx21, ex21, rx21⟩ := Sl.getI (r := Wp.int.toRp) (Q0.mono sX7 rp1) gx21 (by decide)
    refine And.intro bx21 ?_
    obtain ⟨rfl, ix21⟩ := rx21
    refine Exists.intro _ (And.intro ex21 ?_)
    obtain ⟨x22, gx22, hM1⟩ := j0 hM1
    obtain ⟨bx22, csx22, ex22, rx22⟩ := B3 fu9 gx22
    refine And.intro bx22 ?_
    obtain ⟨rfl, ix22⟩ := rx22
    refine Exists.intro _ (And.intro ex22 ?_)
    refine And.intro rfl (And.intro (by repeat (first | exact trivial | refine And.intro rfl ?_)) (And.intro (by repeat (first | exact trivial | refine And.intro rfl ?_)) (Exists.intro m11 (And.intro ⟨(IntKind.i64.wrap (u8 + 1)), (wu9.set x21.toNat [.int .i64 (IntKind.i64.wrap (u8 + 1))]), (u9.set x21.toNat (IntKind.i64.wrap (u8 + 1))), rfl, rfl, sX7, (H0 _), (F2.set (p := Wp.int.R k10) (a := [.int .i64 (IntKind.i64.wrap (u8 + 1))]) (b := (IntKind.i64.wrap (u8 + 1))) ⟨rfl, (H0 _)⟩ x21.toNat fu9), hM1⟩ (Nat.lt_succ_self _)))))
  ·replace hM1 := ifN hM1 hc12
   have hE := Option.some.inj hM1; subst hE
   try dsimp only [K0, N0] at hM0
   obtain ⟨X23, hLX23, hM0⟩ := j0 hM0
   refine Exists.intro { vars := [9], boxes := [2], owns := [], fuel := true } (Exists.intro (fun vs os h' => ∃ (u24 : Int) (u25 : Int) (u26 : Int) (au27 : Option Addr) (nu27 cu27 : Nat) (u27 : J0), vs.tail = [.int .i64 u24, .int .i64 u25, .int .i64 u26, .slice au27 nu27 cu27] ∧ os = [] ∧ Sub k10 h' ∧ M0 u24 ∧ M0 u25 ∧ M0 u26 ∧ O0.R h' [.slice au27 nu27 cu27] u27 ∧ j3 aD u9 (C1 vs) u24 u25 u26 u27 = some X23) (Exists.intro (fun _ _ => 0) ?_))
   refine And.intro (Exists.intro I0 ⟨0, aA, ((p1.length : Nat) : Int), none, 0, 0, [], rfl, rfl, (Sub.refl _), (c64 (by decide) (by decide)), aH, (p0h lp1), (a0l j1 k10), hLX23⟩) ?_
   rintro v_0 v_1 v_2 v_3 m29 k28 ⟨u24, u25, u26, au27, nu27, cu27, u27, evX23, eoX23, sX23, iu24, iu25, iu26, ru27, hM1⟩
   cases evX23
   cases eoX23
   replace hM1 : j3 aD u9 m29 u24 u25 u26 u27 = some X23 := hM1
   obtain _ | m29 := m29
   ·cases (show (none : Option _) = some X23 from hM1)
   rw [j3.eq_2] at hM1
   obtain ⟨rfl, lu27⟩ := Sl.len ru27
   refine And.intro (fun hc30 => ?_) (fun hc30 => ?_)
   ·replace hM1 := ifP hM1 hc30
    obtain ⟨x31, gx31, hM1⟩ := j0 hM1
    obtain ⟨bx31, csx31, ex31, rx31⟩ := Sl.getI (r := j1.toRp) (O0.mono (sX7.trans sX23) aC) gx31 (by decide)
    refine And.intro bx31 ?_
    obtain ⟨bI, aK, bJ, rfl, rfl, bB, aQ, bC⟩ := F1 rx31
    try dsimp only at hM1
    refine Exists.intro _ (And.intro ex31 ?_)
    obtain ⟨x32, gx32, hM1⟩ := j0 hM1
    obtain ⟨bx32, csx32, ex32, rx32⟩ := B3 (F2.up (r := Wp.int.toRp) sX23 fu9) gx32
    refine And.intro bx32 ?_
    obtain ⟨rfl, ix32⟩ := rx32
    refine Exists.intro _ (And.intro ex32 ?_)
    obtain ⟨x33, gx33, hM1⟩ := j0 hM1
    obtain ⟨csx33, ex33, rx33⟩ := v02 (F2.up (r := Wp.int.toRp) sX23 fu9) gx33 (q0h k28)
    refine And.intro (fun q => (ex33 q).1) ?_
    obtain ⟨rfl, ix33⟩ := rx33
    refine Exists.intro _ (And.intro (fun q => (ex33 q).2) ?_)
    refine And.intro (fun hc34 => ?_) (fun hc34 => ?_)
    ·replace hM1 := ifP hM1 hc34
     refine Or.inr (Or.inr (Or.inl (And.intro (And.intro (by kernel_rfl) (by kernel_rfl)) ?_)))
     obtain ⟨x35, gx35, hM1⟩ := j0 hM1
     obtain ⟨bx35, csx35, ex35, rx35⟩ := B3 (F2.up (r := Wp.int.toRp) sX23 fu9) gx35
     obtain ⟨rfl, ix35⟩ := rx35
     refine Or.inl ?_
     apply Exists.intro
     refine And.intro ?_ ?_
     ·intro k36 s37
      exact And.intro bx35 (And.intro rfl (And.intro rfl rfl))
     refine Or.inl (Exists.intro (.val (.int .i64 x35)) (And.intro ?_ ?_))
     ·intro k38 s39
      exact Exists.intro _ (And.intro ex35 (And.intro rfl (And.intro rfl rfl)))
     refine Or.inl (Exists.intro (.val (.int .i64 (IntKind.i64.wrap (x35 - 1)))) (And.intro ?_ ?_))
     ·intro k40 s41
      exact And.intro rfl (And.intro rfl rfl)
     obtain ⟨x42, gx42, hM1⟩ := j0 hM1
     obtain ⟨bx42, csx42, ex42, rx42⟩ := B3 (F2.up (r := Wp.int.toRp) sX23 fu9) gx42
     obtain ⟨rfl, ix42⟩ := rx42
     refine Or.inl ?_
     apply Exists.intro
     refine And.intro ?_ ?_
     ·intro k43 s44
      exact And.intro bx42 (And.intro rfl (And.intro rfl rfl))
     refine Or.inl (Exists.intro (.val (.int .i64 x42)) (And.intro ?_ ?_))
     ·intro k45 s46
      exact Exists.intro _ (And.intro ex42 (And.intro rfl (And.intro rfl rfl)))
     refine Or.inl (Exists.intro (.val (.int .i64 (IntKind.i64.wrap (x42 - 1)))) (And.intro ?_ ?_))
     ·intro k47 s48
      exact And.intro rfl (And.intro rfl rfl)
     refine Or.inl (Exists.intro (.agg [.val (.int .i64 (IntKind.i64.wrap (x35 - 1))), .val (.int .i64 aK), .val (.int .i64 (IntKind.i64.wrap (x42 - 1)))]) (And.intro ?_ ?_))
     ·intro k49 s50
      exact And.intro rfl (And.intro rfl rfl)
     refine Or.inr ?_
     refine Or.inr ?_
     refine Exists.intro 1 (And.intro (And.intro rfl rfl) ?_)
     obtain ⟨x51, gx51, hM1⟩ := j0 hM1
     refine Tr.mono (I07 _ au27 u27.length cu27 u27 ru27 [.int .i64 (IntKind.i64.wrap (x35 - 1)), .int .i64 aK, .int .i64 (IntKind.i64.wrap (x42 - 1))] ((IntKind.i64.wrap (x35 - 1)), aK, (IntKind.i64.wrap (x42 - 1))) (K1 (H0 _) aQ (H0 _)) _  gx51) ?_
     rintro v53 k52 ⟨ax51, nx51, cx51, rfl, rx51, sx51⟩
     obtain ⟨rfl, lx51⟩ := Sl.len rx51
     refine And.intro (And.intro rfl sx51) (And.intro (by first | exact trivial | exact rfl) ?_)
     refine And.intro trivial (And.intro (by first | exact trivial | exact rfl) ?_)
     refine And.intro rfl (And.intro (by repeat (first | exact trivial | refine And.intro rfl ?_)) (And.intro (by repeat (first | exact trivial | refine And.intro rfl ?_)) (Exists.intro m29 (And.intro ⟨(IntKind.i64.wrap (u24 + 1)), u25, u26, ax51, x51.length, cx51, x51, rfl, rfl, (sX23.trans sx51), (H0 _), iu25, iu26, rx51, hM1⟩ (Nat.lt_succ_self _)))))
    ·replace hM1 := ifN hM1 hc34
     refine And.intro rfl (And.intro (by repeat (first | exact trivial | refine And.intro rfl ?_)) (And.intro (by repeat (first | exact trivial | refine And.intro rfl ?_)) (Exists.intro m29 (And.intro ⟨(IntKind.i64.wrap (u24 + 1)), u25, u26, au27, u27.length, cu27, u27, rfl, rfl, sX23, (H0 _), iu25, iu26, ru27, hM1⟩ (Nat.lt_succ_self _)))))
   ·replace hM1 := ifN hM1 hc30
    have hE := Option.some.inj hM1; subst hE
    try dsimp only [K0, N0] at hM0
    have hE := Option.some.inj hM0; subst hE
    exact ⟨([.int .i64 u25, .int .i64 u26, .slice au27 u27.length cu27]), rfl, (z0 iu25 iu26 ru27), (sX7.trans sX23)⟩
theorem J03 (h : Hp) (p0 : Int) (ip0 : M0 p0) (r : D0) (hM0 : o7 p0 = some r) :
  Tr Tryz.prog 158 #[.int .i64 p0] h fun v h' => ∃ (a0 : Option Addr) (n0 c0 : Nat), v = .slice a0 n0 c0 ∧ Q0.R h' [.slice a0 n0 c0] r ∧ Sub h h' := by
 unfold o7 at hM0
 refine T2 (args := [.int .i64 p0]) (fn := Tryz.f158) rfl ?_
 obtain ⟨X1, hLX1, hM0⟩ := j0 hM0
 refine Exists.intro { vars := [4], boxes := [], owns := [0], fuel := true } (Exists.intro (fun vs os h' => ∃ (u2 : Int) (wu3 : List (List Value)) (u3 : List Int), vs.tail = [.int .i64 u2] ∧ os = [wu3] ∧ Sub h h' ∧ M0 u2 ∧ F2 (Wp.int.R h') wu3 u3 ∧ n5 p0 (C1 vs) u2 u3 = some X1) (Exists.intro (fun _ _ => 0) ?_))
 refine And.intro (Exists.intro I0 ⟨1, [], ([] : D0), rfl, rfl, (Sub.refl _), (c64 (by decide) (by decide)), (show F2 (Wp.int.R h) ([] : List (List Value)) ([] : D0) from trivial), hLX1⟩) ?_
 rintro v_0 wu3 m5 k4 ⟨u2, zzu3, u3, evX1, eoX1, sX1, iu2, fu3, hM1⟩
 cases evX1
 cases eoX1
 replace hM1 : n5 p0 m5 u2 u3 = some X1 := hM1
 obtain _ | m5 := m5
 ·cases (show (none : Option _) = some X1 from hM1)
 rw [n5.eq_2] at hM1
 refine And.intro (fun hc6 => ?_) (fun hc6 => ?_)
 ·replace hM1 := ifP hM1 hc6
  obtain ⟨q7, gq7, hM1⟩ := j0 hM1
  refine And.intro (E1 gq7 (by first | rw [F2.length fu3, F2.length (show F2 (Wp.int.R k4) ([[.int .i64 u2]] : List (List Value)) [u2] from ⟨⟨rfl, iu2⟩, trivial⟩)] | exact congrArg (· + 1) (F2.length fu3))) ?_
  obtain ⟨q8, gq8, hM1⟩ := j0 hM1
  refine And.intro (E1 gq8 (by first | rw [F2.length (F2.append fu3 (show F2 (Wp.int.R k4) ([[.int .i64 u2]] : List (List Value)) [u2] from ⟨⟨rfl, iu2⟩, trivial⟩)), F2.length (show F2 (Wp.int.R k4) ([[.int .i64 (IntKind.i64.wrap (0 - u2))]] : List (List Value)) [(IntKind.i64.wrap (0 - u2))] from ⟨⟨rfl, (H0 _)⟩, trivial⟩)] | exact congrArg (· + 1) (F2.length (F2.append fu3 (show F2 (Wp.int.R k4) ([[.int .i64 u2]] : List (List Value)) [u2] from ⟨⟨rfl, iu2⟩, trivial⟩))))) ?_
  refine And.intro rfl (And.intro (by repeat (first | exact trivial | refine And.intro rfl ?_)) (And.intro (by repeat (first | exact trivial | refine And.intro rfl ?_)) (Exists.intro m5 (And.intro ⟨(IntKind.i64.wrap (u2 + 1)), ((wu3 ++ ([[.int .i64 u2]] : List (List Value))) ++ ([[.int .i64 (IntKind.i64.wrap (0 - u2))]] : List (List Value))), ((u3 ++ [u2]) ++ [(IntKind.i64.wrap (0 - u2))]), rfl, rfl, sX1, (H0 _), (F2.append (F2.append fu3 (show F2 (Wp.int.R k4) ([[.int .i64 u2]] : List (List Value)) [u2] from ⟨⟨rfl, iu2⟩, trivial⟩)) (show F2 (Wp.int.R k4) ([[.int .i64 (IntKind.i64.wrap (0 - u2))]] : List (List Value)) [(IntKind.i64.wrap (0 - u2))] from ⟨⟨rfl, (H0 _)⟩, trivial⟩)), hM1⟩ (Nat.lt_succ_self _)))))
 ·replace hM1 := ifN hM1 hc6
  have hE := Option.some.inj hM1; subst hE
  try dsimp only [K0, N0] at hM0
  intro v9 k10 f11
  obtain ⟨az12, cz12, rfl, rz12, sz12, lz12⟩ := U0.out (r := Wp.int.toRp) f11 fu3
  have hE := Option.some.inj hM0; subst hE
  exact ⟨az12, u3.length, cz12, rfl, rz12, (sX1.trans sz12)⟩
theorem t04 (h : Hp) (csp0 : List Value) (p0 : l0) (rp0 : P0.R h csp0 p0) (r : D0) (hM0 : i7 p0 = some r) :
  Tr Tryz.prog 300 #[.agg csp0.toArray] h fun v h' => ∃ (a0 : Option Addr) (n0 c0 : Nat), v = .slice a0 n0 c0 ∧ Q0.R h' [.slice a0 n0 c0] r ∧ Sub h h' := by
 obtain ⟨aA, aB, aD, aJ, aF, aC, rfl, rfl, aG, aI, aH⟩ := C0 rp0
 obtain ⟨rfl, aK⟩ := Sl.len aH
 unfold i7 at hM0
 dsimp only at hM0
 refine T2 (args := [.agg #[.int .i64 aA, .int .i64 aB, .slice aD aC.length aF]]) (fn := Tryz.f300) rfl ?_
 obtain ⟨x1, gx1, hM0⟩ := j0 hM0
 refine Tr.val (F00 _ [.int .i64 aA, .int .i64 aB, .slice aD aC.length aF] (aA, aB, aC) (z0 aG aI aH) _  gx1) ?_
 refine And.intro (fun hc2 => ?_) (fun hc2 => ?_)
 ·replace hM0 := ifP hM0 hc2
  intro v3 k4 f5
  obtain ⟨az6, cz6, rfl, rz6, sz6, lz6⟩ := U0.out (r := Wp.int.toRp) f5 (show F2 (Wp.int.R h) ([] : List (List Value)) ([] : D0) from trivial)
  have hE := Option.some.inj hM0; subst hE
  exact ⟨az6, (([] : D0)).length, cz6, rfl, rz6, sz6⟩
 ·replace hM0 := ifN hM0 hc2
  obtain ⟨x7, gx7, hM0⟩ := j0 hM0
  refine Tr.mono (J03 _ aA aG _  gx7) ?_
  rintro v9 k8 ⟨ax7, nx7, cx7, rfl, rx7, sx7⟩
  obtain ⟨rfl, lx7⟩ := Sl.len rx7
  obtain ⟨X10, hLX10, hM0⟩ := j0 hM0
  refine Exists.intro { vars := [5], boxes := [], owns := [0], fuel := true } (Exists.intro (fun vs os h' => ∃ (u11 : Int) (wu12 : List (List Value)) (u12 : List Int), vs.tail = [.int .i64 u11] ∧ os = [wu12] ∧ Sub k8 h' ∧ M0 u11 ∧ F2 (Wp.int.R h') wu12 u12 ∧ G4 x7 aA aB aC (C1 vs) u11 u12 = some X10) (Exists.intro (fun _ _ => 0) ?_))
  refine And.intro (Exists.intro I0 ⟨0, ([[.int .i64 0]] : List (List Value)), [0], rfl, rfl, (Sub.refl _), (c64 (by decide) (by decide)), (F2.up (r := Wp.int.toRp) sx7 (show F2 (Wp.int.R h) ([[.int .i64 0]] : List (List Value)) [0] from ⟨⟨rfl, (c64 (by decide) (by decide))⟩, trivial⟩)), hLX10⟩) ?_
  rintro v_0 wu12 m14 k13 ⟨u11, zzu12, u12, evX10, eoX10, sX10, iu11, fu12, hM1⟩
  cases evX10
  cases eoX10
  replace hM1 : G4 x7 aA aB aC m14 u11 u12 = some X10 := hM1
  obtain _ | m14 := m14
  ·cases (show (none : Option _) = some X10 from hM1)
  rw [G4.eq_2] at hM1
  obtain ⟨m15, gm15, hM1⟩ := j0 hM1
  obtain rfl : wu12.length = m15 := (F2.length fu12).trans (Option.some.inj gm15)
  obtain ⟨q16, gq16, hM1⟩ := j0 hM1
  refine And.intro (fun hc17 => ?_) (fun hc17 => ?_)
  ·replace hM1 := ifP hM1 hc17
   obtain ⟨X18, hLX18, hM1⟩ := j0 hM1
   refine Exists.intro { vars := [6], boxes := [], owns := [0], fuel := true } (Exists.intro (fun vs os h' => ∃ (u19 : Int) (wu20 : List (List Value)) (u20 : List Int), vs.tail = [.int .i64 u19] ∧ os = [wu20] ∧ Sub k13 h' ∧ M0 u19 ∧ F2 (Wp.int.R h') wu20 u20 ∧ M2 x7 u11 aA aB aC (C1 vs) u19 u20 = some X18) (Exists.intro (fun _ _ => 0) ?_))
   refine And.intro (Exists.intro I0 ⟨0, wu12, u12, rfl, rfl, (Sub.refl _), (c64 (by decide) (by decide)), fu12, hLX18⟩) ?_
   rintro v_0 wu20 m22 k21 ⟨u19, zzu20, u20, evX18, eoX18, sX18, iu19, fu20, hM2⟩
   cases evX18
   cases eoX18
   replace hM2 : M2 x7 u11 aA aB aC m22 u19 u20 = some X18 := hM2
   obtain _ | m22 := m22
   ·cases (show (none : Option _) = some X18 from hM2)
   rw [M2.eq_2] at hM2
   refine And.intro (fun hc23 => ?_) (fun hc23 => ?_)
   ·replace hM2 := ifP hM2 hc23
    refine Or.inl (And.intro (And.intro (by kernel_rfl) (by kernel_rfl)) ?_)
    obtain ⟨x24, gx24, hM2⟩ := j0 hM2
    obtain ⟨bx24, csx24, ex24, rx24⟩ := B3 fu20 gx24
    refine And.intro bx24 ?_
    obtain ⟨rfl, ix24⟩ := rx24
    refine Exists.intro _ (And.intro ex24 ?_)
    obtain ⟨x25, gx25, hM2⟩ := j0 hM2
    obtain ⟨bx25, csx25, ex25, rx25⟩ := Sl.getI (r := Wp.int.toRp) (Q0.mono (sX10.trans sX18) rx7) gx25 (by decide)
    refine And.intro bx25 ?_
    obtain ⟨rfl, ix25⟩ := rx25
    refine Exists.intro _ (And.intro ex25 ?_)
    obtain ⟨x26, gx26, hM2⟩ := j0 hM2
    refine Exists.intro (.int .i64 x26) (And.intro (j01 _ [.int .i64 aA, .int .i64 aB, .slice aD aC.length aF] (aA, aB, aC) (z0 aG aI (O0.mono ((sx7.trans sX10).trans sX18) aH)) x24 ix24 x25 ix25 _  gx26) ?_)
    obtain ⟨q27, gq27, hM2⟩ := j0 hM2
    have ix26 : M0 x26 := T0 gq27
    obtain ⟨x28, gx28, hM2⟩ := j0 hM2
    refine Exists.intro (.bool x28) (And.intro ?_ ?_)
    ·intro hq
     intro v29 k30 f31
     obtain ⟨az32, cz32, rfl, rz32, sz32, lz32⟩ := U0.out (r := Wp.int.toRp) f31 fu20
     exact i01 _ az32 u20.length cz32 u20 rz32 x26 ix26 _ (G2 gx28 hq)
    refine And.intro (fun hc33 => ?_) (fun hc33 => ?_)
    ·replace hM2 := ifP hM2 hc33
     obtain ⟨q34, gq34, hM2⟩ := j0 hM2
     refine And.intro (E1 gq34 (by first | rw [F2.length fu20, F2.length (show F2 (Wp.int.R k21) ([[.int .i64 x26]] : List (List Value)) [x26] from ⟨⟨rfl, ix26⟩, trivial⟩)] | exact congrArg (· + 1) (F2.length fu20))) ?_
     refine And.intro rfl (And.intro (by repeat (first | exact trivial | refine And.intro rfl ?_)) (And.intro (by repeat (first | exact trivial | refine And.intro rfl ?_)) (Exists.intro m22 (And.intro ⟨(IntKind.i64.wrap (u19 + 1)), (wu20 ++ ([[.int .i64 x26]] : List (List Value))), (u20 ++ [x26]), rfl, rfl, sX18, (H0 _), (F2.append fu20 (show F2 (Wp.int.R k21) ([[.int .i64 x26]] : List (List Value)) [x26] from ⟨⟨rfl, ix26⟩, trivial⟩)), hM2⟩ (Nat.lt_succ_self _)))))
    ·replace hM2 := ifN hM2 hc33
     refine And.intro rfl (And.intro (by repeat (first | exact trivial | refine And.intro rfl ?_)) (And.intro (by repeat (first | exact trivial | refine And.intro rfl ?_)) (Exists.intro m22 (And.intro ⟨(IntKind.i64.wrap (u19 + 1)), wu20, u20, rfl, rfl, sX18, (H0 _), fu20, hM2⟩ (Nat.lt_succ_self _)))))
   ·replace hM2 := ifN hM2 hc23
    have hE := Option.some.inj hM2; subst hE
    try dsimp only [K0, N0] at hM1
    refine And.intro rfl (And.intro (by repeat (first | exact trivial | refine And.intro rfl ?_)) (And.intro (by repeat (first | exact trivial | refine And.intro rfl ?_)) (Exists.intro m14 (And.intro ⟨(IntKind.i64.wrap (u11 + 1)), wu20, u20, rfl, rfl, (sX10.trans sX18), (H0 _), fu20, hM1⟩ (Nat.lt_succ_self _)))))
  ·replace hM1 := ifN hM1 hc17
   have hE := Option.some.inj hM1; subst hE
   try dsimp only [K0, N0] at hM0
   intro v39 k40 f41
   obtain ⟨az42, cz42, rfl, rz42, sz42, lz42⟩ := U0.out (r := Wp.int.toRp) f41 fu12
   have hE := Option.some.inj hM0; subst hE
   exact ⟨az42, u12.length, cz42, rfl, rz42, ((sx7.trans sX10).trans sz42)⟩
theorem o01 (h : Hp) (csp0 : List Value) (p0 : l0) (rp0 : P0.R h csp0 p0) (r : l0) (hM0 : V5 p0 = some r) :
  Tr Tryz.prog 247 #[.agg csp0.toArray] h fun v h' => ∃ (cs0 : List Value), v = .agg cs0.toArray ∧ P0.R h' cs0 r ∧ Sub h h' := by
 obtain ⟨aA, aB, aC, bC, aD, aP, rfl, rfl, aH, aI, aF⟩ := C0 rp0
 obtain ⟨rfl, bD⟩ := Sl.len aF
 unfold V5 at hM0
 dsimp only at hM0
 refine T2 (args := [.agg #[.int .i64 aA, .int .i64 aB, .slice aC aP.length aD]]) (fn := Tryz.f247) rfl ?_
 obtain ⟨x1, gx1, hM0⟩ := j0 hM0
 refine Tr.mono (t04 _ [.int .i64 aA, .int .i64 aB, .slice aC aP.length aD] (aA, aB, aP) (z0 aH aI aF) _  gx1) ?_
 rintro v3 k2 ⟨ax1, nx1, cx1, rfl, rx1, sx1⟩
 obtain ⟨rfl, lx1⟩ := Sl.len rx1
 refine And.intro (fun hc4 => ?_) (fun hc4 => ?_)
 ·replace hM0 := ifP hM0 hc4
  obtain ⟨x5, gx5, hM0⟩ := j0 hM0
  refine Tr.mono (h8 _ [.int .i64 aA, .int .i64 aB, .slice aC aP.length aD] (aA, aB, aP) (z0 aH aI (O0.mono sx1 aF)) _  gx5) ?_
  rintro v7 k6 ⟨csx5, rfl, rx5, sx5⟩
  obtain ⟨aY, aZ, aS, bE, aT, bG, rfl, rfl, aU, aV, aN⟩ := C0 rx5
  obtain ⟨rfl, bF⟩ := Sl.len aN
  try dsimp only at hM0
  have hE := Option.some.inj hM0; subst hE
  exact ⟨([.int .i64 aY, .int .i64 aZ, .slice aS bG.length aT]), rfl, (z0 aU aV aN), (sx1.trans sx5)⟩
 ·replace hM0 := ifN hM0 hc4
  obtain ⟨x8, gx8, hM0⟩ := j0 hM0
  refine Tr.mono (f00 _ [.int .i64 aA, .int .i64 aB, .slice aC aP.length aD] (aA, aB, aP) (z0 aH aI (O0.mono sx1 aF)) ax1 x1.length cx1 x1 rx1 _  gx8) ?_
  rintro v10 k9 ⟨bA, rfl, aO, sx8⟩
  obtain ⟨bH, bI⟩ := x8
  dsimp only at hM0 aO
  obtain ⟨aQ, aR, aJ, aW, aK, bB, rfl, rfl, aL, aM, aG⟩ := C0 aO
  obtain ⟨rfl, aX⟩ := Sl.len aG
  try dsimp only at hM0
  have hE := Option.some.inj hM0; subst hE
  exact ⟨([.int .i64 aQ, .int .i64 aR, .slice aJ bB.length aK]), rfl, (z0 aL aM aG), (sx1.trans sx8)⟩
theorem N0b (h : Hp) (csp0 : List Value) (p0 : l0) (rp0 : P0.R h csp0 p0) (r : Bool) (hM0 : J9 p0 = some r) :
  Tr Tryz.prog 164 #[.agg csp0.toArray] h fun v h' => v = .bool r ∧ h' = h := by
 obtain ⟨aA, aB, aF, aY, aG, aN, rfl, rfl, aI, aJ, aH⟩ := C0 rp0
 obtain ⟨rfl, aZ⟩ := Sl.len aH
 unfold J9 at hM0
 dsimp only at hM0
 refine Tr.forget (T2 (args := [.agg #[.int .i64 aA, .int .i64 aB, .slice aF aN.length aG]]) (fn := Tryz.f164) rfl ?_)
 refine Or.inr (Or.inr (Or.inr (Or.inl (And.intro (And.intro (by kernel_rfl) (by kernel_rfl)) ?_))))
 obtain ⟨x1, gx1, hM0⟩ := j0 hM0
 refine Or.inl (Exists.intro (.val (.bool x1)) (And.intro ?_ ?_))
 ·intro k2 s3
  exact Tr.val (F00 _ [.int .i64 aA, .int .i64 aB, .slice aF aN.length aG] (aA, aB, aN) (z0 aI aJ (O0.mono s3 aH)) _ gx1) (And.intro rfl (And.intro rfl rfl))
 obtain ⟨x4, gx4, hM0⟩ := j0 hM0
 obtain ⟨q5, gq5, hM0⟩ := j0 hM0
 have ix4 : M0 x4 := T0 gq5
 refine Or.inl (Exists.intro (.val (.int .i64 x4)) (And.intro ?_ ?_))
 ·intro k6 s7 hq
  exact Tr.val (j06 _ [.int .i64 aA, .int .i64 aB, .slice aF aN.length aG] (aA, aB, aN) (z0 aI aJ (O0.mono s7 aH)) _ (G2 gx4 hq)) (And.intro rfl (And.intro rfl rfl))
 refine Or.inl (Exists.intro (.val (.bool (decide (x4 < 0)))) (And.intro ?_ ?_))
 ·intro k8 s9 hq
  exact And.intro rfl (And.intro rfl rfl)
 obtain ⟨x10, gx10, hM0⟩ := j0 hM0
 obtain ⟨aK, aL, aT⟩ := x10
 try dsimp only at hM0
 refine Or.inr (Exists.intro (fun v hh => ∃ (aC : Option Addr) (aD : Nat), v = .agg #[.int .i64 aK, .int .i64 aL, .slice aC aT.length aD] ∧ M0 aK ∧ M0 aL ∧ O0.R hh [.slice aC aT.length aD] aT ∧ aT.length ≤ 9223372036854775807) (And.intro (fun v h1 h2 sb q => by obtain ⟨aC, aD, e, f0, f1, f2, f3⟩ := q; exact ⟨aC, aD, e, f0, f1, O0.mono sb f2, f3⟩) (And.intro ?_ ?_)))
 ·intro k11 s12 hq
  refine Tr.mono (o01 _ [.int .i64 aA, .int .i64 aB, .slice aF aN.length aG] (aA, aB, aN) (z0 aI aJ (O0.mono s12 aH)) _ (G2 gx10 hq)) ?_
  rintro _ kk ⟨csx10, rfl, rx10, sb⟩
  obtain ⟨aV, aW, aO, aU, aP, aX, rfl, ey, aQ, aR, aM⟩ := C0 rx10
  cases ey
  obtain ⟨rfl, aS⟩ := Sl.len aM
  exact And.intro g09 (And.intro sb ⟨aO, aP, rfl, aQ, aR, aM, aS⟩)
 obtain ⟨x13, gx13, hM0⟩ := j0 hM0
 refine Or.inl (Exists.intro (.val (.bool x13)) (And.intro ?_ ?_))
 ·intro k14 s15 hq
  rintro _ ⟨az162, cz162, rfl, iz160, iz161, rz162, lz162⟩
  exact Tr.val (E02 _ [.int .i64 aK, .int .i64 aL, .slice az162 aT.length cz162] (aK, aL, aT) (z0 iz160 iz161 rz162) [.int .i64 aA, .int .i64 aB, .slice aF aN.length aG] (aA, aB, aN) (z0 aI aJ (O0.mono s15 aH)) _ (G2 gx13 hq)) (And.intro rfl (And.intro rfl rfl))
 intro k17 s18
 have hE := Option.some.inj hM0; subst hE
 exact And.intro rfl s18
theorem J07 (h : Hp) (csp0 : List Value) (p0 : l0) (rp0 : P0.R h csp0 p0) (r : Bool) (hM0 : P9 p0 = some r) :
  Tr Tryz.prog 76 #[.agg csp0.toArray] h fun v h' => v = .bool r ∧ h' = h := by
 obtain ⟨aD, aF, aA, aJ, aB, aI, rfl, rfl, aG, aH, aC⟩ := C0 rp0
 obtain ⟨rfl, aK⟩ := Sl.len aC
 unfold P9 at hM0
 dsimp only at hM0
 refine Tr.forget (T2 (args := [.agg #[.int .i64 aD, .int .i64 aF, .slice aA aI.length aB]]) (fn := Tryz.f76) rfl ?_)
 obtain ⟨x1, gx1, hM0⟩ := j0 hM0
 refine Tr.val (N0b _ [.int .i64 aD, .int .i64 aF, .slice aA aI.length aB] (aD, aF, aI) (z0 aG aH aC) _  gx1) ?_
 have hE := Option.some.inj hM0; subst hE
 exact And.intro rfl (Sub.refl _)
end Go.Proofs.YtknoadmdnjaocaaGreat
