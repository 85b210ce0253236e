/- Texts of the claim, joined: The walks of batch 1; The walks of batch 2; The walks of batch ly; The walks of batch 3; The walks of batch ci; The walks of batch 5e; The walks of batch 5; The walks of batch q6; The walks of batch 6; The walks of batch lh; The walks of batch ls; The walks of batch xb1; The walks of batch ln; The walks of batch lt; The walks of batch xb2. -/
import Derived.Test.YtknoadmdnjaocaaPart12
import Derived.Test.YtknoadmdnjaocaaChecked
import Derived.Test.YtknoadmdnjaocaaH35
namespace Go.Proofs.Ytknoadmdnjaocaa
open Go.H
set_option linter.unusedVariables false
set_option linter.unusedSimpArgs false
set_option maxRecDepth 10000
theorem L6 (h : Hp) (p0 : Int) (ip0 : D0 p0) (p1 : Int) (ip1 : D0 p1) (p2 : Int) (ip2 : D0 p2) (r : Bool) (hM0 : Y3 p0 p1 p2 = some r) :
  Tr Try.prog 26 #[.int .i64 p0, .int .i64 p1, .int .i64 p2] h fun v h' => v = .bool r ∧ h' = h := by
 unfold Y3 at hM0
 refine Tr.forget (S2 (args := [.int .i64 p0, .int .i64 p1, .int .i64 p2]) (fn := Try.f26) rfl ?_)
 have hE := Option.some.inj hM0; subst hE
 exact And.intro rfl (Sub.refl _)
theorem o7 (h : Hp) (p0 : Int) (ip0 : D0 p0) (ap1 : Option Addr) (np1 cp1 : Nat) (p1 : i0) (rp1 : j0.R h [.slice ap1 np1 cp1] p1) (r : Bool) (hM0 : w4 p0 p1 = some r) :
  Tr Try.prog 8 #[.int .i64 p0, .slice ap1 np1 cp1] h fun v h' => v = .bool r ∧ h' = h := by
 obtain ⟨rfl, lp1⟩ := Sl.len rp1
 unfold w4 at hM0
 refine Tr.forget (S2 (args := [.int .i64 p0, .slice ap1 p1.length cp1]) (fn := Try.f8) rfl ?_)
 obtain ⟨X1, hLX1, hM0⟩ := f0 hM0
 refine Exists.intro { vars := [5], boxes := [], owns := [], fuel := true } (Exists.intro (fun vs os h' => ∃ (u2 : Int), vs.tail = [.int .i64 u2] ∧ os = [] ∧ Sub h h' ∧ D0 u2 ∧ Q4 p1 p0 (F1 vs) u2 = some X1) (Exists.intro (fun _ _ => 0) ?_))
 refine And.intro (Exists.intro N0 ⟨0, rfl, rfl, (Sub.refl _), (c64 (by decide) (by decide)), hLX1⟩) ?_
 rintro v_0 m4 k3 ⟨u2, evX1, eoX1, sX1, iu2, hM1⟩
 cases evX1
 cases eoX1
 replace hM1 : Q4 p1 p0 m4 u2 = some X1 := hM1
 obtain _ | m4 := m4
 ·cases (show (none : Option _) = some X1 from hM1)
 rw [Q4.eq_2] at hM1
 refine And.intro (fun hc5 => ?_) (fun hc5 => ?_)
 ·replace hM1 := ifP hM1 hc5
  refine Or.inl (And.intro (And.intro (by kernel_rfl) (by kernel_rfl)) ?_)
  obtain ⟨x6, gx6, hM1⟩ := f0 hM1
  obtain ⟨bx6, csx6, ex6, rx6⟩ := Sl.getI (r := Wp.int.toRp) (j0.mono sX1 rp1) gx6 (by decide)
  refine And.intro bx6 ?_
  obtain ⟨rfl, ix6⟩ := rx6
  refine Exists.intro _ (And.intro ex6 ?_)
  obtain ⟨x7, gx7, hM1⟩ := f0 hM1
  obtain ⟨csx7, ex7, rx7⟩ := Sl.getG (r := Wp.int.toRp) (j0.mono sX1 rp1) gx7 (by decide) (d8 k3)
  refine And.intro (fun q => (ex7 q).1) ?_
  obtain ⟨rfl, ix7⟩ := rx7
  refine Exists.intro _ (And.intro (fun q => (ex7 q).2) ?_)
  obtain ⟨x8, gx8, hM1⟩ := f0 hM1
  refine Exists.intro (.bool x8) (And.intro (fun q => L6 _ x7 ix7 (IntKind.i64.wrap (0 - p0)) (B0 _) p0 ip0 _  (Z2 gx8 q)) ?_)
  obtain ⟨x9, gx9, hM1⟩ := f0 hM1
  obtain ⟨csx9, ex9, rx9⟩ := Sl.getG (r := Wp.int.toRp) (j0.mono sX1 rp1) gx9 (by decide) (d8 k3)
  refine And.intro (fun q => (ex9 q).1) ?_
  obtain ⟨rfl, ix9⟩ := rx9
  refine Exists.intro _ (And.intro (fun q => (ex9 q).2) ?_)
  obtain ⟨x10, gx10, hM1⟩ := f0 hM1
  obtain ⟨csx10, ex10, rx10⟩ := Sl.getG (r := Wp.int.toRp) (j0.mono sX1 rp1) gx10 (by decide) (d8 k3)
  refine And.intro (fun q => (ex10 q).1) ?_
  obtain ⟨rfl, ix10⟩ := rx10
  refine Exists.intro _ (And.intro (fun q => (ex10 q).2) ?_)
  refine And.intro (fun hc11 => ?_) (fun hc11 => ?_)
  ·replace hM1 := ifP hM1 hc11
   have hE := Option.some.inj hM1; subst hE
   try dsimp only [D4, E4] at hM0
   have hE := Option.some.inj hM0; subst hE
   exact And.intro rfl sX1
  ·replace hM1 := ifN hM1 hc11
   refine And.intro rfl (And.intro (by repeat (first | exact trivial | refine And.intro rfl ?_)) (And.intro (by repeat (first | exact trivial | refine And.intro rfl ?_)) (Exists.intro m4 (And.intro ⟨(IntKind.i64.wrap (u2 + 1)), rfl, rfl, sX1, (B0 _), hM1⟩ (Nat.lt_succ_self _)))))
 ·replace hM1 := ifN hM1 hc5
  have hE := Option.some.inj hM1; subst hE
  try dsimp only [H0, I0] at hM0
  obtain ⟨x12, gx12, hM0⟩ := f0 hM0
  refine Tr.val (L6 _ p0 ip0 1 (c64 (by decide) (by decide)) 3 (c64 (by decide) (by decide)) _  gx12) ?_
  have hE := Option.some.inj hM0; subst hE
  exact And.intro rfl sX1
theorem U3 (h : Hp) (p0 : Int) (ip0 : D0 p0) (p1 : Int) (ip1 : D0 p1) (p2 : Int) (ip2 : D0 p2) (r : Bool) (hM0 : D2 p0 p1 p2 = some r) :
  Tr Try.prog 37 #[.int .i64 p0, .int .i64 p1, .int .i64 p2] h fun v h' => v = .bool r ∧ h' = h := by
 unfold D2 at hM0
 refine Tr.forget (S2 (args := [.int .i64 p0, .int .i64 p1, .int .i64 p2]) (fn := Try.f37) rfl ?_)
 have hE := Option.some.inj hM0; subst hE
 exact And.intro rfl (Sub.refl _)
theorem Q9 (h : Hp) (p0 : Int) (ip0 : D0 p0) (p1 : Int) (ip1 : D0 p1) (r : Bool) (hM0 : M5 p0 p1 = some r) :
  Tr Try.prog 38 #[.int .i64 p0, .int .i64 p1] h fun v h' => v = .bool r ∧ h' = h := by
 unfold M5 at hM0
 refine Tr.forget (S2 (args := [.int .i64 p0, .int .i64 p1]) (fn := Try.f38) rfl ?_)
 obtain ⟨x1, gx1, hM0⟩ := f0 hM0
 refine Exists.intro (.bool x1) (And.intro (fun q => U3 _ p1 ip1 (IntKind.i64.wrap (0 - p0)) (B0 _) p0 ip0 _  (Z2 gx1 q)) ?_)
 have hE := Option.some.inj hM0; subst hE
 exact And.intro rfl (Sub.refl _)
theorem S8 (h : Hp) (p0 : Int) (ip0 : D0 p0) (p1 : Int) (ip1 : D0 p1) (r : Bool) (hM0 : F4 p0 p1 = some r) :
  Tr Try.prog 39 #[.int .i64 p0, .int .i64 p1] h fun v h' => v = .bool r ∧ h' = h := by
 unfold F4 at hM0
 refine Tr.forget (S2 (args := [.int .i64 p0, .int .i64 p1]) (fn := Try.f39) rfl ?_)
 have hE := Option.some.inj hM0; subst hE
 exact And.intro rfl (Sub.refl _)
theorem B9 (h : Hp) (p0 : Int) (ip0 : D0 p0) (ap1 : Option Addr) (np1 cp1 : Nat) (p1 : i0) (rp1 : j0.R h [.slice ap1 np1 cp1] p1) (r : Bool) (hM0 : V5 p0 p1 = some r) :
  Tr Try.prog 17 #[.int .i64 p0, .slice ap1 np1 cp1] h fun v h' => v = .bool r ∧ h' = h := by
 obtain ⟨rfl, lp1⟩ := Sl.len rp1
 unfold V5 at hM0
 refine Tr.forget (S2 (args := [.int .i64 p0, .slice ap1 p1.length cp1]) (fn := Try.f17) rfl ?_)
 obtain ⟨x1, gx1, hM0⟩ := f0 hM0
 refine Tr.val (U3 _ p0 ip0 1 (c64 (by decide) (by decide)) 3 (c64 (by decide) (by decide)) _  gx1) ?_
 refine And.intro (fun hc2 => ?_) (fun hc2 => ?_)
 ·replace hM0 := ifP hM0 hc2
  have hE := Option.some.inj hM0; subst hE
  exact And.intro rfl (Sub.refl _)
 ·replace hM0 := ifN hM0 hc2
  obtain ⟨X3, hLX3, hM0⟩ := f0 hM0
  refine Exists.intro { vars := [17], boxes := [], owns := [], fuel := true } (Exists.intro (fun vs os h' => ∃ (u4 : Int), vs.tail = [.int .i64 u4] ∧ os = [] ∧ Sub h h' ∧ D0 u4 ∧ R4 p1 p0 (F1 vs) u4 = some X3) (Exists.intro (fun _ _ => 0) ?_))
  refine And.intro (Exists.intro N0 ⟨0, rfl, rfl, (Sub.refl _), (c64 (by decide) (by decide)), hLX3⟩) ?_
  rintro v_0 m6 k5 ⟨u4, evX3, eoX3, sX3, iu4, hM1⟩
  cases evX3
  cases eoX3
  replace hM1 : R4 p1 p0 m6 u4 = some X3 := hM1
  obtain _ | m6 := m6
  ·cases (show (none : Option _) = some X3 from hM1)
  rw [R4.eq_2] at hM1
  refine And.intro (fun hc7 => ?_) (fun hc7 => ?_)
  ·replace hM1 := ifP hM1 hc7
   obtain ⟨x8, gx8, hM1⟩ := f0 hM1
   obtain ⟨bx8, csx8, ex8, rx8⟩ := Sl.getI (r := Wp.int.toRp) (j0.mono sX3 rp1) gx8 (by decide)
   refine And.intro bx8 ?_
   obtain ⟨rfl, ix8⟩ := rx8
   refine Exists.intro _ (And.intro ex8 ?_)
   obtain ⟨x9, gx9, hM1⟩ := f0 hM1
   refine Tr.val (Q9 _ p0 ip0 x8 ix8 _  gx9) ?_
   obtain ⟨x10, gx10, hM1⟩ := f0 hM1
   obtain ⟨csx10, ex10, rx10⟩ := Sl.getG (r := Wp.int.toRp) (j0.mono sX3 rp1) gx10 (by decide) (d8 k5)
   refine And.intro (fun q => (ex10 q).1) ?_
   obtain ⟨rfl, ix10⟩ := rx10
   refine Exists.intro _ (And.intro (fun q => (ex10 q).2) ?_)
   obtain ⟨x11, gx11, hM1⟩ := f0 hM1
   refine Exists.intro (.bool x11) (And.intro (fun q => S8 _ x10 ix10 x8 ix8 _  (Z2 gx11 q)) ?_)
   refine And.intro (fun hc12 => ?_) (fun hc12 => ?_)
   ·replace hM1 := ifP hM1 hc12
    have hE := Option.some.inj hM1; subst hE
    try dsimp only [D4, E4] at hM0
    have hE := Option.some.inj hM0; subst hE
    exact And.intro rfl sX3
   ·replace hM1 := ifN hM1 hc12
    refine And.intro rfl (And.intro (by repeat (first | exact trivial | refine And.intro rfl ?_)) (And.intro (by repeat (first | exact trivial | refine And.intro rfl ?_)) (Exists.intro m6 (And.intro ⟨(IntKind.i64.wrap (u4 + 1)), rfl, rfl, sX3, (B0 _), hM1⟩ (Nat.lt_succ_self _)))))
  ·replace hM1 := ifN hM1 hc7
   have hE := Option.some.inj hM1; subst hE
   try dsimp only [H0, I0] at hM0
   have hE := Option.some.inj hM0; subst hE
   exact And.intro rfl sX3
theorem z8 (h : Hp) (p0 : Int) (ip0 : D0 p0) (p1 : Int) (ip1 : D0 p1) (r : Int) (hM0 : V3 p0 p1 = some r) :
  Tr Try.prog 75 #[.int .i64 p0, .int .i64 p1] h fun v h' => v = .int .i64 r ∧ h' = h := by
 unfold V3 at hM0
 refine Tr.forget (S2 (args := [.int .i64 p0, .int .i64 p1]) (fn := Try.f75) rfl ?_)
 refine And.intro (fun hc1 => ?_) (fun hc1 => ?_)
 ·replace hM0 := ifP hM0 hc1
  have hE := Option.some.inj hM0; subst hE
  exact And.intro rfl (Sub.refl _)
 ·replace hM0 := ifN hM0 hc1
  refine And.intro (fun hc2 => ?_) (fun hc2 => ?_)
  ·replace hM0 := ifP hM0 hc2
   have hE := Option.some.inj hM0; subst hE
   exact And.intro rfl (Sub.refl _)
  ·replace hM0 := ifN hM0 hc2
   have hE := Option.some.inj hM0; subst hE
   exact And.intro rfl (Sub.refl _)
end Go.Proofs.Ytknoadmdnjaocaa
namespace Go.Proofs.Ytknoadmdnjaocaa
open Go.H
set_option linter.unusedVariables false
set_option linter.unusedSimpArgs false
set_option maxRecDepth 10000
theorem D01 (h : Hp) (p0 : Int) (ip0 : D0 p0) (r : ByteArray) (hM0 : Y5 p0 = some r) :
  Tr Try.prog 12 #[.int .i64 p0] h fun v h' => v = .string r ∧ h' = h := by
 unfold Y5 at hM0
 refine Tr.forget (S2 (args := [.int .i64 p0]) (fn := Try.f12) rfl ?_)
 refine And.intro (fun hc1 => ?_) (fun hc1 => ?_)
 ·replace hM0 := ifP hM0 hc1
  have hE := Option.some.inj hM0; subst hE
  exact And.intro rfl (Sub.refl _)
 ·replace hM0 := ifN hM0 hc1
  obtain ⟨X2, hLX2, hM0⟩ := f0 hM0
  refine Exists.intro { vars := [0, 3], boxes := [], owns := [], fuel := true } (Exists.intro (fun vs os h' => ∃ (u3 : Int) (u4 : ByteArray), vs.tail = [.int .i64 u3, .string u4] ∧ os = [] ∧ Sub h h' ∧ D0 u3 ∧ u4.size ≤ 9223372036854775807 ∧ V1 (F1 vs) u3 u4 = some X2) (Exists.intro (fun _ _ => 0) ?_))
  refine And.intro (Exists.intro N0 ⟨p0, (⟨#[]⟩ : ByteArray), rfl, rfl, (Sub.refl _), ip0, (by decide), hLX2⟩) ?_
  rintro v_0 v_1 m6 k5 ⟨u3, u4, evX2, eoX2, sX2, iu3, iu4, hM1⟩
  cases evX2
  cases eoX2
  replace hM1 : V1 m6 u3 u4 = some X2 := hM1
  obtain _ | m6 := m6
  ·cases (show (none : Option _) = some X2 from hM1)
  rw [V1.eq_2] at hM1
  refine And.intro (fun hc7 => ?_) (fun hc7 => ?_)
  ·replace hM1 := ifP hM1 hc7
   obtain ⟨q8, gq8, hM1⟩ := f0 hM1
   refine And.intro (l0 gq8) ?_
   refine And.intro (fun hc9 => ?_) (fun hc9 => ?_)
   ·replace hM1 := ifP hM1 hc9
    refine Exists.intro [(IntKind.u8.wrap (IntKind.i64.wrap (48 + (IntKind.i64.wrap (0 - (Int.tmod u3 10))))))] (And.intro (F2.u8 (show F2 (Rp.u8.R k5) ([[.int .u8 (IntKind.u8.wrap (IntKind.i64.wrap (48 + (IntKind.i64.wrap (0 - (Int.tmod u3 10))))))]] : List (List Value)) [(IntKind.u8.wrap (IntKind.i64.wrap (48 + (IntKind.i64.wrap (0 - (Int.tmod u3 10))))))] from ⟨rfl, trivial⟩)) ?_)
    obtain ⟨q10, gq10, hM1⟩ := f0 hM1
    obtain ⟨q11, gq11, hM1⟩ := f0 hM1
    have jq11 := l0 gq11
    refine And.intro jq11 ?_
    obtain ⟨q12, gq12, hM1⟩ := f0 hM1
    refine And.intro (l0 gq12) ?_
    refine And.intro rfl (And.intro (by repeat (first | exact trivial | refine And.intro rfl ?_)) (And.intro (by repeat (first | exact trivial | refine And.intro rfl ?_)) (Exists.intro m6 (And.intro ⟨(IntKind.i64.wrap (Int.tdiv u3 10)), ((strOfNums [(IntKind.u8.wrap (IntKind.i64.wrap (48 + (IntKind.i64.wrap (0 - (Int.tmod u3 10))))))]) ++ u4), rfl, rfl, sX2, (B0 _), (J02 jq11), hM1⟩ (Nat.lt_succ_self _)))))
   ·replace hM1 := ifN hM1 hc9
    refine Exists.intro [(IntKind.u8.wrap (IntKind.i64.wrap (48 + (Int.tmod u3 10))))] (And.intro (F2.u8 (show F2 (Rp.u8.R k5) ([[.int .u8 (IntKind.u8.wrap (IntKind.i64.wrap (48 + (Int.tmod u3 10))))]] : List (List Value)) [(IntKind.u8.wrap (IntKind.i64.wrap (48 + (Int.tmod u3 10))))] from ⟨rfl, trivial⟩)) ?_)
    obtain ⟨q13, gq13, hM1⟩ := f0 hM1
    obtain ⟨q14, gq14, hM1⟩ := f0 hM1
    have jq14 := l0 gq14
    refine And.intro jq14 ?_
    obtain ⟨q15, gq15, hM1⟩ := f0 hM1
    refine And.intro (l0 gq15) ?_
    refine And.intro rfl (And.intro (by repeat (first | exact trivial | refine And.intro rfl ?_)) (And.intro (by repeat (first | exact trivial | refine And.intro rfl ?_)) (Exists.intro m6 (And.intro ⟨(IntKind.i64.wrap (Int.tdiv u3 10)), ((strOfNums [(IntKind.u8.wrap (IntKind.i64.wrap (48 + (Int.tmod u3 10))))]) ++ u4), rfl, rfl, sX2, (B0 _), (J02 jq14), hM1⟩ (Nat.lt_succ_self _)))))
  ·replace hM1 := ifN hM1 hc7
   have hE := Option.some.inj hM1; subst hE
   try dsimp only [H0, I0] at hM0
   refine And.intro (fun hc16 => ?_) (fun hc16 => ?_)
   ·replace hM0 := ifP hM0 hc16
    obtain ⟨q17, gq17, hM0⟩ := f0 hM0
    have jq17 := l0 gq17
    refine And.intro jq17 ?_
    have hE := Option.some.inj hM0; subst hE
    exact And.intro rfl sX2
   ·replace hM0 := ifN hM0 hc16
    have hE := Option.some.inj hM0; subst hE
    exact And.intro rfl sX2
theorem X05 (h : Hp) (p0 : Int) (ip0 : D0 p0) (r : Bool) (hM0 : g7 p0 = some r) :
  Tr Try.prog 32 #[.int .i64 p0] h fun v h' => v = .bool r ∧ h' = h := by
 unfold g7 at hM0
 refine Tr.forget (S2 (args := [.int .i64 p0]) (fn := Try.f32) rfl ?_)
 obtain ⟨x1, gx1, hM0⟩ := f0 hM0
 refine Exists.intro (.bool x1) (And.intro (fun q => L6 _ p0 ip0 (-3) (c64 (by decide) (by decide)) 3 (c64 (by decide) (by decide)) _  (Z2 gx1 q)) ?_)
 have hE := Option.some.inj hM0; subst hE
 exact And.intro rfl (Sub.refl _)
theorem B07 (h : Hp) (p0 : Int) (ip0 : D0 p0) (r : ByteArray) (hM0 : A9 p0 = some r) :
  Tr Try.prog 33 #[.int .i64 p0] h fun v h' => v = .string r ∧ h' = h := by
 unfold A9 at hM0
 refine Tr.forget (S2 (args := [.int .i64 p0]) (fn := Try.f33) rfl ?_)
 refine And.intro (fun hc1 => ?_) (fun hc1 => ?_)
 ·replace hM0 := ifP hM0 hc1
  obtain ⟨x2, gx2, hM0⟩ := f0 hM0
  obtain ⟨bx2, csx2, ex2, rx2⟩ := j5 (show F2 (Wp.str.R h) ([[.string (⟨#[65]⟩ : ByteArray)], [.string (⟨#[66]⟩ : ByteArray)], [.string (⟨#[67]⟩ : ByteArray)]] : List (List Value)) [(⟨#[65]⟩ : ByteArray), (⟨#[66]⟩ : ByteArray), (⟨#[67]⟩ : ByteArray)] from ⟨⟨rfl, (by decide)⟩, ⟨⟨rfl, (by decide)⟩, ⟨⟨rfl, (by decide)⟩, trivial⟩⟩⟩) gx2
  refine And.intro bx2 ?_
  obtain ⟨rfl, ix2⟩ := rx2
  refine Exists.intro _ (And.intro ex2 ?_)
  have hE := Option.some.inj hM0; subst hE
  exact And.intro rfl (Sub.refl _)
 ·replace hM0 := ifN hM0 hc1
  obtain ⟨x3, gx3, hM0⟩ := f0 hM0
  obtain ⟨bx3, csx3, ex3, rx3⟩ := j5 (show F2 (Wp.str.R h) ([[.string (⟨#[97]⟩ : ByteArray)], [.string (⟨#[98]⟩ : ByteArray)], [.string (⟨#[99]⟩ : ByteArray)]] : List (List Value)) [(⟨#[97]⟩ : ByteArray), (⟨#[98]⟩ : ByteArray), (⟨#[99]⟩ : ByteArray)] from ⟨⟨rfl, (by decide)⟩, ⟨⟨rfl, (by decide)⟩, ⟨⟨rfl, (by decide)⟩, trivial⟩⟩⟩) gx3
  refine And.intro bx3 ?_
  obtain ⟨rfl, ix3⟩ := rx3
  refine Exists.intro _ (And.intro ex3 ?_)
  have hE := Option.some.inj hM0; subst hE
  exact And.intro rfl (Sub.refl _)
theorem w7 (h : Hp) (ap0 : Option Addr) (np0 cp0 : Nat) (p0 : i0) (rp0 : j0.R h [.slice ap0 np0 cp0] p0) (r : ByteArray) (hM0 : M1 p0 = some r) :
  Tr Try.prog 11 #[.slice ap0 np0 cp0] h fun v h' => v = .string r ∧ h' = h := by
 obtain ⟨rfl, lp0⟩ := Sl.len rp0
 unfold M1 at hM0
 refine Tr.forget (S2 (args := [.slice ap0 p0.length cp0]) (fn := Try.f11) rfl ?_)
 obtain ⟨X1, hLX1, hM0⟩ := f0 hM0
 refine Exists.intro { vars := [3, 4], boxes := [], owns := [], fuel := true } (Exists.intro (fun vs os h' => ∃ (u2 : ByteArray) (u3 : Int), vs.tail = [.string u2, .int .i64 u3] ∧ os = [] ∧ Sub h h' ∧ u2.size ≤ 9223372036854775807 ∧ D0 u3 ∧ P2 p0 (F1 vs) u2 u3 = some X1) (Exists.intro (fun _ _ => 0) ?_))
 refine And.intro (Exists.intro N0 ⟨(⟨#[]⟩ : ByteArray), 0, rfl, rfl, (Sub.refl _), (by decide), (c64 (by decide) (by decide)), hLX1⟩) ?_
 rintro v_0 v_1 m5 k4 ⟨u2, u3, evX1, eoX1, sX1, iu2, iu3, hM1⟩
 cases evX1
 cases eoX1
 replace hM1 : P2 p0 m5 u2 u3 = some X1 := hM1
 obtain _ | m5 := m5
 ·cases (show (none : Option _) = some X1 from hM1)
 rw [P2.eq_2] at hM1
 refine And.intro (fun hc6 => ?_) (fun hc6 => ?_)
 ·replace hM1 := ifP hM1 hc6
  obtain ⟨x7, gx7, hM1⟩ := f0 hM1
  obtain ⟨bx7, csx7, ex7, rx7⟩ := Sl.getI (r := Wp.int.toRp) (j0.mono sX1 rp0) gx7 (by decide)
  refine And.intro bx7 ?_
  obtain ⟨rfl, ix7⟩ := rx7
  refine Exists.intro _ (And.intro ex7 ?_)
  obtain ⟨x8, gx8, hM1⟩ := f0 hM1
  refine Tr.val (X05 _ x7 ix7 _  gx8) ?_
  refine And.intro (fun hc9 => ?_) (fun hc9 => ?_)
  ·replace hM1 := ifP hM1 hc9
   have hE := Option.some.inj hM1; subst hE
   try dsimp only [D4, E4] at hM0
   have hE := Option.some.inj hM0; subst hE
   exact And.intro rfl sX1
  ·replace hM1 := ifN hM1 hc9
   obtain ⟨x10, gx10, hM1⟩ := f0 hM1
   obtain ⟨bx10, csx10, ex10, rx10⟩ := Sl.getI (r := Wp.int.toRp) (j0.mono sX1 rp0) gx10 (by decide)
   refine And.intro bx10 ?_
   obtain ⟨rfl, ix10⟩ := rx10
   refine Exists.intro _ (And.intro ex10 ?_)
   obtain ⟨x11, gx11, hM1⟩ := f0 hM1
   refine Tr.val (B07 _ x10 ix10 _  gx11) ?_
   obtain ⟨q12, gq12, hM1⟩ := f0 hM1
   have ix11 : x11.size ≤ 9223372036854775807 := l0 gq12
   obtain ⟨q13, gq13, hM1⟩ := f0 hM1
   have jq13 := l0 gq13
   refine And.intro jq13 ?_
   refine And.intro rfl (And.intro (by repeat (first | exact trivial | refine And.intro rfl ?_)) (And.intro (by repeat (first | exact trivial | refine And.intro rfl ?_)) (Exists.intro m5 (And.intro ⟨(u2 ++ x11), (IntKind.i64.wrap (u3 + 1)), rfl, rfl, sX1, (J02 jq13), (B0 _), hM1⟩ (Nat.lt_succ_self _)))))
 ·replace hM1 := ifN hM1 hc6
  have hE := Option.some.inj hM1; subst hE
  try dsimp only [H0, I0] at hM0
  refine And.intro (fun hc14 => ?_) (fun hc14 => ?_)
  ·replace hM0 := ifP hM0 hc14
   have hE := Option.some.inj hM0; subst hE
   exact And.intro rfl sX1
  ·replace hM0 := ifN hM0 hc14
   have hE := Option.some.inj hM0; subst hE
   exact And.intro rfl sX1
theorem E01 (h : Hp) (p0 : Int) (ip0 : D0 p0) (r : ByteArray) (hM0 : Z5 p0 = some r) :
  Tr Try.prog 22 #[.int .i64 p0] h fun v h' => v = .string r ∧ h' = h := by
 unfold Z5 at hM0
 refine Tr.forget (S2 (args := [.int .i64 p0]) (fn := Try.f22) rfl ?_)
 refine And.intro (fun hc1 => ?_) (fun hc1 => ?_)
 ·replace hM0 := ifP hM0 hc1
  have hE := Option.some.inj hM0; subst hE
  exact And.intro rfl (Sub.refl _)
 ·replace hM0 := ifN hM0 hc1
  obtain ⟨X2, hLX2, hM0⟩ := f0 hM0
  refine Exists.intro { vars := [4], boxes := [], owns := [0], fuel := true } (Exists.intro (fun vs os h' => ∃ (u3 : Int) (wu4 : List (List Value)) (u4 : List Int), vs.tail = [.int .i64 u3] ∧ os = [wu4] ∧ Sub h h' ∧ D0 u3 ∧ F2 (Rp.u8.R h') wu4 u4 ∧ Y1 (F1 vs) u3 u4 = some X2) (Exists.intro (fun _ _ => 0) ?_))
  refine And.intro (Exists.intro N0 ⟨p0, [], ([] : (List Int)), rfl, rfl, (Sub.refl _), ip0, (show F2 (Rp.u8.R h) ([] : List (List Value)) ([] : (List Int)) from trivial), hLX2⟩) ?_
  rintro v_0 wu4 m6 k5 ⟨u3, zzu4, u4, evX2, eoX2, sX2, iu3, fu4, hM1⟩
  cases evX2
  cases eoX2
  replace hM1 : Y1 m6 u3 u4 = some X2 := hM1
  obtain _ | m6 := m6
  ·cases (show (none : Option _) = some X2 from hM1)
  rw [Y1.eq_2] at hM1
  refine And.intro (fun hc7 => ?_) (fun hc7 => ?_)
  ·replace hM1 := ifP hM1 hc7
   obtain ⟨q8, gq8, hM1⟩ := f0 hM1
   refine And.intro (l0 gq8) ?_
   refine And.intro (fun hc9 => ?_) (fun hc9 => ?_)
   ·replace hM1 := ifP hM1 hc9
    obtain ⟨q10, gq10, hM1⟩ := f0 hM1
    refine And.intro (R0 gq10 (by first | rw [F2.length fu4, F2.length (show F2 (Rp.u8.R k5) ([[.int .u8 (IntKind.u8.wrap (IntKind.i64.wrap (48 + (IntKind.i64.wrap (0 - (Int.tmod u3 10))))))]] : List (List Value)) [(IntKind.u8.wrap (IntKind.i64.wrap (48 + (IntKind.i64.wrap (0 - (Int.tmod u3 10))))))] from ⟨rfl, trivial⟩)] | exact congrArg (· + 1) (F2.length fu4))) ?_
    obtain ⟨q11, gq11, hM1⟩ := f0 hM1
    refine And.intro (l0 gq11) ?_
    refine And.intro rfl (And.intro (by repeat (first | exact trivial | refine And.intro rfl ?_)) (And.intro (by repeat (first | exact trivial | refine And.intro rfl ?_)) (Exists.intro m6 (And.intro ⟨(IntKind.i64.wrap (Int.tdiv u3 10)), (wu4 ++ ([[.int .u8 (IntKind.u8.wrap (IntKind.i64.wrap (48 + (IntKind.i64.wrap (0 - (Int.tmod u3 10))))))]] : List (List Value))), (u4 ++ [(IntKind.u8.wrap (IntKind.i64.wrap (48 + (IntKind.i64.wrap (0 - (Int.tmod u3 10))))))]), rfl, rfl, sX2, (B0 _), (F2.append fu4 (show F2 (Rp.u8.R k5) ([[.int .u8 (IntKind.u8.wrap (IntKind.i64.wrap (48 + (IntKind.i64.wrap (0 - (Int.tmod u3 10))))))]] : List (List Value)) [(IntKind.u8.wrap (IntKind.i64.wrap (48 + (IntKind.i64.wrap (0 - (Int.tmod u3 10))))))] from ⟨rfl, trivial⟩)), hM1⟩ (Nat.lt_succ_self _)))))
   ·replace hM1 := ifN hM1 hc9
    obtain ⟨q12, gq12, hM1⟩ := f0 hM1
    refine And.intro (R0 gq12 (by first | rw [F2.length fu4, F2.length (show F2 (Rp.u8.R k5) ([[.int .u8 (IntKind.u8.wrap (IntKind.i64.wrap (48 + (Int.tmod u3 10))))]] : List (List Value)) [(IntKind.u8.wrap (IntKind.i64.wrap (48 + (Int.tmod u3 10))))] from ⟨rfl, trivial⟩)] | exact congrArg (· + 1) (F2.length fu4))) ?_
    obtain ⟨q13, gq13, hM1⟩ := f0 hM1
    refine And.intro (l0 gq13) ?_
    refine And.intro rfl (And.intro (by repeat (first | exact trivial | refine And.intro rfl ?_)) (And.intro (by repeat (first | exact trivial | refine And.intro rfl ?_)) (Exists.intro m6 (And.intro ⟨(IntKind.i64.wrap (Int.tdiv u3 10)), (wu4 ++ ([[.int .u8 (IntKind.u8.wrap (IntKind.i64.wrap (48 + (Int.tmod u3 10))))]] : List (List Value))), (u4 ++ [(IntKind.u8.wrap (IntKind.i64.wrap (48 + (Int.tmod u3 10))))]), rfl, rfl, sX2, (B0 _), (F2.append fu4 (show F2 (Rp.u8.R k5) ([[.int .u8 (IntKind.u8.wrap (IntKind.i64.wrap (48 + (Int.tmod u3 10))))]] : List (List Value)) [(IntKind.u8.wrap (IntKind.i64.wrap (48 + (Int.tmod u3 10))))] from ⟨rfl, trivial⟩)), hM1⟩ (Nat.lt_succ_self _)))))
  ·replace hM1 := ifN hM1 hc7
   have hE := Option.some.inj hM1; subst hE
   try dsimp only [H0, I0] at hM0
   refine And.intro (fun hc14 => ?_) (fun hc14 => ?_)
   ·replace hM0 := ifP hM0 hc14
    obtain ⟨q15, gq15, hM0⟩ := f0 hM0
    refine And.intro (R0 gq15 (by first | rw [F2.length fu4, F2.length (show F2 (Rp.u8.R k5) ([[.int .u8 45]] : List (List Value)) [45] from ⟨rfl, trivial⟩)] | exact congrArg (· + 1) (F2.length fu4))) ?_
    obtain ⟨m16, gm16, hM0⟩ := f0 hM0
    obtain rfl : (wu4 ++ ([[.int .u8 45]] : List (List Value))).length = m16 := (F2.length (F2.append fu4 (show F2 (Rp.u8.R k5) ([[.int .u8 45]] : List (List Value)) [45] from ⟨rfl, trivial⟩))).trans (Option.some.inj gm16)
    obtain ⟨q17, gq17, hM0⟩ := f0 hM0
    obtain ⟨X18, hLX18, hM0⟩ := f0 hM0
    refine Exists.intro { vars := [6, 7], boxes := [], owns := [0], fuel := true, kept := [0] } (Exists.intro (fun vs os h' => ∃ (u19 : Int) (u20 : Int) (wu21 : List (List Value)) (u21 : List Int), vs.tail = [.int .i64 u19, .int .i64 u20] ∧ os = [wu21] ∧ Sub k5 h' ∧ D0 u19 ∧ D0 u20 ∧ F2 (Rp.u8.R h') wu21 u21 ∧ G1 (F1 vs) u19 u20 u21 = some X18) (Exists.intro (fun _ _ => 0) ?_))
    refine And.intro (Exists.intro N0 ⟨0, (IntKind.i64.wrap ((((wu4 ++ ([[.int .u8 45]] : List (List Value))).length : Nat) : Int) - 1)), (wu4 ++ ([[.int .u8 45]] : List (List Value))), (u4 ++ [45]), rfl, rfl, (Sub.refl _), (c64 (by decide) (by decide)), (B0 _), (F2.append fu4 (show F2 (Rp.u8.R k5) ([[.int .u8 45]] : List (List Value)) [45] from ⟨rfl, trivial⟩)), hLX18⟩) ?_
    rintro v_0 v_1 wu21 m23 k22 ⟨u19, u20, zzu21, u21, evX18, eoX18, sX18, iu19, iu20, fu21, hM1⟩
    cases evX18
    cases eoX18
    replace hM1 : G1 m23 u19 u20 u21 = some X18 := hM1
    obtain _ | m23 := m23
    ·cases (show (none : Option _) = some X18 from hM1)
    rw [G1.eq_2] at hM1
    refine And.intro (fun hc24 => ?_) (fun hc24 => ?_)
    ·replace hM1 := ifP hM1 hc24
     refine Or.inr (Or.inr (Or.inl (And.intro (And.intro (by kernel_rfl) (by kernel_rfl)) ?_)))
     obtain ⟨x25, gx25, hM1⟩ := f0 hM1
     obtain ⟨bx25, csx25, ex25, rx25⟩ := j5 fu21 gx25
     obtain rfl := rx25
     refine Or.inl ?_
     apply Exists.intro
     refine And.intro ?_ ?_
     ·intro k26 s27
      exact And.intro bx25 (And.intro rfl (And.intro rfl rfl))
     refine Or.inl (Exists.intro (.val (.int .u8 x25)) (And.intro ?_ ?_))
     ·intro k28 s29
      exact Exists.intro _ (And.intro ex25 (And.intro rfl (And.intro rfl rfl)))
     obtain ⟨x30, gx30, hM1⟩ := f0 hM1
     obtain ⟨bx30, csx30, ex30, rx30⟩ := j5 fu21 gx30
     obtain rfl := rx30
     refine Or.inl ?_
     apply Exists.intro
     refine And.intro ?_ ?_
     ·intro k31 s32
      exact And.intro bx30 (And.intro rfl (And.intro rfl rfl))
     refine Or.inl (Exists.intro (.val (.int .u8 x30)) (And.intro ?_ ?_))
     ·intro k33 s34
      exact Exists.intro _ (And.intro ex30 (And.intro rfl (And.intro rfl rfl)))
     refine Or.inr ?_
     refine Or.inr ?_
     refine Or.inr ?_
     refine Or.inr ?_
     refine Or.inl (Exists.intro 0 (And.intro (And.intro rfl rfl) ?_))
     obtain ⟨x35, gx35, hM1⟩ := f0 hM1
     obtain ⟨bx35, csx35, ex35, rx35⟩ := j5 fu21 gx35
     refine And.intro bx35 ?_
     obtain rfl := rx35
     refine And.intro trivial (And.intro (by first | exact trivial | exact rfl) ?_)
     refine Exists.intro _ (And.intro ex35 ?_)
     refine And.intro trivial (And.intro (by first | exact trivial | exact rfl) ?_)
     obtain ⟨x36, gx36, hM1⟩ := f0 hM1
     obtain ⟨bx36, csx36, ex36, rx36⟩ := j5 (F2.set (p := Rp.u8.R k22) (a := [.int .u8 x25]) (b := x25) rfl u19.toNat fu21) gx36
     refine And.intro bx36 ?_
     obtain rfl := rx36
     refine And.intro trivial (And.intro (by first | exact trivial | exact rfl) ?_)
     refine Exists.intro _ (And.intro ex36 ?_)
     refine And.intro trivial (And.intro (by first | exact trivial | exact rfl) ?_)
     refine And.intro rfl (And.intro (by repeat (first | exact trivial | refine And.intro rfl ?_)) (And.intro (by repeat (first | exact trivial | refine And.intro rfl ?_)) (Exists.intro m23 (And.intro ⟨(IntKind.i64.wrap (u19 + 1)), (IntKind.i64.wrap (u20 - 1)), ((wu21.set u19.toNat [.int .u8 x25]).set u20.toNat [.int .u8 x30]), ((u21.set u19.toNat x25).set u20.toNat x30), rfl, rfl, sX18, (B0 _), (B0 _), (F2.set (p := Rp.u8.R k22) (a := [.int .u8 x30]) (b := x30) rfl u20.toNat (F2.set (p := Rp.u8.R k22) (a := [.int .u8 x25]) (b := x25) rfl u19.toNat fu21)), hM1⟩ (Nat.lt_succ_self _)))))
    ·replace hM1 := ifN hM1 hc24
     have hE := Option.some.inj hM1; subst hE
     try dsimp only [H0, I0] at hM0
     refine Exists.intro u21 (And.intro (F2.u8 fu21) ?_)
     obtain ⟨q37, gq37, hM0⟩ := f0 hM0
     have hE := Option.some.inj hM0; subst hE
     exact And.intro rfl (sX2.trans sX18)
   ·replace hM0 := ifN hM0 hc14
    obtain ⟨m43, gm43, hM0⟩ := f0 hM0
    obtain rfl : wu4.length = m43 := (F2.length fu4).trans (Option.some.inj gm43)
    obtain ⟨q44, gq44, hM0⟩ := f0 hM0
    obtain ⟨X45, hLX45, hM0⟩ := f0 hM0
    refine Exists.intro { vars := [6, 7], boxes := [], owns := [0], fuel := true, kept := [0] } (Exists.intro (fun vs os h' => ∃ (u46 : Int) (u47 : Int) (wu48 : List (List Value)) (u48 : List Int), vs.tail = [.int .i64 u46, .int .i64 u47] ∧ os = [wu48] ∧ Sub k5 h' ∧ D0 u46 ∧ D0 u47 ∧ F2 (Rp.u8.R h') wu48 u48 ∧ G1 (F1 vs) u46 u47 u48 = some X45) (Exists.intro (fun _ _ => 0) ?_))
    refine And.intro (Exists.intro N0 ⟨0, (IntKind.i64.wrap (((wu4.length : Nat) : Int) - 1)), wu4, u4, rfl, rfl, (Sub.refl _), (c64 (by decide) (by decide)), (B0 _), fu4, hLX45⟩) ?_
    rintro v_0 v_1 wu48 m50 k49 ⟨u46, u47, zzu48, u48, evX45, eoX45, sX45, iu46, iu47, fu48, hM1⟩
    cases evX45
    cases eoX45
    replace hM1 : G1 m50 u46 u47 u48 = some X45 := hM1
    obtain _ | m50 := m50
    ·cases (show (none : Option _) = some X45 from hM1)
    rw [G1.eq_2] at hM1
    refine And.intro (fun hc51 => ?_) (fun hc51 => ?_)
    ·replace hM1 := ifP hM1 hc51
     refine Or.inr (Or.inr (Or.inl (And.intro (And.intro (by kernel_rfl) (by kernel_rfl)) ?_)))
     obtain ⟨x52, gx52, hM1⟩ := f0 hM1
     obtain ⟨bx52, csx52, ex52, rx52⟩ := j5 fu48 gx52
     obtain rfl := rx52
     refine Or.inl ?_
     apply Exists.intro
     refine And.intro ?_ ?_
     ·intro k53 s54
      exact And.intro bx52 (And.intro rfl (And.intro rfl rfl))
     refine Or.inl (Exists.intro (.val (.int .u8 x52)) (And.intro ?_ ?_))
     ·intro k55 s56
      exact Exists.intro _ (And.intro ex52 (And.intro rfl (And.intro rfl rfl)))
     obtain ⟨x57, gx57, hM1⟩ := f0 hM1
     obtain ⟨bx57, csx57, ex57, rx57⟩ := j5 fu48 gx57
     obtain rfl := rx57
     refine Or.inl ?_
     apply Exists.intro
     refine And.intro ?_ ?_
     ·intro k58 s59
      exact And.intro bx57 (And.intro rfl (And.intro rfl rfl))
     refine Or.inl (Exists.intro (.val (.int .u8 x57)) (And.intro ?_ ?_))
     ·intro k60 s61
      exact Exists.intro _ (And.intro ex57 (And.intro rfl (And.intro rfl rfl)))
     refine Or.inr ?_
     refine Or.inr ?_
     refine Or.inr ?_
     refine Or.inr ?_
     refine Or.inl (Exists.intro 0 (And.intro (And.intro rfl rfl) ?_))
     obtain ⟨x62, gx62, hM1⟩ := f0 hM1
     obtain ⟨bx62, csx62, ex62, rx62⟩ := j5 fu48 gx62
     refine And.intro bx62 ?_
     obtain rfl := rx62
     refine And.intro trivial (And.intro (by first | exact trivial | exact rfl) ?_)
     refine Exists.intro _ (And.intro ex62 ?_)
     refine And.intro trivial (And.intro (by first | exact trivial | exact rfl) ?_)
     obtain ⟨x63, gx63, hM1⟩ := f0 hM1
     obtain ⟨bx63, csx63, ex63, rx63⟩ := j5 (F2.set (p := Rp.u8.R k49) (a := [.int .u8 x52]) (b := x52) rfl u46.toNat fu48) gx63
     refine And.intro bx63 ?_
     obtain rfl := rx63
     refine And.intro trivial (And.intro (by first | exact trivial | exact rfl) ?_)
     refine Exists.intro _ (And.intro ex63 ?_)
     refine And.intro trivial (And.intro (by first | exact trivial | exact rfl) ?_)
     refine And.intro rfl (And.intro (by repeat (first | exact trivial | refine And.intro rfl ?_)) (And.intro (by repeat (first | exact trivial | refine And.intro rfl ?_)) (Exists.intro m50 (And.intro ⟨(IntKind.i64.wrap (u46 + 1)), (IntKind.i64.wrap (u47 - 1)), ((wu48.set u46.toNat [.int .u8 x52]).set u47.toNat [.int .u8 x57]), ((u48.set u46.toNat x52).set u47.toNat x57), rfl, rfl, sX45, (B0 _), (B0 _), (F2.set (p := Rp.u8.R k49) (a := [.int .u8 x57]) (b := x57) rfl u47.toNat (F2.set (p := Rp.u8.R k49) (a := [.int .u8 x52]) (b := x52) rfl u46.toNat fu48)), hM1⟩ (Nat.lt_succ_self _)))))
    ·replace hM1 := ifN hM1 hc51
     have hE := Option.some.inj hM1; subst hE
     try dsimp only [H0, I0] at hM0
     refine Exists.intro u48 (And.intro (F2.u8 fu48) ?_)
     obtain ⟨q64, gq64, hM0⟩ := f0 hM0
     have hE := Option.some.inj hM0; subst hE
     exact And.intro rfl (sX2.trans sX45)
theorem T04 (h : Hp) (p0 : Int) (ip0 : D0 p0) (r : ByteArray) (hM0 : J6 p0 = some r) :
  Tr Try.prog 47 #[.int .i64 p0] h fun v h' => v = .string r ∧ h' = h := by
 unfold J6 at hM0
 refine Tr.forget (S2 (args := [.int .i64 p0]) (fn := Try.f47) rfl ?_)
 obtain ⟨x1, gx1, hM0⟩ := f0 hM0
 refine Tr.val (U3 _ p0 ip0 1 (c64 (by decide) (by decide)) 3 (c64 (by decide) (by decide)) _  gx1) ?_
 refine And.intro (fun hc2 => ?_) (fun hc2 => ?_)
 ·replace hM0 := ifP hM0 hc2
  obtain ⟨q3, gq3, hM0⟩ := f0 hM0
  refine And.intro (l0 gq3) ?_
  have hE := Option.some.inj hM0; subst hE
  exact And.intro rfl (Sub.refl _)
 ·replace hM0 := ifN hM0 hc2
  obtain ⟨x4, gx4, hM0⟩ := f0 hM0
  refine Tr.val (U3 _ p0 ip0 (-3) (c64 (by decide) (by decide)) (-1) (c64 (by decide) (by decide)) _  gx4) ?_
  refine And.intro (fun hc5 => ?_) (fun hc5 => ?_)
  ·replace hM0 := ifP hM0 hc5
   obtain ⟨q6, gq6, hM0⟩ := f0 hM0
   refine And.intro (l0 gq6) ?_
   have hE := Option.some.inj hM0; subst hE
   exact And.intro rfl (Sub.refl _)
  ·replace hM0 := ifN hM0 hc5
   have hE := Option.some.inj hM0; subst hE
   exact And.intro rfl (Sub.refl _)
theorem z7 (h : Hp) (ap0 : Option Addr) (np0 cp0 : Nat) (p0 : i0) (rp0 : j0.R h [.slice ap0 np0 cp0] p0) (r : ByteArray) (hM0 : N1 p0 = some r) :
  Tr Try.prog 21 #[.slice ap0 np0 cp0] h fun v h' => v = .string r ∧ h' = h := by
 obtain ⟨rfl, lp0⟩ := Sl.len rp0
 unfold N1 at hM0
 refine Tr.forget (S2 (args := [.slice ap0 p0.length cp0]) (fn := Try.f21) rfl ?_)
 refine And.intro (fun hc1 => ?_) (fun hc1 => ?_)
 ·replace hM0 := ifP hM0 hc1
  have hE := Option.some.inj hM0; subst hE
  exact And.intro rfl (Sub.refl _)
 ·replace hM0 := ifN hM0 hc1
  obtain ⟨X2, hLX2, hM0⟩ := f0 hM0
  refine Exists.intro { vars := [3, 12], boxes := [], owns := [], fuel := true } (Exists.intro (fun vs os h' => ∃ (u3 : ByteArray) (u4 : Int), vs.tail = [.string u3, .int .i64 u4] ∧ os = [] ∧ Sub h h' ∧ u3.size ≤ 9223372036854775807 ∧ D0 u4 ∧ Q2 p0 (F1 vs) u3 u4 = some X2) (Exists.intro (fun _ _ => 0) ?_))
  refine And.intro (Exists.intro N0 ⟨(⟨#[]⟩ : ByteArray), 0, rfl, rfl, (Sub.refl _), (by decide), (c64 (by decide) (by decide)), hLX2⟩) ?_
  rintro v_0 v_1 m6 k5 ⟨u3, u4, evX2, eoX2, sX2, iu3, iu4, hM1⟩
  cases evX2
  cases eoX2
  replace hM1 : Q2 p0 m6 u3 u4 = some X2 := hM1
  obtain _ | m6 := m6
  ·cases (show (none : Option _) = some X2 from hM1)
  rw [Q2.eq_2] at hM1
  refine And.intro (fun hc7 => ?_) (fun hc7 => ?_)
  ·replace hM1 := ifP hM1 hc7
   obtain ⟨x8, gx8, hM1⟩ := f0 hM1
   obtain ⟨bx8, csx8, ex8, rx8⟩ := Sl.getI (r := Wp.int.toRp) (j0.mono sX2 rp0) gx8 (by decide)
   refine And.intro bx8 ?_
   obtain ⟨rfl, ix8⟩ := rx8
   refine Exists.intro _ (And.intro ex8 ?_)
   obtain ⟨x9, gx9, hM1⟩ := f0 hM1
   refine Tr.val (T04 _ x8 ix8 _  gx9) ?_
   obtain ⟨q10, gq10, hM1⟩ := f0 hM1
   have ix9 : x9.size ≤ 9223372036854775807 := l0 gq10
   refine And.intro (fun hc11 => ?_) (fun hc11 => ?_)
   ·replace hM1 := ifP hM1 hc11
    have hE := Option.some.inj hM1; subst hE
    try dsimp only [D4, E4] at hM0
    have hE := Option.some.inj hM0; subst hE
    exact And.intro rfl sX2
   ·replace hM1 := ifN hM1 hc11
    obtain ⟨q12, gq12, hM1⟩ := f0 hM1
    have jq12 := l0 gq12
    refine And.intro jq12 ?_
    refine And.intro rfl (And.intro (by repeat (first | exact trivial | refine And.intro rfl ?_)) (And.intro (by repeat (first | exact trivial | refine And.intro rfl ?_)) (Exists.intro m6 (And.intro ⟨(u3 ++ x9), (IntKind.i64.wrap (u4 + 1)), rfl, rfl, sX2, (J02 jq12), (B0 _), hM1⟩ (Nat.lt_succ_self _)))))
  ·replace hM1 := ifN hM1 hc7
   have hE := Option.some.inj hM1; subst hE
   try dsimp only [H0, I0] at hM0
   have hE := Option.some.inj hM0; subst hE
   exact And.intro rfl sX2
theorem j09 (h : Hp) (ap0 : Option Addr) (np0 cp0 : Nat) (p0 : (List ByteArray)) (rp0 : (Wp.slice Wp.str).R h [.slice ap0 np0 cp0] p0) (p1 : ByteArray) (ip1 : p1.size ≤ 9223372036854775807) (p2 : ByteArray) (ip2 : p2.size ≤ 9223372036854775807) (r : ByteArray) (hM0 : R8 p0 p1 p2 = some r) :
  Tr Try.prog 46 #[.slice ap0 np0 cp0, .string p1, .string p2] h fun v h' => v = .string r ∧ h' = h := by
 obtain ⟨rfl, lp0⟩ := Sl.len rp0
 unfold R8 at hM0
 refine Tr.forget (S2 (args := [.slice ap0 p0.length cp0, .string p1, .string p2]) (fn := Try.f46) rfl ?_)
 refine And.intro (fun hc1 => ?_) (fun hc1 => ?_)
 ·replace hM0 := ifP hM0 hc1
  have hE := Option.some.inj hM0; subst hE
  exact And.intro rfl (Sub.refl _)
 ·replace hM0 := ifN hM0 hc1
  obtain ⟨x2, gx2, hM0⟩ := f0 hM0
  obtain ⟨bx2, csx2, ex2, rx2⟩ := Sl.getI (r := Wp.str.toRp) rp0 gx2 (by decide)
  refine And.intro bx2 ?_
  obtain ⟨rfl, ix2⟩ := rx2
  refine Exists.intro _ (And.intro ex2 ?_)
  obtain ⟨x3, gx3, hM0⟩ := f0 hM0
  obtain ⟨qx3, vsx3, ex3, fx3⟩ := Sl.cutI (r := Wp.str.toRp) rp0 gx3
  refine And.intro qx3 (Exists.intro vsx3 (And.intro ex3 ?_))
  intro vx3 hvx3 _
  obtain ⟨ax3, cx3, rfl, rx3⟩ := fx3 vx3 hvx3
  have lx3 := (Sl.len rx3).2
  obtain ⟨X4, hLX4, hM0⟩ := f0 hM0
  refine Exists.intro { vars := [7, 20], boxes := [], owns := [], fuel := true } (Exists.intro (fun vs os h' => ∃ (u5 : ByteArray) (u6 : Int), vs.tail = [.string u5, .int .i64 u6] ∧ os = [] ∧ Sub h h' ∧ u5.size ≤ 9223372036854775807 ∧ D0 u6 ∧ H5 x3 p1 (F1 vs) u5 u6 = some X4) (Exists.intro (fun _ _ => 0) ?_))
  refine And.intro (Exists.intro N0 ⟨x2, 0, rfl, rfl, (Sub.refl _), ix2, (c64 (by decide) (by decide)), hLX4⟩) ?_
  rintro v_0 v_1 m8 k7 ⟨u5, u6, evX4, eoX4, sX4, iu5, iu6, hM1⟩
  cases evX4
  cases eoX4
  replace hM1 : H5 x3 p1 m8 u5 u6 = some X4 := hM1
  obtain _ | m8 := m8
  ·cases (show (none : Option _) = some X4 from hM1)
  rw [H5.eq_2] at hM1
  refine And.intro (fun hc9 => ?_) (fun hc9 => ?_)
  ·replace hM1 := ifP hM1 hc9
   obtain ⟨x10, gx10, hM1⟩ := f0 hM1
   obtain ⟨bx10, csx10, ex10, rx10⟩ := Sl.getI (r := Wp.str.toRp) ((Wp.slice Wp.str).mono sX4 rx3) gx10 (by decide)
   refine And.intro bx10 ?_
   obtain ⟨rfl, ix10⟩ := rx10
   refine Exists.intro _ (And.intro ex10 ?_)
   obtain ⟨q11, gq11, hM1⟩ := f0 hM1
   have jq11 := l0 gq11
   refine And.intro jq11 ?_
   obtain ⟨q12, gq12, hM1⟩ := f0 hM1
   have jq12 := l0 gq12
   refine And.intro jq12 ?_
   refine And.intro rfl (And.intro (by repeat (first | exact trivial | refine And.intro rfl ?_)) (And.intro (by repeat (first | exact trivial | refine And.intro rfl ?_)) (Exists.intro m8 (And.intro ⟨((u5 ++ p1) ++ x10), (IntKind.i64.wrap (u6 + 1)), rfl, rfl, sX4, (J02 jq12), (B0 _), hM1⟩ (Nat.lt_succ_self _)))))
  ·replace hM1 := ifN hM1 hc9
   have hE := Option.some.inj hM1; subst hE
   try dsimp only [H0, I0] at hM0
   have hE := Option.some.inj hM0; subst hE
   exact And.intro rfl sX4
end Go.Proofs.Ytknoadmdnjaocaa
namespace Go.Proofs.Ytknoadmdnjaocaa
open Go.H
set_option linter.unusedVariables false
set_option linter.unusedSimpArgs false
set_option maxRecDepth 10000
theorem E03 (h : Hp) (p0 : Bool) (p1 : ByteArray) (ip1 : p1.size ≤ 9223372036854775807) (r : ByteArray) (hM0 : n7 p0 p1 = some r) :
  Tr Try.prog 14 #[.bool p0, .string p1] h fun v h' => v = .string r ∧ h' = h := by
 unfold n7 at hM0
 refine Tr.forget (S2 (args := [.bool p0, .string p1]) (fn := Try.f14) rfl ?_)
 refine And.intro (fun hc1 => ?_) (fun hc1 => ?_)
 ·replace hM0 := ifP hM0 hc1
  have hE := Option.some.inj hM0; subst hE
  exact And.intro rfl (Sub.refl _)
 ·replace hM0 := ifN hM0 hc1
  have hE := Option.some.inj hM0; subst hE
  exact And.intro rfl (Sub.refl _)
end Go.Proofs.Ytknoadmdnjaocaa
namespace Go.Proofs.Ytknoadmdnjaocaa
open Go.H
set_option linter.unusedVariables false
set_option linter.unusedSimpArgs false
set_option maxRecDepth 10000
theorem R00 (h : Hp) (ap0 : Option Addr) (np0 cp0 : Nat) (p0 : i0) (rp0 : j0.R h [.slice ap0 np0 cp0] p0) (r : i0) (hM0 : G4 p0 = some r) :
  Tr Try.prog 31 #[.slice ap0 np0 cp0] h fun v h' => ∃ (a0 : Option Addr) (n0 c0 : Nat), v = .slice a0 n0 c0 ∧ j0.R h' [.slice a0 n0 c0] r ∧ Sub h h' := by
 obtain ⟨rfl, lp0⟩ := Sl.len rp0
 unfold G4 at hM0
 refine S2 (args := [.slice ap0 p0.length cp0]) (fn := Try.f31) rfl ?_
 obtain ⟨X1, hLX1, hM0⟩ := f0 hM0
 refine Exists.intro { vars := [4], boxes := [], owns := [0], fuel := true } (Exists.intro (fun vs os h' => ∃ (u2 : Int) (wu3 : List (List Value)) (u3 : List Int), vs.tail = [.int .i64 u2] ∧ os = [wu3] ∧ Sub h h' ∧ D0 u2 ∧ F2 (Wp.int.R h') wu3 u3 ∧ P1 p0 (F1 vs) u2 u3 = some X1) (Exists.intro (fun _ _ => 0) ?_))
 refine And.intro (Exists.intro N0 ⟨(IntKind.i64.wrap (((p0.length : Nat) : Int) - 1)), [], ([] : i0), rfl, rfl, (Sub.refl _), (B0 _), (show F2 (Wp.int.R h) ([] : List (List Value)) ([] : i0) from trivial), hLX1⟩) ?_
 rintro v_0 wu3 m5 k4 ⟨u2, zzu3, u3, evX1, eoX1, sX1, iu2, fu3, hM1⟩
 cases evX1
 cases eoX1
 replace hM1 : P1 p0 m5 u2 u3 = some X1 := hM1
 obtain _ | m5 := m5
 ·cases (show (none : Option _) = some X1 from hM1)
 rw [P1.eq_2] at hM1
 refine And.intro (fun hc6 => ?_) (fun hc6 => ?_)
 ·replace hM1 := ifP hM1 hc6
  obtain ⟨x7, gx7, hM1⟩ := f0 hM1
  obtain ⟨bx7, csx7, ex7, rx7⟩ := Sl.getI (r := Wp.int.toRp) (j0.mono sX1 rp0) gx7 (by decide)
  refine And.intro bx7 ?_
  obtain ⟨rfl, ix7⟩ := rx7
  refine Exists.intro _ (And.intro ex7 ?_)
  obtain ⟨q8, gq8, hM1⟩ := f0 hM1
  refine And.intro (R0 gq8 (by first | rw [F2.length fu3, F2.length (show F2 (Wp.int.R k4) ([[.int .i64 (IntKind.i64.wrap (0 - x7))]] : List (List Value)) [(IntKind.i64.wrap (0 - x7))] from ⟨⟨rfl, (B0 _)⟩, trivial⟩)] | exact congrArg (· + 1) (F2.length fu3))) ?_
  refine And.intro rfl (And.intro (by repeat (first | exact trivial | refine And.intro rfl ?_)) (And.intro (by repeat (first | exact trivial | refine And.intro rfl ?_)) (Exists.intro m5 (And.intro ⟨(IntKind.i64.wrap (u2 - 1)), (wu3 ++ ([[.int .i64 (IntKind.i64.wrap (0 - x7))]] : List (List Value))), (u3 ++ [(IntKind.i64.wrap (0 - x7))]), rfl, rfl, sX1, (B0 _), (F2.append fu3 (show F2 (Wp.int.R k4) ([[.int .i64 (IntKind.i64.wrap (0 - x7))]] : List (List Value)) [(IntKind.i64.wrap (0 - x7))] from ⟨⟨rfl, (B0 _)⟩, trivial⟩)), hM1⟩ (Nat.lt_succ_self _)))))
 ·replace hM1 := ifN hM1 hc6
  have hE := Option.some.inj hM1; subst hE
  try dsimp only [H0, I0] at hM0
  intro v9 k10 f11
  obtain ⟨az12, cz12, rfl, rz12, sz12, lz12⟩ := O0.out (r := Wp.int.toRp) f11 fu3
  have hE := Option.some.inj hM0; subst hE
  exact ⟨az12, u3.length, cz12, rfl, rz12, (sX1.trans sz12)⟩
theorem N7 (h : Hp) (ap0 : Option Addr) (np0 cp0 : Nat) (p0 : i0) (rp0 : j0.R h [.slice ap0 np0 cp0] p0) (r : i0) (hM0 : j3 p0 = some r) :
  Tr Try.prog 27 #[.slice ap0 np0 cp0] h fun v h' => ∃ (a0 : Option Addr) (n0 c0 : Nat), v = .slice a0 n0 c0 ∧ j0.R h' [.slice a0 n0 c0] r ∧ Sub h h' := by
 obtain ⟨rfl, lp0⟩ := Sl.len rp0
 unfold j3 at hM0
 refine S2 (args := [.slice ap0 p0.length cp0]) (fn := Try.f27) rfl ?_
 obtain ⟨X1, hLX1, hM0⟩ := f0 hM0
 refine Exists.intro { vars := [4], boxes := [], owns := [0], fuel := true } (Exists.intro (fun vs os h' => ∃ (u2 : Int) (wu3 : List (List Value)) (u3 : List Int), vs.tail = [.int .i64 u2] ∧ os = [wu3] ∧ Sub h h' ∧ D0 u2 ∧ F2 (Wp.int.R h') wu3 u3 ∧ I1 p0 (F1 vs) u2 u3 = some X1) (Exists.intro (fun _ _ => 0) ?_))
 refine And.intro (Exists.intro N0 ⟨0, [], ([] : i0), rfl, rfl, (Sub.refl _), (c64 (by decide) (by decide)), (show F2 (Wp.int.R h) ([] : List (List Value)) ([] : i0) from trivial), hLX1⟩) ?_
 rintro v_0 wu3 m5 k4 ⟨u2, zzu3, u3, evX1, eoX1, sX1, iu2, fu3, hM1⟩
 cases evX1
 cases eoX1
 replace hM1 : I1 p0 m5 u2 u3 = some X1 := hM1
 obtain _ | m5 := m5
 ·cases (show (none : Option _) = some X1 from hM1)
 rw [I1.eq_2] at hM1
 refine And.intro (fun hc6 => ?_) (fun hc6 => ?_)
 ·replace hM1 := ifP hM1 hc6
  obtain ⟨m7, gm7, hM1⟩ := f0 hM1
  obtain rfl : wu3.length = m7 := (F2.length fu3).trans (Option.some.inj gm7)
  obtain ⟨q8, gq8, hM1⟩ := f0 hM1
  refine Or.inl (And.intro (And.intro (by kernel_rfl) (by kernel_rfl)) ?_)
  obtain ⟨x9, gx9, hM1⟩ := f0 hM1
  obtain ⟨csx9, ex9, rx9⟩ := Sl.getG (r := Wp.int.toRp) (j0.mono sX1 rp0) gx9 (by decide) (d8 k4)
  refine And.intro (fun q => (ex9 q).1) ?_
  obtain ⟨rfl, ix9⟩ := rx9
  refine Exists.intro _ (And.intro (fun q => (ex9 q).2) ?_)
  obtain ⟨x10, gx10, hM1⟩ := f0 hM1
  obtain ⟨csx10, ex10, rx10⟩ := T06 fu3 gx10 (d8 k4)
  refine And.intro (fun q => (ex10 q).1) ?_
  obtain ⟨rfl, ix10⟩ := rx10
  refine Exists.intro _ (And.intro (fun q => (ex10 q).2) ?_)
  obtain ⟨x11, gx11, hM1⟩ := f0 hM1
  obtain ⟨csx11, ex11, rx11⟩ := Sl.getG (r := Wp.int.toRp) (j0.mono sX1 rp0) gx11 (by decide) (d8 k4)
  refine And.intro (fun q => (ex11 q).1) ?_
  obtain ⟨rfl, ix11⟩ := rx11
  refine Exists.intro _ (And.intro (fun q => (ex11 q).2) ?_)
  obtain ⟨x12, gx12, hM1⟩ := f0 hM1
  obtain ⟨csx12, ex12, rx12⟩ := T06 fu3 gx12 (d8 k4)
  refine And.intro (fun q => (ex12 q).1) ?_
  obtain ⟨rfl, ix12⟩ := rx12
  refine Exists.intro _ (And.intro (fun q => (ex12 q).2) ?_)
  obtain ⟨x13, gx13, hM1⟩ := f0 hM1
  obtain ⟨csx13, ex13, rx13⟩ := Sl.getG (r := Wp.int.toRp) (j0.mono sX1 rp0) gx13 (by decide) (d8 k4)
  refine And.intro (fun q => (ex13 q).1) ?_
  obtain ⟨rfl, ix13⟩ := rx13
  refine Exists.intro _ (And.intro (fun q => (ex13 q).2) ?_)
  refine And.intro (fun hc14 => ?_) (fun hc14 => ?_)
  ·replace hM1 := ifP hM1 hc14
   obtain ⟨q15, gq15, hM1⟩ := f0 hM1
   refine And.intro (by have := l0 gq15; have := F2.length fu3; omega) ?_
   refine And.intro rfl (And.intro (by repeat (first | exact trivial | refine And.intro rfl ?_)) (And.intro (by repeat (first | exact trivial | refine And.intro rfl ?_)) (Exists.intro m5 (And.intro ⟨(IntKind.i64.wrap (u2 + 1)), (wu3.take (IntKind.i64.wrap (((wu3.length : Nat) : Int) - 1)).toNat), (u3.take (IntKind.i64.wrap (((wu3.length : Nat) : Int) - 1)).toNat), rfl, rfl, sX1, (B0 _), (F2.take (IntKind.i64.wrap (((wu3.length : Nat) : Int) - 1)).toNat fu3), hM1⟩ (Nat.lt_succ_self _)))))
  ·replace hM1 := ifN hM1 hc14
   obtain ⟨x16, gx16, hM1⟩ := f0 hM1
   obtain ⟨bx16, csx16, ex16, rx16⟩ := Sl.getI (r := Wp.int.toRp) (j0.mono sX1 rp0) gx16 (by decide)
   refine And.intro bx16 ?_
   obtain ⟨rfl, ix16⟩ := rx16
   refine Exists.intro _ (And.intro ex16 ?_)
   obtain ⟨q17, gq17, hM1⟩ := f0 hM1
   refine And.intro (R0 gq17 (by first | rw [F2.length fu3, F2.length (show F2 (Wp.int.R k4) ([[.int .i64 x16]] : List (List Value)) [x16] from ⟨⟨rfl, ix16⟩, trivial⟩)] | exact congrArg (· + 1) (F2.length fu3))) ?_
   refine And.intro rfl (And.intro (by repeat (first | exact trivial | refine And.intro rfl ?_)) (And.intro (by repeat (first | exact trivial | refine And.intro rfl ?_)) (Exists.intro m5 (And.intro ⟨(IntKind.i64.wrap (u2 + 1)), (wu3 ++ ([[.int .i64 x16]] : List (List Value))), (u3 ++ [x16]), rfl, rfl, sX1, (B0 _), (F2.append fu3 (show F2 (Wp.int.R k4) ([[.int .i64 x16]] : List (List Value)) [x16] from ⟨⟨rfl, ix16⟩, trivial⟩)), hM1⟩ (Nat.lt_succ_self _)))))
 ·replace hM1 := ifN hM1 hc6
  have hE := Option.some.inj hM1; subst hE
  try dsimp only [H0, I0] at hM0
  obtain ⟨q18, gq18, hM0⟩ := f0 hM0
  refine And.intro (R0 gq18 (by first | rw [F2.length (show F2 (Wp.int.R k4) ([] : List (List Value)) ([] : i0) from trivial), F2.length fu3] | exact congrArg (· + 0) (F2.length (show F2 (Wp.int.R k4) ([] : List (List Value)) ([] : i0) from trivial)))) ?_
  intro v19 k20 f21
  obtain ⟨az22, cz22, rfl, rz22, sz22, lz22⟩ := O0.out (r := Wp.int.toRp) f21 (F2.append (show F2 (Wp.int.R k4) ([] : List (List Value)) ([] : i0) from trivial) fu3)
  have hE := Option.some.inj hM0; subst hE
  exact ⟨az22, ((([] : i0) ++ u3)).length, cz22, rfl, rz22, (sX1.trans sz22)⟩
theorem O9 (h : Hp) (ap0 : Option Addr) (np0 cp0 : Nat) (p0 : i0) (rp0 : j0.R h [.slice ap0 np0 cp0] p0) (ap1 : Option Addr) (np1 cp1 : Nat) (p1 : i0) (rp1 : j0.R h [.slice ap1 np1 cp1] p1) (r : i0) (hM0 : Z3 p0 p1 = some r) :
  Tr Try.prog 30 #[.slice ap0 np0 cp0, .slice ap1 np1 cp1] h fun v h' => ∃ (a0 : Option Addr) (n0 c0 : Nat), v = .slice a0 n0 c0 ∧ j0.R h' [.slice a0 n0 c0] r ∧ Sub h h' := by
 obtain ⟨rfl, lp0⟩ := Sl.len rp0
 obtain ⟨rfl, lp1⟩ := Sl.len rp1
 unfold Z3 at hM0
 refine S2 (args := [.slice ap0 p0.length cp0, .slice ap1 p1.length cp1]) (fn := Try.f30) rfl ?_
 obtain ⟨vsy1, ey1, fy1⟩ := Sl.rows (r := Wp.int.toRp) rp0
 refine Exists.intro vsy1 (And.intro ey1 ?_)
 obtain ⟨q2, gq2, hM0⟩ := f0 hM0
 refine And.intro (R0 gq2 (by first | rw [F2.length (show F2 (Wp.int.R h) ([] : List (List Value)) ([] : i0) from trivial), F2.length fy1] | exact congrArg (· + 1) (F2.length (show F2 (Wp.int.R h) ([] : List (List Value)) ([] : i0) from trivial)))) ?_
 obtain ⟨vsy3, ey3, fy3⟩ := Sl.rows (r := Wp.int.toRp) rp1
 refine Exists.intro vsy3 (And.intro ey3 ?_)
 obtain ⟨q4, gq4, hM0⟩ := f0 hM0
 refine And.intro (R0 gq4 (by first | rw [F2.length (F2.append (show F2 (Wp.int.R h) ([] : List (List Value)) ([] : i0) from trivial) fy1), F2.length fy3] | exact congrArg (· + 1) (F2.length (F2.append (show F2 (Wp.int.R h) ([] : List (List Value)) ([] : i0) from trivial) fy1)))) ?_
 refine Or.inl ?_
 intro v5 k6 f7
 obtain ⟨az8, cz8, rfl, rz8, sz8, lz8⟩ := O0.out (r := Wp.int.toRp) f7 (F2.append (F2.append (show F2 (Wp.int.R h) ([] : List (List Value)) ([] : i0) from trivial) fy1) fy3)
 obtain ⟨x9, gx9, hM0⟩ := f0 hM0
 refine Tr.mono (N7 _ az8 (((([] : i0) ++ p0) ++ p1)).length cz8 ((([] : i0) ++ p0) ++ p1) rz8 _  gx9) ?_
 rintro v11 k10 ⟨ax9, nx9, cx9, rfl, rx9, sx9⟩
 obtain ⟨rfl, lx9⟩ := Sl.len rx9
 have hE := Option.some.inj hM0; subst hE
 exact ⟨ax9, x9.length, cx9, rfl, rx9, (sz8.trans sx9)⟩
theorem S00 (h : Hp) (ap0 : Option Addr) (np0 cp0 : Nat) (p0 : i0) (rp0 : j0.R h [.slice ap0 np0 cp0] p0) (r : i0) (hM0 : I5 p0 = some r) :
  Tr Try.prog 45 #[.slice ap0 np0 cp0] h fun v h' => ∃ (a0 : Option Addr) (n0 c0 : Nat), v = .slice a0 n0 c0 ∧ New j0 h h' [.slice a0 n0 c0] r := by
 obtain ⟨rfl, lp0⟩ := Sl.len rp0
 unfold I5 at hM0
 refine S2 (args := [.slice ap0 p0.length cp0]) (fn := Try.f45) rfl ?_
 obtain ⟨q1, gq1, hM0⟩ := f0 hM0
 refine And.intro (l0 gq1) ?_
 obtain ⟨X2, hLX2, hM0⟩ := f0 hM0
 refine Exists.intro { vars := [4], boxes := [], owns := [0], fuel := true } (Exists.intro (fun vs os h' => ∃ (u3 : Int) (wu4 : List (List Value)) (u4 : List Int), vs.tail = [.int .i64 u3] ∧ os = [wu4] ∧ Sub h h' ∧ D0 u3 ∧ F2 (Wp.int.R h') wu4 u4 ∧ C3 p0 (F1 vs) u3 u4 = some X2) (Exists.intro (fun _ _ => 0) ?_))
 refine And.intro (Exists.intro N0 ⟨(IntKind.i64.wrap (((p0.length : Nat) : Int) - 1)), (List.replicate (0 : Int).toNat ([.int .i64 0] : List Value)), (List.replicate (0 : Int).toNat (0 : Int)), rfl, rfl, (Sub.refl _), (B0 _), (F2.rep (p := Wp.int.R h) (a := [.int .i64 0]) (b := 0) ⟨rfl, (c64 (by decide) (by decide))⟩ ((0 : Int).toNat)), hLX2⟩) ?_
 rintro v_0 wu4 m6 k5 ⟨u3, zzu4, u4, evX2, eoX2, sX2, iu3, fu4, hM1⟩
 cases evX2
 cases eoX2
 replace hM1 : C3 p0 m6 u3 u4 = some X2 := hM1
 obtain _ | m6 := m6
 ·cases (show (none : Option _) = some X2 from hM1)
 rw [C3.eq_2] at hM1
 refine And.intro (fun hc7 => ?_) (fun hc7 => ?_)
 ·replace hM1 := ifP hM1 hc7
  obtain ⟨x8, gx8, hM1⟩ := f0 hM1
  obtain ⟨bx8, csx8, ex8, rx8⟩ := Sl.getI (r := Wp.int.toRp) (j0.mono sX2 rp0) gx8 (by decide)
  refine And.intro bx8 ?_
  obtain ⟨rfl, ix8⟩ := rx8
  refine Exists.intro _ (And.intro ex8 ?_)
  obtain ⟨q9, gq9, hM1⟩ := f0 hM1
  refine And.intro (R0 gq9 (by first | rw [F2.length fu4, F2.length (show F2 (Wp.int.R k5) ([[.int .i64 (IntKind.i64.wrap (0 - x8))]] : List (List Value)) [(IntKind.i64.wrap (0 - x8))] from ⟨⟨rfl, (B0 _)⟩, trivial⟩)] | exact congrArg (· + 1) (F2.length fu4))) ?_
  refine And.intro rfl (And.intro (by repeat (first | exact trivial | refine And.intro rfl ?_)) (And.intro (by repeat (first | exact trivial | refine And.intro rfl ?_)) (Exists.intro m6 (And.intro ⟨(IntKind.i64.wrap (u3 - 1)), (wu4 ++ ([[.int .i64 (IntKind.i64.wrap (0 - x8))]] : List (List Value))), (u4 ++ [(IntKind.i64.wrap (0 - x8))]), rfl, rfl, sX2, (B0 _), (F2.append fu4 (show F2 (Wp.int.R k5) ([[.int .i64 (IntKind.i64.wrap (0 - x8))]] : List (List Value)) [(IntKind.i64.wrap (0 - x8))] from ⟨⟨rfl, (B0 _)⟩, trivial⟩)), hM1⟩ (Nat.lt_succ_self _)))))
 ·replace hM1 := ifN hM1 hc7
  have hE := Option.some.inj hM1; subst hE
  try dsimp only [H0, I0] at hM0
  intro v10 k11 f12
  obtain ⟨az13, cz13, rfl, rz13, sz13, lz13⟩ := O0.out (r := Wp.int.toRp) f12 fu4
  have hE := Option.some.inj hM0; subst hE
  exact ⟨az13, u4.length, cz13, rfl, (New.from (O0.newPlain (r := Wp.int) f12 fu4 (e0a _)) sX2)⟩
theorem A00 (h : Hp) (ap0 : Option Addr) (np0 cp0 : Nat) (p0 : Q6) (rp0 : h9.R h [.slice ap0 np0 cp0] p0) (r : i0) (hM0 : l6 p0 = some r) :
  Tr Try.prog 44 #[.slice ap0 np0 cp0] h fun v h' => ∃ (a0 : Option Addr) (n0 c0 : Nat), v = .slice a0 n0 c0 ∧ New j0 h h' [.slice a0 n0 c0] r := by
 obtain ⟨rfl, lp0⟩ := Sl.len rp0
 unfold l6 at hM0
 refine S2 (args := [.slice ap0 p0.length cp0]) (fn := Try.f44) rfl ?_
 obtain ⟨X1, hLX1, hM0⟩ := f0 hM0
 refine Exists.intro { vars := [11], boxes := [], owns := [0], fuel := true } (Exists.intro (fun vs os h' => ∃ (u2 : Int) (wu3 : List (List Value)) (u3 : List Int), vs.tail = [.int .i64 u2] ∧ os = [wu3] ∧ Sub h h' ∧ D0 u2 ∧ F2 (Wp.int.R h') wu3 u3 ∧ c4 p0 (F1 vs) u2 u3 = some X1) (Exists.intro (fun _ _ => 0) ?_))
 refine And.intro (Exists.intro N0 ⟨0, [], ([] : i0), rfl, rfl, (Sub.refl _), (c64 (by decide) (by decide)), (show F2 (Wp.int.R h) ([] : List (List Value)) ([] : i0) from trivial), hLX1⟩) ?_
 rintro v_0 wu3 m5 k4 ⟨u2, zzu3, u3, evX1, eoX1, sX1, iu2, fu3, hM1⟩
 cases evX1
 cases eoX1
 replace hM1 : c4 p0 m5 u2 u3 = some X1 := hM1
 obtain _ | m5 := m5
 ·cases (show (none : Option _) = some X1 from hM1)
 rw [c4.eq_2] at hM1
 refine And.intro (fun hc6 => ?_) (fun hc6 => ?_)
 ·replace hM1 := ifP hM1 hc6
  obtain ⟨x7, gx7, hM1⟩ := f0 hM1
  obtain ⟨bx7, csx7, ex7, rx7⟩ := Sl.getI (r := j0.toRp) (h9.mono sX1 rp0) gx7 (by decide)
  refine And.intro bx7 ?_
  obtain ⟨ax7, nx7, cx7, rfl⟩ := Wp.slice_cell rx7
  obtain ⟨rfl, lx7⟩ := Sl.len rx7
  refine Exists.intro _ (And.intro ex7 ?_)
  obtain ⟨X8, hLX8, hM1⟩ := f0 hM1
  refine Exists.intro { vars := [17], boxes := [], owns := [0], fuel := true } (Exists.intro (fun vs os h' => ∃ (u9 : Int) (wu10 : List (List Value)) (u10 : List Int), vs.tail = [.int .i64 u9] ∧ os = [wu10] ∧ Sub k4 h' ∧ D0 u9 ∧ F2 (Wp.int.R h') wu10 u10 ∧ B3 x7 (F1 vs) u9 u10 = some X8) (Exists.intro (fun _ _ => 0) ?_))
  refine And.intro (Exists.intro N0 ⟨0, wu3, u3, rfl, rfl, (Sub.refl _), (c64 (by decide) (by decide)), fu3, hLX8⟩) ?_
  rintro v_0 wu10 m12 k11 ⟨u9, zzu10, u10, evX8, eoX8, sX8, iu9, fu10, hM2⟩
  cases evX8
  cases eoX8
  replace hM2 : B3 x7 m12 u9 u10 = some X8 := hM2
  obtain _ | m12 := m12
  ·cases (show (none : Option _) = some X8 from hM2)
  rw [B3.eq_2] at hM2
  refine And.intro (fun hc13 => ?_) (fun hc13 => ?_)
  ·replace hM2 := ifP hM2 hc13
   obtain ⟨x14, gx14, hM2⟩ := f0 hM2
   obtain ⟨bx14, csx14, ex14, rx14⟩ := Sl.getI (r := Wp.int.toRp) (j0.mono sX8 rx7) gx14 (by decide)
   refine And.intro bx14 ?_
   obtain ⟨rfl, ix14⟩ := rx14
   refine Exists.intro _ (And.intro ex14 ?_)
   obtain ⟨m15, gm15, hM2⟩ := f0 hM2
   obtain rfl : wu10.length = m15 := (F2.length fu10).trans (Option.some.inj gm15)
   obtain ⟨q16, gq16, hM2⟩ := f0 hM2
   obtain ⟨m17, gm17, hM2⟩ := f0 hM2
   obtain rfl : wu10.length = m17 := (F2.length fu10).trans (Option.some.inj gm17)
   obtain ⟨q18, gq18, hM2⟩ := f0 hM2
   obtain ⟨x19, gx19, hM2⟩ := f0 hM2
   obtain ⟨csx19, ex19, rx19⟩ := T06 fu10 gx19 (d8 k11)
   refine And.intro (fun q => (ex19 q).1) ?_
   obtain ⟨rfl, ix19⟩ := rx19
   refine Exists.intro _ (And.intro (fun q => (ex19 q).2) ?_)
   obtain ⟨x20, gx20, hM2⟩ := f0 hM2
   refine Exists.intro (.bool x20) (And.intro (fun q => S8 _ x19 ix19 x14 ix14 _  (Z2 gx20 q)) ?_)
   refine And.intro (fun hc21 => ?_) (fun hc21 => ?_)
   ·replace hM2 := ifP hM2 hc21
    obtain ⟨m22, gm22, hM2⟩ := f0 hM2
    obtain rfl : wu10.length = m22 := (F2.length fu10).trans (Option.some.inj gm22)
    obtain ⟨q23, gq23, hM2⟩ := f0 hM2
    obtain ⟨q24, gq24, hM2⟩ := f0 hM2
    refine And.intro (by have := l0 gq24; have := F2.length fu10; omega) ?_
    refine And.intro rfl (And.intro (by repeat (first | exact trivial | refine And.intro rfl ?_)) (And.intro (by repeat (first | exact trivial | refine And.intro rfl ?_)) (Exists.intro m12 (And.intro ⟨(IntKind.i64.wrap (u9 + 1)), (wu10.take (IntKind.i64.wrap (((wu10.length : Nat) : Int) - 1)).toNat), (u10.take (IntKind.i64.wrap (((wu10.length : Nat) : Int) - 1)).toNat), rfl, rfl, sX8, (B0 _), (F2.take (IntKind.i64.wrap (((wu10.length : Nat) : Int) - 1)).toNat fu10), hM2⟩ (Nat.lt_succ_self _)))))
   ·replace hM2 := ifN hM2 hc21
    obtain ⟨q25, gq25, hM2⟩ := f0 hM2
    refine And.intro (R0 gq25 (by first | rw [F2.length fu10, F2.length (show F2 (Wp.int.R k11) ([[.int .i64 x14]] : List (List Value)) [x14] from ⟨⟨rfl, ix14⟩, trivial⟩)] | exact congrArg (· + 1) (F2.length fu10))) ?_
    refine And.intro rfl (And.intro (by repeat (first | exact trivial | refine And.intro rfl ?_)) (And.intro (by repeat (first | exact trivial | refine And.intro rfl ?_)) (Exists.intro m12 (And.intro ⟨(IntKind.i64.wrap (u9 + 1)), (wu10 ++ ([[.int .i64 x14]] : List (List Value))), (u10 ++ [x14]), rfl, rfl, sX8, (B0 _), (F2.append fu10 (show F2 (Wp.int.R k11) ([[.int .i64 x14]] : List (List Value)) [x14] from ⟨⟨rfl, ix14⟩, trivial⟩)), hM2⟩ (Nat.lt_succ_self _)))))
  ·replace hM2 := ifN hM2 hc13
   have hE := Option.some.inj hM2; subst hE
   try dsimp only [H0, I0] at hM1
   refine And.intro rfl (And.intro (by repeat (first | exact trivial | refine And.intro rfl ?_)) (And.intro (by repeat (first | exact trivial | refine And.intro rfl ?_)) (Exists.intro m5 (And.intro ⟨(IntKind.i64.wrap (u2 + 1)), wu10, u10, rfl, rfl, (sX1.trans sX8), (B0 _), fu10, hM1⟩ (Nat.lt_succ_self _)))))
 ·replace hM1 := ifN hM1 hc6
  have hE := Option.some.inj hM1; subst hE
  try dsimp only [H0, I0] at hM0
  intro v30 k31 f32
  obtain ⟨az33, cz33, rfl, rz33, sz33, lz33⟩ := O0.out (r := Wp.int.toRp) f32 fu3
  have hE := Option.some.inj hM0; subst hE
  exact ⟨az33, u3.length, cz33, rfl, (New.from (O0.newPlain (r := Wp.int) f32 fu3 (e0a _)) sX1)⟩
end Go.Proofs.Ytknoadmdnjaocaa
namespace Go.Proofs.Ytknoadmdnjaocaa
open Go.H
set_option linter.unusedVariables false
set_option linter.unusedSimpArgs false
set_option maxRecDepth 10000
theorem n8 (h : Hp) (ap0 : Option Addr) (np0 cp0 : Nat) (p0 : i0) (rp0 : j0.R h [.slice ap0 np0 cp0] p0) (r : i0) (hM0 : S4 p0 = some r) :
  Tr Try.prog 41 #[.slice ap0 np0 cp0] h fun v h' => ∃ (g0 : Nat) (n0 c0 : Nat), v = .slice (some ⟨g0, 0, none⟩) n0 c0 ∧ New j0 h h' [.slice (some ⟨g0, 0, none⟩) n0 c0] r := by
 obtain ⟨rfl, lp0⟩ := Sl.len rp0
 unfold S4 at hM0
 refine S2 (args := [.slice ap0 p0.length cp0]) (fn := Try.f41) rfl ?_
 obtain ⟨vsy1, ey1, fy1⟩ := Sl.rows (r := Wp.int.toRp) rp0
 refine Exists.intro vsy1 (And.intro ey1 ?_)
 obtain ⟨q2, gq2, hM0⟩ := f0 hM0
 refine And.intro (R0 gq2 (by first | rw [F2.length (show F2 (Wp.int.R h) ([] : List (List Value)) ([] : i0) from trivial), F2.length fy1] | exact congrArg (· + 1) (F2.length (show F2 (Wp.int.R h) ([] : List (List Value)) ([] : i0) from trivial)))) ?_
 intro v3 k4 f5
 obtain ⟨gz6, cz6, rfl, rz6, sz6, lz6⟩ := O0.outS (r := Wp.int.toRp) f5 (F2.append (show F2 (Wp.int.R h) ([] : List (List Value)) ([] : i0) from trivial) fy1)
 have hE := Option.some.inj hM0; subst hE
 exact ⟨gz6, ((([] : i0) ++ p0)).length, cz6, rfl, (O0.newPlain (r := Wp.int) f5 (F2.append (show F2 (Wp.int.R h) ([] : List (List Value)) ([] : i0) from trivial) fy1) (e0a _))⟩
end Go.Proofs.Ytknoadmdnjaocaa
namespace Go.Proofs.Ytknoadmdnjaocaa
open Go.H
set_option linter.unusedVariables false
set_option linter.unusedSimpArgs false
set_option maxRecDepth 10000
theorem U04 (h : Hp) (ap0 : Option Addr) (np0 cp0 : Nat) (p0 : i0) (rp0 : j0.R h [.slice ap0 np0 cp0] p0) (ap1 : Option Addr) (np1 cp1 : Nat) (p1 : i0) (rp1 : j0.R h [.slice ap1 np1 cp1] p1) (r : Bool) (hM0 : J5 p0 p1 = some r) :
  Tr Try.prog 28 #[.slice ap0 np0 cp0, .slice ap1 np1 cp1] h fun v h' => v = .bool r ∧ h' = h := by
 obtain ⟨rfl, lp0⟩ := Sl.len rp0
 obtain ⟨rfl, lp1⟩ := Sl.len rp1
 unfold J5 at hM0
 refine Tr.forget (S2 (args := [.slice ap0 p0.length cp0, .slice ap1 p1.length cp1]) (fn := Try.f28) rfl ?_)
 refine And.intro (fun hc1 => ?_) (fun hc1 => ?_)
 ·replace hM0 := ifP hM0 hc1
  have hE := Option.some.inj hM0; subst hE
  exact And.intro rfl (Sub.refl _)
 ·replace hM0 := ifN hM0 hc1
  obtain ⟨X2, hLX2, hM0⟩ := f0 hM0
  refine Exists.intro { vars := [5], boxes := [], owns := [], fuel := true } (Exists.intro (fun vs os h' => ∃ (u3 : Int), vs.tail = [.int .i64 u3] ∧ os = [] ∧ Sub h h' ∧ D0 u3 ∧ Q1 p0 p1 (F1 vs) u3 = some X2) (Exists.intro (fun _ _ => 0) ?_))
  refine And.intro (Exists.intro N0 ⟨0, rfl, rfl, (Sub.refl _), (c64 (by decide) (by decide)), hLX2⟩) ?_
  rintro v_0 m5 k4 ⟨u3, evX2, eoX2, sX2, iu3, hM1⟩
  cases evX2
  cases eoX2
  replace hM1 : Q1 p0 p1 m5 u3 = some X2 := hM1
  obtain _ | m5 := m5
  ·cases (show (none : Option _) = some X2 from hM1)
  rw [Q1.eq_2] at hM1
  refine And.intro (fun hc6 => ?_) (fun hc6 => ?_)
  ·replace hM1 := ifP hM1 hc6
   refine Or.inl (And.intro (And.intro (by kernel_rfl) (by kernel_rfl)) ?_)
   obtain ⟨x7, gx7, hM1⟩ := f0 hM1
   obtain ⟨bx7, csx7, ex7, rx7⟩ := Sl.getI (r := Wp.int.toRp) (j0.mono sX2 rp0) gx7 (by decide)
   refine And.intro bx7 ?_
   obtain ⟨rfl, ix7⟩ := rx7
   refine Exists.intro _ (And.intro ex7 ?_)
   obtain ⟨x8, gx8, hM1⟩ := f0 hM1
   obtain ⟨bx8, csx8, ex8, rx8⟩ := Sl.getI (r := Wp.int.toRp) (j0.mono sX2 rp1) gx8 (by decide)
   refine And.intro bx8 ?_
   obtain ⟨rfl, ix8⟩ := rx8
   refine Exists.intro _ (And.intro ex8 ?_)
   refine And.intro (fun hc9 => ?_) (fun hc9 => ?_)
   ·replace hM1 := ifP hM1 hc9
    have hE := Option.some.inj hM1; subst hE
    try dsimp only [D4, E4] at hM0
    have hE := Option.some.inj hM0; subst hE
    exact And.intro rfl sX2
   ·replace hM1 := ifN hM1 hc9
    refine And.intro rfl (And.intro (by repeat (first | exact trivial | refine And.intro rfl ?_)) (And.intro (by repeat (first | exact trivial | refine And.intro rfl ?_)) (Exists.intro m5 (And.intro ⟨(IntKind.i64.wrap (u3 + 1)), rfl, rfl, sX2, (B0 _), hM1⟩ (Nat.lt_succ_self _)))))
  ·replace hM1 := ifN hM1 hc6
   have hE := Option.some.inj hM1; subst hE
   try dsimp only [H0, I0] at hM0
   have hE := Option.some.inj hM0; subst hE
   exact And.intro rfl sX2
theorem V04 (h : Hp) (ap0 : Option Addr) (np0 cp0 : Nat) (p0 : i0) (rp0 : j0.R h [.slice ap0 np0 cp0] p0) (ap1 : Option Addr) (np1 cp1 : Nat) (p1 : i0) (rp1 : j0.R h [.slice ap1 np1 cp1] p1) (r : Bool) (hM0 : I6 p0 p1 = some r) :
  Tr Try.prog 42 #[.slice ap0 np0 cp0, .slice ap1 np1 cp1] h fun v h' => v = .bool r ∧ h' = h := by
 obtain ⟨rfl, lp0⟩ := Sl.len rp0
 obtain ⟨rfl, lp1⟩ := Sl.len rp1
 unfold I6 at hM0
 refine Tr.forget (S2 (args := [.slice ap0 p0.length cp0, .slice ap1 p1.length cp1]) (fn := Try.f42) rfl ?_)
 refine And.intro (fun hc1 => ?_) (fun hc1 => ?_)
 ·replace hM0 := ifP hM0 hc1
  have hE := Option.some.inj hM0; subst hE
  exact And.intro rfl (Sub.refl _)
 ·replace hM0 := ifN hM0 hc1
  obtain ⟨X2, hLX2, hM0⟩ := f0 hM0
  refine Exists.intro { vars := [13], boxes := [], owns := [], fuel := true } (Exists.intro (fun vs os h' => ∃ (u3 : Int), vs.tail = [.int .i64 u3] ∧ os = [] ∧ Sub h h' ∧ D0 u3 ∧ D3 p0 p1 (F1 vs) u3 = some X2) (Exists.intro (fun _ _ => 0) ?_))
  refine And.intro (Exists.intro N0 ⟨0, rfl, rfl, (Sub.refl _), (c64 (by decide) (by decide)), hLX2⟩) ?_
  rintro v_0 m5 k4 ⟨u3, evX2, eoX2, sX2, iu3, hM1⟩
  cases evX2
  cases eoX2
  replace hM1 : D3 p0 p1 m5 u3 = some X2 := hM1
  obtain _ | m5 := m5
  ·cases (show (none : Option _) = some X2 from hM1)
  rw [D3.eq_2] at hM1
  refine And.intro (fun hc6 => ?_) (fun hc6 => ?_)
  ·replace hM1 := ifP hM1 hc6
   refine Or.inl (And.intro (And.intro (by kernel_rfl) (by kernel_rfl)) ?_)
   obtain ⟨x7, gx7, hM1⟩ := f0 hM1
   obtain ⟨bx7, csx7, ex7, rx7⟩ := Sl.getI (r := Wp.int.toRp) (j0.mono sX2 rp0) gx7 (by decide)
   refine And.intro bx7 ?_
   obtain ⟨rfl, ix7⟩ := rx7
   refine Exists.intro _ (And.intro ex7 ?_)
   obtain ⟨x8, gx8, hM1⟩ := f0 hM1
   obtain ⟨bx8, csx8, ex8, rx8⟩ := Sl.getI (r := Wp.int.toRp) (j0.mono sX2 rp1) gx8 (by decide)
   refine And.intro bx8 ?_
   obtain ⟨rfl, ix8⟩ := rx8
   refine Exists.intro _ (And.intro ex8 ?_)
   refine And.intro (fun hc9 => ?_) (fun hc9 => ?_)
   ·replace hM1 := ifP hM1 hc9
    have hE := Option.some.inj hM1; subst hE
    try dsimp only [D4, E4] at hM0
    have hE := Option.some.inj hM0; subst hE
    exact And.intro rfl sX2
   ·replace hM1 := ifN hM1 hc9
    refine And.intro rfl (And.intro (by repeat (first | exact trivial | refine And.intro rfl ?_)) (And.intro (by repeat (first | exact trivial | refine And.intro rfl ?_)) (Exists.intro m5 (And.intro ⟨(IntKind.i64.wrap (u3 + 1)), rfl, rfl, sX2, (B0 _), hM1⟩ (Nat.lt_succ_self _)))))
  ·replace hM1 := ifN hM1 hc6
   have hE := Option.some.inj hM1; subst hE
   try dsimp only [H0, I0] at hM0
   have hE := Option.some.inj hM0; subst hE
   exact And.intro rfl sX2
end Go.Proofs.Ytknoadmdnjaocaa
namespace Go.Proofs.Ytknoadmdnjaocaa
open Go.H
set_option linter.unusedVariables false
set_option linter.unusedSimpArgs false
set_option maxRecDepth 10000
theorem m07 (h : Hp) (p0 : Int) (ip0 : D0 p0) (p1 : Int) (ip1 : D0 p1) (r : Int) (hM0 : K7 p0 p1 = some r) :
  Tr Try.prog 73 #[.int .i64 p0, .int .i64 p1] h fun v h' => v = .int .i64 r ∧ h' = h := by
 unfold K7 at hM0
 refine Tr.forget (S2 (args := [.int .i64 p0, .int .i64 p1]) (fn := Try.f73) rfl ?_)
 refine And.intro (fun hc1 => ?_) (fun hc1 => ?_)
 ·replace hM0 := ifP hM0 hc1
  have hE := Option.some.inj hM0; subst hE
  exact And.intro rfl (Sub.refl _)
 ·replace hM0 := ifN hM0 hc1
  refine And.intro (fun hc2 => ?_) (fun hc2 => ?_)
  ·replace hM0 := ifP hM0 hc2
   have hE := Option.some.inj hM0; subst hE
   exact And.intro rfl (Sub.refl _)
  ·replace hM0 := ifN hM0 hc2
   have hE := Option.some.inj hM0; subst hE
   exact And.intro rfl (Sub.refl _)
theorem m03 (h : Hp) (ap0 : Option Addr) (np0 cp0 : Nat) (p0 : i0) (rp0 : j0.R h [.slice ap0 np0 cp0] p0) (ap1 : Option Addr) (np1 cp1 : Nat) (p1 : i0) (rp1 : j0.R h [.slice ap1 np1 cp1] p1) (r : Int) (hM0 : L4 p0 p1 = some r) :
  Tr Try.prog 65 #[.slice ap0 np0 cp0, .slice ap1 np1 cp1] h fun v h' => v = .int .i64 r ∧ h' = h := by
 obtain ⟨rfl, lp0⟩ := Sl.len rp0
 obtain ⟨rfl, lp1⟩ := Sl.len rp1
 unfold L4 at hM0
 refine Tr.forget (S2 (args := [.slice ap0 p0.length cp0, .slice ap1 p1.length cp1]) (fn := Try.f65) rfl ?_)
 refine And.intro (fun hc1 => ?_) (fun hc1 => ?_)
 ·replace hM0 := ifP hM0 hc1
  refine And.intro (fun hc2 => ?_) (fun hc2 => ?_)
  ·replace hM0 := ifP hM0 hc2
   have hE := Option.some.inj hM0; subst hE
   exact And.intro rfl (Sub.refl _)
  ·replace hM0 := ifN hM0 hc2
   have hE := Option.some.inj hM0; subst hE
   exact And.intro rfl (Sub.refl _)
 ·replace hM0 := ifN hM0 hc1
  obtain ⟨X3, hLX3, hM0⟩ := f0 hM0
  refine Exists.intro { vars := [5], boxes := [], owns := [], fuel := true } (Exists.intro (fun vs os h' => ∃ (u4 : Int), vs.tail = [.int .i64 u4] ∧ os = [] ∧ Sub h h' ∧ D0 u4 ∧ S0 p0 p1 (F1 vs) u4 = some X3) (Exists.intro (fun _ _ => 0) ?_))
  refine And.intro (Exists.intro N0 ⟨0, rfl, rfl, (Sub.refl _), (c64 (by decide) (by decide)), hLX3⟩) ?_
  rintro v_0 m6 k5 ⟨u4, evX3, eoX3, sX3, iu4, hM1⟩
  cases evX3
  cases eoX3
  replace hM1 : S0 p0 p1 m6 u4 = some X3 := hM1
  obtain _ | m6 := m6
  ·cases (show (none : Option _) = some X3 from hM1)
  rw [S0.eq_2] at hM1
  refine And.intro (fun hc7 => ?_) (fun hc7 => ?_)
  ·replace hM1 := ifP hM1 hc7
   refine Or.inl (And.intro (And.intro (by kernel_rfl) (by kernel_rfl)) ?_)
   obtain ⟨x8, gx8, hM1⟩ := f0 hM1
   obtain ⟨bx8, csx8, ex8, rx8⟩ := Sl.getI (r := Wp.int.toRp) (j0.mono sX3 rp0) gx8 (by decide)
   refine And.intro bx8 ?_
   obtain ⟨rfl, ix8⟩ := rx8
   refine Exists.intro _ (And.intro ex8 ?_)
   obtain ⟨x9, gx9, hM1⟩ := f0 hM1
   obtain ⟨bx9, csx9, ex9, rx9⟩ := Sl.getI (r := Wp.int.toRp) (j0.mono sX3 rp1) gx9 (by decide)
   refine And.intro bx9 ?_
   obtain ⟨rfl, ix9⟩ := rx9
   refine Exists.intro _ (And.intro ex9 ?_)
   obtain ⟨x10, gx10, hM1⟩ := f0 hM1
   refine Exists.intro (.int .i64 x10) (And.intro (m07 _ x8 ix8 x9 ix9 _  gx10) ?_)
   obtain ⟨q11, gq11, hM1⟩ := f0 hM1
   have ix10 : D0 x10 := l0 gq11
   refine And.intro (fun hc12 => ?_) (fun hc12 => ?_)
   ·replace hM1 := ifP hM1 hc12
    have hE := Option.some.inj hM1; subst hE
    try dsimp only [D4, E4] at hM0
    have hE := Option.some.inj hM0; subst hE
    exact And.intro rfl sX3
   ·replace hM1 := ifN hM1 hc12
    refine And.intro rfl (And.intro (by repeat (first | exact trivial | refine And.intro rfl ?_)) (And.intro (by repeat (first | exact trivial | refine And.intro rfl ?_)) (Exists.intro m6 (And.intro ⟨(IntKind.i64.wrap (u4 + 1)), rfl, rfl, sX3, (B0 _), hM1⟩ (Nat.lt_succ_self _)))))
  ·replace hM1 := ifN hM1 hc7
   have hE := Option.some.inj hM1; subst hE
   try dsimp only [H0, I0] at hM0
   have hE := Option.some.inj hM0; subst hE
   exact And.intro rfl sX3
theorem Z8 (h : Hp) (p0 : Int) (ip0 : D0 p0) (p1 : Int) (ip1 : D0 p1) (r : Int) (hM0 : L3 p0 p1 = some r) :
  Tr Try.prog 76 #[.int .i64 p0, .int .i64 p1] h fun v h' => v = .int .i64 r ∧ h' = h := by
 unfold L3 at hM0
 refine Tr.forget (S2 (args := [.int .i64 p0, .int .i64 p1]) (fn := Try.f76) rfl ?_)
 refine And.intro (fun hc1 => ?_) (fun hc1 => ?_)
 ·replace hM0 := ifP hM0 hc1
  have hE := Option.some.inj hM0; subst hE
  exact And.intro rfl (Sub.refl _)
 ·replace hM0 := ifN hM0 hc1
  refine And.intro (fun hc2 => ?_) (fun hc2 => ?_)
  ·replace hM0 := ifP hM0 hc2
   have hE := Option.some.inj hM0; subst hE
   exact And.intro rfl (Sub.refl _)
  ·replace hM0 := ifN hM0 hc2
   refine And.intro (fun hc3 => ?_) (fun hc3 => ?_)
   ·replace hM0 := ifP hM0 hc3
    have hE := Option.some.inj hM0; subst hE
    exact And.intro rfl (Sub.refl _)
   ·replace hM0 := ifN hM0 hc3
    obtain ⟨x4, gx4, hM0⟩ := f0 hM0
    refine Tr.val (z8 _ (if (IntKind.i64.wrap (0 - p0)) > p0 then (IntKind.i64.wrap (0 - p0)) else p0) (X0e (B0 _) ip0) (if (IntKind.i64.wrap (0 - p1)) > p1 then (IntKind.i64.wrap (0 - p1)) else p1) (X0e (B0 _) ip1) _  gx4) ?_
    obtain ⟨q5, gq5, hM0⟩ := f0 hM0
    have ix4 : D0 x4 := l0 gq5
    refine And.intro (fun hc6 => ?_) (fun hc6 => ?_)
    ·replace hM0 := ifP hM0 hc6
     have hE := Option.some.inj hM0; subst hE
     exact And.intro rfl (Sub.refl _)
    ·replace hM0 := ifN hM0 hc6
     obtain ⟨x7, gx7, hM0⟩ := f0 hM0
     refine Tr.val (z8 _ p1 ip1 p0 ip0 _  gx7) ?_
     obtain ⟨q8, gq8, hM0⟩ := f0 hM0
     have ix7 : D0 x7 := l0 gq8
     have hE := Option.some.inj hM0; subst hE
     exact And.intro rfl (Sub.refl _)
theorem n03 (h : Hp) (ap0 : Option Addr) (np0 cp0 : Nat) (p0 : i0) (rp0 : j0.R h [.slice ap0 np0 cp0] p0) (ap1 : Option Addr) (np1 cp1 : Nat) (p1 : i0) (rp1 : j0.R h [.slice ap1 np1 cp1] p1) (r : Int) (hM0 : P5 p0 p1 = some r) :
  Tr Try.prog 69 #[.slice ap0 np0 cp0, .slice ap1 np1 cp1] h fun v h' => v = .int .i64 r ∧ h' = h := by
 obtain ⟨rfl, lp0⟩ := Sl.len rp0
 obtain ⟨rfl, lp1⟩ := Sl.len rp1
 unfold P5 at hM0
 refine Tr.forget (S2 (args := [.slice ap0 p0.length cp0, .slice ap1 p1.length cp1]) (fn := Try.f69) rfl ?_)
 obtain ⟨x1, gx1, hM0⟩ := f0 hM0
 refine Tr.val (z8 _ ((p0.length : Nat) : Int) (K0b lp0) ((p1.length : Nat) : Int) (K0b lp1) _  gx1) ?_
 obtain ⟨q2, gq2, hM0⟩ := f0 hM0
 have ix1 : D0 x1 := l0 gq2
 refine And.intro (fun hc3 => ?_) (fun hc3 => ?_)
 ·replace hM0 := ifP hM0 hc3
  have hE := Option.some.inj hM0; subst hE
  exact And.intro rfl (Sub.refl _)
 ·replace hM0 := ifN hM0 hc3
  obtain ⟨X4, hLX4, hM0⟩ := f0 hM0
  refine Exists.intro { vars := [18], boxes := [], owns := [], fuel := true } (Exists.intro (fun vs os h' => ∃ (u5 : Int), vs.tail = [.int .i64 u5] ∧ os = [] ∧ Sub h h' ∧ D0 u5 ∧ O1 p0 p1 (F1 vs) u5 = some X4) (Exists.intro (fun _ _ => 0) ?_))
  refine And.intro (Exists.intro N0 ⟨0, rfl, rfl, (Sub.refl _), (c64 (by decide) (by decide)), hLX4⟩) ?_
  rintro v_0 m7 k6 ⟨u5, evX4, eoX4, sX4, iu5, hM1⟩
  cases evX4
  cases eoX4
  replace hM1 : O1 p0 p1 m7 u5 = some X4 := hM1
  obtain _ | m7 := m7
  ·cases (show (none : Option _) = some X4 from hM1)
  rw [O1.eq_2] at hM1
  refine And.intro (fun hc8 => ?_) (fun hc8 => ?_)
  ·replace hM1 := ifP hM1 hc8
   refine Or.inl (And.intro (And.intro (by kernel_rfl) (by kernel_rfl)) ?_)
   obtain ⟨x9, gx9, hM1⟩ := f0 hM1
   obtain ⟨bx9, csx9, ex9, rx9⟩ := Sl.getI (r := Wp.int.toRp) (j0.mono sX4 rp0) gx9 (by decide)
   refine And.intro bx9 ?_
   obtain ⟨rfl, ix9⟩ := rx9
   refine Exists.intro _ (And.intro ex9 ?_)
   obtain ⟨x10, gx10, hM1⟩ := f0 hM1
   obtain ⟨bx10, csx10, ex10, rx10⟩ := Sl.getI (r := Wp.int.toRp) (j0.mono sX4 rp1) gx10 (by decide)
   refine And.intro bx10 ?_
   obtain ⟨rfl, ix10⟩ := rx10
   refine Exists.intro _ (And.intro ex10 ?_)
   obtain ⟨x11, gx11, hM1⟩ := f0 hM1
   refine Exists.intro (.int .i64 x11) (And.intro (Z8 _ x9 ix9 x10 ix10 _  gx11) ?_)
   obtain ⟨q12, gq12, hM1⟩ := f0 hM1
   have ix11 : D0 x11 := l0 gq12
   refine And.intro (fun hc13 => ?_) (fun hc13 => ?_)
   ·replace hM1 := ifP hM1 hc13
    have hE := Option.some.inj hM1; subst hE
    try dsimp only [D4, E4] at hM0
    have hE := Option.some.inj hM0; subst hE
    exact And.intro rfl sX4
   ·replace hM1 := ifN hM1 hc13
    refine And.intro rfl (And.intro (by repeat (first | exact trivial | refine And.intro rfl ?_)) (And.intro (by repeat (first | exact trivial | refine And.intro rfl ?_)) (Exists.intro m7 (And.intro ⟨(IntKind.i64.wrap (u5 + 1)), rfl, rfl, sX4, (B0 _), hM1⟩ (Nat.lt_succ_self _)))))
  ·replace hM1 := ifN hM1 hc8
   have hE := Option.some.inj hM1; subst hE
   try dsimp only [H0, I0] at hM0
   have hE := Option.some.inj hM0; subst hE
   exact And.intro rfl sX4
end Go.Proofs.Ytknoadmdnjaocaa
namespace Go.Proofs.Ytknoadmdnjaocaa
open Go.H
set_option linter.unusedVariables false
set_option linter.unusedSimpArgs false
set_option maxRecDepth 10000
theorem O02 (h : Hp) (ap0 : Option Addr) (np0 cp0 : Nat) (p0 : i0) (rp0 : j0.R h [.slice ap0 np0 cp0] p0) (r : i0) (hM0 : s5 p0 = some r) :
  Tr Try.prog 40 #[.slice ap0 np0 cp0] h fun v h' => ∃ (a0 : Option Addr) (n0 c0 : Nat), v = .slice a0 n0 c0 ∧ New j0 h h' [.slice a0 n0 c0] r := by
 obtain ⟨rfl, lp0⟩ := Sl.len rp0
 unfold s5 at hM0
 refine S2 (args := [.slice ap0 p0.length cp0]) (fn := Try.f40) rfl ?_
 refine Or.inl ?_
 intro v1 k2 f3
 obtain ⟨az4, cz4, rfl, rz4, sz4, lz4⟩ := O0.out (r := j0.toRp) f3 (show F2 (j0.R h) ([[.slice ap0 p0.length cp0]] : List (List Value)) [p0] from ⟨rp0, trivial⟩)
 obtain ⟨x5, gx5, hM0⟩ := f0 hM0
 refine Tr.mono (A00 _ az4 ([p0]).length cz4 [p0] rz4 _  gx5) ?_
 rintro v7 k6 ⟨ax5, nx5, cx5, rfl, wx5⟩
 have sx5 : Sub k2 k6 := wx5.sub
 have rx5 := wx5.r
 obtain ⟨rfl, lx5⟩ := Sl.len rx5
 have hE := Option.some.inj hM0; subst hE
 exact ⟨ax5, x5.length, cx5, rfl, (New.from wx5 sz4)⟩
end Go.Proofs.Ytknoadmdnjaocaa
namespace Go.Proofs.Ytknoadmdnjaocaa
open Go.H
set_option linter.unusedVariables false
set_option linter.unusedSimpArgs false
set_option maxRecDepth 10000
theorem T00 (h : Hp) (ap0 : Option Addr) (np0 cp0 : Nat) (p0 : i0) (rp0 : j0.R h [.slice ap0 np0 cp0] p0) (p1 : Int) (ip1 : D0 p1) (r : i0) (hM0 : G3 p0 p1 = some r) :
  Tr Try.prog 29 #[.slice ap0 np0 cp0, .int .i64 p1] h fun v h' => ∃ (a0 : Option Addr) (n0 c0 : Nat), v = .slice a0 n0 c0 ∧ j0.R h' [.slice a0 n0 c0] r ∧ Sub h h' := by
 obtain ⟨rfl, lp0⟩ := Sl.len rp0
 unfold G3 at hM0
 refine S2 (args := [.slice ap0 p0.length cp0, .int .i64 p1]) (fn := Try.f29) rfl ?_
 obtain ⟨X1, hLX1, hM0⟩ := f0 hM0
 refine Exists.intro { vars := [6], boxes := [], owns := [0], fuel := true } (Exists.intro (fun vs os h' => ∃ (u2 : Int) (wu3 : List (List Value)) (u3 : List Int), vs.tail = [.int .i64 u2] ∧ os = [wu3] ∧ Sub h h' ∧ D0 u2 ∧ F2 (Wp.int.R h') wu3 u3 ∧ Y0 p0 p1 (F1 vs) u2 u3 = some X1) (Exists.intro (fun _ _ => 0) ?_))
 refine And.intro (Exists.intro N0 ⟨0, [], ([] : i0), rfl, rfl, (Sub.refl _), (c64 (by decide) (by decide)), (show F2 (Wp.int.R h) ([] : List (List Value)) ([] : i0) from trivial), hLX1⟩) ?_
 rintro v_0 wu3 m5 k4 ⟨u2, zzu3, u3, evX1, eoX1, sX1, iu2, fu3, hM1⟩
 cases evX1
 cases eoX1
 replace hM1 : Y0 p0 p1 m5 u2 u3 = some X1 := hM1
 obtain _ | m5 := m5
 ·cases (show (none : Option _) = some X1 from hM1)
 rw [Y0.eq_2] at hM1
 refine And.intro (fun hc6 => ?_) (fun hc6 => ?_)
 ·replace hM1 := ifP hM1 hc6
  obtain ⟨q7, gq7, hM1⟩ := f0 hM1
  refine And.intro (l0 gq7) ?_
  obtain ⟨q8, gq8, hM1⟩ := f0 hM1
  refine And.intro (l0 gq8) ?_
  obtain ⟨q9, gq9, hM1⟩ := f0 hM1
  refine And.intro (l0 gq9) ?_
  obtain ⟨x10, gx10, hM1⟩ := f0 hM1
  obtain ⟨bx10, csx10, ex10, rx10⟩ := Sl.getI (r := Wp.int.toRp) (j0.mono sX1 rp0) gx10 (by decide)
  refine And.intro bx10 ?_
  obtain ⟨rfl, ix10⟩ := rx10
  refine Exists.intro _ (And.intro ex10 ?_)
  obtain ⟨q11, gq11, hM1⟩ := f0 hM1
  refine And.intro (R0 gq11 (by first | rw [F2.length fu3, F2.length (show F2 (Wp.int.R k4) ([[.int .i64 x10]] : List (List Value)) [x10] from ⟨⟨rfl, ix10⟩, trivial⟩)] | exact congrArg (· + 1) (F2.length fu3))) ?_
  refine And.intro rfl (And.intro (by repeat (first | exact trivial | refine And.intro rfl ?_)) (And.intro (by repeat (first | exact trivial | refine And.intro rfl ?_)) (Exists.intro m5 (And.intro ⟨(IntKind.i64.wrap (u2 + 1)), (wu3 ++ ([[.int .i64 x10]] : List (List Value))), (u3 ++ [x10]), rfl, rfl, sX1, (B0 _), (F2.append fu3 (show F2 (Wp.int.R k4) ([[.int .i64 x10]] : List (List Value)) [x10] from ⟨⟨rfl, ix10⟩, trivial⟩)), hM1⟩ (Nat.lt_succ_self _)))))
 ·replace hM1 := ifN hM1 hc6
  have hE := Option.some.inj hM1; subst hE
  try dsimp only [H0, I0] at hM0
  intro v12 k13 f14
  obtain ⟨az15, cz15, rfl, rz15, sz15, lz15⟩ := O0.out (r := Wp.int.toRp) f14 fu3
  have hE := Option.some.inj hM0; subst hE
  exact ⟨az15, u3.length, cz15, rfl, rz15, (sX1.trans sz15)⟩
theorem U00 (h : Hp) (ap0 : Option Addr) (np0 cp0 : Nat) (p0 : i0) (rp0 : j0.R h [.slice ap0 np0 cp0] p0) (p1 : Int) (ip1 : D0 p1) (r : i0) (hM0 : I3 p0 p1 = some r) :
  Tr Try.prog 43 #[.slice ap0 np0 cp0, .int .i64 p1] h fun v h' => ∃ (a0 : Option Addr) (n0 c0 : Nat), v = .slice a0 n0 c0 ∧ New j0 h h' [.slice a0 n0 c0] r := by
 obtain ⟨rfl, lp0⟩ := Sl.len rp0
 unfold I3 at hM0
 refine S2 (args := [.slice ap0 p0.length cp0, .int .i64 p1]) (fn := Try.f43) rfl ?_
 refine And.intro (fun hc1 => ?_) (fun hc1 => ?_)
 ·replace hM0 := ifP hM0 hc1
  intro v2 k3 f4
  obtain ⟨az5, cz5, rfl, rz5, sz5, lz5⟩ := O0.out (r := Wp.int.toRp) f4 (show F2 (Wp.int.R h) ([] : List (List Value)) ([] : i0) from trivial)
  have hE := Option.some.inj hM0; subst hE
  exact ⟨az5, (([] : i0)).length, cz5, rfl, (O0.newPlain (r := Wp.int) f4 (show F2 (Wp.int.R h) ([] : List (List Value)) ([] : i0) from trivial) (e0a _))⟩
 ·replace hM0 := ifN hM0 hc1
  obtain ⟨q6, gq6, hM0⟩ := f0 hM0
  refine And.intro (l0 gq6) ?_
  obtain ⟨q7, gq7, hM0⟩ := f0 hM0
  refine And.intro (l0 gq7) ?_
  refine Or.inr (Or.inr (Or.inl (And.intro (And.intro (by kernel_rfl) (by kernel_rfl)) ?_)))
  obtain ⟨x8, gx8, hM0⟩ := f0 hM0
  obtain ⟨ax8, cx8, qx8, rx8, bx8, ex8⟩ := Sl.cutX (r := Wp.int.toRp) rp0 gx8
  have lx8 := (Sl.len rx8).2
  refine Or.inl (Exists.intro (.val (.slice ax8 x8.length cx8)) (And.intro ?_ ?_))
  ·intro hh sb
   obtain ⟨vs, e⟩ := ex8 hh sb
   exact And.intro bx8 (Exists.intro vs (And.intro e (fun v _ hv => And.intro (congrArg AV.val (qx8 v hv)) (And.intro rfl rfl))))
  refine Or.inr ?_
  obtain ⟨x9, gx9, hM0⟩ := f0 hM0
  obtain ⟨ax9, cx9, qx9, rx9, bx9, ex9⟩ := Sl.cutX (r := Wp.int.toRp) rp0 gx9
  have lx9 := (Sl.len rx9).2
  refine Or.inl (Exists.intro (.val (.slice ax9 x9.length cx9)) (And.intro ?_ ?_))
  ·intro hh sb
   obtain ⟨vs, e⟩ := ex9 hh sb
   exact And.intro bx9 (Exists.intro vs (And.intro e (fun v _ hv => And.intro (congrArg AV.val (qx9 v hv)) (And.intro rfl rfl))))
  refine Or.inr ?_
  refine Or.inr ?_
  refine Or.inl (Exists.intro 1 (And.intro (And.intro rfl rfl) ?_))
  obtain ⟨x10, gx10, hM0⟩ := f0 hM0
  refine Tr.mono (n8 _ ax8 x8.length cx8 x8 rx8 _  gx10) ?_
  rintro v12 k11 ⟨gx10, nx10, cx10, rfl, wx10⟩
  have sx10 : Sub h k11 := wx10.sub
  have rx10 := wx10.r
  obtain ⟨rfl, lx10⟩ := Sl.len rx10
  refine And.intro (And.intro rfl sx10) (And.intro (by first | exact trivial | exact rfl) ?_)
  obtain ⟨vsy13, ey13, fy13⟩ := Sl.rows (r := Wp.int.toRp) (j0.mono sx10 rx9)
  refine Exists.intro vsy13 (And.intro ey13 ?_)
  obtain ⟨q14, gq14, hM0⟩ := f0 hM0
  obtain ⟨vsz15, rxz15, lnz15, apz15⟩ := New.app wx10 (Sub.refl _)
  refine Exists.intro vsz15 (And.intro rxz15 (And.intro (R0 gq14 (by first | rw [lnz15, F2.length fy13] | (rw [lnz15]; rfl))) ?_))
  intro vz15 kz15 happz15
  obtain ⟨wz15, gz15, oz15, nz15, cz15, rfl⟩ := apz15 _ _ _ _ _ (F3.ofPlain (e0a _) fy13) H6.ofPlain happz15
  have rz15 := wz15.r
  obtain ⟨ez15, lz15⟩ := Sl.len rz15
  subst ez15
  refine And.intro trivial (And.intro (by first | exact trivial | exact rfl) ?_)
  refine And.intro trivial (And.intro (by first | exact trivial | exact rfl) ?_)
  have hE := Option.some.inj hM0; subst hE
  exact ⟨(some ⟨gz15, oz15, none⟩), (x10 ++ x9).length, cz15, rfl, wz15⟩
end Go.Proofs.Ytknoadmdnjaocaa
namespace Go.Proofs.Ytknoadmdnjaocaa
open Go.H
set_option linter.unusedVariables false
set_option linter.unusedSimpArgs false
set_option maxRecDepth 10000
theorem a02 (h : Hp) (ap0 : Option Addr) (np0 cp0 : Nat) (p0 : i0) (rp0 : j0.R h [.slice ap0 np0 cp0] p0) (p1 : Int) (ip1 : D0 p1) (r : Bool) (hM0 : N8 p0 p1 = some r) :
  Tr Try.prog 68 #[.slice ap0 np0 cp0, .int .i64 p1] h fun v h' => v = .bool r ∧ h' = h := by
 obtain ⟨rfl, lp0⟩ := Sl.len rp0
 unfold N8 at hM0
 refine Tr.forget (S2 (args := [.slice ap0 p0.length cp0, .int .i64 p1]) (fn := Try.f68) rfl ?_)
 obtain ⟨X1, hLX1, hM0⟩ := f0 hM0
 refine Exists.intro { vars := [5], boxes := [], owns := [], fuel := true } (Exists.intro (fun vs os h' => ∃ (u2 : Int), vs.tail = [.int .i64 u2] ∧ os = [] ∧ Sub h h' ∧ D0 u2 ∧ L7 p0 p1 (F1 vs) u2 = some X1) (Exists.intro (fun _ _ => 0) ?_))
 refine And.intro (Exists.intro N0 ⟨0, rfl, rfl, (Sub.refl _), (c64 (by decide) (by decide)), hLX1⟩) ?_
 rintro v_0 m4 k3 ⟨u2, evX1, eoX1, sX1, iu2, hM1⟩
 cases evX1
 cases eoX1
 replace hM1 : L7 p0 p1 m4 u2 = some X1 := hM1
 obtain _ | m4 := m4
 ·cases (show (none : Option _) = some X1 from hM1)
 rw [L7.eq_2] at hM1
 refine And.intro (fun hc5 => ?_) (fun hc5 => ?_)
 ·replace hM1 := ifP hM1 hc5
  obtain ⟨x6, gx6, hM1⟩ := f0 hM1
  obtain ⟨bx6, csx6, ex6, rx6⟩ := Sl.getI (r := Wp.int.toRp) (j0.mono sX1 rp0) gx6 (by decide)
  refine And.intro bx6 ?_
  obtain ⟨rfl, ix6⟩ := rx6
  refine Exists.intro _ (And.intro ex6 ?_)
  refine And.intro (fun hc7 => ?_) (fun hc7 => ?_)
  ·replace hM1 := ifP hM1 hc7
   have hE := Option.some.inj hM1; subst hE
   try dsimp only [D4, E4] at hM0
   have hE := Option.some.inj hM0; subst hE
   exact And.intro rfl sX1
  ·replace hM1 := ifN hM1 hc7
   refine And.intro rfl (And.intro (by repeat (first | exact trivial | refine And.intro rfl ?_)) (And.intro (by repeat (first | exact trivial | refine And.intro rfl ?_)) (Exists.intro m4 (And.intro ⟨(IntKind.i64.wrap (u2 + 1)), rfl, rfl, sX1, (B0 _), hM1⟩ (Nat.lt_succ_self _)))))
 ·replace hM1 := ifN hM1 hc5
  have hE := Option.some.inj hM1; subst hE
  try dsimp only [H0, I0] at hM0
  have hE := Option.some.inj hM0; subst hE
  exact And.intro rfl sX1
end Go.Proofs.Ytknoadmdnjaocaa
namespace Go.Proofs.Ytknoadmdnjaocaa
open Go.H
set_option linter.unusedVariables false
set_option linter.unusedSimpArgs false
set_option maxRecDepth 10000
theorem F05 (h : Hp) (p0 : Int) (ip0 : D0 p0) (r : i0) (hM0 : o9 p0 = some r) :
  Tr Try.prog 66 #[.int .i64 p0] h fun v h' => ∃ (a0 : Option Addr) (n0 c0 : Nat), v = .slice a0 n0 c0 ∧ j0.R h' [.slice a0 n0 c0] r ∧ Sub h h' := by
 unfold o9 at hM0
 refine S2 (args := [.int .i64 p0]) (fn := Try.f66) rfl ?_
 obtain ⟨X1, hLX1, hM0⟩ := f0 hM0
 refine Exists.intro { vars := [4], boxes := [], owns := [0], fuel := true } (Exists.intro (fun vs os h' => ∃ (u2 : Int) (wu3 : List (List Value)) (u3 : List Int), vs.tail = [.int .i64 u2] ∧ os = [wu3] ∧ Sub h h' ∧ D0 u2 ∧ F2 (Wp.int.R h') wu3 u3 ∧ o6 p0 (F1 vs) u2 u3 = some X1) (Exists.intro (fun _ _ => 0) ?_))
 refine And.intro (Exists.intro N0 ⟨1, [], ([] : i0), rfl, rfl, (Sub.refl _), (c64 (by decide) (by decide)), (show F2 (Wp.int.R h) ([] : List (List Value)) ([] : i0) from trivial), hLX1⟩) ?_
 rintro v_0 wu3 m5 k4 ⟨u2, zzu3, u3, evX1, eoX1, sX1, iu2, fu3, hM1⟩
 cases evX1
 cases eoX1
 replace hM1 : o6 p0 m5 u2 u3 = some X1 := hM1
 obtain _ | m5 := m5
 ·cases (show (none : Option _) = some X1 from hM1)
 rw [o6.eq_2] at hM1
 refine And.intro (fun hc6 => ?_) (fun hc6 => ?_)
 ·replace hM1 := ifP hM1 hc6
  obtain ⟨q7, gq7, hM1⟩ := f0 hM1
  refine And.intro (R0 gq7 (by first | rw [F2.length fu3, F2.length (show F2 (Wp.int.R k4) ([[.int .i64 u2]] : List (List Value)) [u2] from ⟨⟨rfl, iu2⟩, trivial⟩)] | exact congrArg (· + 1) (F2.length fu3))) ?_
  obtain ⟨q8, gq8, hM1⟩ := f0 hM1
  refine And.intro (R0 gq8 (by first | rw [F2.length (F2.append fu3 (show F2 (Wp.int.R k4) ([[.int .i64 u2]] : List (List Value)) [u2] from ⟨⟨rfl, iu2⟩, trivial⟩)), F2.length (show F2 (Wp.int.R k4) ([[.int .i64 (IntKind.i64.wrap (0 - u2))]] : List (List Value)) [(IntKind.i64.wrap (0 - u2))] from ⟨⟨rfl, (B0 _)⟩, trivial⟩)] | exact congrArg (· + 1) (F2.length (F2.append fu3 (show F2 (Wp.int.R k4) ([[.int .i64 u2]] : List (List Value)) [u2] from ⟨⟨rfl, iu2⟩, trivial⟩))))) ?_
  refine And.intro rfl (And.intro (by repeat (first | exact trivial | refine And.intro rfl ?_)) (And.intro (by repeat (first | exact trivial | refine And.intro rfl ?_)) (Exists.intro m5 (And.intro ⟨(IntKind.i64.wrap (u2 + 1)), ((wu3 ++ ([[.int .i64 u2]] : List (List Value))) ++ ([[.int .i64 (IntKind.i64.wrap (0 - u2))]] : List (List Value))), ((u3 ++ [u2]) ++ [(IntKind.i64.wrap (0 - u2))]), rfl, rfl, sX1, (B0 _), (F2.append (F2.append fu3 (show F2 (Wp.int.R k4) ([[.int .i64 u2]] : List (List Value)) [u2] from ⟨⟨rfl, iu2⟩, trivial⟩)) (show F2 (Wp.int.R k4) ([[.int .i64 (IntKind.i64.wrap (0 - u2))]] : List (List Value)) [(IntKind.i64.wrap (0 - u2))] from ⟨⟨rfl, (B0 _)⟩, trivial⟩)), hM1⟩ (Nat.lt_succ_self _)))))
 ·replace hM1 := ifN hM1 hc6
  have hE := Option.some.inj hM1; subst hE
  try dsimp only [H0, I0] at hM0
  intro v9 k10 f11
  obtain ⟨az12, cz12, rfl, rz12, sz12, lz12⟩ := O0.out (r := Wp.int.toRp) f11 fu3
  have hE := Option.some.inj hM0; subst hE
  exact ⟨az12, u3.length, cz12, rfl, rz12, (sX1.trans sz12)⟩
end Go.Proofs.Ytknoadmdnjaocaa
namespace Go.Proofs.Ytknoadmdnjaocaa
open Go.H
set_option linter.unusedVariables false
set_option linter.unusedSimpArgs false
set_option maxRecDepth 10000
theorem Y05 (h : Hp) (ap0 : Option Addr) (np0 cp0 : Nat) (p0 : Q6) (rp0 : h9.R h [.slice ap0 np0 cp0] p0) (ap1 : Option Addr) (np1 cp1 : Nat) (p1 : i0) (rp1 : j0.R h [.slice ap1 np1 cp1] p1) (r : i0) (hM0 : c7 p0 p1 = some r) :
  Tr Try.prog 59 #[.slice ap0 np0 cp0, .slice ap1 np1 cp1] h fun v h' => ∃ (a0 : Option Addr) (n0 c0 : Nat), v = .slice a0 n0 c0 ∧ j0.R h' [.slice a0 n0 c0] r ∧ Sub h h' := by
 obtain ⟨rfl, lp0⟩ := Sl.len rp0
 obtain ⟨rfl, lp1⟩ := Sl.len rp1
 unfold c7 at hM0
 refine S2 (args := [.slice ap0 p0.length cp0, .slice ap1 p1.length cp1]) (fn := Try.f59) rfl ?_
 obtain ⟨X1, hLX1, hM0⟩ := f0 hM0
 refine Exists.intro { vars := [6], boxes := [], owns := [0], fuel := true } (Exists.intro (fun vs os h' => ∃ (u2 : Int) (wu3 : List (List Value)) (u3 : List Int), vs.tail = [.int .i64 u2] ∧ os = [wu3] ∧ Sub h h' ∧ D0 u2 ∧ F2 (Wp.int.R h') wu3 u3 ∧ E2 p1 p0 (F1 vs) u2 u3 = some X1) (Exists.intro (fun _ _ => 0) ?_))
 refine And.intro (Exists.intro N0 ⟨0, [], ([] : i0), rfl, rfl, (Sub.refl _), (c64 (by decide) (by decide)), (show F2 (Wp.int.R h) ([] : List (List Value)) ([] : i0) from trivial), hLX1⟩) ?_
 rintro v_0 wu3 m5 k4 ⟨u2, zzu3, u3, evX1, eoX1, sX1, iu2, fu3, hM1⟩
 cases evX1
 cases eoX1
 replace hM1 : E2 p1 p0 m5 u2 u3 = some X1 := hM1
 obtain _ | m5 := m5
 ·cases (show (none : Option _) = some X1 from hM1)
 rw [E2.eq_2] at hM1
 refine And.intro (fun hc6 => ?_) (fun hc6 => ?_)
 ·replace hM1 := ifP hM1 hc6
  obtain ⟨x7, gx7, hM1⟩ := f0 hM1
  obtain ⟨bx7, csx7, ex7, rx7⟩ := Sl.getI (r := Wp.int.toRp) (j0.mono sX1 rp1) gx7 (by decide)
  refine And.intro bx7 ?_
  obtain ⟨rfl, ix7⟩ := rx7
  refine Exists.intro _ (And.intro ex7 ?_)
  obtain ⟨x8, gx8, hM1⟩ := f0 hM1
  obtain ⟨csx8, ex8, rx8⟩ := Sl.getG (r := Wp.int.toRp) (j0.mono sX1 rp1) gx8 (by decide) (d8 k4)
  refine And.intro (fun q => (ex8 q).1) ?_
  obtain ⟨rfl, ix8⟩ := rx8
  refine Exists.intro _ (And.intro (fun q => (ex8 q).2) ?_)
  refine And.intro (fun hc9 => ?_) (fun hc9 => ?_)
  ·replace hM1 := ifP hM1 hc9
   obtain ⟨x10, gx10, hM1⟩ := f0 hM1
   obtain ⟨bx10, csx10, ex10, rx10⟩ := Sl.getI (r := Wp.int.toRp) (j0.mono sX1 rp1) gx10 (by decide)
   refine And.intro bx10 ?_
   obtain ⟨rfl, ix10⟩ := rx10
   refine Exists.intro _ (And.intro ex10 ?_)
   obtain ⟨x11, gx11, hM1⟩ := f0 hM1
   obtain ⟨bx11, csx11, ex11, rx11⟩ := Sl.getI (r := j0.toRp) (h9.mono sX1 rp0) gx11 (by decide)
   refine And.intro bx11 ?_
   obtain ⟨ax11, nx11, cx11, rfl⟩ := Wp.slice_cell rx11
   obtain ⟨rfl, lx11⟩ := Sl.len rx11
   refine Exists.intro _ (And.intro ex11 ?_)
   obtain ⟨vsy12, ey12, fy12⟩ := Sl.rows (r := Wp.int.toRp) rx11
   refine Exists.intro vsy12 (And.intro ey12 ?_)
   obtain ⟨q13, gq13, hM1⟩ := f0 hM1
   refine And.intro (R0 gq13 (by first | rw [F2.length fu3, F2.length fy12] | exact congrArg (· + 1) (F2.length fu3))) ?_
   refine And.intro rfl (And.intro (by repeat (first | exact trivial | refine And.intro rfl ?_)) (And.intro (by repeat (first | exact trivial | refine And.intro rfl ?_)) (Exists.intro m5 (And.intro ⟨(IntKind.i64.wrap (u2 + 1)), (wu3 ++ vsy12), (u3 ++ x11), rfl, rfl, sX1, (B0 _), (F2.append fu3 fy12), hM1⟩ (Nat.lt_succ_self _)))))
  ·replace hM1 := ifN hM1 hc9
   obtain ⟨x14, gx14, hM1⟩ := f0 hM1
   obtain ⟨bx14, csx14, ex14, rx14⟩ := Sl.getI (r := Wp.int.toRp) (j0.mono sX1 rp1) gx14 (by decide)
   refine And.intro bx14 ?_
   obtain ⟨rfl, ix14⟩ := rx14
   refine Exists.intro _ (And.intro ex14 ?_)
   obtain ⟨x15, gx15, hM1⟩ := f0 hM1
   obtain ⟨csx15, ex15, rx15⟩ := Sl.getG (r := Wp.int.toRp) (j0.mono sX1 rp1) gx15 (by decide) (d8 k4)
   refine And.intro (fun q => (ex15 q).1) ?_
   obtain ⟨rfl, ix15⟩ := rx15
   refine Exists.intro _ (And.intro (fun q => (ex15 q).2) ?_)
   refine And.intro (fun hc16 => ?_) (fun hc16 => ?_)
   ·replace hM1 := ifP hM1 hc16
    obtain ⟨x17, gx17, hM1⟩ := f0 hM1
    obtain ⟨bx17, csx17, ex17, rx17⟩ := Sl.getI (r := Wp.int.toRp) (j0.mono sX1 rp1) gx17 (by decide)
    refine And.intro bx17 ?_
    obtain ⟨rfl, ix17⟩ := rx17
    refine Exists.intro _ (And.intro ex17 ?_)
    obtain ⟨x18, gx18, hM1⟩ := f0 hM1
    obtain ⟨bx18, csx18, ex18, rx18⟩ := Sl.getI (r := j0.toRp) (h9.mono sX1 rp0) gx18 (by decide)
    refine And.intro bx18 ?_
    obtain ⟨ax18, nx18, cx18, rfl⟩ := Wp.slice_cell rx18
    obtain ⟨rfl, lx18⟩ := Sl.len rx18
    refine Exists.intro _ (And.intro ex18 ?_)
    obtain ⟨x19, gx19, hM1⟩ := f0 hM1
    refine Tr.mono (R00 _ ax18 x18.length cx18 x18 rx18 _  gx19) ?_
    rintro v21 k20 ⟨ax19, nx19, cx19, rfl, rx19, sx19⟩
    obtain ⟨rfl, lx19⟩ := Sl.len rx19
    obtain ⟨vsy22, ey22, fy22⟩ := Sl.rows (r := Wp.int.toRp) rx19
    refine Exists.intro vsy22 (And.intro ey22 ?_)
    obtain ⟨q23, gq23, hM1⟩ := f0 hM1
    refine And.intro (R0 gq23 (by first | rw [F2.length (F2.up (r := Wp.int.toRp) sx19 fu3), F2.length fy22] | exact congrArg (· + 1) (F2.length (F2.up (r := Wp.int.toRp) sx19 fu3)))) ?_
    refine And.intro rfl (And.intro (by repeat (first | exact trivial | refine And.intro rfl ?_)) (And.intro (by repeat (first | exact trivial | refine And.intro rfl ?_)) (Exists.intro m5 (And.intro ⟨(IntKind.i64.wrap (u2 + 1)), (wu3 ++ vsy22), (u3 ++ x19), rfl, rfl, (sX1.trans sx19), (B0 _), (F2.append (F2.up (r := Wp.int.toRp) sx19 fu3) fy22), hM1⟩ (Nat.lt_succ_self _)))))
   ·replace hM1 := ifN hM1 hc16
    refine And.intro rfl (And.intro (by repeat (first | exact trivial | refine And.intro rfl ?_)) (And.intro (by repeat (first | exact trivial | refine And.intro rfl ?_)) (Exists.intro m5 (And.intro ⟨(IntKind.i64.wrap (u2 + 1)), wu3, u3, rfl, rfl, sX1, (B0 _), fu3, hM1⟩ (Nat.lt_succ_self _)))))
 ·replace hM1 := ifN hM1 hc6
  have hE := Option.some.inj hM1; subst hE
  try dsimp only [H0, I0] at hM0
  refine Or.inl ?_
  intro v24 k25 f26
  obtain ⟨az27, cz27, rfl, rz27, sz27, lz27⟩ := O0.out (r := Wp.int.toRp) f26 fu3
  obtain ⟨x28, gx28, hM0⟩ := f0 hM0
  refine Tr.mono (N7 _ az27 u3.length cz27 u3 rz27 _  gx28) ?_
  rintro v30 k29 ⟨ax28, nx28, cx28, rfl, rx28, sx28⟩
  obtain ⟨rfl, lx28⟩ := Sl.len rx28
  have hE := Option.some.inj hM0; subst hE
  exact ⟨ax28, x28.length, cx28, rfl, rx28, ((sX1.trans sz27).trans sx28)⟩
end Go.Proofs.Ytknoadmdnjaocaa
namespace Go.Proofs.Ytknoadmdnjaocaa
open Go.H
set_option linter.unusedVariables false
set_option linter.unusedSimpArgs false
set_option maxRecDepth 10000
theorem V00 (h : Hp) (ap0 : Option Addr) (np0 cp0 : Nat) (p0 : (List ByteArray)) (rp0 : (Wp.slice Wp.str).R h [.slice ap0 np0 cp0] p0) (r : ByteArray) (hM0 : K6 p0 = some r) :
  Tr Try.prog 20 #[.slice ap0 np0 cp0] h fun v h' => v = .string r ∧ h' = h := by
 obtain ⟨rfl, lp0⟩ := Sl.len rp0
 unfold K6 at hM0
 refine Tr.forget (S2 (args := [.slice ap0 p0.length cp0]) (fn := Try.f20) rfl ?_)
 obtain ⟨x1, gx1, hM0⟩ := f0 hM0
 refine Tr.val (j09 _ ap0 p0.length cp0 p0 rp0 (⟨#[32]⟩ : ByteArray) (by decide) (⟨#[]⟩ : ByteArray) (by decide) _  gx1) ?_
 obtain ⟨q2, gq2, hM0⟩ := f0 hM0
 have ix1 : x1.size ≤ 9223372036854775807 := l0 gq2
 have hE := Option.some.inj hM0; subst hE
 exact And.intro rfl (Sub.refl _)
end Go.Proofs.Ytknoadmdnjaocaa
namespace Go.Proofs.Ytknoadmdnjaocaa
open Go.H
set_option linter.unusedVariables false
set_option linter.unusedSimpArgs false
set_option maxRecDepth 10000
theorem R02 (h : Hp) (p0 : Int) (ip0 : D0 p0) (r : i0) (hM0 : P8 p0 = some r) :
  Tr Try.prog 70 #[.int .i64 p0] h fun v h' => ∃ (a0 : Option Addr) (n0 c0 : Nat), v = .slice a0 n0 c0 ∧ j0.R h' [.slice a0 n0 c0] r ∧ Sub h h' := by
 unfold P8 at hM0
 refine S2 (args := [.int .i64 p0]) (fn := Try.f70) rfl ?_
 obtain ⟨X1, hLX1, hM0⟩ := f0 hM0
 refine Exists.intro { vars := [4], boxes := [], owns := [0], fuel := true } (Exists.intro (fun vs os h' => ∃ (u2 : Int) (wu3 : List (List Value)) (u3 : List Int), vs.tail = [.int .i64 u2] ∧ os = [wu3] ∧ Sub h h' ∧ D0 u2 ∧ F2 (Wp.int.R h') wu3 u3 ∧ V6 p0 (F1 vs) u2 u3 = some X1) (Exists.intro (fun _ _ => 0) ?_))
 refine And.intro (Exists.intro N0 ⟨1, [], ([] : i0), rfl, rfl, (Sub.refl _), (c64 (by decide) (by decide)), (show F2 (Wp.int.R h) ([] : List (List Value)) ([] : i0) from trivial), hLX1⟩) ?_
 rintro v_0 wu3 m5 k4 ⟨u2, zzu3, u3, evX1, eoX1, sX1, iu2, fu3, hM1⟩
 cases evX1
 cases eoX1
 replace hM1 : V6 p0 m5 u2 u3 = some X1 := hM1
 obtain _ | m5 := m5
 ·cases (show (none : Option _) = some X1 from hM1)
 rw [V6.eq_2] at hM1
 refine And.intro (fun hc6 => ?_) (fun hc6 => ?_)
 ·replace hM1 := ifP hM1 hc6
  obtain ⟨q7, gq7, hM1⟩ := f0 hM1
  refine And.intro (R0 gq7 (by first | rw [F2.length fu3, F2.length (show F2 (Wp.int.R k4) ([[.int .i64 u2], [.int .i64 (IntKind.i64.wrap (0 - u2))]] : List (List Value)) [u2, (IntKind.i64.wrap (0 - u2))] from ⟨⟨rfl, iu2⟩, ⟨⟨rfl, (B0 _)⟩, trivial⟩⟩)] | exact congrArg (· + 2) (F2.length fu3))) ?_
  refine And.intro rfl (And.intro (by repeat (first | exact trivial | refine And.intro rfl ?_)) (And.intro (by repeat (first | exact trivial | refine And.intro rfl ?_)) (Exists.intro m5 (And.intro ⟨(IntKind.i64.wrap (u2 + 1)), (wu3 ++ ([[.int .i64 u2], [.int .i64 (IntKind.i64.wrap (0 - u2))]] : List (List Value))), (u3 ++ [u2, (IntKind.i64.wrap (0 - u2))]), rfl, rfl, sX1, (B0 _), (F2.append fu3 (show F2 (Wp.int.R k4) ([[.int .i64 u2], [.int .i64 (IntKind.i64.wrap (0 - u2))]] : List (List Value)) [u2, (IntKind.i64.wrap (0 - u2))] from ⟨⟨rfl, iu2⟩, ⟨⟨rfl, (B0 _)⟩, trivial⟩⟩)), hM1⟩ (Nat.lt_succ_self _)))))
 ·replace hM1 := ifN hM1 hc6
  have hE := Option.some.inj hM1; subst hE
  try dsimp only [H0, I0] at hM0
  intro v8 k9 f10
  obtain ⟨az11, cz11, rfl, rz11, sz11, lz11⟩ := O0.out (r := Wp.int.toRp) f10 fu3
  have hE := Option.some.inj hM0; subst hE
  exact ⟨az11, u3.length, cz11, rfl, rz11, (sX1.trans sz11)⟩
end Go.Proofs.Ytknoadmdnjaocaa
namespace Go.Proofs.Ytknoadmdnjaocaa
open Go.H
set_option linter.unusedVariables false
set_option linter.unusedSimpArgs false
set_option maxRecDepth 10000
theorem a06 (h : Hp) (ap0 : Option Addr) (np0 cp0 : Nat) (p0 : Q6) (rp0 : h9.R h [.slice ap0 np0 cp0] p0) (ap1 : Option Addr) (np1 cp1 : Nat) (p1 : i0) (rp1 : j0.R h [.slice ap1 np1 cp1] p1) (r : i0) (hM0 : d7 p0 p1 = some r) :
  Tr Try.prog 63 #[.slice ap0 np0 cp0, .slice ap1 np1 cp1] h fun v h' => ∃ (a0 : Option Addr) (n0 c0 : Nat), v = .slice a0 n0 c0 ∧ j0.R h' [.slice a0 n0 c0] r ∧ Sub h h' := by
 obtain ⟨rfl, lp0⟩ := Sl.len rp0
 obtain ⟨rfl, lp1⟩ := Sl.len rp1
 unfold d7 at hM0
 refine S2 (args := [.slice ap0 p0.length cp0, .slice ap1 p1.length cp1]) (fn := Try.f63) rfl ?_
 obtain ⟨x1, gx1, hM0⟩ := f0 hM0
 obtain ⟨qx1, vsx1, ex1, fx1⟩ := Sl.cutI (r := Wp.int.toRp) rp1 gx1
 refine And.intro qx1 (Exists.intro vsx1 (And.intro ex1 ?_))
 intro vx1 hvx1 _
 obtain ⟨ax1, cx1, rfl, rx1⟩ := fx1 vx1 hvx1
 have lx1 := (Sl.len rx1).2
 obtain ⟨X2, hLX2, hM0⟩ := f0 hM0
 refine Exists.intro { vars := [15], boxes := [], owns := [0], fuel := true } (Exists.intro (fun vs os h' => ∃ (u3 : Int) (wu4 : List (List Value)) (u4 : List i0), vs.tail = [.int .i64 u3] ∧ os = [wu4] ∧ Sub h h' ∧ D0 u3 ∧ F2 (j0.R h') wu4 u4 ∧ G2 x1 p0 (F1 vs) u3 u4 = some X2) (Exists.intro (fun _ _ => 0) ?_))
 refine And.intro (Exists.intro N0 ⟨0, [], ([] : Q6), rfl, rfl, (Sub.refl _), (c64 (by decide) (by decide)), (show F2 (j0.R h) ([] : List (List Value)) ([] : Q6) from trivial), hLX2⟩) ?_
 rintro v_0 wu4 m6 k5 ⟨u3, zzu4, u4, evX2, eoX2, sX2, iu3, fu4, hM1⟩
 cases evX2
 cases eoX2
 replace hM1 : G2 x1 p0 m6 u3 u4 = some X2 := hM1
 obtain _ | m6 := m6
 ·cases (show (none : Option _) = some X2 from hM1)
 rw [G2.eq_2] at hM1
 refine And.intro (fun hc7 => ?_) (fun hc7 => ?_)
 ·replace hM1 := ifP hM1 hc7
  obtain ⟨x8, gx8, hM1⟩ := f0 hM1
  obtain ⟨bx8, csx8, ex8, rx8⟩ := Sl.getI (r := Wp.int.toRp) (j0.mono sX2 rx1) gx8 (by decide)
  refine And.intro bx8 ?_
  obtain ⟨rfl, ix8⟩ := rx8
  refine Exists.intro _ (And.intro ex8 ?_)
  obtain ⟨x9, gx9, hM1⟩ := f0 hM1
  refine Tr.val (U3 _ x8 ix8 1 (c64 (by decide) (by decide)) ((p0.length : Nat) : Int) (K0b lp0) _  gx9) ?_
  refine And.intro (fun hc10 => ?_) (fun hc10 => ?_)
  ·replace hM1 := ifP hM1 hc10
   obtain ⟨x11, gx11, hM1⟩ := f0 hM1
   obtain ⟨bx11, csx11, ex11, rx11⟩ := Sl.getI (r := j0.toRp) (h9.mono sX2 rp0) gx11 (by decide)
   refine And.intro bx11 ?_
   obtain ⟨ax11, nx11, cx11, rfl⟩ := Wp.slice_cell rx11
   obtain ⟨rfl, lx11⟩ := Sl.len rx11
   refine Exists.intro _ (And.intro ex11 ?_)
   obtain ⟨q12, gq12, hM1⟩ := f0 hM1
   refine And.intro (R0 gq12 (by first | rw [F2.length fu4, F2.length (show F2 (j0.R k5) ([[.slice ax11 x11.length cx11]] : List (List Value)) [x11] from ⟨rx11, trivial⟩)] | exact congrArg (· + 1) (F2.length fu4))) ?_
   refine And.intro rfl (And.intro (by repeat (first | exact trivial | refine And.intro rfl ?_)) (And.intro (by repeat (first | exact trivial | refine And.intro rfl ?_)) (Exists.intro m6 (And.intro ⟨(IntKind.i64.wrap (u3 + 1)), (wu4 ++ ([[.slice ax11 x11.length cx11]] : List (List Value))), (u4 ++ [x11]), rfl, rfl, sX2, (B0 _), (F2.append fu4 (show F2 (j0.R k5) ([[.slice ax11 x11.length cx11]] : List (List Value)) [x11] from ⟨rx11, trivial⟩)), hM1⟩ (Nat.lt_succ_self _)))))
  ·replace hM1 := ifN hM1 hc10
   obtain ⟨x13, gx13, hM1⟩ := f0 hM1
   refine Tr.val (U3 _ x8 ix8 (IntKind.i64.wrap (0 - ((p0.length : Nat) : Int))) (B0 _) (-1) (c64 (by decide) (by decide)) _  gx13) ?_
   refine And.intro (fun hc14 => ?_) (fun hc14 => ?_)
   ·replace hM1 := ifP hM1 hc14
    obtain ⟨x15, gx15, hM1⟩ := f0 hM1
    obtain ⟨bx15, csx15, ex15, rx15⟩ := Sl.getI (r := j0.toRp) (h9.mono sX2 rp0) gx15 (by decide)
    refine And.intro bx15 ?_
    obtain ⟨ax15, nx15, cx15, rfl⟩ := Wp.slice_cell rx15
    obtain ⟨rfl, lx15⟩ := Sl.len rx15
    refine Exists.intro _ (And.intro ex15 ?_)
    obtain ⟨x16, gx16, hM1⟩ := f0 hM1
    refine Tr.mono (S00 _ ax15 x15.length cx15 x15 rx15 _  gx16) ?_
    rintro v18 k17 ⟨ax16, nx16, cx16, rfl, wx16⟩
    have sx16 : Sub k5 k17 := wx16.sub
    have rx16 := wx16.r
    obtain ⟨rfl, lx16⟩ := Sl.len rx16
    obtain ⟨q19, gq19, hM1⟩ := f0 hM1
    refine And.intro (R0 gq19 (by first | rw [F2.length (F2.up (r := j0.toRp) sx16 fu4), F2.length (show F2 (j0.R k17) ([[.slice ax16 x16.length cx16]] : List (List Value)) [x16] from ⟨rx16, trivial⟩)] | exact congrArg (· + 1) (F2.length (F2.up (r := j0.toRp) sx16 fu4)))) ?_
    refine And.intro rfl (And.intro (by repeat (first | exact trivial | refine And.intro rfl ?_)) (And.intro (by repeat (first | exact trivial | refine And.intro rfl ?_)) (Exists.intro m6 (And.intro ⟨(IntKind.i64.wrap (u3 + 1)), (wu4 ++ ([[.slice ax16 x16.length cx16]] : List (List Value))), (u4 ++ [x16]), rfl, rfl, (sX2.trans sx16), (B0 _), (F2.append (F2.up (r := j0.toRp) sx16 fu4) (show F2 (j0.R k17) ([[.slice ax16 x16.length cx16]] : List (List Value)) [x16] from ⟨rx16, trivial⟩)), hM1⟩ (Nat.lt_succ_self _)))))
   ·replace hM1 := ifN hM1 hc14
    refine And.intro rfl (And.intro (by repeat (first | exact trivial | refine And.intro rfl ?_)) (And.intro (by repeat (first | exact trivial | refine And.intro rfl ?_)) (Exists.intro m6 (And.intro ⟨(IntKind.i64.wrap (u3 + 1)), wu4, u4, rfl, rfl, sX2, (B0 _), fu4, hM1⟩ (Nat.lt_succ_self _)))))
 ·replace hM1 := ifN hM1 hc7
  have hE := Option.some.inj hM1; subst hE
  try dsimp only [H0, I0] at hM0
  refine Or.inl ?_
  intro v20 k21 f22
  obtain ⟨az23, cz23, rfl, rz23, sz23, lz23⟩ := O0.out (r := j0.toRp) f22 fu4
  obtain ⟨x24, gx24, hM0⟩ := f0 hM0
  refine Tr.mono (A00 _ az23 u4.length cz23 u4 rz23 _  gx24) ?_
  rintro v26 k25 ⟨ax24, nx24, cx24, rfl, wx24⟩
  have sx24 : Sub k21 k25 := wx24.sub
  have rx24 := wx24.r
  obtain ⟨rfl, lx24⟩ := Sl.len rx24
  have hE := Option.some.inj hM0; subst hE
  exact ⟨ax24, x24.length, cx24, rfl, rx24, ((sX2.trans sz23).trans sx24)⟩
end Go.Proofs.Ytknoadmdnjaocaa
