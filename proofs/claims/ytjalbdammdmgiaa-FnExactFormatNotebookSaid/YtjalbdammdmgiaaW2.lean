/- The walks of batch 2. -/
import Derived.Test.YtjalbdammdmgiaaA2
import Derived.Test.YtjalbdammdmgiaaChecked
import Derived.Test.YtjalbdammdmgiaaW1
namespace Go.Proofs.Ytjalbdammdmgiaa
open Go.H
set_option linter.unusedVariables false
set_option linter.unusedSimpArgs false
set_option maxRecDepth 10000
theorem t_spec_FormatInt (h : Hp) (p0 : Int) (ip0 : In64 p0) (r : ByteArray) (hM0 : M_spec_FormatInt p0 = some r) :
    Tr Try.prog 62 #[.int .i64 p0] h fun v h' => v = .string r ∧ h' = h := by
  unfold M_spec_FormatInt at hM0
  refine Tr.forget (walk (args := [.int .i64 p0]) (fn := Try.f62) rfl ?_)
  refine And.intro (fun hc1 => ?_) (fun hc1 => ?_)
  · have hc1 : ((decide (p0 = 0))) = true := hc1
    rw [if_pos hc1] at hM0
    have hE := Option.some.inj hM0; subst hE
    exact And.intro rfl (Sub.refl _)
  · have hc1 : ((decide (p0 = 0))) = false := hc1
    rw [if_neg (bneT hc1)] at hM0
    obtain ⟨X2, hLX2, hM0⟩ := bsome hM0
    refine Exists.intro { vars := [0, 3], boxes := [], owns := [], fuel := true } (Exists.intro (fun vs os h' => ∃ (u3 : Int) (u4 : ByteArray), vs.tail = [.int .i64 u3, .string u4] ∧ os = [] ∧ Sub h h' ∧ In64 u3 ∧ u4.size ≤ 9223372036854775807 ∧ L_spec_FormatInt_0 (fuelOf vs) u3 u4 = some X2) (Exists.intro (fun _ _ => 0) ?_))
    refine And.intro (Exists.intro FUEL ⟨p0, (⟨#[]⟩ : ByteArray), rfl, rfl, (Sub.refl _), ip0, (by decide), hLX2⟩) ?_
    rintro v_0 v_1 m6 k5 ⟨u3, u4, evX2, eoX2, sX2, iu3, iu4, hM1⟩
    cases evX2
    cases eoX2
    replace hM1 : L_spec_FormatInt_0 m6 u3 u4 = some X2 := hM1
    obtain _ | m6 := m6
    · cases (show (none : Option _) = some X2 from hM1)
    rw [L_spec_FormatInt_0_succ] at hM1
    refine And.intro (fun hc7 => ?_) (fun hc7 => ?_)
    · have hc7 : ((!decide (u3 = 0))) = true := hc7
      rw [if_pos hc7] at hM1
      obtain ⟨q8, gq8, hM1⟩ := bsome hM1
      refine And.intro (grd_some gq8) ?_
      refine And.intro (fun hc9 => ?_) (fun hc9 => ?_)
      · have hc9 : ((decide ((Int.tmod u3 10) < 0))) = true := hc9
        rw [if_pos hc9] at hM1
        refine Exists.intro [(IntKind.u8.wrap (IntKind.i64.wrap (48 + (IntKind.i64.wrap (0 - (Int.tmod u3 10))))))] (And.intro (F2.u8 (show F2 (Rp.u8.R k5) ([[.int .u8 (IntKind.u8.wrap (IntKind.i64.wrap (48 + (IntKind.i64.wrap (0 - (Int.tmod u3 10))))))]] : List (List Value)) [(IntKind.u8.wrap (IntKind.i64.wrap (48 + (IntKind.i64.wrap (0 - (Int.tmod u3 10))))))] from ⟨rfl, trivial⟩)) ?_)
        obtain ⟨q10, gq10, hM1⟩ := bsome hM1
        obtain ⟨q11, gq11, hM1⟩ := bsome hM1
        have jq11 := grd_some gq11
        refine And.intro jq11 ?_
        obtain ⟨q12, gq12, hM1⟩ := bsome hM1
        refine And.intro (grd_some gq12) ?_
        refine And.intro rfl (And.intro (by first | exact trivial | exact And.intro rfl trivial | exact And.intro rfl (And.intro rfl trivial) | exact And.intro rfl (And.intro rfl (And.intro rfl trivial)) | exact And.intro rfl (And.intro rfl (And.intro rfl (And.intro rfl trivial)))) (And.intro (by first | exact trivial | exact And.intro rfl trivial | exact And.intro rfl (And.intro rfl trivial) | exact And.intro rfl (And.intro rfl (And.intro rfl trivial)) | exact And.intro rfl (And.intro rfl (And.intro rfl (And.intro rfl trivial)))) (Exists.intro m6 (And.intro ⟨(IntKind.i64.wrap (Int.tdiv u3 10)), ((strOfNums [(IntKind.u8.wrap (IntKind.i64.wrap (48 + (IntKind.i64.wrap (0 - (Int.tmod u3 10))))))]) ++ u4), rfl, rfl, sX2, (wrap64 _), (cat_size jq11), hM1⟩ (Nat.lt_succ_self _)))))
      · have hc9 : ((decide ((Int.tmod u3 10) < 0))) = false := hc9
        rw [if_neg (bneT hc9)] at hM1
        refine Exists.intro [(IntKind.u8.wrap (IntKind.i64.wrap (48 + (Int.tmod u3 10))))] (And.intro (F2.u8 (show F2 (Rp.u8.R k5) ([[.int .u8 (IntKind.u8.wrap (IntKind.i64.wrap (48 + (Int.tmod u3 10))))]] : List (List Value)) [(IntKind.u8.wrap (IntKind.i64.wrap (48 + (Int.tmod u3 10))))] from ⟨rfl, trivial⟩)) ?_)
        obtain ⟨q13, gq13, hM1⟩ := bsome hM1
        obtain ⟨q14, gq14, hM1⟩ := bsome hM1
        have jq14 := grd_some gq14
        refine And.intro jq14 ?_
        obtain ⟨q15, gq15, hM1⟩ := bsome hM1
        refine And.intro (grd_some gq15) ?_
        refine And.intro rfl (And.intro (by first | exact trivial | exact And.intro rfl trivial | exact And.intro rfl (And.intro rfl trivial) | exact And.intro rfl (And.intro rfl (And.intro rfl trivial)) | exact And.intro rfl (And.intro rfl (And.intro rfl (And.intro rfl trivial)))) (And.intro (by first | exact trivial | exact And.intro rfl trivial | exact And.intro rfl (And.intro rfl trivial) | exact And.intro rfl (And.intro rfl (And.intro rfl trivial)) | exact And.intro rfl (And.intro rfl (And.intro rfl (And.intro rfl trivial)))) (Exists.intro m6 (And.intro ⟨(IntKind.i64.wrap (Int.tdiv u3 10)), ((strOfNums [(IntKind.u8.wrap (IntKind.i64.wrap (48 + (Int.tmod u3 10))))]) ++ u4), rfl, rfl, sX2, (wrap64 _), (cat_size jq14), hM1⟩ (Nat.lt_succ_self _)))))
    · have hc7 : ((!decide (u3 = 0))) = false := hc7
      rw [if_neg (bneT hc7)] at hM1
      have hE := Option.some.inj hM1; subst hE
      try dsimp only [outK_inr, outL_inr] at hM0
      refine And.intro (fun hc16 => ?_) (fun hc16 => ?_)
      · have hc16 : ((decide (p0 < 0))) = true := hc16
        rw [if_pos hc16] at hM0
        obtain ⟨q17, gq17, hM0⟩ := bsome hM0
        have jq17 := grd_some gq17
        refine And.intro jq17 ?_
        have hE := Option.some.inj hM0; subst hE
        exact And.intro rfl sX2
      · have hc16 : ((decide (p0 < 0))) = false := hc16
        rw [if_neg (bneT hc16)] at hM0
        have hE := Option.some.inj hM0; subst hE
        exact And.intro rfl sX2

theorem t_spec_l2Letter (h : Hp) (p0 : Int) (ip0 : In64 p0) (r : Bool) (hM0 : M_spec_l2Letter p0 = some r) :
    Tr Try.prog 132 #[.int .i64 p0] h fun v h' => v = .bool r ∧ h' = h := by
  unfold M_spec_l2Letter at hM0
  refine Tr.forget (walk (args := [.int .i64 p0]) (fn := Try.f132) rfl ?_)
  obtain ⟨x1, gx1, hM0⟩ := bsome hM0
  refine Exists.intro (.bool x1) (And.intro (fun q => t_spec_l1In _ p0 ip0 (-3) (c64 (by decide) (by decide)) 3 (c64 (by decide) (by decide)) _  (chk_some gx1 q)) ?_)
  have hE := Option.some.inj hM0; subst hE
  exact And.intro rfl (Sub.refl _)

theorem t_spec_l2Char (h : Hp) (p0 : Int) (ip0 : In64 p0) (r : ByteArray) (hM0 : M_spec_l2Char p0 = some r) :
    Tr Try.prog 130 #[.int .i64 p0] h fun v h' => v = .string r ∧ h' = h := by
  unfold M_spec_l2Char at hM0
  refine Tr.forget (walk (args := [.int .i64 p0]) (fn := Try.f130) rfl ?_)
  refine And.intro (fun hc1 => ?_) (fun hc1 => ?_)
  · have hc1 : ((decide (p0 < 0))) = true := hc1
    rw [if_pos hc1] at hM0
    obtain ⟨x2, gx2, hM0⟩ := bsome hM0
    obtain ⟨bx2, csx2, ex2, rx2⟩ := oel_get (show F2 (Wp.str.R h) ([[.string (⟨#[65]⟩ : ByteArray)], [.string (⟨#[66]⟩ : ByteArray)], [.string (⟨#[67]⟩ : ByteArray)]] : List (List Value)) [(⟨#[65]⟩ : ByteArray), (⟨#[66]⟩ : ByteArray), (⟨#[67]⟩ : ByteArray)] from ⟨⟨rfl, (by decide)⟩, ⟨⟨rfl, (by decide)⟩, ⟨⟨rfl, (by decide)⟩, trivial⟩⟩⟩) gx2
    refine And.intro bx2 ?_
    obtain ⟨rfl, ix2⟩ := rx2
    refine Exists.intro _ (And.intro ex2 ?_)
    have hE := Option.some.inj hM0; subst hE
    exact And.intro rfl (Sub.refl _)
  · have hc1 : ((decide (p0 < 0))) = false := hc1
    rw [if_neg (bneT hc1)] at hM0
    obtain ⟨x3, gx3, hM0⟩ := bsome hM0
    obtain ⟨bx3, csx3, ex3, rx3⟩ := oel_get (show F2 (Wp.str.R h) ([[.string (⟨#[97]⟩ : ByteArray)], [.string (⟨#[98]⟩ : ByteArray)], [.string (⟨#[99]⟩ : ByteArray)]] : List (List Value)) [(⟨#[97]⟩ : ByteArray), (⟨#[98]⟩ : ByteArray), (⟨#[99]⟩ : ByteArray)] from ⟨⟨rfl, (by decide)⟩, ⟨⟨rfl, (by decide)⟩, ⟨⟨rfl, (by decide)⟩, trivial⟩⟩⟩) gx3
    refine And.intro bx3 ?_
    obtain ⟨rfl, ix3⟩ := rx3
    refine Exists.intro _ (And.intro ex3 ?_)
    have hE := Option.some.inj hM0; subst hE
    exact And.intro rfl (Sub.refl _)

theorem t_spec_FormatWord (h : Hp) (ap0 : Option Addr) (np0 cp0 : Nat) (p0 : LIntS) (rp0 : wIntS.R h [.slice ap0 np0 cp0] p0) (r : ByteArray) (hM0 : M_spec_FormatWord p0 = some r) :
    Tr Try.prog 84 #[.slice ap0 np0 cp0] h fun v h' => v = .string r ∧ h' = h := by
  obtain ⟨rfl, lp0⟩ := Sl.len rp0
  unfold M_spec_FormatWord at hM0
  refine Tr.forget (walk (args := [.slice ap0 p0.length cp0]) (fn := Try.f84) rfl ?_)
  obtain ⟨X1, hLX1, hM0⟩ := bsome hM0
  refine Exists.intro { vars := [3, 4], boxes := [], owns := [], fuel := true } (Exists.intro (fun vs os h' => ∃ (u2 : ByteArray) (u3 : Int), vs.tail = [.string u2, .int .i64 u3] ∧ os = [] ∧ Sub h h' ∧ u2.size ≤ 9223372036854775807 ∧ In64 u3 ∧ L_spec_FormatWord_0 p0 (fuelOf vs) u2 u3 = some X1) (Exists.intro (fun _ _ => 0) ?_))
  refine And.intro (Exists.intro FUEL ⟨(⟨#[]⟩ : ByteArray), 0, rfl, rfl, (Sub.refl _), (by decide), (c64 (by decide) (by decide)), hLX1⟩) ?_
  rintro v_0 v_1 m5 k4 ⟨u2, u3, evX1, eoX1, sX1, iu2, iu3, hM1⟩
  cases evX1
  cases eoX1
  replace hM1 : L_spec_FormatWord_0 p0 m5 u2 u3 = some X1 := hM1
  obtain _ | m5 := m5
  · cases (show (none : Option _) = some X1 from hM1)
  rw [L_spec_FormatWord_0_succ] at hM1
  refine And.intro (fun hc6 => ?_) (fun hc6 => ?_)
  · have hc6 : ((decide (u3 < ((p0.length : Nat) : Int)))) = true := hc6
    rw [if_pos hc6] at hM1
    obtain ⟨x7, gx7, hM1⟩ := bsome hM1
    obtain ⟨bx7, csx7, ex7, rx7⟩ := Sl.getI (r := Wp.int.toRp) (wIntS.mono sX1 rp0) gx7 (by decide)
    refine And.intro bx7 ?_
    obtain ⟨rfl, ix7⟩ := rx7
    refine Exists.intro _ (And.intro ex7 ?_)
    obtain ⟨x8, gx8, hM1⟩ := bsome hM1
    refine Tr.val (t_spec_l2Letter _ x7 ix7 _  gx8) ?_
    refine And.intro (fun hc9 => ?_) (fun hc9 => ?_)
    · have hc9 : ((!x8)) = true := hc9
      rw [if_pos hc9] at hM1
      have hE := Option.some.inj hM1; subst hE
      try dsimp only [outK_inl, outL_inl] at hM0
      have hE := Option.some.inj hM0; subst hE
      exact And.intro rfl sX1
    · have hc9 : ((!x8)) = false := hc9
      rw [if_neg (bneT hc9)] at hM1
      obtain ⟨x10, gx10, hM1⟩ := bsome hM1
      obtain ⟨bx10, csx10, ex10, rx10⟩ := Sl.getI (r := Wp.int.toRp) (wIntS.mono sX1 rp0) gx10 (by decide)
      refine And.intro bx10 ?_
      obtain ⟨rfl, ix10⟩ := rx10
      refine Exists.intro _ (And.intro ex10 ?_)
      obtain ⟨x11, gx11, hM1⟩ := bsome hM1
      refine Tr.val (t_spec_l2Char _ x10 ix10 _  gx11) ?_
      obtain ⟨q12, gq12, hM1⟩ := bsome hM1
      have ix11 : x11.size ≤ 9223372036854775807 := grd_some gq12
      obtain ⟨q13, gq13, hM1⟩ := bsome hM1
      have jq13 := grd_some gq13
      refine And.intro jq13 ?_
      refine And.intro rfl (And.intro (by first | exact trivial | exact And.intro rfl trivial | exact And.intro rfl (And.intro rfl trivial) | exact And.intro rfl (And.intro rfl (And.intro rfl trivial)) | exact And.intro rfl (And.intro rfl (And.intro rfl (And.intro rfl trivial)))) (And.intro (by first | exact trivial | exact And.intro rfl trivial | exact And.intro rfl (And.intro rfl trivial) | exact And.intro rfl (And.intro rfl (And.intro rfl trivial)) | exact And.intro rfl (And.intro rfl (And.intro rfl (And.intro rfl trivial)))) (Exists.intro m5 (And.intro ⟨(u2 ++ x11), (IntKind.i64.wrap (u3 + 1)), rfl, rfl, sX1, (cat_size jq13), (wrap64 _), hM1⟩ (Nat.lt_succ_self _)))))
  · have hc6 : ((decide (u3 < ((p0.length : Nat) : Int)))) = false := hc6
    rw [if_neg (bneT hc6)] at hM1
    have hE := Option.some.inj hM1; subst hE
    try dsimp only [outK_inr, outL_inr] at hM0
    refine And.intro (fun hc14 => ?_) (fun hc14 => ?_)
    · have hc14 : ((seqB u2 (⟨#[]⟩ : ByteArray))) = true := hc14
      rw [if_pos hc14] at hM0
      have hE := Option.some.inj hM0; subst hE
      exact And.intro rfl sX1
    · have hc14 : ((seqB u2 (⟨#[]⟩ : ByteArray))) = false := hc14
      rw [if_neg (bneT hc14)] at hM0
      have hE := Option.some.inj hM0; subst hE
      exact And.intro rfl sX1

theorem t_spec_FormatWords (h : Hp) (ap0 : Option Addr) (np0 cp0 : Nat) (p0 : LIntSS) (rp0 : wIntSS.R h [.slice ap0 np0 cp0] p0) (r : ByteArray) (hM0 : M_spec_FormatWords p0 = some r) :
    Tr Try.prog 63 #[.slice ap0 np0 cp0] h fun v h' => v = .string r ∧ h' = h := by
  obtain ⟨rfl, lp0⟩ := Sl.len rp0
  unfold M_spec_FormatWords at hM0
  refine Tr.forget (walk (args := [.slice ap0 p0.length cp0]) (fn := Try.f63) rfl ?_)
  obtain ⟨X1, hLX1, hM0⟩ := bsome hM0
  refine Exists.intro { vars := [3, 4], boxes := [], owns := [], fuel := true } (Exists.intro (fun vs os h' => ∃ (u2 : ByteArray) (u3 : Int), vs.tail = [.string u2, .int .i64 u3] ∧ os = [] ∧ Sub h h' ∧ u2.size ≤ 9223372036854775807 ∧ In64 u3 ∧ L_spec_FormatWords_0 p0 (fuelOf vs) u2 u3 = some X1) (Exists.intro (fun _ _ => 0) ?_))
  refine And.intro (Exists.intro FUEL ⟨(⟨#[]⟩ : ByteArray), 0, rfl, rfl, (Sub.refl _), (by decide), (c64 (by decide) (by decide)), hLX1⟩) ?_
  rintro v_0 v_1 m5 k4 ⟨u2, u3, evX1, eoX1, sX1, iu2, iu3, hM1⟩
  cases evX1
  cases eoX1
  replace hM1 : L_spec_FormatWords_0 p0 m5 u2 u3 = some X1 := hM1
  obtain _ | m5 := m5
  · cases (show (none : Option _) = some X1 from hM1)
  rw [L_spec_FormatWords_0_succ] at hM1
  refine And.intro (fun hc6 => ?_) (fun hc6 => ?_)
  · have hc6 : ((decide (u3 < ((p0.length : Nat) : Int)))) = true := hc6
    rw [if_pos hc6] at hM1
    refine And.intro (fun hc7 => ?_) (fun hc7 => ?_)
    · have hc7 : ((decide (u3 > 0))) = true := hc7
      rw [if_pos hc7] at hM1
      obtain ⟨q8, gq8, hM1⟩ := bsome hM1
      have jq8 := grd_some gq8
      refine And.intro jq8 ?_
      obtain ⟨x9, gx9, hM1⟩ := bsome hM1
      obtain ⟨bx9, csx9, ex9, rx9⟩ := Sl.getI (r := wIntS.toRp) (wIntSS.mono sX1 rp0) gx9 (by decide)
      refine And.intro bx9 ?_
      obtain ⟨ax9, nx9, cx9, rfl⟩ := Wp.slice_cell rx9
      obtain ⟨rfl, lx9⟩ := Sl.len rx9
      refine Exists.intro _ (And.intro ex9 ?_)
      obtain ⟨x10, gx10, hM1⟩ := bsome hM1
      refine Tr.val (t_spec_FormatWord _ ax9 x9.length cx9 x9 rx9 _  gx10) ?_
      obtain ⟨q11, gq11, hM1⟩ := bsome hM1
      have ix10 : x10.size ≤ 9223372036854775807 := grd_some gq11
      refine And.intro (fun hc12 => ?_) (fun hc12 => ?_)
      · have hc12 : ((seqB x10 (⟨#[]⟩ : ByteArray))) = true := hc12
        rw [if_pos hc12] at hM1
        have hE := Option.some.inj hM1; subst hE
        try dsimp only [outK_inl, outL_inl] at hM0
        have hE := Option.some.inj hM0; subst hE
        exact And.intro rfl sX1
      · have hc12 : ((seqB x10 (⟨#[]⟩ : ByteArray))) = false := hc12
        rw [if_neg (bneT hc12)] at hM1
        obtain ⟨q13, gq13, hM1⟩ := bsome hM1
        have jq13 := grd_some gq13
        refine And.intro jq13 ?_
        refine And.intro rfl (And.intro (by first | exact trivial | exact And.intro rfl trivial | exact And.intro rfl (And.intro rfl trivial) | exact And.intro rfl (And.intro rfl (And.intro rfl trivial)) | exact And.intro rfl (And.intro rfl (And.intro rfl (And.intro rfl trivial)))) (And.intro (by first | exact trivial | exact And.intro rfl trivial | exact And.intro rfl (And.intro rfl trivial) | exact And.intro rfl (And.intro rfl (And.intro rfl trivial)) | exact And.intro rfl (And.intro rfl (And.intro rfl (And.intro rfl trivial)))) (Exists.intro m5 (And.intro ⟨((u2 ++ (⟨#[44]⟩ : ByteArray)) ++ x10), (IntKind.i64.wrap (u3 + 1)), rfl, rfl, sX1, (cat_size jq13), (wrap64 _), hM1⟩ (Nat.lt_succ_self _)))))
    · have hc7 : ((decide (u3 > 0))) = false := hc7
      rw [if_neg (bneT hc7)] at hM1
      obtain ⟨x14, gx14, hM1⟩ := bsome hM1
      obtain ⟨bx14, csx14, ex14, rx14⟩ := Sl.getI (r := wIntS.toRp) (wIntSS.mono sX1 rp0) gx14 (by decide)
      refine And.intro bx14 ?_
      obtain ⟨ax14, nx14, cx14, rfl⟩ := Wp.slice_cell rx14
      obtain ⟨rfl, lx14⟩ := Sl.len rx14
      refine Exists.intro _ (And.intro ex14 ?_)
      obtain ⟨x15, gx15, hM1⟩ := bsome hM1
      refine Tr.val (t_spec_FormatWord _ ax14 x14.length cx14 x14 rx14 _  gx15) ?_
      obtain ⟨q16, gq16, hM1⟩ := bsome hM1
      have ix15 : x15.size ≤ 9223372036854775807 := grd_some gq16
      refine And.intro (fun hc17 => ?_) (fun hc17 => ?_)
      · have hc17 : ((seqB x15 (⟨#[]⟩ : ByteArray))) = true := hc17
        rw [if_pos hc17] at hM1
        have hE := Option.some.inj hM1; subst hE
        try dsimp only [outK_inl, outL_inl] at hM0
        have hE := Option.some.inj hM0; subst hE
        exact And.intro rfl sX1
      · have hc17 : ((seqB x15 (⟨#[]⟩ : ByteArray))) = false := hc17
        rw [if_neg (bneT hc17)] at hM1
        obtain ⟨q18, gq18, hM1⟩ := bsome hM1
        have jq18 := grd_some gq18
        refine And.intro jq18 ?_
        refine And.intro rfl (And.intro (by first | exact trivial | exact And.intro rfl trivial | exact And.intro rfl (And.intro rfl trivial) | exact And.intro rfl (And.intro rfl (And.intro rfl trivial)) | exact And.intro rfl (And.intro rfl (And.intro rfl (And.intro rfl trivial)))) (And.intro (by first | exact trivial | exact And.intro rfl trivial | exact And.intro rfl (And.intro rfl trivial) | exact And.intro rfl (And.intro rfl (And.intro rfl trivial)) | exact And.intro rfl (And.intro rfl (And.intro rfl (And.intro rfl trivial)))) (Exists.intro m5 (And.intro ⟨(u2 ++ x15), (IntKind.i64.wrap (u3 + 1)), rfl, rfl, sX1, (cat_size jq18), (wrap64 _), hM1⟩ (Nat.lt_succ_self _)))))
  · have hc6 : ((decide (u3 < ((p0.length : Nat) : Int)))) = false := hc6
    rw [if_neg (bneT hc6)] at hM1
    have hE := Option.some.inj hM1; subst hE
    try dsimp only [outK_inr, outL_inr] at hM0
    refine And.intro (fun hc19 => ?_) (fun hc19 => ?_)
    · have hc19 : ((seqB u2 (⟨#[]⟩ : ByteArray))) = true := hc19
      rw [if_pos hc19] at hM0
      have hE := Option.some.inj hM0; subst hE
      exact And.intro rfl sX1
    · have hc19 : ((seqB u2 (⟨#[]⟩ : ByteArray))) = false := hc19
      rw [if_neg (bneT hc19)] at hM0
      have hE := Option.some.inj hM0; subst hE
      exact And.intro rfl sX1

theorem t_spec_FormatPresentation (h : Hp) (csp0 : List Value) (p0 : LPresentation) (rp0 : wPresentation.R h csp0 p0) (r : ByteArray) (hM0 : M_spec_FormatPresentation p0 = some r) :
    Tr Try.prog 15 #[.agg csp0.toArray] h fun v h' => v = .string r ∧ h' = h := by
  obtain ⟨p0_0, ap0_1, np0_1, cp0_1, p0_1, rfl, rfl, ip0_0, rp0_1⟩ := openPresentation rp0
  obtain ⟨rfl, lp0_1⟩ := Sl.len rp0_1
  unfold M_spec_FormatPresentation at hM0
  dsimp only at hM0
  refine Tr.forget (walk (args := [.agg #[.int .i64 p0_0, .slice ap0_1 p0_1.length cp0_1]]) (fn := Try.f15) rfl ?_)
  obtain ⟨x1, gx1, hM0⟩ := bsome hM0
  refine Tr.val (t_spec_IsPresentation _ [.int .i64 p0_0, .slice ap0_1 p0_1.length cp0_1] (p0_0, p0_1) (closePresentation ip0_0 rp0_1) _  gx1) ?_
  refine And.intro (fun hc2 => ?_) (fun hc2 => ?_)
  · have hc2 : ((!x1)) = true := hc2
    rw [if_pos hc2] at hM0
    have hE := Option.some.inj hM0; subst hE
    exact And.intro rfl (Sub.refl _)
  · have hc2 : ((!x1)) = false := hc2
    rw [if_neg (bneT hc2)] at hM0
    refine Or.inl (And.intro (And.intro (by kernel_rfl) (by kernel_rfl)) ?_)
    obtain ⟨x3, gx3, hM0⟩ := bsome hM0
    refine Exists.intro (.string x3) (And.intro (t_spec_FormatInt _ p0_0 ip0_0 _  gx3) ?_)
    obtain ⟨q4, gq4, hM0⟩ := bsome hM0
    have ix3 : x3.size ≤ 9223372036854775807 := grd_some gq4
    obtain ⟨q5, gq5, hM0⟩ := bsome hM0
    have jq5 := grd_some gq5
    refine And.intro jq5 ?_
    obtain ⟨x6, gx6, hM0⟩ := bsome hM0
    refine Exists.intro (.string x6) (And.intro (t_spec_FormatWords _ ap0_1 p0_1.length cp0_1 p0_1 rp0_1 _  gx6) ?_)
    obtain ⟨q7, gq7, hM0⟩ := bsome hM0
    have ix6 : x6.size ≤ 9223372036854775807 := grd_some gq7
    obtain ⟨q8, gq8, hM0⟩ := bsome hM0
    have jq8 := grd_some gq8
    refine And.intro jq8 ?_
    have hE := Option.some.inj hM0; subst hE
    exact And.intro rfl (Sub.refl _)

theorem t_impl_FormatInt (h : Hp) (p0 : Int) (ip0 : In64 p0) (r : ByteArray) (hM0 : M_impl_FormatInt p0 = some r) :
    Tr Try.prog 66 #[.int .i64 p0] h fun v h' => v = .string r ∧ h' = h := by
  unfold M_impl_FormatInt at hM0
  refine Tr.forget (walk (args := [.int .i64 p0]) (fn := Try.f66) rfl ?_)
  refine And.intro (fun hc1 => ?_) (fun hc1 => ?_)
  · have hc1 : ((decide (p0 = 0))) = true := hc1
    rw [if_pos hc1] at hM0
    have hE := Option.some.inj hM0; subst hE
    exact And.intro rfl (Sub.refl _)
  · have hc1 : ((decide (p0 = 0))) = false := hc1
    rw [if_neg (bneT hc1)] at hM0
    obtain ⟨X2, hLX2, hM0⟩ := bsome hM0
    refine Exists.intro { vars := [4], boxes := [], owns := [0], fuel := true } (Exists.intro (fun vs os h' => ∃ (u3 : Int) (wu4 : List (List Value)) (u4 : List Int), vs.tail = [.int .i64 u3] ∧ os = [wu4] ∧ Sub h h' ∧ In64 u3 ∧ F2 (Rp.u8.R h') wu4 u4 ∧ L_impl_FormatInt_1 (fuelOf vs) u3 u4 = some X2) (Exists.intro (fun _ _ => 0) ?_))
    refine And.intro (Exists.intro FUEL ⟨p0, [], ([] : (List Int)), rfl, rfl, (Sub.refl _), ip0, (show F2 (Rp.u8.R h) ([] : List (List Value)) ([] : (List Int)) from trivial), hLX2⟩) ?_
    rintro v_0 wu4 m6 k5 ⟨u3, zzu4, u4, evX2, eoX2, sX2, iu3, fu4, hM1⟩
    cases evX2
    cases eoX2
    replace hM1 : L_impl_FormatInt_1 m6 u3 u4 = some X2 := hM1
    obtain _ | m6 := m6
    · cases (show (none : Option _) = some X2 from hM1)
    rw [L_impl_FormatInt_1_succ] at hM1
    refine And.intro (fun hc7 => ?_) (fun hc7 => ?_)
    · have hc7 : ((!decide (u3 = 0))) = true := hc7
      rw [if_pos hc7] at hM1
      obtain ⟨q8, gq8, hM1⟩ := bsome hM1
      refine And.intro (grd_some gq8) ?_
      refine And.intro (fun hc9 => ?_) (fun hc9 => ?_)
      · have hc9 : ((decide ((Int.tmod u3 10) < 0))) = true := hc9
        rw [if_pos hc9] at hM1
        obtain ⟨q10, gq10, hM1⟩ := bsome hM1
        refine And.intro (room_of gq10 (by first | rw [F2.length fu4, F2.length (show F2 (Rp.u8.R k5) ([[.int .u8 (IntKind.u8.wrap (IntKind.i64.wrap (48 + (IntKind.i64.wrap (0 - (Int.tmod u3 10))))))]] : List (List Value)) [(IntKind.u8.wrap (IntKind.i64.wrap (48 + (IntKind.i64.wrap (0 - (Int.tmod u3 10))))))] from ⟨rfl, trivial⟩)] | exact congrArg (· + 1) (F2.length fu4))) ?_
        obtain ⟨q11, gq11, hM1⟩ := bsome hM1
        refine And.intro (grd_some gq11) ?_
        refine And.intro rfl (And.intro (by first | exact trivial | exact And.intro rfl trivial | exact And.intro rfl (And.intro rfl trivial) | exact And.intro rfl (And.intro rfl (And.intro rfl trivial)) | exact And.intro rfl (And.intro rfl (And.intro rfl (And.intro rfl trivial)))) (And.intro (by first | exact trivial | exact And.intro rfl trivial | exact And.intro rfl (And.intro rfl trivial) | exact And.intro rfl (And.intro rfl (And.intro rfl trivial)) | exact And.intro rfl (And.intro rfl (And.intro rfl (And.intro rfl trivial)))) (Exists.intro m6 (And.intro ⟨(IntKind.i64.wrap (Int.tdiv u3 10)), (wu4 ++ ([[.int .u8 (IntKind.u8.wrap (IntKind.i64.wrap (48 + (IntKind.i64.wrap (0 - (Int.tmod u3 10))))))]] : List (List Value))), (u4 ++ [(IntKind.u8.wrap (IntKind.i64.wrap (48 + (IntKind.i64.wrap (0 - (Int.tmod u3 10))))))]), rfl, rfl, sX2, (wrap64 _), (F2.append fu4 (show F2 (Rp.u8.R k5) ([[.int .u8 (IntKind.u8.wrap (IntKind.i64.wrap (48 + (IntKind.i64.wrap (0 - (Int.tmod u3 10))))))]] : List (List Value)) [(IntKind.u8.wrap (IntKind.i64.wrap (48 + (IntKind.i64.wrap (0 - (Int.tmod u3 10))))))] from ⟨rfl, trivial⟩)), hM1⟩ (Nat.lt_succ_self _)))))
      · have hc9 : ((decide ((Int.tmod u3 10) < 0))) = false := hc9
        rw [if_neg (bneT hc9)] at hM1
        obtain ⟨q12, gq12, hM1⟩ := bsome hM1
        refine And.intro (room_of gq12 (by first | rw [F2.length fu4, F2.length (show F2 (Rp.u8.R k5) ([[.int .u8 (IntKind.u8.wrap (IntKind.i64.wrap (48 + (Int.tmod u3 10))))]] : List (List Value)) [(IntKind.u8.wrap (IntKind.i64.wrap (48 + (Int.tmod u3 10))))] from ⟨rfl, trivial⟩)] | exact congrArg (· + 1) (F2.length fu4))) ?_
        obtain ⟨q13, gq13, hM1⟩ := bsome hM1
        refine And.intro (grd_some gq13) ?_
        refine And.intro rfl (And.intro (by first | exact trivial | exact And.intro rfl trivial | exact And.intro rfl (And.intro rfl trivial) | exact And.intro rfl (And.intro rfl (And.intro rfl trivial)) | exact And.intro rfl (And.intro rfl (And.intro rfl (And.intro rfl trivial)))) (And.intro (by first | exact trivial | exact And.intro rfl trivial | exact And.intro rfl (And.intro rfl trivial) | exact And.intro rfl (And.intro rfl (And.intro rfl trivial)) | exact And.intro rfl (And.intro rfl (And.intro rfl (And.intro rfl trivial)))) (Exists.intro m6 (And.intro ⟨(IntKind.i64.wrap (Int.tdiv u3 10)), (wu4 ++ ([[.int .u8 (IntKind.u8.wrap (IntKind.i64.wrap (48 + (Int.tmod u3 10))))]] : List (List Value))), (u4 ++ [(IntKind.u8.wrap (IntKind.i64.wrap (48 + (Int.tmod u3 10))))]), rfl, rfl, sX2, (wrap64 _), (F2.append fu4 (show F2 (Rp.u8.R k5) ([[.int .u8 (IntKind.u8.wrap (IntKind.i64.wrap (48 + (Int.tmod u3 10))))]] : List (List Value)) [(IntKind.u8.wrap (IntKind.i64.wrap (48 + (Int.tmod u3 10))))] from ⟨rfl, trivial⟩)), hM1⟩ (Nat.lt_succ_self _)))))
    · have hc7 : ((!decide (u3 = 0))) = false := hc7
      rw [if_neg (bneT hc7)] at hM1
      have hE := Option.some.inj hM1; subst hE
      try dsimp only [outK_inr, outL_inr] at hM0
      refine And.intro (fun hc14 => ?_) (fun hc14 => ?_)
      · have hc14 : ((decide (p0 < 0))) = true := hc14
        rw [if_pos hc14] at hM0
        obtain ⟨q15, gq15, hM0⟩ := bsome hM0
        refine And.intro (room_of gq15 (by first | rw [F2.length fu4, F2.length (show F2 (Rp.u8.R k5) ([[.int .u8 45]] : List (List Value)) [45] from ⟨rfl, trivial⟩)] | exact congrArg (· + 1) (F2.length fu4))) ?_
        obtain ⟨m16, gm16, hM0⟩ := bsome hM0
        obtain rfl : (wu4 ++ ([[.int .u8 45]] : List (List Value))).length = m16 := (F2.length (F2.append fu4 (show F2 (Rp.u8.R k5) ([[.int .u8 45]] : List (List Value)) [45] from ⟨rfl, trivial⟩))).trans (Option.some.inj gm16)
        obtain ⟨q17, gq17, hM0⟩ := bsome hM0
        obtain ⟨X18, hLX18, hM0⟩ := bsome hM0
        refine Exists.intro { vars := [6, 7], boxes := [], owns := [0], fuel := true, kept := [0] } (Exists.intro (fun vs os h' => ∃ (u19 : Int) (u20 : Int) (wu21 : List (List Value)) (u21 : List Int), vs.tail = [.int .i64 u19, .int .i64 u20] ∧ os = [wu21] ∧ Sub k5 h' ∧ In64 u19 ∧ In64 u20 ∧ F2 (Rp.u8.R h') wu21 u21 ∧ L_impl_FormatInt_0 (fuelOf vs) u19 u20 u21 = some X18) (Exists.intro (fun _ _ => 0) ?_))
        refine And.intro (Exists.intro FUEL ⟨0, (IntKind.i64.wrap ((((wu4 ++ ([[.int .u8 45]] : List (List Value))).length : Nat) : Int) - 1)), (wu4 ++ ([[.int .u8 45]] : List (List Value))), (u4 ++ [45]), rfl, rfl, (Sub.refl _), (c64 (by decide) (by decide)), (wrap64 _), (F2.append fu4 (show F2 (Rp.u8.R k5) ([[.int .u8 45]] : List (List Value)) [45] from ⟨rfl, trivial⟩)), hLX18⟩) ?_
        rintro v_0 v_1 wu21 m23 k22 ⟨u19, u20, zzu21, u21, evX18, eoX18, sX18, iu19, iu20, fu21, hM1⟩
        cases evX18
        cases eoX18
        replace hM1 : L_impl_FormatInt_0 m23 u19 u20 u21 = some X18 := hM1
        obtain _ | m23 := m23
        · cases (show (none : Option _) = some X18 from hM1)
        rw [L_impl_FormatInt_0_succ] at hM1
        refine And.intro (fun hc24 => ?_) (fun hc24 => ?_)
        · have hc24 : ((decide (u19 < u20))) = true := hc24
          rw [if_pos hc24] at hM1
          refine Or.inr (Or.inr (Or.inl (And.intro (And.intro (by kernel_rfl) (by kernel_rfl)) ?_)))
          obtain ⟨x25, gx25, hM1⟩ := bsome hM1
          obtain ⟨bx25, csx25, ex25, rx25⟩ := oel_get fu21 gx25
          obtain rfl := rx25
          refine Or.inl ?_
          apply Exists.intro
          refine And.intro ?_ ?_
          · intro k26 s27
            exact And.intro bx25 (And.intro rfl (And.intro rfl rfl))
          refine Or.inl (Exists.intro (.val (.int .u8 x25)) (And.intro ?_ ?_))
          · intro k28 s29
            exact Exists.intro _ (And.intro ex25 (And.intro rfl (And.intro rfl rfl)))
          obtain ⟨x30, gx30, hM1⟩ := bsome hM1
          obtain ⟨bx30, csx30, ex30, rx30⟩ := oel_get fu21 gx30
          obtain rfl := rx30
          refine Or.inl ?_
          apply Exists.intro
          refine And.intro ?_ ?_
          · intro k31 s32
            exact And.intro bx30 (And.intro rfl (And.intro rfl rfl))
          refine Or.inl (Exists.intro (.val (.int .u8 x30)) (And.intro ?_ ?_))
          · intro k33 s34
            exact Exists.intro _ (And.intro ex30 (And.intro rfl (And.intro rfl rfl)))
          refine Or.inr ?_
          refine Or.inr ?_
          refine Or.inr ?_
          refine Or.inr ?_
          refine And.intro (And.intro rfl rfl) ?_
          obtain ⟨x35, gx35, hM1⟩ := bsome hM1
          obtain ⟨bx35, csx35, ex35, rx35⟩ := oel_get fu21 gx35
          refine And.intro bx35 ?_
          obtain rfl := rx35
          refine And.intro (by first | exact trivial | exact rfl) ?_
          refine Exists.intro _ (And.intro ex35 ?_)
          refine And.intro (by first | exact trivial | exact rfl) ?_
          obtain ⟨x36, gx36, hM1⟩ := bsome hM1
          obtain ⟨bx36, csx36, ex36, rx36⟩ := oel_get (F2.set (p := Rp.u8.R k22) (a := [.int .u8 x25]) (b := x25) rfl u19.toNat fu21) gx36
          refine And.intro bx36 ?_
          obtain rfl := rx36
          refine And.intro (by first | exact trivial | exact rfl) ?_
          refine Exists.intro _ (And.intro ex36 ?_)
          refine And.intro (by first | exact trivial | exact rfl) ?_
          refine And.intro rfl (And.intro (by first | exact trivial | exact And.intro rfl trivial | exact And.intro rfl (And.intro rfl trivial) | exact And.intro rfl (And.intro rfl (And.intro rfl trivial)) | exact And.intro rfl (And.intro rfl (And.intro rfl (And.intro rfl trivial)))) (And.intro (by first | exact trivial | exact And.intro rfl trivial | exact And.intro rfl (And.intro rfl trivial) | exact And.intro rfl (And.intro rfl (And.intro rfl trivial)) | exact And.intro rfl (And.intro rfl (And.intro rfl (And.intro rfl trivial)))) (Exists.intro m23 (And.intro ⟨(IntKind.i64.wrap (u19 + 1)), (IntKind.i64.wrap (u20 - 1)), ((wu21.set u19.toNat [.int .u8 x25]).set u20.toNat [.int .u8 x30]), ((u21.set u19.toNat x25).set u20.toNat x30), rfl, rfl, sX18, (wrap64 _), (wrap64 _), (F2.set (p := Rp.u8.R k22) (a := [.int .u8 x30]) (b := x30) rfl u20.toNat (F2.set (p := Rp.u8.R k22) (a := [.int .u8 x25]) (b := x25) rfl u19.toNat fu21)), hM1⟩ (Nat.lt_succ_self _)))))
        · have hc24 : ((decide (u19 < u20))) = false := hc24
          rw [if_neg (bneT hc24)] at hM1
          have hE := Option.some.inj hM1; subst hE
          try dsimp only [outK_inr, outL_inr] at hM0
          refine Exists.intro u21 (And.intro (F2.u8 fu21) ?_)
          obtain ⟨q37, gq37, hM0⟩ := bsome hM0
          have hE := Option.some.inj hM0; subst hE
          exact And.intro rfl (sX2.trans sX18)
      · have hc14 : ((decide (p0 < 0))) = false := hc14
        rw [if_neg (bneT hc14)] at hM0
        obtain ⟨m43, gm43, hM0⟩ := bsome hM0
        obtain rfl : wu4.length = m43 := (F2.length fu4).trans (Option.some.inj gm43)
        obtain ⟨q44, gq44, hM0⟩ := bsome hM0
        obtain ⟨X45, hLX45, hM0⟩ := bsome hM0
        refine Exists.intro { vars := [6, 7], boxes := [], owns := [0], fuel := true, kept := [0] } (Exists.intro (fun vs os h' => ∃ (u46 : Int) (u47 : Int) (wu48 : List (List Value)) (u48 : List Int), vs.tail = [.int .i64 u46, .int .i64 u47] ∧ os = [wu48] ∧ Sub k5 h' ∧ In64 u46 ∧ In64 u47 ∧ F2 (Rp.u8.R h') wu48 u48 ∧ L_impl_FormatInt_0 (fuelOf vs) u46 u47 u48 = some X45) (Exists.intro (fun _ _ => 0) ?_))
        refine And.intro (Exists.intro FUEL ⟨0, (IntKind.i64.wrap (((wu4.length : Nat) : Int) - 1)), wu4, u4, rfl, rfl, (Sub.refl _), (c64 (by decide) (by decide)), (wrap64 _), fu4, hLX45⟩) ?_
        rintro v_0 v_1 wu48 m50 k49 ⟨u46, u47, zzu48, u48, evX45, eoX45, sX45, iu46, iu47, fu48, hM1⟩
        cases evX45
        cases eoX45
        replace hM1 : L_impl_FormatInt_0 m50 u46 u47 u48 = some X45 := hM1
        obtain _ | m50 := m50
        · cases (show (none : Option _) = some X45 from hM1)
        rw [L_impl_FormatInt_0_succ] at hM1
        refine And.intro (fun hc51 => ?_) (fun hc51 => ?_)
        · have hc51 : ((decide (u46 < u47))) = true := hc51
          rw [if_pos hc51] at hM1
          refine Or.inr (Or.inr (Or.inl (And.intro (And.intro (by kernel_rfl) (by kernel_rfl)) ?_)))
          obtain ⟨x52, gx52, hM1⟩ := bsome hM1
          obtain ⟨bx52, csx52, ex52, rx52⟩ := oel_get fu48 gx52
          obtain rfl := rx52
          refine Or.inl ?_
          apply Exists.intro
          refine And.intro ?_ ?_
          · intro k53 s54
            exact And.intro bx52 (And.intro rfl (And.intro rfl rfl))
          refine Or.inl (Exists.intro (.val (.int .u8 x52)) (And.intro ?_ ?_))
          · intro k55 s56
            exact Exists.intro _ (And.intro ex52 (And.intro rfl (And.intro rfl rfl)))
          obtain ⟨x57, gx57, hM1⟩ := bsome hM1
          obtain ⟨bx57, csx57, ex57, rx57⟩ := oel_get fu48 gx57
          obtain rfl := rx57
          refine Or.inl ?_
          apply Exists.intro
          refine And.intro ?_ ?_
          · intro k58 s59
            exact And.intro bx57 (And.intro rfl (And.intro rfl rfl))
          refine Or.inl (Exists.intro (.val (.int .u8 x57)) (And.intro ?_ ?_))
          · intro k60 s61
            exact Exists.intro _ (And.intro ex57 (And.intro rfl (And.intro rfl rfl)))
          refine Or.inr ?_
          refine Or.inr ?_
          refine Or.inr ?_
          refine Or.inr ?_
          refine And.intro (And.intro rfl rfl) ?_
          obtain ⟨x62, gx62, hM1⟩ := bsome hM1
          obtain ⟨bx62, csx62, ex62, rx62⟩ := oel_get fu48 gx62
          refine And.intro bx62 ?_
          obtain rfl := rx62
          refine And.intro (by first | exact trivial | exact rfl) ?_
          refine Exists.intro _ (And.intro ex62 ?_)
          refine And.intro (by first | exact trivial | exact rfl) ?_
          obtain ⟨x63, gx63, hM1⟩ := bsome hM1
          obtain ⟨bx63, csx63, ex63, rx63⟩ := oel_get (F2.set (p := Rp.u8.R k49) (a := [.int .u8 x52]) (b := x52) rfl u46.toNat fu48) gx63
          refine And.intro bx63 ?_
          obtain rfl := rx63
          refine And.intro (by first | exact trivial | exact rfl) ?_
          refine Exists.intro _ (And.intro ex63 ?_)
          refine And.intro (by first | exact trivial | exact rfl) ?_
          refine And.intro rfl (And.intro (by first | exact trivial | exact And.intro rfl trivial | exact And.intro rfl (And.intro rfl trivial) | exact And.intro rfl (And.intro rfl (And.intro rfl trivial)) | exact And.intro rfl (And.intro rfl (And.intro rfl (And.intro rfl trivial)))) (And.intro (by first | exact trivial | exact And.intro rfl trivial | exact And.intro rfl (And.intro rfl trivial) | exact And.intro rfl (And.intro rfl (And.intro rfl trivial)) | exact And.intro rfl (And.intro rfl (And.intro rfl (And.intro rfl trivial)))) (Exists.intro m50 (And.intro ⟨(IntKind.i64.wrap (u46 + 1)), (IntKind.i64.wrap (u47 - 1)), ((wu48.set u46.toNat [.int .u8 x52]).set u47.toNat [.int .u8 x57]), ((u48.set u46.toNat x52).set u47.toNat x57), rfl, rfl, sX45, (wrap64 _), (wrap64 _), (F2.set (p := Rp.u8.R k49) (a := [.int .u8 x57]) (b := x57) rfl u47.toNat (F2.set (p := Rp.u8.R k49) (a := [.int .u8 x52]) (b := x52) rfl u46.toNat fu48)), hM1⟩ (Nat.lt_succ_self _)))))
        · have hc51 : ((decide (u46 < u47))) = false := hc51
          rw [if_neg (bneT hc51)] at hM1
          have hE := Option.some.inj hM1; subst hE
          try dsimp only [outK_inr, outL_inr] at hM0
          refine Exists.intro u48 (And.intro (F2.u8 fu48) ?_)
          obtain ⟨q64, gq64, hM0⟩ := bsome hM0
          have hE := Option.some.inj hM0; subst hE
          exact And.intro rfl (sX2.trans sX45)

theorem t_impl_letterText (h : Hp) (p0 : Int) (ip0 : In64 p0) (r : ByteArray) (hM0 : M_impl_letterText p0 = some r) :
    Tr Try.prog 137 #[.int .i64 p0] h fun v h' => v = .string r ∧ h' = h := by
  unfold M_impl_letterText at hM0
  refine Tr.forget (walk (args := [.int .i64 p0]) (fn := Try.f137) rfl ?_)
  obtain ⟨x1, gx1, hM0⟩ := bsome hM0
  refine Tr.val (t_impl_within _ p0 ip0 1 (c64 (by decide) (by decide)) 3 (c64 (by decide) (by decide)) _  gx1) ?_
  refine And.intro (fun hc2 => ?_) (fun hc2 => ?_)
  · have hc2 : (x1) = true := hc2
    rw [if_pos hc2] at hM0
    obtain ⟨q3, gq3, hM0⟩ := bsome hM0
    refine And.intro (grd_some gq3) ?_
    have hE := Option.some.inj hM0; subst hE
    exact And.intro rfl (Sub.refl _)
  · have hc2 : (x1) = false := hc2
    rw [if_neg (bneT hc2)] at hM0
    obtain ⟨x4, gx4, hM0⟩ := bsome hM0
    refine Tr.val (t_impl_within _ p0 ip0 (-3) (c64 (by decide) (by decide)) (-1) (c64 (by decide) (by decide)) _  gx4) ?_
    refine And.intro (fun hc5 => ?_) (fun hc5 => ?_)
    · have hc5 : (x4) = true := hc5
      rw [if_pos hc5] at hM0
      obtain ⟨q6, gq6, hM0⟩ := bsome hM0
      refine And.intro (grd_some gq6) ?_
      have hE := Option.some.inj hM0; subst hE
      exact And.intro rfl (Sub.refl _)
    · have hc5 : (x4) = false := hc5
      rw [if_neg (bneT hc5)] at hM0
      have hE := Option.some.inj hM0; subst hE
      exact And.intro rfl (Sub.refl _)

theorem t_impl_FormatWord (h : Hp) (ap0 : Option Addr) (np0 cp0 : Nat) (p0 : LIntS) (rp0 : wIntS.R h [.slice ap0 np0 cp0] p0) (r : ByteArray) (hM0 : M_impl_FormatWord p0 = some r) :
    Tr Try.prog 91 #[.slice ap0 np0 cp0] h fun v h' => v = .string r ∧ h' = h := by
  obtain ⟨rfl, lp0⟩ := Sl.len rp0
  unfold M_impl_FormatWord at hM0
  refine Tr.forget (walk (args := [.slice ap0 p0.length cp0]) (fn := Try.f91) rfl ?_)
  refine And.intro (fun hc1 => ?_) (fun hc1 => ?_)
  · have hc1 : ((decide (((p0.length : Nat) : Int) = 0))) = true := hc1
    rw [if_pos hc1] at hM0
    have hE := Option.some.inj hM0; subst hE
    exact And.intro rfl (Sub.refl _)
  · have hc1 : ((decide (((p0.length : Nat) : Int) = 0))) = false := hc1
    rw [if_neg (bneT hc1)] at hM0
    obtain ⟨X2, hLX2, hM0⟩ := bsome hM0
    refine Exists.intro { vars := [3, 12], boxes := [], owns := [], fuel := true } (Exists.intro (fun vs os h' => ∃ (u3 : ByteArray) (u4 : Int), vs.tail = [.string u3, .int .i64 u4] ∧ os = [] ∧ Sub h h' ∧ u3.size ≤ 9223372036854775807 ∧ In64 u4 ∧ L_impl_FormatWord_0 p0 (fuelOf vs) u3 u4 = some X2) (Exists.intro (fun _ _ => 0) ?_))
    refine And.intro (Exists.intro FUEL ⟨(⟨#[]⟩ : ByteArray), 0, rfl, rfl, (Sub.refl _), (by decide), (c64 (by decide) (by decide)), hLX2⟩) ?_
    rintro v_0 v_1 m6 k5 ⟨u3, u4, evX2, eoX2, sX2, iu3, iu4, hM1⟩
    cases evX2
    cases eoX2
    replace hM1 : L_impl_FormatWord_0 p0 m6 u3 u4 = some X2 := hM1
    obtain _ | m6 := m6
    · cases (show (none : Option _) = some X2 from hM1)
    rw [L_impl_FormatWord_0_succ] at hM1
    refine And.intro (fun hc7 => ?_) (fun hc7 => ?_)
    · have hc7 : ((decide (u4 < ((p0.length : Nat) : Int)))) = true := hc7
      rw [if_pos hc7] at hM1
      obtain ⟨x8, gx8, hM1⟩ := bsome hM1
      obtain ⟨bx8, csx8, ex8, rx8⟩ := Sl.getI (r := Wp.int.toRp) (wIntS.mono sX2 rp0) gx8 (by decide)
      refine And.intro bx8 ?_
      obtain ⟨rfl, ix8⟩ := rx8
      refine Exists.intro _ (And.intro ex8 ?_)
      obtain ⟨x9, gx9, hM1⟩ := bsome hM1
      refine Tr.val (t_impl_letterText _ x8 ix8 _  gx9) ?_
      obtain ⟨q10, gq10, hM1⟩ := bsome hM1
      have ix9 : x9.size ≤ 9223372036854775807 := grd_some gq10
      refine And.intro (fun hc11 => ?_) (fun hc11 => ?_)
      · have hc11 : ((seqB x9 (⟨#[]⟩ : ByteArray))) = true := hc11
        rw [if_pos hc11] at hM1
        have hE := Option.some.inj hM1; subst hE
        try dsimp only [outK_inl, outL_inl] at hM0
        have hE := Option.some.inj hM0; subst hE
        exact And.intro rfl sX2
      · have hc11 : ((seqB x9 (⟨#[]⟩ : ByteArray))) = false := hc11
        rw [if_neg (bneT hc11)] at hM1
        obtain ⟨q12, gq12, hM1⟩ := bsome hM1
        have jq12 := grd_some gq12
        refine And.intro jq12 ?_
        refine And.intro rfl (And.intro (by first | exact trivial | exact And.intro rfl trivial | exact And.intro rfl (And.intro rfl trivial) | exact And.intro rfl (And.intro rfl (And.intro rfl trivial)) | exact And.intro rfl (And.intro rfl (And.intro rfl (And.intro rfl trivial)))) (And.intro (by first | exact trivial | exact And.intro rfl trivial | exact And.intro rfl (And.intro rfl trivial) | exact And.intro rfl (And.intro rfl (And.intro rfl trivial)) | exact And.intro rfl (And.intro rfl (And.intro rfl (And.intro rfl trivial)))) (Exists.intro m6 (And.intro ⟨(u3 ++ x9), (IntKind.i64.wrap (u4 + 1)), rfl, rfl, sX2, (cat_size jq12), (wrap64 _), hM1⟩ (Nat.lt_succ_self _)))))
    · have hc7 : ((decide (u4 < ((p0.length : Nat) : Int)))) = false := hc7
      rw [if_neg (bneT hc7)] at hM1
      have hE := Option.some.inj hM1; subst hE
      try dsimp only [outK_inr, outL_inr] at hM0
      have hE := Option.some.inj hM0; subst hE
      exact And.intro rfl sX2

theorem t_impl_glued (h : Hp) (ap0 : Option Addr) (np0 cp0 : Nat) (p0 : (List ByteArray)) (rp0 : (Wp.slice Wp.str).R h [.slice ap0 np0 cp0] p0) (p1 : ByteArray) (ip1 : p1.size ≤ 9223372036854775807) (p2 : ByteArray) (ip2 : p2.size ≤ 9223372036854775807) (r : ByteArray) (hM0 : M_impl_glued p0 p1 p2 = some r) :
    Tr Try.prog 90 #[.slice ap0 np0 cp0, .string p1, .string p2] h fun v h' => v = .string r ∧ h' = h := by
  obtain ⟨rfl, lp0⟩ := Sl.len rp0
  unfold M_impl_glued at hM0
  refine Tr.forget (walk (args := [.slice ap0 p0.length cp0, .string p1, .string p2]) (fn := Try.f90) rfl ?_)
  refine And.intro (fun hc1 => ?_) (fun hc1 => ?_)
  · have hc1 : ((decide (((p0.length : Nat) : Int) = 0))) = true := hc1
    rw [if_pos hc1] at hM0
    have hE := Option.some.inj hM0; subst hE
    exact And.intro rfl (Sub.refl _)
  · have hc1 : ((decide (((p0.length : Nat) : Int) = 0))) = false := hc1
    rw [if_neg (bneT hc1)] at hM0
    obtain ⟨x2, gx2, hM0⟩ := bsome hM0
    obtain ⟨bx2, csx2, ex2, rx2⟩ := Sl.getI (r := Wp.str.toRp) rp0 gx2 (by decide)
    refine And.intro bx2 ?_
    obtain ⟨rfl, ix2⟩ := rx2
    refine Exists.intro _ (And.intro ex2 ?_)
    obtain ⟨x3, gx3, hM0⟩ := bsome hM0
    obtain ⟨qx3, vsx3, ex3, fx3⟩ := Sl.cutI (r := Wp.str.toRp) rp0 gx3
    refine And.intro qx3 (Exists.intro vsx3 (And.intro ex3 ?_))
    intro vx3 hvx3 _
    obtain ⟨ax3, cx3, rfl, rx3⟩ := fx3 vx3 hvx3
    have lx3 := (Sl.len rx3).2
    obtain ⟨X4, hLX4, hM0⟩ := bsome hM0
    refine Exists.intro { vars := [7, 20], boxes := [], owns := [], fuel := true } (Exists.intro (fun vs os h' => ∃ (u5 : ByteArray) (u6 : Int), vs.tail = [.string u5, .int .i64 u6] ∧ os = [] ∧ Sub h h' ∧ u5.size ≤ 9223372036854775807 ∧ In64 u6 ∧ L_impl_glued_0 x3 p1 (fuelOf vs) u5 u6 = some X4) (Exists.intro (fun _ _ => 0) ?_))
    refine And.intro (Exists.intro FUEL ⟨x2, 0, rfl, rfl, (Sub.refl _), ix2, (c64 (by decide) (by decide)), hLX4⟩) ?_
    rintro v_0 v_1 m8 k7 ⟨u5, u6, evX4, eoX4, sX4, iu5, iu6, hM1⟩
    cases evX4
    cases eoX4
    replace hM1 : L_impl_glued_0 x3 p1 m8 u5 u6 = some X4 := hM1
    obtain _ | m8 := m8
    · cases (show (none : Option _) = some X4 from hM1)
    rw [L_impl_glued_0_succ] at hM1
    refine And.intro (fun hc9 => ?_) (fun hc9 => ?_)
    · have hc9 : ((decide (u6 < ((x3.length : Nat) : Int)))) = true := hc9
      rw [if_pos hc9] at hM1
      obtain ⟨x10, gx10, hM1⟩ := bsome hM1
      obtain ⟨bx10, csx10, ex10, rx10⟩ := Sl.getI (r := Wp.str.toRp) ((Wp.slice Wp.str).mono sX4 rx3) gx10 (by decide)
      refine And.intro bx10 ?_
      obtain ⟨rfl, ix10⟩ := rx10
      refine Exists.intro _ (And.intro ex10 ?_)
      obtain ⟨q11, gq11, hM1⟩ := bsome hM1
      have jq11 := grd_some gq11
      refine And.intro jq11 ?_
      obtain ⟨q12, gq12, hM1⟩ := bsome hM1
      have jq12 := grd_some gq12
      refine And.intro jq12 ?_
      refine And.intro rfl (And.intro (by first | exact trivial | exact And.intro rfl trivial | exact And.intro rfl (And.intro rfl trivial) | exact And.intro rfl (And.intro rfl (And.intro rfl trivial)) | exact And.intro rfl (And.intro rfl (And.intro rfl (And.intro rfl trivial)))) (And.intro (by first | exact trivial | exact And.intro rfl trivial | exact And.intro rfl (And.intro rfl trivial) | exact And.intro rfl (And.intro rfl (And.intro rfl trivial)) | exact And.intro rfl (And.intro rfl (And.intro rfl (And.intro rfl trivial)))) (Exists.intro m8 (And.intro ⟨((u5 ++ p1) ++ x10), (IntKind.i64.wrap (u6 + 1)), rfl, rfl, sX4, (cat_size jq12), (wrap64 _), hM1⟩ (Nat.lt_succ_self _)))))
    · have hc9 : ((decide (u6 < ((x3.length : Nat) : Int)))) = false := hc9
      rw [if_neg (bneT hc9)] at hM1
      have hE := Option.some.inj hM1; subst hE
      try dsimp only [outK_inr, outL_inr] at hM0
      have hE := Option.some.inj hM0; subst hE
      exact And.intro rfl sX4

theorem t_impl_FormatWords (h : Hp) (ap0 : Option Addr) (np0 cp0 : Nat) (p0 : LIntSS) (rp0 : wIntSS.R h [.slice ap0 np0 cp0] p0) (r : ByteArray) (hM0 : M_impl_FormatWords p0 = some r) :
    Tr Try.prog 67 #[.slice ap0 np0 cp0] h fun v h' => v = .string r ∧ h' = h := by
  obtain ⟨rfl, lp0⟩ := Sl.len rp0
  unfold M_impl_FormatWords at hM0
  refine Tr.forget (walk (args := [.slice ap0 p0.length cp0]) (fn := Try.f67) rfl ?_)
  obtain ⟨X1, hLX1, hM0⟩ := bsome hM0
  refine Exists.intro { vars := [10], boxes := [], owns := [0], fuel := true } (Exists.intro (fun vs os h' => ∃ (u2 : Int) (wu3 : List (List Value)) (u3 : List ByteArray), vs.tail = [.int .i64 u2] ∧ os = [wu3] ∧ Sub h h' ∧ In64 u2 ∧ F2 (Wp.str.R h') wu3 u3 ∧ L_impl_FormatWords_0 p0 (fuelOf vs) u2 u3 = some X1) (Exists.intro (fun _ _ => 0) ?_))
  refine And.intro (Exists.intro FUEL ⟨0, [], ([] : (List ByteArray)), rfl, rfl, (Sub.refl _), (c64 (by decide) (by decide)), (show F2 (Wp.str.R h) ([] : List (List Value)) ([] : (List ByteArray)) from trivial), hLX1⟩) ?_
  rintro v_0 wu3 m5 k4 ⟨u2, zzu3, u3, evX1, eoX1, sX1, iu2, fu3, hM1⟩
  cases evX1
  cases eoX1
  replace hM1 : L_impl_FormatWords_0 p0 m5 u2 u3 = some X1 := hM1
  obtain _ | m5 := m5
  · cases (show (none : Option _) = some X1 from hM1)
  rw [L_impl_FormatWords_0_succ] at hM1
  refine And.intro (fun hc6 => ?_) (fun hc6 => ?_)
  · have hc6 : ((decide (u2 < ((p0.length : Nat) : Int)))) = true := hc6
    rw [if_pos hc6] at hM1
    obtain ⟨x7, gx7, hM1⟩ := bsome hM1
    obtain ⟨bx7, csx7, ex7, rx7⟩ := Sl.getI (r := wIntS.toRp) (wIntSS.mono sX1 rp0) gx7 (by decide)
    refine And.intro bx7 ?_
    obtain ⟨ax7, nx7, cx7, rfl⟩ := Wp.slice_cell rx7
    obtain ⟨rfl, lx7⟩ := Sl.len rx7
    refine Exists.intro _ (And.intro ex7 ?_)
    obtain ⟨x8, gx8, hM1⟩ := bsome hM1
    refine Tr.val (t_impl_FormatWord _ ax7 x7.length cx7 x7 rx7 _  gx8) ?_
    obtain ⟨q9, gq9, hM1⟩ := bsome hM1
    have ix8 : x8.size ≤ 9223372036854775807 := grd_some gq9
    refine And.intro (fun hc10 => ?_) (fun hc10 => ?_)
    · have hc10 : ((seqB x8 (⟨#[]⟩ : ByteArray))) = true := hc10
      rw [if_pos hc10] at hM1
      have hE := Option.some.inj hM1; subst hE
      try dsimp only [outK_inl, outL_inl] at hM0
      have hE := Option.some.inj hM0; subst hE
      exact And.intro rfl sX1
    · have hc10 : ((seqB x8 (⟨#[]⟩ : ByteArray))) = false := hc10
      rw [if_neg (bneT hc10)] at hM1
      obtain ⟨q11, gq11, hM1⟩ := bsome hM1
      refine And.intro (room_of gq11 (by first | rw [F2.length fu3, F2.length (show F2 (Wp.str.R k4) ([[.string x8]] : List (List Value)) [x8] from ⟨⟨rfl, ix8⟩, trivial⟩)] | exact congrArg (· + 1) (F2.length fu3))) ?_
      refine And.intro rfl (And.intro (by first | exact trivial | exact And.intro rfl trivial | exact And.intro rfl (And.intro rfl trivial) | exact And.intro rfl (And.intro rfl (And.intro rfl trivial)) | exact And.intro rfl (And.intro rfl (And.intro rfl (And.intro rfl trivial)))) (And.intro (by first | exact trivial | exact And.intro rfl trivial | exact And.intro rfl (And.intro rfl trivial) | exact And.intro rfl (And.intro rfl (And.intro rfl trivial)) | exact And.intro rfl (And.intro rfl (And.intro rfl (And.intro rfl trivial)))) (Exists.intro m5 (And.intro ⟨(IntKind.i64.wrap (u2 + 1)), (wu3 ++ ([[.string x8]] : List (List Value))), (u3 ++ [x8]), rfl, rfl, sX1, (wrap64 _), (F2.append fu3 (show F2 (Wp.str.R k4) ([[.string x8]] : List (List Value)) [x8] from ⟨⟨rfl, ix8⟩, trivial⟩)), hM1⟩ (Nat.lt_succ_self _)))))
  · have hc6 : ((decide (u2 < ((p0.length : Nat) : Int)))) = false := hc6
    rw [if_neg (bneT hc6)] at hM1
    have hE := Option.some.inj hM1; subst hE
    try dsimp only [outK_inr, outL_inr] at hM0
    refine Or.inr ?_
    intro v12 k13 f14
    obtain ⟨az15, cz15, rfl, rz15, sz15, lz15⟩ := Froze.out (r := Wp.str.toRp) f14 fu3
    obtain ⟨x16, gx16, hM0⟩ := bsome hM0
    refine Tr.val (t_impl_glued _ az15 u3.length cz15 u3 rz15 (⟨#[44]⟩ : ByteArray) (by decide) (⟨#[110, 111, 110, 101]⟩ : ByteArray) (by decide) _  gx16) (And.intro rfl ?_)
    obtain ⟨q17, gq17, hM0⟩ := bsome hM0
    have ix16 : x16.size ≤ 9223372036854775807 := grd_some gq17
    have hE := Option.some.inj hM0; subst hE
    exact And.intro rfl sX1

theorem t_impl_FormatPresentation (h : Hp) (csp0 : List Value) (p0 : LPresentation) (rp0 : wPresentation.R h csp0 p0) (r : ByteArray) (hM0 : M_impl_FormatPresentation p0 = some r) :
    Tr Try.prog 17 #[.agg csp0.toArray] h fun v h' => v = .string r ∧ h' = h := by
  obtain ⟨p0_0, ap0_1, np0_1, cp0_1, p0_1, rfl, rfl, ip0_0, rp0_1⟩ := openPresentation rp0
  obtain ⟨rfl, lp0_1⟩ := Sl.len rp0_1
  unfold M_impl_FormatPresentation at hM0
  dsimp only at hM0
  refine Tr.forget (walk (args := [.agg #[.int .i64 p0_0, .slice ap0_1 p0_1.length cp0_1]]) (fn := Try.f17) rfl ?_)
  obtain ⟨x1, gx1, hM0⟩ := bsome hM0
  refine Tr.val (t_impl_IsPresentation _ [.int .i64 p0_0, .slice ap0_1 p0_1.length cp0_1] (p0_0, p0_1) (closePresentation ip0_0 rp0_1) _  gx1) ?_
  refine And.intro (fun hc2 => ?_) (fun hc2 => ?_)
  · have hc2 : ((!x1)) = true := hc2
    rw [if_pos hc2] at hM0
    have hE := Option.some.inj hM0; subst hE
    exact And.intro rfl (Sub.refl _)
  · have hc2 : ((!x1)) = false := hc2
    rw [if_neg (bneT hc2)] at hM0
    refine Or.inl (And.intro (And.intro (by kernel_rfl) (by kernel_rfl)) ?_)
    obtain ⟨x3, gx3, hM0⟩ := bsome hM0
    refine Exists.intro (.string x3) (And.intro (t_impl_FormatInt _ p0_0 ip0_0 _  gx3) ?_)
    obtain ⟨q4, gq4, hM0⟩ := bsome hM0
    have ix3 : x3.size ≤ 9223372036854775807 := grd_some gq4
    obtain ⟨q5, gq5, hM0⟩ := bsome hM0
    have jq5 := grd_some gq5
    refine And.intro jq5 ?_
    obtain ⟨x6, gx6, hM0⟩ := bsome hM0
    refine Exists.intro (.string x6) (And.intro (t_impl_FormatWords _ ap0_1 p0_1.length cp0_1 p0_1 rp0_1 _  gx6) ?_)
    obtain ⟨q7, gq7, hM0⟩ := bsome hM0
    have ix6 : x6.size ≤ 9223372036854775807 := grd_some gq7
    obtain ⟨q8, gq8, hM0⟩ := bsome hM0
    have jq8 := grd_some gq8
    refine And.intro jq8 ?_
    have hE := Option.some.inj hM0; subst hE
    exact And.intro rfl (Sub.refl _)

end Go.Proofs.Ytjalbdammdmgiaa
