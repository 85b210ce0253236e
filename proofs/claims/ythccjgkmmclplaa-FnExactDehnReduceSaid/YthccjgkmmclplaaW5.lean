/- The walks of batch 5. -/
import Derived.Test.YthccjgkmmclplaaA5
import Derived.Test.YthccjgkmmclplaaChecked
import Derived.Test.YthccjgkmmclplaaH35
import Derived.Test.YthccjgkmmclplaaW1
namespace Go.Proofs.Ythccjgkmmclplaa
open Go.H
set_option linter.unusedVariables false
set_option linter.unusedSimpArgs false
set_option maxRecDepth 10000
theorem t_spec_l2Order (h : Hp) (p0 : Int) (ip0 : In64 p0) (p1 : Int) (ip1 : In64 p1) (r : Int) (hM0 : M_spec_l2Order p0 p1 = some r) :
    Tr Try.prog 113 #[.int .i64 p0, .int .i64 p1] h fun v h' => v = .int .i64 r ∧ h' = h := by
  unfold M_spec_l2Order at hM0
  refine Tr.forget (walk (args := [.int .i64 p0, .int .i64 p1]) (fn := Try.f113) rfl ?_)
  refine And.intro (fun hc1 => ?_) (fun hc1 => ?_)
  · have hc1 : ((decide (p0 = p1))) = true := hc1
    rw [if_pos hc1] at hM0
    have hE := Option.some.inj hM0; subst hE
    exact And.intro rfl (Sub.refl _)
  · have hc1 : ((decide (p0 = p1))) = false := hc1
    rw [if_neg (bneT hc1)] at hM0
    refine And.intro (fun hc2 => ?_) (fun hc2 => ?_)
    · have hc2 : ((bif (bif (decide ((if (IntKind.i64.wrap (0 - p0)) > p0 then (IntKind.i64.wrap (0 - p0)) else p0) < 0)) then true else (bif (decide ((if (IntKind.i64.wrap (0 - p1)) > p1 then (IntKind.i64.wrap (0 - p1)) else p1) ≥ 0)) then (decide ((if (IntKind.i64.wrap (0 - p0)) > p0 then (IntKind.i64.wrap (0 - p0)) else p0) > (if (IntKind.i64.wrap (0 - p1)) > p1 then (IntKind.i64.wrap (0 - p1)) else p1))) else false)) then true else (bif (decide ((if (IntKind.i64.wrap (0 - p0)) > p0 then (IntKind.i64.wrap (0 - p0)) else p0) = (if (IntKind.i64.wrap (0 - p1)) > p1 then (IntKind.i64.wrap (0 - p1)) else p1))) then (decide (p0 < p1)) else false))) = true := hc2
      rw [if_pos hc2] at hM0
      have hE := Option.some.inj hM0; subst hE
      exact And.intro rfl (Sub.refl _)
    · have hc2 : ((bif (bif (decide ((if (IntKind.i64.wrap (0 - p0)) > p0 then (IntKind.i64.wrap (0 - p0)) else p0) < 0)) then true else (bif (decide ((if (IntKind.i64.wrap (0 - p1)) > p1 then (IntKind.i64.wrap (0 - p1)) else p1) ≥ 0)) then (decide ((if (IntKind.i64.wrap (0 - p0)) > p0 then (IntKind.i64.wrap (0 - p0)) else p0) > (if (IntKind.i64.wrap (0 - p1)) > p1 then (IntKind.i64.wrap (0 - p1)) else p1))) else false)) then true else (bif (decide ((if (IntKind.i64.wrap (0 - p0)) > p0 then (IntKind.i64.wrap (0 - p0)) else p0) = (if (IntKind.i64.wrap (0 - p1)) > p1 then (IntKind.i64.wrap (0 - p1)) else p1))) then (decide (p0 < p1)) else false))) = false := hc2
      rw [if_neg (bneT hc2)] at hM0
      have hE := Option.some.inj hM0; subst hE
      exact And.intro rfl (Sub.refl _)

theorem t_spec_CompareWords (h : Hp) (ap0 : Option Addr) (np0 cp0 : Nat) (p0 : LIntS) (rp0 : wIntS.R h [.slice ap0 np0 cp0] p0) (ap1 : Option Addr) (np1 cp1 : Nat) (p1 : LIntS) (rp1 : wIntS.R h [.slice ap1 np1 cp1] p1) (r : Int) (hM0 : M_spec_CompareWords p0 p1 = some r) :
    Tr Try.prog 84 #[.slice ap0 np0 cp0, .slice ap1 np1 cp1] h fun v h' => v = .int .i64 r ∧ h' = h := by
  obtain ⟨rfl, lp0⟩ := Sl.len rp0
  obtain ⟨rfl, lp1⟩ := Sl.len rp1
  unfold M_spec_CompareWords at hM0
  refine Tr.forget (walk (args := [.slice ap0 p0.length cp0, .slice ap1 p1.length cp1]) (fn := Try.f84) rfl ?_)
  refine And.intro (fun hc1 => ?_) (fun hc1 => ?_)
  · have hc1 : ((!decide (((p0.length : Nat) : Int) = ((p1.length : Nat) : Int)))) = true := hc1
    rw [if_pos hc1] at hM0
    refine And.intro (fun hc2 => ?_) (fun hc2 => ?_)
    · have hc2 : ((decide (((p0.length : Nat) : Int) < ((p1.length : Nat) : Int)))) = true := hc2
      rw [if_pos hc2] at hM0
      have hE := Option.some.inj hM0; subst hE
      exact And.intro rfl (Sub.refl _)
    · have hc2 : ((decide (((p0.length : Nat) : Int) < ((p1.length : Nat) : Int)))) = false := hc2
      rw [if_neg (bneT hc2)] at hM0
      have hE := Option.some.inj hM0; subst hE
      exact And.intro rfl (Sub.refl _)
  · have hc1 : ((!decide (((p0.length : Nat) : Int) = ((p1.length : Nat) : Int)))) = false := hc1
    rw [if_neg (bneT hc1)] at hM0
    obtain ⟨X3, hLX3, hM0⟩ := bsome hM0
    refine Exists.intro { vars := [5], boxes := [], owns := [], fuel := true } (Exists.intro (fun vs os h' => ∃ (u4 : Int), vs.tail = [.int .i64 u4] ∧ os = [] ∧ Sub h h' ∧ In64 u4 ∧ L_spec_CompareWords_0 p0 p1 (fuelOf vs) u4 = some X3) (Exists.intro (fun _ _ => 0) ?_))
    refine And.intro (Exists.intro FUEL ⟨0, rfl, rfl, (Sub.refl _), (c64 (by decide) (by decide)), hLX3⟩) ?_
    rintro v_0 m6 k5 ⟨u4, evX3, eoX3, sX3, iu4, hM1⟩
    cases evX3
    cases eoX3
    replace hM1 : L_spec_CompareWords_0 p0 p1 m6 u4 = some X3 := hM1
    obtain _ | m6 := m6
    · cases (show (none : Option _) = some X3 from hM1)
    rw [L_spec_CompareWords_0_succ] at hM1
    refine And.intro (fun hc7 => ?_) (fun hc7 => ?_)
    · have hc7 : ((decide (u4 < ((p0.length : Nat) : Int)))) = true := hc7
      rw [if_pos hc7] at hM1
      refine Or.inl (And.intro (And.intro (by kernel_rfl) (by kernel_rfl)) ?_)
      obtain ⟨x8, gx8, hM1⟩ := bsome hM1
      obtain ⟨bx8, csx8, ex8, rx8⟩ := Sl.getI (r := Wp.int.toRp) (wIntS.mono sX3 rp0) gx8 (by decide)
      refine And.intro bx8 ?_
      obtain ⟨rfl, ix8⟩ := rx8
      refine Exists.intro _ (And.intro ex8 ?_)
      obtain ⟨x9, gx9, hM1⟩ := bsome hM1
      obtain ⟨bx9, csx9, ex9, rx9⟩ := Sl.getI (r := Wp.int.toRp) (wIntS.mono sX3 rp1) gx9 (by decide)
      refine And.intro bx9 ?_
      obtain ⟨rfl, ix9⟩ := rx9
      refine Exists.intro _ (And.intro ex9 ?_)
      obtain ⟨x10, gx10, hM1⟩ := bsome hM1
      refine Exists.intro (.int .i64 x10) (And.intro (t_spec_l2Order _ x8 ix8 x9 ix9 _  gx10) ?_)
      obtain ⟨q11, gq11, hM1⟩ := bsome hM1
      have ix10 : In64 x10 := grd_some gq11
      refine And.intro (fun hc12 => ?_) (fun hc12 => ?_)
      · have hc12 : ((!decide (x10 = 0))) = true := hc12
        rw [if_pos hc12] at hM1
        have hE := Option.some.inj hM1; subst hE
        try dsimp only [outK_inl, outL_inl] at hM0
        have hE := Option.some.inj hM0; subst hE
        exact And.intro rfl sX3
      · have hc12 : ((!decide (x10 = 0))) = false := hc12
        rw [if_neg (bneT hc12)] at hM1
        refine And.intro rfl (And.intro (by first | exact trivial | exact And.intro rfl trivial | exact And.intro rfl (And.intro rfl trivial) | exact And.intro rfl (And.intro rfl (And.intro rfl trivial)) | exact And.intro rfl (And.intro rfl (And.intro rfl (And.intro rfl trivial)))) (And.intro (by first | exact trivial | exact And.intro rfl trivial | exact And.intro rfl (And.intro rfl trivial) | exact And.intro rfl (And.intro rfl (And.intro rfl trivial)) | exact And.intro rfl (And.intro rfl (And.intro rfl (And.intro rfl trivial)))) (Exists.intro m6 (And.intro ⟨(IntKind.i64.wrap (u4 + 1)), rfl, rfl, sX3, (wrap64 _), hM1⟩ (Nat.lt_succ_self _)))))
    · have hc7 : ((decide (u4 < ((p0.length : Nat) : Int)))) = false := hc7
      rw [if_neg (bneT hc7)] at hM1
      have hE := Option.some.inj hM1; subst hE
      try dsimp only [outK_inr, outL_inr] at hM0
      have hE := Option.some.inj hM0; subst hE
      exact And.intro rfl sX3

theorem t_spec_EqualWords (h : Hp) (ap0 : Option Addr) (np0 cp0 : Nat) (p0 : LIntS) (rp0 : wIntS.R h [.slice ap0 np0 cp0] p0) (ap1 : Option Addr) (np1 cp1 : Nat) (p1 : LIntS) (rp1 : wIntS.R h [.slice ap1 np1 cp1] p1) (r : Bool) (hM0 : M_spec_EqualWords p0 p1 = some r) :
    Tr Try.prog 93 #[.slice ap0 np0 cp0, .slice ap1 np1 cp1] h fun v h' => v = .bool r ∧ h' = h := by
  obtain ⟨rfl, lp0⟩ := Sl.len rp0
  obtain ⟨rfl, lp1⟩ := Sl.len rp1
  unfold M_spec_EqualWords at hM0
  refine Tr.forget (walk (args := [.slice ap0 p0.length cp0, .slice ap1 p1.length cp1]) (fn := Try.f93) rfl ?_)
  refine And.intro (fun hc1 => ?_) (fun hc1 => ?_)
  · have hc1 : ((!decide (((p0.length : Nat) : Int) = ((p1.length : Nat) : Int)))) = true := hc1
    rw [if_pos hc1] at hM0
    have hE := Option.some.inj hM0; subst hE
    exact And.intro rfl (Sub.refl _)
  · have hc1 : ((!decide (((p0.length : Nat) : Int) = ((p1.length : Nat) : Int)))) = false := hc1
    rw [if_neg (bneT hc1)] at hM0
    obtain ⟨X2, hLX2, hM0⟩ := bsome hM0
    refine Exists.intro { vars := [5], boxes := [], owns := [], fuel := true } (Exists.intro (fun vs os h' => ∃ (u3 : Int), vs.tail = [.int .i64 u3] ∧ os = [] ∧ Sub h h' ∧ In64 u3 ∧ L_spec_EqualWords_0 p0 p1 (fuelOf vs) u3 = some X2) (Exists.intro (fun _ _ => 0) ?_))
    refine And.intro (Exists.intro FUEL ⟨0, rfl, rfl, (Sub.refl _), (c64 (by decide) (by decide)), hLX2⟩) ?_
    rintro v_0 m5 k4 ⟨u3, evX2, eoX2, sX2, iu3, hM1⟩
    cases evX2
    cases eoX2
    replace hM1 : L_spec_EqualWords_0 p0 p1 m5 u3 = some X2 := hM1
    obtain _ | m5 := m5
    · cases (show (none : Option _) = some X2 from hM1)
    rw [L_spec_EqualWords_0_succ] at hM1
    refine And.intro (fun hc6 => ?_) (fun hc6 => ?_)
    · have hc6 : ((decide (u3 < ((p0.length : Nat) : Int)))) = true := hc6
      rw [if_pos hc6] at hM1
      refine Or.inl (And.intro (And.intro (by kernel_rfl) (by kernel_rfl)) ?_)
      obtain ⟨x7, gx7, hM1⟩ := bsome hM1
      obtain ⟨bx7, csx7, ex7, rx7⟩ := Sl.getI (r := Wp.int.toRp) (wIntS.mono sX2 rp0) gx7 (by decide)
      refine And.intro bx7 ?_
      obtain ⟨rfl, ix7⟩ := rx7
      refine Exists.intro _ (And.intro ex7 ?_)
      obtain ⟨x8, gx8, hM1⟩ := bsome hM1
      obtain ⟨bx8, csx8, ex8, rx8⟩ := Sl.getI (r := Wp.int.toRp) (wIntS.mono sX2 rp1) gx8 (by decide)
      refine And.intro bx8 ?_
      obtain ⟨rfl, ix8⟩ := rx8
      refine Exists.intro _ (And.intro ex8 ?_)
      refine And.intro (fun hc9 => ?_) (fun hc9 => ?_)
      · have hc9 : ((!decide (x7 = x8))) = true := hc9
        rw [if_pos hc9] at hM1
        have hE := Option.some.inj hM1; subst hE
        try dsimp only [outK_inl, outL_inl] at hM0
        have hE := Option.some.inj hM0; subst hE
        exact And.intro rfl sX2
      · have hc9 : ((!decide (x7 = x8))) = false := hc9
        rw [if_neg (bneT hc9)] at hM1
        refine And.intro rfl (And.intro (by first | exact trivial | exact And.intro rfl trivial | exact And.intro rfl (And.intro rfl trivial) | exact And.intro rfl (And.intro rfl (And.intro rfl trivial)) | exact And.intro rfl (And.intro rfl (And.intro rfl (And.intro rfl trivial)))) (And.intro (by first | exact trivial | exact And.intro rfl trivial | exact And.intro rfl (And.intro rfl trivial) | exact And.intro rfl (And.intro rfl (And.intro rfl trivial)) | exact And.intro rfl (And.intro rfl (And.intro rfl (And.intro rfl trivial)))) (Exists.intro m5 (And.intro ⟨(IntKind.i64.wrap (u3 + 1)), rfl, rfl, sX2, (wrap64 _), hM1⟩ (Nat.lt_succ_self _)))))
    · have hc6 : ((decide (u3 < ((p0.length : Nat) : Int)))) = false := hc6
      rw [if_neg (bneT hc6)] at hM1
      have hE := Option.some.inj hM1; subst hE
      try dsimp only [outK_inr, outL_inr] at hM0
      have hE := Option.some.inj hM0; subst hE
      exact And.intro rfl sX2

theorem t_impl_copyInts (h : Hp) (ap0 : Option Addr) (np0 cp0 : Nat) (p0 : LIntS) (rp0 : wIntS.R h [.slice ap0 np0 cp0] p0) (r : LIntS) (hM0 : M_impl_copyInts p0 = some r) :
    Tr Try.prog 87 #[.slice ap0 np0 cp0] h fun v h' => ∃ (g0 : Nat) (n0 c0 : Nat), v = .slice (some ⟨g0, 0, none⟩) n0 c0 ∧ New wIntS h h' [.slice (some ⟨g0, 0, none⟩) n0 c0] r := by
  obtain ⟨rfl, lp0⟩ := Sl.len rp0
  unfold M_impl_copyInts at hM0
  refine walk (args := [.slice ap0 p0.length cp0]) (fn := Try.f87) rfl ?_
  obtain ⟨vsy1, ey1, fy1⟩ := Sl.rows (r := Wp.int.toRp) rp0
  refine Exists.intro vsy1 (And.intro ey1 ?_)
  obtain ⟨q2, gq2, hM0⟩ := bsome hM0
  refine And.intro (room_of gq2 (by first | rw [F2.length (show F2 (Wp.int.R h) ([] : List (List Value)) ([] : LIntS) from trivial), F2.length fy1] | exact congrArg (· + 1) (F2.length (show F2 (Wp.int.R h) ([] : List (List Value)) ([] : LIntS) from trivial)))) ?_
  intro v3 k4 f5
  obtain ⟨gz6, cz6, rfl, rz6, sz6, lz6⟩ := Froze.outS (r := Wp.int.toRp) f5 (F2.append (show F2 (Wp.int.R h) ([] : List (List Value)) ([] : LIntS) from trivial) fy1)
  have hE := Option.some.inj hM0; subst hE
  exact ⟨gz6, ((([] : LIntS) ++ p0)).length, cz6, rfl, (Froze.newPlain (r := Wp.int) f5 (F2.append (show F2 (Wp.int.R h) ([] : List (List Value)) ([] : LIntS) from trivial) fy1) (plInt _))⟩

theorem t_impl_compareInts (h : Hp) (p0 : Int) (ip0 : In64 p0) (p1 : Int) (ip1 : In64 p1) (r : Int) (hM0 : M_impl_compareInts p0 p1 = some r) :
    Tr Try.prog 90 #[.int .i64 p0, .int .i64 p1] h fun v h' => v = .int .i64 r ∧ h' = h := by
  unfold M_impl_compareInts at hM0
  refine Tr.forget (walk (args := [.int .i64 p0, .int .i64 p1]) (fn := Try.f90) rfl ?_)
  refine And.intro (fun hc1 => ?_) (fun hc1 => ?_)
  · have hc1 : ((decide (p0 < p1))) = true := hc1
    rw [if_pos hc1] at hM0
    have hE := Option.some.inj hM0; subst hE
    exact And.intro rfl (Sub.refl _)
  · have hc1 : ((decide (p0 < p1))) = false := hc1
    rw [if_neg (bneT hc1)] at hM0
    refine And.intro (fun hc2 => ?_) (fun hc2 => ?_)
    · have hc2 : ((decide (p0 > p1))) = true := hc2
      rw [if_pos hc2] at hM0
      have hE := Option.some.inj hM0; subst hE
      exact And.intro rfl (Sub.refl _)
    · have hc2 : ((decide (p0 > p1))) = false := hc2
      rw [if_neg (bneT hc2)] at hM0
      have hE := Option.some.inj hM0; subst hE
      exact And.intro rfl (Sub.refl _)

theorem t_impl_compareLetters (h : Hp) (p0 : Int) (ip0 : In64 p0) (p1 : Int) (ip1 : In64 p1) (r : Int) (hM0 : M_impl_compareLetters p0 p1 = some r) :
    Tr Try.prog 91 #[.int .i64 p0, .int .i64 p1] h fun v h' => v = .int .i64 r ∧ h' = h := by
  unfold M_impl_compareLetters at hM0
  refine Tr.forget (walk (args := [.int .i64 p0, .int .i64 p1]) (fn := Try.f91) rfl ?_)
  refine And.intro (fun hc1 => ?_) (fun hc1 => ?_)
  · have hc1 : ((decide (p0 = p1))) = true := hc1
    rw [if_pos hc1] at hM0
    have hE := Option.some.inj hM0; subst hE
    exact And.intro rfl (Sub.refl _)
  · have hc1 : ((decide (p0 = p1))) = false := hc1
    rw [if_neg (bneT hc1)] at hM0
    refine And.intro (fun hc2 => ?_) (fun hc2 => ?_)
    · have hc2 : ((decide (p0 = (-9223372036854775808)))) = true := hc2
      rw [if_pos hc2] at hM0
      have hE := Option.some.inj hM0; subst hE
      exact And.intro rfl (Sub.refl _)
    · have hc2 : ((decide (p0 = (-9223372036854775808)))) = false := hc2
      rw [if_neg (bneT hc2)] at hM0
      refine And.intro (fun hc3 => ?_) (fun hc3 => ?_)
      · have hc3 : ((decide (p1 = (-9223372036854775808)))) = true := hc3
        rw [if_pos hc3] at hM0
        have hE := Option.some.inj hM0; subst hE
        exact And.intro rfl (Sub.refl _)
      · have hc3 : ((decide (p1 = (-9223372036854775808)))) = false := hc3
        rw [if_neg (bneT hc3)] at hM0
        obtain ⟨x4, gx4, hM0⟩ := bsome hM0
        refine Tr.val (t_impl_compareInts _ (if (IntKind.i64.wrap (0 - p0)) > p0 then (IntKind.i64.wrap (0 - p0)) else p0) (ite64 (wrap64 _) ip0) (if (IntKind.i64.wrap (0 - p1)) > p1 then (IntKind.i64.wrap (0 - p1)) else p1) (ite64 (wrap64 _) ip1) _  gx4) ?_
        obtain ⟨q5, gq5, hM0⟩ := bsome hM0
        have ix4 : In64 x4 := grd_some gq5
        refine And.intro (fun hc6 => ?_) (fun hc6 => ?_)
        · have hc6 : ((!decide (x4 = 0))) = true := hc6
          rw [if_pos hc6] at hM0
          have hE := Option.some.inj hM0; subst hE
          exact And.intro rfl (Sub.refl _)
        · have hc6 : ((!decide (x4 = 0))) = false := hc6
          rw [if_neg (bneT hc6)] at hM0
          obtain ⟨x7, gx7, hM0⟩ := bsome hM0
          refine Tr.val (t_impl_compareInts _ p1 ip1 p0 ip0 _  gx7) ?_
          obtain ⟨q8, gq8, hM0⟩ := bsome hM0
          have ix7 : In64 x7 := grd_some gq8
          have hE := Option.some.inj hM0; subst hE
          exact And.intro rfl (Sub.refl _)

theorem t_impl_CompareWords (h : Hp) (ap0 : Option Addr) (np0 cp0 : Nat) (p0 : LIntS) (rp0 : wIntS.R h [.slice ap0 np0 cp0] p0) (ap1 : Option Addr) (np1 cp1 : Nat) (p1 : LIntS) (rp1 : wIntS.R h [.slice ap1 np1 cp1] p1) (r : Int) (hM0 : M_impl_CompareWords p0 p1 = some r) :
    Tr Try.prog 50 #[.slice ap0 np0 cp0, .slice ap1 np1 cp1] h fun v h' => v = .int .i64 r ∧ h' = h := by
  obtain ⟨rfl, lp0⟩ := Sl.len rp0
  obtain ⟨rfl, lp1⟩ := Sl.len rp1
  unfold M_impl_CompareWords at hM0
  refine Tr.forget (walk (args := [.slice ap0 p0.length cp0, .slice ap1 p1.length cp1]) (fn := Try.f50) rfl ?_)
  obtain ⟨x1, gx1, hM0⟩ := bsome hM0
  refine Tr.val (t_impl_compareInts _ ((p0.length : Nat) : Int) (len64 lp0) ((p1.length : Nat) : Int) (len64 lp1) _  gx1) ?_
  obtain ⟨q2, gq2, hM0⟩ := bsome hM0
  have ix1 : In64 x1 := grd_some gq2
  refine And.intro (fun hc3 => ?_) (fun hc3 => ?_)
  · have hc3 : ((!decide (x1 = 0))) = true := hc3
    rw [if_pos hc3] at hM0
    have hE := Option.some.inj hM0; subst hE
    exact And.intro rfl (Sub.refl _)
  · have hc3 : ((!decide (x1 = 0))) = false := hc3
    rw [if_neg (bneT hc3)] at hM0
    obtain ⟨X4, hLX4, hM0⟩ := bsome hM0
    refine Exists.intro { vars := [18], boxes := [], owns := [], fuel := true } (Exists.intro (fun vs os h' => ∃ (u5 : Int), vs.tail = [.int .i64 u5] ∧ os = [] ∧ Sub h h' ∧ In64 u5 ∧ L_impl_CompareWords_0 p0 p1 (fuelOf vs) u5 = some X4) (Exists.intro (fun _ _ => 0) ?_))
    refine And.intro (Exists.intro FUEL ⟨0, rfl, rfl, (Sub.refl _), (c64 (by decide) (by decide)), hLX4⟩) ?_
    rintro v_0 m7 k6 ⟨u5, evX4, eoX4, sX4, iu5, hM1⟩
    cases evX4
    cases eoX4
    replace hM1 : L_impl_CompareWords_0 p0 p1 m7 u5 = some X4 := hM1
    obtain _ | m7 := m7
    · cases (show (none : Option _) = some X4 from hM1)
    rw [L_impl_CompareWords_0_succ] at hM1
    refine And.intro (fun hc8 => ?_) (fun hc8 => ?_)
    · have hc8 : ((decide (u5 < ((p0.length : Nat) : Int)))) = true := hc8
      rw [if_pos hc8] at hM1
      refine Or.inl (And.intro (And.intro (by kernel_rfl) (by kernel_rfl)) ?_)
      obtain ⟨x9, gx9, hM1⟩ := bsome hM1
      obtain ⟨bx9, csx9, ex9, rx9⟩ := Sl.getI (r := Wp.int.toRp) (wIntS.mono sX4 rp0) gx9 (by decide)
      refine And.intro bx9 ?_
      obtain ⟨rfl, ix9⟩ := rx9
      refine Exists.intro _ (And.intro ex9 ?_)
      obtain ⟨x10, gx10, hM1⟩ := bsome hM1
      obtain ⟨bx10, csx10, ex10, rx10⟩ := Sl.getI (r := Wp.int.toRp) (wIntS.mono sX4 rp1) gx10 (by decide)
      refine And.intro bx10 ?_
      obtain ⟨rfl, ix10⟩ := rx10
      refine Exists.intro _ (And.intro ex10 ?_)
      obtain ⟨x11, gx11, hM1⟩ := bsome hM1
      refine Exists.intro (.int .i64 x11) (And.intro (t_impl_compareLetters _ x9 ix9 x10 ix10 _  gx11) ?_)
      obtain ⟨q12, gq12, hM1⟩ := bsome hM1
      have ix11 : In64 x11 := grd_some gq12
      refine And.intro (fun hc13 => ?_) (fun hc13 => ?_)
      · have hc13 : ((!decide (x11 = 0))) = true := hc13
        rw [if_pos hc13] at hM1
        have hE := Option.some.inj hM1; subst hE
        try dsimp only [outK_inl, outL_inl] at hM0
        have hE := Option.some.inj hM0; subst hE
        exact And.intro rfl sX4
      · have hc13 : ((!decide (x11 = 0))) = false := hc13
        rw [if_neg (bneT hc13)] at hM1
        refine And.intro rfl (And.intro (by first | exact trivial | exact And.intro rfl trivial | exact And.intro rfl (And.intro rfl trivial) | exact And.intro rfl (And.intro rfl (And.intro rfl trivial)) | exact And.intro rfl (And.intro rfl (And.intro rfl (And.intro rfl trivial)))) (And.intro (by first | exact trivial | exact And.intro rfl trivial | exact And.intro rfl (And.intro rfl trivial) | exact And.intro rfl (And.intro rfl (And.intro rfl trivial)) | exact And.intro rfl (And.intro rfl (And.intro rfl (And.intro rfl trivial)))) (Exists.intro m7 (And.intro ⟨(IntKind.i64.wrap (u5 + 1)), rfl, rfl, sX4, (wrap64 _), hM1⟩ (Nat.lt_succ_self _)))))
    · have hc8 : ((decide (u5 < ((p0.length : Nat) : Int)))) = false := hc8
      rw [if_neg (bneT hc8)] at hM1
      have hE := Option.some.inj hM1; subst hE
      try dsimp only [outK_inr, outL_inr] at hM0
      have hE := Option.some.inj hM0; subst hE
      exact And.intro rfl sX4

theorem t_impl_EqualWords (h : Hp) (ap0 : Option Addr) (np0 cp0 : Nat) (p0 : LIntS) (rp0 : wIntS.R h [.slice ap0 np0 cp0] p0) (ap1 : Option Addr) (np1 cp1 : Nat) (p1 : LIntS) (rp1 : wIntS.R h [.slice ap1 np1 cp1] p1) (r : Bool) (hM0 : M_impl_EqualWords p0 p1 = some r) :
    Tr Try.prog 52 #[.slice ap0 np0 cp0, .slice ap1 np1 cp1] h fun v h' => v = .bool r ∧ h' = h := by
  obtain ⟨rfl, lp0⟩ := Sl.len rp0
  obtain ⟨rfl, lp1⟩ := Sl.len rp1
  unfold M_impl_EqualWords at hM0
  refine Tr.forget (walk (args := [.slice ap0 p0.length cp0, .slice ap1 p1.length cp1]) (fn := Try.f52) rfl ?_)
  refine And.intro (fun hc1 => ?_) (fun hc1 => ?_)
  · have hc1 : ((!decide (((p0.length : Nat) : Int) = ((p1.length : Nat) : Int)))) = true := hc1
    rw [if_pos hc1] at hM0
    have hE := Option.some.inj hM0; subst hE
    exact And.intro rfl (Sub.refl _)
  · have hc1 : ((!decide (((p0.length : Nat) : Int) = ((p1.length : Nat) : Int)))) = false := hc1
    rw [if_neg (bneT hc1)] at hM0
    obtain ⟨X2, hLX2, hM0⟩ := bsome hM0
    refine Exists.intro { vars := [13], boxes := [], owns := [], fuel := true } (Exists.intro (fun vs os h' => ∃ (u3 : Int), vs.tail = [.int .i64 u3] ∧ os = [] ∧ Sub h h' ∧ In64 u3 ∧ L_impl_EqualWords_0 p0 p1 (fuelOf vs) u3 = some X2) (Exists.intro (fun _ _ => 0) ?_))
    refine And.intro (Exists.intro FUEL ⟨0, rfl, rfl, (Sub.refl _), (c64 (by decide) (by decide)), hLX2⟩) ?_
    rintro v_0 m5 k4 ⟨u3, evX2, eoX2, sX2, iu3, hM1⟩
    cases evX2
    cases eoX2
    replace hM1 : L_impl_EqualWords_0 p0 p1 m5 u3 = some X2 := hM1
    obtain _ | m5 := m5
    · cases (show (none : Option _) = some X2 from hM1)
    rw [L_impl_EqualWords_0_succ] at hM1
    refine And.intro (fun hc6 => ?_) (fun hc6 => ?_)
    · have hc6 : ((decide (u3 < ((p0.length : Nat) : Int)))) = true := hc6
      rw [if_pos hc6] at hM1
      refine Or.inl (And.intro (And.intro (by kernel_rfl) (by kernel_rfl)) ?_)
      obtain ⟨x7, gx7, hM1⟩ := bsome hM1
      obtain ⟨bx7, csx7, ex7, rx7⟩ := Sl.getI (r := Wp.int.toRp) (wIntS.mono sX2 rp0) gx7 (by decide)
      refine And.intro bx7 ?_
      obtain ⟨rfl, ix7⟩ := rx7
      refine Exists.intro _ (And.intro ex7 ?_)
      obtain ⟨x8, gx8, hM1⟩ := bsome hM1
      obtain ⟨bx8, csx8, ex8, rx8⟩ := Sl.getI (r := Wp.int.toRp) (wIntS.mono sX2 rp1) gx8 (by decide)
      refine And.intro bx8 ?_
      obtain ⟨rfl, ix8⟩ := rx8
      refine Exists.intro _ (And.intro ex8 ?_)
      refine And.intro (fun hc9 => ?_) (fun hc9 => ?_)
      · have hc9 : ((!decide (x7 = x8))) = true := hc9
        rw [if_pos hc9] at hM1
        have hE := Option.some.inj hM1; subst hE
        try dsimp only [outK_inl, outL_inl] at hM0
        have hE := Option.some.inj hM0; subst hE
        exact And.intro rfl sX2
      · have hc9 : ((!decide (x7 = x8))) = false := hc9
        rw [if_neg (bneT hc9)] at hM1
        refine And.intro rfl (And.intro (by first | exact trivial | exact And.intro rfl trivial | exact And.intro rfl (And.intro rfl trivial) | exact And.intro rfl (And.intro rfl (And.intro rfl trivial)) | exact And.intro rfl (And.intro rfl (And.intro rfl (And.intro rfl trivial)))) (And.intro (by first | exact trivial | exact And.intro rfl trivial | exact And.intro rfl (And.intro rfl trivial) | exact And.intro rfl (And.intro rfl (And.intro rfl trivial)) | exact And.intro rfl (And.intro rfl (And.intro rfl (And.intro rfl trivial)))) (Exists.intro m5 (And.intro ⟨(IntKind.i64.wrap (u3 + 1)), rfl, rfl, sX2, (wrap64 _), hM1⟩ (Nat.lt_succ_self _)))))
    · have hc6 : ((decide (u3 < ((p0.length : Nat) : Int)))) = false := hc6
      rw [if_neg (bneT hc6)] at hM1
      have hE := Option.some.inj hM1; subst hE
      try dsimp only [outK_inr, outL_inr] at hM0
      have hE := Option.some.inj hM0; subst hE
      exact And.intro rfl sX2

end Go.Proofs.Ythccjgkmmclplaa
