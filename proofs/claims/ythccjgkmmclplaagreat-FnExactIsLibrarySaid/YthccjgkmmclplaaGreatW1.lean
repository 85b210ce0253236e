/- The walks of batch 1. -/
import Derived.Test.YthccjgkmmclplaaGreatA1
import Derived.Test.YthccjgkmmclplaaGreatChecked
import Derived.Test.YthccjgkmmclplaaGreatH35
namespace Go.Proofs.YthccjgkmmclplaaGreat
open Go.H
set_option linter.unusedVariables false
set_option linter.unusedSimpArgs false
set_option maxRecDepth 10000
theorem t_spec_l1In (h : Hp) (p0 : Int) (ip0 : In64 p0) (p1 : Int) (ip1 : In64 p1) (p2 : Int) (ip2 : In64 p2) (r : Bool) (hM0 : M_spec_l1In p0 p1 p2 = some r) :
    Tr Tryz.prog 38 #[.int .i64 p0, .int .i64 p1, .int .i64 p2] h fun v h' => v = .bool r ∧ h' = h := by
  unfold M_spec_l1In at hM0
  refine Tr.forget (walk (args := [.int .i64 p0, .int .i64 p1, .int .i64 p2]) (fn := Tryz.f38) rfl ?_)
  have hE := Option.some.inj hM0; subst hE
  exact And.intro rfl (Sub.refl _)

theorem t_spec_IsWord (h : Hp) (p0 : Int) (ip0 : In64 p0) (ap1 : Option Addr) (np1 cp1 : Nat) (p1 : LIntS) (rp1 : wIntS.R h [.slice ap1 np1 cp1] p1) (r : Bool) (hM0 : M_spec_IsWord p0 p1 = some r) :
    Tr Tryz.prog 108 #[.int .i64 p0, .slice ap1 np1 cp1] h fun v h' => v = .bool r ∧ h' = h := by
  obtain ⟨rfl, lp1⟩ := Sl.len rp1
  unfold M_spec_IsWord at hM0
  refine Tr.forget (walk (args := [.int .i64 p0, .slice ap1 p1.length cp1]) (fn := Tryz.f108) rfl ?_)
  obtain ⟨X1, hLX1, hM0⟩ := bsome hM0
  refine Exists.intro { vars := [5], boxes := [], owns := [], fuel := true } (Exists.intro (fun vs os h' => ∃ (u2 : Int), vs.tail = [.int .i64 u2] ∧ os = [] ∧ Sub h h' ∧ In64 u2 ∧ L_spec_IsWord_0 p1 p0 (fuelOf vs) u2 = some X1) (Exists.intro (fun _ _ => 0) ?_))
  refine And.intro (Exists.intro FUEL ⟨0, rfl, rfl, (Sub.refl _), (c64 (by decide) (by decide)), hLX1⟩) ?_
  rintro v_0 m4 k3 ⟨u2, evX1, eoX1, sX1, iu2, hM1⟩
  cases evX1
  cases eoX1
  replace hM1 : L_spec_IsWord_0 p1 p0 m4 u2 = some X1 := hM1
  obtain _ | m4 := m4
  · cases (show (none : Option _) = some X1 from hM1)
  rw [L_spec_IsWord_0_succ] at hM1
  refine And.intro (fun hc5 => ?_) (fun hc5 => ?_)
  · have hc5 : ((decide (u2 < ((p1.length : Nat) : Int)))) = true := hc5
    rw [if_pos hc5] at hM1
    refine Or.inl (And.intro (And.intro (by kernel_rfl) (by kernel_rfl)) ?_)
    obtain ⟨x6, gx6, hM1⟩ := bsome hM1
    obtain ⟨bx6, csx6, ex6, rx6⟩ := Sl.getI (r := Wp.int.toRp) (wIntS.mono sX1 rp1) gx6 (by decide)
    refine And.intro bx6 ?_
    obtain ⟨rfl, ix6⟩ := rx6
    refine Exists.intro _ (And.intro ex6 ?_)
    obtain ⟨x7, gx7, hM1⟩ := bsome hM1
    obtain ⟨csx7, ex7, rx7⟩ := Sl.getG (r := Wp.int.toRp) (wIntS.mono sX1 rp1) gx7 (by decide) (dfInt k3)
    refine And.intro (fun q => (ex7 q).1) ?_
    obtain ⟨rfl, ix7⟩ := rx7
    refine Exists.intro _ (And.intro (fun q => (ex7 q).2) ?_)
    obtain ⟨x8, gx8, hM1⟩ := bsome hM1
    refine Exists.intro (.bool x8) (And.intro (fun q => t_spec_l1In _ x7 ix7 (IntKind.i64.wrap (0 - p0)) (wrap64 _) p0 ip0 _  (chk_some gx8 q)) ?_)
    obtain ⟨x9, gx9, hM1⟩ := bsome hM1
    obtain ⟨csx9, ex9, rx9⟩ := Sl.getG (r := Wp.int.toRp) (wIntS.mono sX1 rp1) gx9 (by decide) (dfInt k3)
    refine And.intro (fun q => (ex9 q).1) ?_
    obtain ⟨rfl, ix9⟩ := rx9
    refine Exists.intro _ (And.intro (fun q => (ex9 q).2) ?_)
    obtain ⟨x10, gx10, hM1⟩ := bsome hM1
    obtain ⟨csx10, ex10, rx10⟩ := Sl.getG (r := Wp.int.toRp) (wIntS.mono sX1 rp1) gx10 (by decide) (dfInt k3)
    refine And.intro (fun q => (ex10 q).1) ?_
    obtain ⟨rfl, ix10⟩ := rx10
    refine Exists.intro _ (And.intro (fun q => (ex10 q).2) ?_)
    refine And.intro (fun hc11 => ?_) (fun hc11 => ?_)
    · have hc11 : ((bif (bif (decide (x6 = 0)) then true else (!x8)) then true else (bif (decide (u2 > 0)) then (decide (x9 = (IntKind.i64.wrap (0 - x10)))) else false))) = true := hc11
      rw [if_pos hc11] at hM1
      have hE := Option.some.inj hM1; subst hE
      try dsimp only [outK_inl, outL_inl] at hM0
      have hE := Option.some.inj hM0; subst hE
      exact And.intro rfl sX1
    · have hc11 : ((bif (bif (decide (x6 = 0)) then true else (!x8)) then true else (bif (decide (u2 > 0)) then (decide (x9 = (IntKind.i64.wrap (0 - x10)))) else false))) = false := hc11
      rw [if_neg (bneT hc11)] at hM1
      refine And.intro rfl (And.intro (by first | exact trivial | exact And.intro rfl trivial | exact And.intro rfl (And.intro rfl trivial) | exact And.intro rfl (And.intro rfl (And.intro rfl trivial)) | exact And.intro rfl (And.intro rfl (And.intro rfl (And.intro rfl trivial)))) (And.intro (by first | exact trivial | exact And.intro rfl trivial | exact And.intro rfl (And.intro rfl trivial) | exact And.intro rfl (And.intro rfl (And.intro rfl trivial)) | exact And.intro rfl (And.intro rfl (And.intro rfl (And.intro rfl trivial)))) (Exists.intro m4 (And.intro ⟨(IntKind.i64.wrap (u2 + 1)), rfl, rfl, sX1, (wrap64 _), hM1⟩ (Nat.lt_succ_self _)))))
  · have hc5 : ((decide (u2 < ((p1.length : Nat) : Int)))) = false := hc5
    rw [if_neg (bneT hc5)] at hM1
    have hE := Option.some.inj hM1; subst hE
    try dsimp only [outK_inr, outL_inr] at hM0
    obtain ⟨x12, gx12, hM0⟩ := bsome hM0
    refine Tr.val (t_spec_l1In _ p0 ip0 1 (c64 (by decide) (by decide)) 3 (c64 (by decide) (by decide)) _  gx12) ?_
    have hE := Option.some.inj hM0; subst hE
    exact And.intro rfl sX1

theorem t_spec_TotalLength (h : Hp) (ap0 : Option Addr) (np0 cp0 : Nat) (p0 : LIntSS) (rp0 : wIntSS.R h [.slice ap0 np0 cp0] p0) (r : Int) (hM0 : M_spec_TotalLength p0 = some r) :
    Tr Tryz.prog 139 #[.slice ap0 np0 cp0] h fun v h' => v = .int .i64 r ∧ h' = h := by
  obtain ⟨rfl, lp0⟩ := Sl.len rp0
  unfold M_spec_TotalLength at hM0
  refine Tr.forget (walk (args := [.slice ap0 p0.length cp0]) (fn := Tryz.f139) rfl ?_)
  obtain ⟨X1, hLX1, hM0⟩ := bsome hM0
  refine Exists.intro { vars := [3, 4], boxes := [], owns := [], fuel := true } (Exists.intro (fun vs os h' => ∃ (u2 : Int) (u3 : Int), vs.tail = [.int .i64 u2, .int .i64 u3] ∧ os = [] ∧ Sub h h' ∧ In64 u2 ∧ In64 u3 ∧ L_spec_TotalLength_0 p0 (fuelOf vs) u2 u3 = some X1) (Exists.intro (fun _ _ => 0) ?_))
  refine And.intro (Exists.intro FUEL ⟨0, 0, rfl, rfl, (Sub.refl _), (c64 (by decide) (by decide)), (c64 (by decide) (by decide)), hLX1⟩) ?_
  rintro v_0 v_1 m5 k4 ⟨u2, u3, evX1, eoX1, sX1, iu2, iu3, hM1⟩
  cases evX1
  cases eoX1
  replace hM1 : L_spec_TotalLength_0 p0 m5 u2 u3 = some X1 := hM1
  obtain _ | m5 := m5
  · cases (show (none : Option _) = some X1 from hM1)
  rw [L_spec_TotalLength_0_succ] at hM1
  refine And.intro (fun hc6 => ?_) (fun hc6 => ?_)
  · have hc6 : ((decide (u3 < ((p0.length : Nat) : Int)))) = true := hc6
    rw [if_pos hc6] at hM1
    obtain ⟨x7, gx7, hM1⟩ := bsome hM1
    obtain ⟨bx7, csx7, ex7, rx7⟩ := Sl.getI (r := wIntS.toRp) (wIntSS.mono sX1 rp0) gx7 (by decide)
    refine And.intro bx7 ?_
    obtain ⟨ax7, nx7, cx7, rfl⟩ := Wp.slice_cell rx7
    obtain ⟨rfl, lx7⟩ := Sl.len rx7
    refine Exists.intro _ (And.intro ex7 ?_)
    refine And.intro rfl (And.intro (by first | exact trivial | exact And.intro rfl trivial | exact And.intro rfl (And.intro rfl trivial) | exact And.intro rfl (And.intro rfl (And.intro rfl trivial)) | exact And.intro rfl (And.intro rfl (And.intro rfl (And.intro rfl trivial)))) (And.intro (by first | exact trivial | exact And.intro rfl trivial | exact And.intro rfl (And.intro rfl trivial) | exact And.intro rfl (And.intro rfl (And.intro rfl trivial)) | exact And.intro rfl (And.intro rfl (And.intro rfl (And.intro rfl trivial)))) (Exists.intro m5 (And.intro ⟨(IntKind.i64.wrap (u2 + ((x7.length : Nat) : Int))), (IntKind.i64.wrap (u3 + 1)), rfl, rfl, sX1, (wrap64 _), (wrap64 _), hM1⟩ (Nat.lt_succ_self _)))))
  · have hc6 : ((decide (u3 < ((p0.length : Nat) : Int)))) = false := hc6
    rw [if_neg (bneT hc6)] at hM1
    have hE := Option.some.inj hM1; subst hE
    try dsimp only [outK_inr, outL_inr] at hM0
    have hE := Option.some.inj hM0; subst hE
    exact And.intro rfl sX1

theorem t_spec_AreWords (h : Hp) (p0 : Int) (ip0 : In64 p0) (ap1 : Option Addr) (np1 cp1 : Nat) (p1 : LIntSS) (rp1 : wIntSS.R h [.slice ap1 np1 cp1] p1) (r : Bool) (hM0 : M_spec_AreWords p0 p1 = some r) :
    Tr Tryz.prog 105 #[.int .i64 p0, .slice ap1 np1 cp1] h fun v h' => v = .bool r ∧ h' = h := by
  obtain ⟨rfl, lp1⟩ := Sl.len rp1
  unfold M_spec_AreWords at hM0
  refine Tr.forget (walk (args := [.int .i64 p0, .slice ap1 p1.length cp1]) (fn := Tryz.f105) rfl ?_)
  obtain ⟨X1, hLX1, hM0⟩ := bsome hM0
  refine Exists.intro { vars := [5], boxes := [], owns := [], fuel := true } (Exists.intro (fun vs os h' => ∃ (u2 : Int), vs.tail = [.int .i64 u2] ∧ os = [] ∧ Sub h h' ∧ In64 u2 ∧ L_spec_AreWords_0 p1 p0 (fuelOf vs) u2 = some X1) (Exists.intro (fun _ _ => 0) ?_))
  refine And.intro (Exists.intro FUEL ⟨0, rfl, rfl, (Sub.refl _), (c64 (by decide) (by decide)), hLX1⟩) ?_
  rintro v_0 m4 k3 ⟨u2, evX1, eoX1, sX1, iu2, hM1⟩
  cases evX1
  cases eoX1
  replace hM1 : L_spec_AreWords_0 p1 p0 m4 u2 = some X1 := hM1
  obtain _ | m4 := m4
  · cases (show (none : Option _) = some X1 from hM1)
  rw [L_spec_AreWords_0_succ] at hM1
  refine And.intro (fun hc5 => ?_) (fun hc5 => ?_)
  · have hc5 : ((decide (u2 < ((p1.length : Nat) : Int)))) = true := hc5
    rw [if_pos hc5] at hM1
    obtain ⟨x6, gx6, hM1⟩ := bsome hM1
    obtain ⟨bx6, csx6, ex6, rx6⟩ := Sl.getI (r := wIntS.toRp) (wIntSS.mono sX1 rp1) gx6 (by decide)
    refine And.intro bx6 ?_
    obtain ⟨ax6, nx6, cx6, rfl⟩ := Wp.slice_cell rx6
    obtain ⟨rfl, lx6⟩ := Sl.len rx6
    refine Exists.intro _ (And.intro ex6 ?_)
    obtain ⟨x7, gx7, hM1⟩ := bsome hM1
    refine Tr.val (t_spec_IsWord _ p0 ip0 ax6 x6.length cx6 x6 rx6 _  gx7) ?_
    refine And.intro (fun hc8 => ?_) (fun hc8 => ?_)
    · have hc8 : ((!x7)) = true := hc8
      rw [if_pos hc8] at hM1
      have hE := Option.some.inj hM1; subst hE
      try dsimp only [outK_inl, outL_inl] at hM0
      have hE := Option.some.inj hM0; subst hE
      exact And.intro rfl sX1
    · have hc8 : ((!x7)) = false := hc8
      rw [if_neg (bneT hc8)] at hM1
      refine And.intro rfl (And.intro (by first | exact trivial | exact And.intro rfl trivial | exact And.intro rfl (And.intro rfl trivial) | exact And.intro rfl (And.intro rfl (And.intro rfl trivial)) | exact And.intro rfl (And.intro rfl (And.intro rfl (And.intro rfl trivial)))) (And.intro (by first | exact trivial | exact And.intro rfl trivial | exact And.intro rfl (And.intro rfl trivial) | exact And.intro rfl (And.intro rfl (And.intro rfl trivial)) | exact And.intro rfl (And.intro rfl (And.intro rfl (And.intro rfl trivial)))) (Exists.intro m4 (And.intro ⟨(IntKind.i64.wrap (u2 + 1)), rfl, rfl, sX1, (wrap64 _), hM1⟩ (Nat.lt_succ_self _)))))
  · have hc5 : ((decide (u2 < ((p1.length : Nat) : Int)))) = false := hc5
    rw [if_neg (bneT hc5)] at hM1
    have hE := Option.some.inj hM1; subst hE
    try dsimp only [outK_inr, outL_inr] at hM0
    obtain ⟨x9, gx9, hM0⟩ := bsome hM0
    refine Tr.val (t_spec_l1In _ p0 ip0 1 (c64 (by decide) (by decide)) 3 (c64 (by decide) (by decide)) _  gx9) ?_
    obtain ⟨x10, gx10, hM0⟩ := bsome hM0
    refine Exists.intro (.int .i64 x10) (And.intro (fun q => t_spec_TotalLength _ ap1 p1.length cp1 p1 (wIntSS.mono sX1 rp1) _  (chk_some gx10 q)) ?_)
    obtain ⟨q11, gq11, hM0⟩ := bsome hM0
    have ix10 : In64 x10 := grd_some gq11
    have hE := Option.some.inj hM0; subst hE
    exact And.intro rfl sX1

theorem t_spec_IsPresentation (h : Hp) (csp0 : List Value) (p0 : LPresentation) (rp0 : wPresentation.R h csp0 p0) (r : Bool) (hM0 : M_spec_IsPresentation p0 = some r) :
    Tr Tryz.prog 64 #[.agg csp0.toArray] h fun v h' => v = .bool r ∧ h' = h := by
  obtain ⟨p0_0, ap0_1, np0_1, cp0_1, p0_1, rfl, rfl, ip0_0, rp0_1⟩ := openPresentation rp0
  obtain ⟨rfl, lp0_1⟩ := Sl.len rp0_1
  unfold M_spec_IsPresentation at hM0
  dsimp only at hM0
  refine Tr.forget (walk (args := [.agg #[.int .i64 p0_0, .slice ap0_1 p0_1.length cp0_1]]) (fn := Tryz.f64) rfl ?_)
  obtain ⟨X1, hLX1, hM0⟩ := bsome hM0
  refine Exists.intro { vars := [3], boxes := [], owns := [], fuel := true } (Exists.intro (fun vs os h' => ∃ (u2 : Int), vs.tail = [.int .i64 u2] ∧ os = [] ∧ Sub h h' ∧ In64 u2 ∧ L_spec_IsPresentation_0 p0_1 (fuelOf vs) u2 = some X1) (Exists.intro (fun _ _ => 0) ?_))
  refine And.intro (Exists.intro FUEL ⟨0, rfl, rfl, (Sub.refl _), (c64 (by decide) (by decide)), hLX1⟩) ?_
  rintro v_0 m4 k3 ⟨u2, evX1, eoX1, sX1, iu2, hM1⟩
  cases evX1
  cases eoX1
  replace hM1 : L_spec_IsPresentation_0 p0_1 m4 u2 = some X1 := hM1
  obtain _ | m4 := m4
  · cases (show (none : Option _) = some X1 from hM1)
  rw [L_spec_IsPresentation_0_succ] at hM1
  refine And.intro (fun hc5 => ?_) (fun hc5 => ?_)
  · have hc5 : ((decide (u2 < ((p0_1.length : Nat) : Int)))) = true := hc5
    rw [if_pos hc5] at hM1
    obtain ⟨x6, gx6, hM1⟩ := bsome hM1
    obtain ⟨bx6, csx6, ex6, rx6⟩ := Sl.getI (r := wIntS.toRp) (wIntSS.mono sX1 rp0_1) gx6 (by decide)
    refine And.intro bx6 ?_
    obtain ⟨ax6, nx6, cx6, rfl⟩ := Wp.slice_cell rx6
    obtain ⟨rfl, lx6⟩ := Sl.len rx6
    refine Exists.intro _ (And.intro ex6 ?_)
    refine Or.inl (And.intro (And.intro (by kernel_rfl) (by kernel_rfl)) ?_)
    obtain ⟨x7, gx7, hM1⟩ := bsome hM1
    obtain ⟨csx7, ex7, rx7⟩ := Sl.getG (r := Wp.int.toRp) rx6 gx7 (by decide) (dfInt k3)
    refine And.intro (fun q => (ex7 q).1) ?_
    obtain ⟨rfl, ix7⟩ := rx7
    refine Exists.intro _ (And.intro (fun q => (ex7 q).2) ?_)
    obtain ⟨x8, gx8, hM1⟩ := bsome hM1
    obtain ⟨csx8, ex8, rx8⟩ := Sl.getG (r := Wp.int.toRp) rx6 gx8 (by decide) (dfInt k3)
    refine And.intro (fun q => (ex8 q).1) ?_
    obtain ⟨rfl, ix8⟩ := rx8
    refine Exists.intro _ (And.intro (fun q => (ex8 q).2) ?_)
    refine And.intro (fun hc9 => ?_) (fun hc9 => ?_)
    · have hc9 : ((bif (decide (((x6.length : Nat) : Int) = 0)) then true else (decide (x7 = (IntKind.i64.wrap (0 - x8)))))) = true := hc9
      rw [if_pos hc9] at hM1
      have hE := Option.some.inj hM1; subst hE
      try dsimp only [outK_inl, outL_inl] at hM0
      have hE := Option.some.inj hM0; subst hE
      exact And.intro rfl sX1
    · have hc9 : ((bif (decide (((x6.length : Nat) : Int) = 0)) then true else (decide (x7 = (IntKind.i64.wrap (0 - x8)))))) = false := hc9
      rw [if_neg (bneT hc9)] at hM1
      refine And.intro rfl (And.intro (by first | exact trivial | exact And.intro rfl trivial | exact And.intro rfl (And.intro rfl trivial) | exact And.intro rfl (And.intro rfl (And.intro rfl trivial)) | exact And.intro rfl (And.intro rfl (And.intro rfl (And.intro rfl trivial)))) (And.intro (by first | exact trivial | exact And.intro rfl trivial | exact And.intro rfl (And.intro rfl trivial) | exact And.intro rfl (And.intro rfl (And.intro rfl trivial)) | exact And.intro rfl (And.intro rfl (And.intro rfl (And.intro rfl trivial)))) (Exists.intro m4 (And.intro ⟨(IntKind.i64.wrap (u2 + 1)), rfl, rfl, sX1, (wrap64 _), hM1⟩ (Nat.lt_succ_self _)))))
  · have hc5 : ((decide (u2 < ((p0_1.length : Nat) : Int)))) = false := hc5
    rw [if_neg (bneT hc5)] at hM1
    have hE := Option.some.inj hM1; subst hE
    try dsimp only [outK_inr, outL_inr] at hM0
    obtain ⟨x10, gx10, hM0⟩ := bsome hM0
    refine Tr.val (t_spec_AreWords _ p0_0 ip0_0 ap0_1 p0_1.length cp0_1 p0_1 (wIntSS.mono sX1 rp0_1) _  gx10) ?_
    have hE := Option.some.inj hM0; subst hE
    exact And.intro rfl sX1

theorem t_impl_within (h : Hp) (p0 : Int) (ip0 : In64 p0) (p1 : Int) (ip1 : In64 p1) (p2 : Int) (ip2 : In64 p2) (r : Bool) (hM0 : M_impl_within p0 p1 p2 = some r) :
    Tr Tryz.prog 40 #[.int .i64 p0, .int .i64 p1, .int .i64 p2] h fun v h' => v = .bool r ∧ h' = h := by
  unfold M_impl_within at hM0
  refine Tr.forget (walk (args := [.int .i64 p0, .int .i64 p1, .int .i64 p2]) (fn := Tryz.f40) rfl ?_)
  have hE := Option.some.inj hM0; subst hE
  exact And.intro rfl (Sub.refl _)

theorem t_impl_isLetter (h : Hp) (p0 : Int) (ip0 : In64 p0) (p1 : Int) (ip1 : In64 p1) (r : Bool) (hM0 : M_impl_isLetter p0 p1 = some r) :
    Tr Tryz.prog 144 #[.int .i64 p0, .int .i64 p1] h fun v h' => v = .bool r ∧ h' = h := by
  unfold M_impl_isLetter at hM0
  refine Tr.forget (walk (args := [.int .i64 p0, .int .i64 p1]) (fn := Tryz.f144) rfl ?_)
  obtain ⟨x1, gx1, hM0⟩ := bsome hM0
  refine Exists.intro (.bool x1) (And.intro (fun q => t_impl_within _ p1 ip1 (IntKind.i64.wrap (0 - p0)) (wrap64 _) p0 ip0 _  (chk_some gx1 q)) ?_)
  have hE := Option.some.inj hM0; subst hE
  exact And.intro rfl (Sub.refl _)

theorem t_impl_areInverse (h : Hp) (p0 : Int) (ip0 : In64 p0) (p1 : Int) (ip1 : In64 p1) (r : Bool) (hM0 : M_impl_areInverse p0 p1 = some r) :
    Tr Tryz.prog 115 #[.int .i64 p0, .int .i64 p1] h fun v h' => v = .bool r ∧ h' = h := by
  unfold M_impl_areInverse at hM0
  refine Tr.forget (walk (args := [.int .i64 p0, .int .i64 p1]) (fn := Tryz.f115) rfl ?_)
  have hE := Option.some.inj hM0; subst hE
  exact And.intro rfl (Sub.refl _)

theorem t_impl_IsWord (h : Hp) (p0 : Int) (ip0 : In64 p0) (ap1 : Option Addr) (np1 cp1 : Nat) (p1 : LIntS) (rp1 : wIntS.R h [.slice ap1 np1 cp1] p1) (r : Bool) (hM0 : M_impl_IsWord p0 p1 = some r) :
    Tr Tryz.prog 119 #[.int .i64 p0, .slice ap1 np1 cp1] h fun v h' => v = .bool r ∧ h' = h := by
  obtain ⟨rfl, lp1⟩ := Sl.len rp1
  unfold M_impl_IsWord at hM0
  refine Tr.forget (walk (args := [.int .i64 p0, .slice ap1 p1.length cp1]) (fn := Tryz.f119) rfl ?_)
  obtain ⟨x1, gx1, hM0⟩ := bsome hM0
  refine Tr.val (t_impl_within _ p0 ip0 1 (c64 (by decide) (by decide)) 3 (c64 (by decide) (by decide)) _  gx1) ?_
  refine And.intro (fun hc2 => ?_) (fun hc2 => ?_)
  · have hc2 : ((bif (!x1) then true else (decide (((p1.length : Nat) : Int) > 24)))) = true := hc2
    rw [if_pos hc2] at hM0
    have hE := Option.some.inj hM0; subst hE
    exact And.intro rfl (Sub.refl _)
  · have hc2 : ((bif (!x1) then true else (decide (((p1.length : Nat) : Int) > 24)))) = false := hc2
    rw [if_neg (bneT hc2)] at hM0
    obtain ⟨X3, hLX3, hM0⟩ := bsome hM0
    refine Exists.intro { vars := [17], boxes := [], owns := [], fuel := true } (Exists.intro (fun vs os h' => ∃ (u4 : Int), vs.tail = [.int .i64 u4] ∧ os = [] ∧ Sub h h' ∧ In64 u4 ∧ L_impl_IsWord_0 p1 p0 (fuelOf vs) u4 = some X3) (Exists.intro (fun _ _ => 0) ?_))
    refine And.intro (Exists.intro FUEL ⟨0, rfl, rfl, (Sub.refl _), (c64 (by decide) (by decide)), hLX3⟩) ?_
    rintro v_0 m6 k5 ⟨u4, evX3, eoX3, sX3, iu4, hM1⟩
    cases evX3
    cases eoX3
    replace hM1 : L_impl_IsWord_0 p1 p0 m6 u4 = some X3 := hM1
    obtain _ | m6 := m6
    · cases (show (none : Option _) = some X3 from hM1)
    rw [L_impl_IsWord_0_succ] at hM1
    refine And.intro (fun hc7 => ?_) (fun hc7 => ?_)
    · have hc7 : ((decide (u4 < ((p1.length : Nat) : Int)))) = true := hc7
      rw [if_pos hc7] at hM1
      obtain ⟨x8, gx8, hM1⟩ := bsome hM1
      obtain ⟨bx8, csx8, ex8, rx8⟩ := Sl.getI (r := Wp.int.toRp) (wIntS.mono sX3 rp1) gx8 (by decide)
      refine And.intro bx8 ?_
      obtain ⟨rfl, ix8⟩ := rx8
      refine Exists.intro _ (And.intro ex8 ?_)
      obtain ⟨x9, gx9, hM1⟩ := bsome hM1
      refine Tr.val (t_impl_isLetter _ p0 ip0 x8 ix8 _  gx9) ?_
      obtain ⟨x10, gx10, hM1⟩ := bsome hM1
      obtain ⟨csx10, ex10, rx10⟩ := Sl.getG (r := Wp.int.toRp) (wIntS.mono sX3 rp1) gx10 (by decide) (dfInt k5)
      refine And.intro (fun q => (ex10 q).1) ?_
      obtain ⟨rfl, ix10⟩ := rx10
      refine Exists.intro _ (And.intro (fun q => (ex10 q).2) ?_)
      obtain ⟨x11, gx11, hM1⟩ := bsome hM1
      refine Exists.intro (.bool x11) (And.intro (fun q => t_impl_areInverse _ x10 ix10 x8 ix8 _  (chk_some gx11 q)) ?_)
      refine And.intro (fun hc12 => ?_) (fun hc12 => ?_)
      · have hc12 : ((bif (!x9) then true else (bif (decide (u4 > 0)) then x11 else false))) = true := hc12
        rw [if_pos hc12] at hM1
        have hE := Option.some.inj hM1; subst hE
        try dsimp only [outK_inl, outL_inl] at hM0
        have hE := Option.some.inj hM0; subst hE
        exact And.intro rfl sX3
      · have hc12 : ((bif (!x9) then true else (bif (decide (u4 > 0)) then x11 else false))) = false := hc12
        rw [if_neg (bneT hc12)] at hM1
        refine And.intro rfl (And.intro (by first | exact trivial | exact And.intro rfl trivial | exact And.intro rfl (And.intro rfl trivial) | exact And.intro rfl (And.intro rfl (And.intro rfl trivial)) | exact And.intro rfl (And.intro rfl (And.intro rfl (And.intro rfl trivial)))) (And.intro (by first | exact trivial | exact And.intro rfl trivial | exact And.intro rfl (And.intro rfl trivial) | exact And.intro rfl (And.intro rfl (And.intro rfl trivial)) | exact And.intro rfl (And.intro rfl (And.intro rfl (And.intro rfl trivial)))) (Exists.intro m6 (And.intro ⟨(IntKind.i64.wrap (u4 + 1)), rfl, rfl, sX3, (wrap64 _), hM1⟩ (Nat.lt_succ_self _)))))
    · have hc7 : ((decide (u4 < ((p1.length : Nat) : Int)))) = false := hc7
      rw [if_neg (bneT hc7)] at hM1
      have hE := Option.some.inj hM1; subst hE
      try dsimp only [outK_inr, outL_inr] at hM0
      have hE := Option.some.inj hM0; subst hE
      exact And.intro rfl sX3

theorem t_impl_TotalLength (h : Hp) (ap0 : Option Addr) (np0 cp0 : Nat) (p0 : LIntSS) (rp0 : wIntSS.R h [.slice ap0 np0 cp0] p0) (r : Int) (hM0 : M_impl_TotalLength p0 = some r) :
    Tr Tryz.prog 143 #[.slice ap0 np0 cp0] h fun v h' => v = .int .i64 r ∧ h' = h := by
  obtain ⟨rfl, lp0⟩ := Sl.len rp0
  unfold M_impl_TotalLength at hM0
  refine Tr.forget (walk (args := [.slice ap0 p0.length cp0]) (fn := Tryz.f143) rfl ?_)
  obtain ⟨X1, hLX1, hM0⟩ := bsome hM0
  refine Exists.intro { vars := [3, 8], boxes := [], owns := [], fuel := true } (Exists.intro (fun vs os h' => ∃ (u2 : Int) (u3 : Int), vs.tail = [.int .i64 u2, .int .i64 u3] ∧ os = [] ∧ Sub h h' ∧ In64 u2 ∧ In64 u3 ∧ L_impl_TotalLength_0 p0 (fuelOf vs) u2 u3 = some X1) (Exists.intro (fun _ _ => 0) ?_))
  refine And.intro (Exists.intro FUEL ⟨0, 0, rfl, rfl, (Sub.refl _), (c64 (by decide) (by decide)), (c64 (by decide) (by decide)), hLX1⟩) ?_
  rintro v_0 v_1 m5 k4 ⟨u2, u3, evX1, eoX1, sX1, iu2, iu3, hM1⟩
  cases evX1
  cases eoX1
  replace hM1 : L_impl_TotalLength_0 p0 m5 u2 u3 = some X1 := hM1
  obtain _ | m5 := m5
  · cases (show (none : Option _) = some X1 from hM1)
  rw [L_impl_TotalLength_0_succ] at hM1
  refine And.intro (fun hc6 => ?_) (fun hc6 => ?_)
  · have hc6 : ((decide (u3 < ((p0.length : Nat) : Int)))) = true := hc6
    rw [if_pos hc6] at hM1
    obtain ⟨x7, gx7, hM1⟩ := bsome hM1
    obtain ⟨bx7, csx7, ex7, rx7⟩ := Sl.getI (r := wIntS.toRp) (wIntSS.mono sX1 rp0) gx7 (by decide)
    refine And.intro bx7 ?_
    obtain ⟨ax7, nx7, cx7, rfl⟩ := Wp.slice_cell rx7
    obtain ⟨rfl, lx7⟩ := Sl.len rx7
    refine Exists.intro _ (And.intro ex7 ?_)
    refine And.intro rfl (And.intro (by first | exact trivial | exact And.intro rfl trivial | exact And.intro rfl (And.intro rfl trivial) | exact And.intro rfl (And.intro rfl (And.intro rfl trivial)) | exact And.intro rfl (And.intro rfl (And.intro rfl (And.intro rfl trivial)))) (And.intro (by first | exact trivial | exact And.intro rfl trivial | exact And.intro rfl (And.intro rfl trivial) | exact And.intro rfl (And.intro rfl (And.intro rfl trivial)) | exact And.intro rfl (And.intro rfl (And.intro rfl (And.intro rfl trivial)))) (Exists.intro m5 (And.intro ⟨(IntKind.i64.wrap (u2 + ((x7.length : Nat) : Int))), (IntKind.i64.wrap (u3 + 1)), rfl, rfl, sX1, (wrap64 _), (wrap64 _), hM1⟩ (Nat.lt_succ_self _)))))
  · have hc6 : ((decide (u3 < ((p0.length : Nat) : Int)))) = false := hc6
    rw [if_neg (bneT hc6)] at hM1
    have hE := Option.some.inj hM1; subst hE
    try dsimp only [outK_inr, outL_inr] at hM0
    have hE := Option.some.inj hM0; subst hE
    exact And.intro rfl sX1

theorem t_impl_AreWords (h : Hp) (p0 : Int) (ip0 : In64 p0) (ap1 : Option Addr) (np1 cp1 : Nat) (p1 : LIntSS) (rp1 : wIntSS.R h [.slice ap1 np1 cp1] p1) (r : Bool) (hM0 : M_impl_AreWords p0 p1 = some r) :
    Tr Tryz.prog 114 #[.int .i64 p0, .slice ap1 np1 cp1] h fun v h' => v = .bool r ∧ h' = h := by
  obtain ⟨rfl, lp1⟩ := Sl.len rp1
  unfold M_impl_AreWords at hM0
  refine Tr.forget (walk (args := [.int .i64 p0, .slice ap1 p1.length cp1]) (fn := Tryz.f114) rfl ?_)
  obtain ⟨x1, gx1, hM0⟩ := bsome hM0
  refine Tr.val (t_impl_within _ p0 ip0 1 (c64 (by decide) (by decide)) 3 (c64 (by decide) (by decide)) _  gx1) ?_
  refine And.intro (fun hc2 => ?_) (fun hc2 => ?_)
  · have hc2 : ((bif (!x1) then true else (decide (((p1.length : Nat) : Int) > 6)))) = true := hc2
    rw [if_pos hc2] at hM0
    have hE := Option.some.inj hM0; subst hE
    exact And.intro rfl (Sub.refl _)
  · have hc2 : ((bif (!x1) then true else (decide (((p1.length : Nat) : Int) > 6)))) = false := hc2
    rw [if_neg (bneT hc2)] at hM0
    obtain ⟨X3, hLX3, hM0⟩ := bsome hM0
    refine Exists.intro { vars := [17], boxes := [], owns := [], fuel := true } (Exists.intro (fun vs os h' => ∃ (u4 : Int), vs.tail = [.int .i64 u4] ∧ os = [] ∧ Sub h h' ∧ In64 u4 ∧ L_impl_AreWords_0 p1 p0 (fuelOf vs) u4 = some X3) (Exists.intro (fun _ _ => 0) ?_))
    refine And.intro (Exists.intro FUEL ⟨0, rfl, rfl, (Sub.refl _), (c64 (by decide) (by decide)), hLX3⟩) ?_
    rintro v_0 m6 k5 ⟨u4, evX3, eoX3, sX3, iu4, hM1⟩
    cases evX3
    cases eoX3
    replace hM1 : L_impl_AreWords_0 p1 p0 m6 u4 = some X3 := hM1
    obtain _ | m6 := m6
    · cases (show (none : Option _) = some X3 from hM1)
    rw [L_impl_AreWords_0_succ] at hM1
    refine And.intro (fun hc7 => ?_) (fun hc7 => ?_)
    · have hc7 : ((decide (u4 < ((p1.length : Nat) : Int)))) = true := hc7
      rw [if_pos hc7] at hM1
      obtain ⟨x8, gx8, hM1⟩ := bsome hM1
      obtain ⟨bx8, csx8, ex8, rx8⟩ := Sl.getI (r := wIntS.toRp) (wIntSS.mono sX3 rp1) gx8 (by decide)
      refine And.intro bx8 ?_
      obtain ⟨ax8, nx8, cx8, rfl⟩ := Wp.slice_cell rx8
      obtain ⟨rfl, lx8⟩ := Sl.len rx8
      refine Exists.intro _ (And.intro ex8 ?_)
      obtain ⟨x9, gx9, hM1⟩ := bsome hM1
      refine Tr.val (t_impl_IsWord _ p0 ip0 ax8 x8.length cx8 x8 rx8 _  gx9) ?_
      refine And.intro (fun hc10 => ?_) (fun hc10 => ?_)
      · have hc10 : ((!x9)) = true := hc10
        rw [if_pos hc10] at hM1
        have hE := Option.some.inj hM1; subst hE
        try dsimp only [outK_inl, outL_inl] at hM0
        have hE := Option.some.inj hM0; subst hE
        exact And.intro rfl sX3
      · have hc10 : ((!x9)) = false := hc10
        rw [if_neg (bneT hc10)] at hM1
        refine And.intro rfl (And.intro (by first | exact trivial | exact And.intro rfl trivial | exact And.intro rfl (And.intro rfl trivial) | exact And.intro rfl (And.intro rfl (And.intro rfl trivial)) | exact And.intro rfl (And.intro rfl (And.intro rfl (And.intro rfl trivial)))) (And.intro (by first | exact trivial | exact And.intro rfl trivial | exact And.intro rfl (And.intro rfl trivial) | exact And.intro rfl (And.intro rfl (And.intro rfl trivial)) | exact And.intro rfl (And.intro rfl (And.intro rfl (And.intro rfl trivial)))) (Exists.intro m6 (And.intro ⟨(IntKind.i64.wrap (u4 + 1)), rfl, rfl, sX3, (wrap64 _), hM1⟩ (Nat.lt_succ_self _)))))
    · have hc7 : ((decide (u4 < ((p1.length : Nat) : Int)))) = false := hc7
      rw [if_neg (bneT hc7)] at hM1
      have hE := Option.some.inj hM1; subst hE
      try dsimp only [outK_inr, outL_inr] at hM0
      obtain ⟨x11, gx11, hM0⟩ := bsome hM0
      refine Tr.val (t_impl_TotalLength _ ap1 p1.length cp1 p1 (wIntSS.mono sX3 rp1) _  gx11) ?_
      obtain ⟨q12, gq12, hM0⟩ := bsome hM0
      have ix11 : In64 x11 := grd_some gq12
      have hE := Option.some.inj hM0; subst hE
      exact And.intro rfl sX3

theorem t_impl_IsPresentation (h : Hp) (csp0 : List Value) (p0 : LPresentation) (rp0 : wPresentation.R h csp0 p0) (r : Bool) (hM0 : M_impl_IsPresentation p0 = some r) :
    Tr Tryz.prog 73 #[.agg csp0.toArray] h fun v h' => v = .bool r ∧ h' = h := by
  obtain ⟨p0_0, ap0_1, np0_1, cp0_1, p0_1, rfl, rfl, ip0_0, rp0_1⟩ := openPresentation rp0
  obtain ⟨rfl, lp0_1⟩ := Sl.len rp0_1
  unfold M_impl_IsPresentation at hM0
  dsimp only at hM0
  refine Tr.forget (walk (args := [.agg #[.int .i64 p0_0, .slice ap0_1 p0_1.length cp0_1]]) (fn := Tryz.f73) rfl ?_)
  obtain ⟨x1, gx1, hM0⟩ := bsome hM0
  refine Tr.val (t_impl_AreWords _ p0_0 ip0_0 ap0_1 p0_1.length cp0_1 p0_1 rp0_1 _  gx1) ?_
  refine And.intro (fun hc2 => ?_) (fun hc2 => ?_)
  · have hc2 : ((!x1)) = true := hc2
    rw [if_pos hc2] at hM0
    have hE := Option.some.inj hM0; subst hE
    exact And.intro rfl (Sub.refl _)
  · have hc2 : ((!x1)) = false := hc2
    rw [if_neg (bneT hc2)] at hM0
    obtain ⟨X3, hLX3, hM0⟩ := bsome hM0
    refine Exists.intro { vars := [14], boxes := [], owns := [], fuel := true } (Exists.intro (fun vs os h' => ∃ (u4 : Int), vs.tail = [.int .i64 u4] ∧ os = [] ∧ Sub h h' ∧ In64 u4 ∧ L_impl_IsPresentation_0 p0_1 (fuelOf vs) u4 = some X3) (Exists.intro (fun _ _ => 0) ?_))
    refine And.intro (Exists.intro FUEL ⟨0, rfl, rfl, (Sub.refl _), (c64 (by decide) (by decide)), hLX3⟩) ?_
    rintro v_0 m6 k5 ⟨u4, evX3, eoX3, sX3, iu4, hM1⟩
    cases evX3
    cases eoX3
    replace hM1 : L_impl_IsPresentation_0 p0_1 m6 u4 = some X3 := hM1
    obtain _ | m6 := m6
    · cases (show (none : Option _) = some X3 from hM1)
    rw [L_impl_IsPresentation_0_succ] at hM1
    refine And.intro (fun hc7 => ?_) (fun hc7 => ?_)
    · have hc7 : ((decide (u4 < ((p0_1.length : Nat) : Int)))) = true := hc7
      rw [if_pos hc7] at hM1
      obtain ⟨x8, gx8, hM1⟩ := bsome hM1
      obtain ⟨bx8, csx8, ex8, rx8⟩ := Sl.getI (r := wIntS.toRp) (wIntSS.mono sX3 rp0_1) gx8 (by decide)
      refine And.intro bx8 ?_
      obtain ⟨ax8, nx8, cx8, rfl⟩ := Wp.slice_cell rx8
      obtain ⟨rfl, lx8⟩ := Sl.len rx8
      refine Exists.intro _ (And.intro ex8 ?_)
      refine Or.inl (And.intro (And.intro (by kernel_rfl) (by kernel_rfl)) ?_)
      obtain ⟨x9, gx9, hM1⟩ := bsome hM1
      obtain ⟨csx9, ex9, rx9⟩ := Sl.getG (r := Wp.int.toRp) rx8 gx9 (by decide) (dfInt k5)
      refine And.intro (fun q => (ex9 q).1) ?_
      obtain ⟨rfl, ix9⟩ := rx9
      refine Exists.intro _ (And.intro (fun q => (ex9 q).2) ?_)
      obtain ⟨x10, gx10, hM1⟩ := bsome hM1
      obtain ⟨csx10, ex10, rx10⟩ := Sl.getG (r := Wp.int.toRp) rx8 gx10 (by decide) (dfInt k5)
      refine And.intro (fun q => (ex10 q).1) ?_
      obtain ⟨rfl, ix10⟩ := rx10
      refine Exists.intro _ (And.intro (fun q => (ex10 q).2) ?_)
      obtain ⟨x11, gx11, hM1⟩ := bsome hM1
      refine Exists.intro (.bool x11) (And.intro (fun q => t_impl_areInverse _ x9 ix9 x10 ix10 _  (chk_some gx11 q)) ?_)
      refine And.intro (fun hc12 => ?_) (fun hc12 => ?_)
      · have hc12 : ((bif (decide (((x8.length : Nat) : Int) = 0)) then true else x11)) = true := hc12
        rw [if_pos hc12] at hM1
        have hE := Option.some.inj hM1; subst hE
        try dsimp only [outK_inl, outL_inl] at hM0
        have hE := Option.some.inj hM0; subst hE
        exact And.intro rfl sX3
      · have hc12 : ((bif (decide (((x8.length : Nat) : Int) = 0)) then true else x11)) = false := hc12
        rw [if_neg (bneT hc12)] at hM1
        refine And.intro rfl (And.intro (by first | exact trivial | exact And.intro rfl trivial | exact And.intro rfl (And.intro rfl trivial) | exact And.intro rfl (And.intro rfl (And.intro rfl trivial)) | exact And.intro rfl (And.intro rfl (And.intro rfl (And.intro rfl trivial)))) (And.intro (by first | exact trivial | exact And.intro rfl trivial | exact And.intro rfl (And.intro rfl trivial) | exact And.intro rfl (And.intro rfl (And.intro rfl trivial)) | exact And.intro rfl (And.intro rfl (And.intro rfl (And.intro rfl trivial)))) (Exists.intro m6 (And.intro ⟨(IntKind.i64.wrap (u4 + 1)), rfl, rfl, sX3, (wrap64 _), hM1⟩ (Nat.lt_succ_self _)))))
    · have hc7 : ((decide (u4 < ((p0_1.length : Nat) : Int)))) = false := hc7
      rw [if_neg (bneT hc7)] at hM1
      have hE := Option.some.inj hM1; subst hE
      try dsimp only [outK_inr, outL_inr] at hM0
      have hE := Option.some.inj hM0; subst hE
      exact And.intro rfl sX3

theorem t_impl_compareInts (h : Hp) (p0 : Int) (ip0 : In64 p0) (p1 : Int) (ip1 : In64 p1) (r : Int) (hM0 : M_impl_compareInts p0 p1 = some r) :
    Tr Tryz.prog 156 #[.int .i64 p0, .int .i64 p1] h fun v h' => v = .int .i64 r ∧ h' = h := by
  unfold M_impl_compareInts at hM0
  refine Tr.forget (walk (args := [.int .i64 p0, .int .i64 p1]) (fn := Tryz.f156) rfl ?_)
  refine And.intro (fun hc1 => ?_) (fun hc1 => ?_)
  · have hc1 : ((decide (p0 < p1))) = true := hc1
    rw [if_pos hc1] at hM0
    have hE := Option.some.inj hM0; subst hE
    exact And.intro rfl (Sub.refl _)
  · have hc1 : ((decide (p0 < p1))) = false := hc1
    rw [if_neg (bneT hc1)] at hM0
    refine And.intro (fun hc2 => ?_) (fun hc2 => ?_)
    · have hc2 : ((decide (p0 > p1))) = true := hc2
      rw [if_pos hc2] at hM0
      have hE := Option.some.inj hM0; subst hE
      exact And.intro rfl (Sub.refl _)
    · have hc2 : ((decide (p0 > p1))) = false := hc2
      rw [if_neg (bneT hc2)] at hM0
      have hE := Option.some.inj hM0; subst hE
      exact And.intro rfl (Sub.refl _)

end Go.Proofs.YthccjgkmmclplaaGreat
