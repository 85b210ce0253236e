/- The walks of batch h4. -/
import Derived.Test.YtfdlgbfeceodeaaGreatPart17
import Derived.Test.YtfdlgbfeceodeaaGreatChecked
import Derived.Test.YtfdlgbfeceodeaaGreatH35
import Derived.Test.YtfdlgbfeceodeaaGreatPart23
import Derived.Test.YtfdlgbfeceodeaaGreatPart25
import Derived.Test.YtfdlgbfeceodeaaGreatH41
namespace Go.Proofs.YtfdlgbfeceodeaaGreat
open Go.H
set_option linter.unusedVariables false
set_option linter.unusedSimpArgs false
set_option maxRecDepth 10000
set_option maxHeartbeats 0
theorem t05 (h : Hp) (csp0 : List Value) (p0 : M0) (rp0 : S0.R h csp0 p0) (csp1 : List Value) (p1 : l0) (rp1 : P0.R h csp1 p1) (r : l0 × Bool × Bool) (hM0 : Q8 p0 p1 = some r) :
  Tr Tryz.prog 30 #[.agg csp0.toArray, .agg csp1.toArray] h fun v h' => ∃ (cs0 : List Value), v = .tuple #[.agg cs0.toArray, .bool r.2.1, .bool r.2.2] ∧ New P0 h h' cs0 r.1 := by
 obtain ⟨p0_0, ap0_1, np0_1, cp0_1, p0_1, rfl, rfl, ip0_0, rp0_1⟩ := D2 rp0
 obtain ⟨rfl, lp0_1⟩ := Sl.len rp0_1
 obtain ⟨p1_0, p1_1, ap1_2, np1_2, cp1_2, p1_2, rfl, rfl, ip1_0, ip1_1, rp1_2⟩ := B0 rp1
 obtain ⟨rfl, lp1_2⟩ := Sl.len rp1_2
 unfold Q8 at hM0
 dsimp only at hM0
 refine c3 (args := [.agg #[.int .i64 p0_0, .slice ap0_1 p0_1.length cp0_1], .agg #[.int .i64 p1_0, .int .i64 p1_1, .slice ap1_2 p1_2.length cp1_2]]) (fn := Tryz.f30) rfl ?_
 obtain ⟨x1, gx1, hM0⟩ := j0 hM0
 refine Tr.val (J00 _ [.int .i64 p0_0, .slice ap0_1 p0_1.length cp0_1] (p0_0, p0_1) (n3 ip0_0 rp0_1) _  gx1) ?_
 obtain ⟨x2, gx2, hM0⟩ := j0 hM0
 refine Exists.intro (.bool x2) (And.intro (fun q => p01 _ [.int .i64 p1_0, .int .i64 p1_1, .slice ap1_2 p1_2.length cp1_2] (p1_0, p1_1, p1_2) (z0 ip1_0 ip1_1 rp1_2) _  (U2 gx2 q)) ?_)
 refine And.intro (fun hc3 => ?_) (fun hc3 => ?_)
 ·have hc3 : ((bif (bif (!x1) then true else (!x2)) then true else (!decide (p0_0 = p1_0)))) = true := hc3
  rw [if_pos hc3] at hM0
  obtain ⟨x4, gx4, hM0⟩ := j0 hM0
  refine Tr.mono (O3 _ [.int .i64 p1_0, .int .i64 p1_1, .slice ap1_2 p1_2.length cp1_2] (p1_0, p1_1, p1_2) (z0 ip1_0 ip1_1 rp1_2) _  gx4) ?_
  rintro v6 k5 ⟨gx4_2, nx4_2, cx4_2, rfl, wx4⟩
  have sx4 : Sub h k5 := wx4.sub
  have rx4 := wx4.r
  obtain ⟨x4_0, x4_1, x4_2⟩ := x4
  dsimp only at hM0 wx4 rx4
  obtain ⟨_, _, _, _, _, _, ecx4, exx4, ix4_0, ix4_1, rx4_2⟩ := B0 rx4
  cases ecx4
  cases exx4
  obtain ⟨rfl, lx4_2⟩ := Sl.len rx4_2
  try dsimp only at hM0
  have we7 := New.sndI (New.sndI (wx4))
  have hE := Option.some.inj hM0; subst hE
  exact ⟨([.int .i64 x4_0, .int .i64 x4_1, .slice (some ⟨gx4_2, 0, none⟩) x4_2.length cx4_2]), rfl, (New.pair (New.int ix4_0) (New.pair (New.int ix4_1) we7))⟩
 ·have hc3 : ((bif (bif (!x1) then true else (!x2)) then true else (!decide (p0_0 = p1_0)))) = false := hc3
  rw [if_neg (K1 hc3)] at hM0
  obtain ⟨x8, gx8, hM0⟩ := j0 hM0
  obtain ⟨x8_0, x8_1⟩ := x8
  try dsimp only at hM0
  refine Tr.val (r05 _ [.int .i64 p0_0, .slice ap0_1 p0_1.length cp0_1] (p0_0, p0_1) (n3 ip0_0 rp0_1) [.int .i64 p1_0, .int .i64 p1_1, .slice ap1_2 p1_2.length cp1_2] (p1_0, p1_1, p1_2) (z0 ip1_0 ip1_1 rp1_2) _  gx8) ?_
  obtain ⟨q9, gq9, hM0⟩ := j0 hM0
  have ix8_0 : J0 x8_0 := J3 gq9
  obtain ⟨q10, gq10, hM0⟩ := j0 hM0
  have ix8_1 : J0 x8_1 := J3 gq10
  refine And.intro (fun hc11 => ?_) (fun hc11 => ?_)
  ·have hc11 : ((decide (x8_0 ≥ 0))) = true := hc11
   rw [if_pos hc11] at hM0
   refine Or.inr (Or.inr (Or.inr (Or.inr (Exists.intro 13 (And.intro (And.intro (by kernel_rfl) (by kernel_rfl)) ?_)))))
   obtain ⟨x12, gx12, hM0⟩ := j0 hM0
   obtain ⟨bx12, csx12, ex12, rx12⟩ := Sl.getI (r := O2.toRp) rp0_1 gx12 (by decide)
   obtain ⟨ax12, nx12, cx12, rfl⟩ := Wp.slice_cell rx12
   obtain ⟨rfl, lx12⟩ := Sl.len rx12
   refine Or.inl (Exists.intro (.hel (.slice ap0_1 p0_1.length cp0_1) x8_1 1 0) (And.intro ?_ ?_))
   ·intro k13 s14
    exact And.intro bx12 (And.intro rfl (And.intro rfl rfl))
   refine Or.inl (Exists.intro (.val (.slice ax12 x12.length cx12)) (And.intro ?_ ?_))
   ·intro k15 s16
    exact Exists.intro _ (And.intro (p6.up s16 ex12) (And.intro rfl (And.intro rfl rfl)))
   obtain ⟨x17, gx17, hM0⟩ := j0 hM0
   obtain ⟨x17_0, x17_1⟩ := x17
   try dsimp only at hM0
   obtain ⟨x17_0_0, x17_0_1, x17_0_2⟩ := x17_0
   try dsimp only at hM0
   refine Or.inr (Exists.intro (fun v hh => ∃ (ux17_0 : Value), v = .tuple #[ux17_0, .bool x17_1] ∧ (fun v hh => ∃ (ax17_0_2 : Option Addr) (cx17_0_2 : Nat), v = .agg #[.int .i64 x17_0_0, .int .i64 x17_0_1, .slice ax17_0_2 x17_0_2.length cx17_0_2] ∧ J0 x17_0_0 ∧ J0 x17_0_1 ∧ New K0 h hh [.slice ax17_0_2 x17_0_2.length cx17_0_2] x17_0_2 ∧ x17_0_2.length ≤ 9223372036854775807) ux17_0 hh) (And.intro (fun v h1 h2 sb q => by obtain ⟨ux17_0, e, fux17_0⟩ := q; exact ⟨ux17_0, e, (by obtain ⟨ax17_0_2, cx17_0_2, e, f0, f1, f2, f3⟩ := fux17_0; exact ⟨ax17_0_2, cx17_0_2, e, f0, f1, New.mono f2 sb, f3⟩)⟩) (And.intro ?_ ?_)))
   ·intro k18 s19
    refine Tr.mono (U09 _ [.int .i64 p1_0, .int .i64 p1_1, .slice ap1_2 p1_2.length cp1_2] (p1_0, p1_1, p1_2) (z0 ip1_0 ip1_1 (K0.mono s19 rp1_2)) x8_0 ix8_0 ax12 x12.length cx12 x12 (O2.mono s19 rx12) x8_0 ix8_0 _ gx17) ?_
    rintro _ kk ⟨csx17_0, rfl, wx17_0⟩
    have sb := wx17_0.sub
    have rx17_0 := wx17_0.r
    obtain ⟨yx17_0_0, yx17_0_1, ayx17_0_2, nyx17_0_2, cyx17_0_2, yx17_0_2, rfl, ey, iyx17_0_0, iyx17_0_1, ryx17_0_2⟩ := B0 rx17_0
    cases ey
    obtain ⟨rfl, lyx17_0_2⟩ := Sl.len ryx17_0_2
    exact And.intro o00 (And.intro sb ⟨(.agg #[.int .i64 x17_0_0, .int .i64 x17_0_1, .slice ayx17_0_2 x17_0_2.length cyx17_0_2]), rfl, ⟨ayx17_0_2, cyx17_0_2, rfl, iyx17_0_0, iyx17_0_1, (New.from (New.sndI (New.sndI (wx17_0))) s19), lyx17_0_2⟩⟩)
   refine Or.inr (Exists.intro (fun v hh => ∃ (ux17_0 : Value), v = .tuple #[ux17_0, .bool x17_1] ∧ (fun v hh => ∃ (ax17_0_2 : Option Addr) (cx17_0_2 : Nat), v = .agg #[.int .i64 x17_0_0, .int .i64 x17_0_1, .slice ax17_0_2 x17_0_2.length cx17_0_2] ∧ J0 x17_0_0 ∧ J0 x17_0_1 ∧ New K0 h hh [.slice ax17_0_2 x17_0_2.length cx17_0_2] x17_0_2 ∧ x17_0_2.length ≤ 9223372036854775807) ux17_0 hh) (And.intro (fun v h1 h2 sb q => by obtain ⟨ux17_0, e, fux17_0⟩ := q; exact ⟨ux17_0, e, (by obtain ⟨ax17_0_2, cx17_0_2, e, f0, f1, f2, f3⟩ := fux17_0; exact ⟨ax17_0_2, cx17_0_2, e, f0, f1, New.mono f2 sb, f3⟩)⟩) (And.intro ?_ ?_)))
   ·intro k20 s21
    rintro _ ⟨_, rfl, ⟨az22p02, cz22p02, rfl, iz22p00, iz22p01, rz22p02, lz22p02⟩⟩
    exact And.intro o00 (And.intro (Sub.refl _) ⟨(.agg #[.int .i64 x17_0_0, .int .i64 x17_0_1, .slice az22p02 x17_0_2.length cz22p02]), rfl, ⟨az22p02, cz22p02, rfl, iz22p00, iz22p01, rz22p02, lz22p02⟩⟩)
   refine Or.inr (Exists.intro (fun v hh => ∃ (ax17_0_2 : Option Addr) (cx17_0_2 : Nat), v = .agg #[.int .i64 x17_0_0, .int .i64 x17_0_1, .slice ax17_0_2 x17_0_2.length cx17_0_2] ∧ J0 x17_0_0 ∧ J0 x17_0_1 ∧ New K0 h hh [.slice ax17_0_2 x17_0_2.length cx17_0_2] x17_0_2 ∧ x17_0_2.length ≤ 9223372036854775807) (And.intro (fun v h1 h2 sb q => by obtain ⟨ax17_0_2, cx17_0_2, e, f0, f1, f2, f3⟩ := q; exact ⟨ax17_0_2, cx17_0_2, e, f0, f1, New.mono f2 sb, f3⟩) (And.intro ?_ ?_)))
   ·intro k23 s24
    rintro _ ⟨_, rfl, ⟨az25p02, cz25p02, rfl, iz25p00, iz25p01, rz25p02, lz25p02⟩⟩
    exact And.intro o00 (And.intro (Sub.refl _) ⟨az25p02, cz25p02, rfl, iz25p00, iz25p01, rz25p02, lz25p02⟩)
   refine Or.inl (Exists.intro (.val (.bool x17_1)) (And.intro ?_ ?_))
   ·intro k26 s27
    rintro _ ⟨_, rfl, ⟨az28p02, cz28p02, rfl, iz28p00, iz28p01, rz28p02, lz28p02⟩⟩
    exact And.intro rfl (And.intro rfl rfl)
   intro k29 s30
   rintro _ ⟨az312, cz312, rfl, iz310, iz311, rz312, lz312⟩
   rintro _ ⟨_, rfl, ⟨az32p02, cz32p02, rfl, iz32p00, iz32p01, rz32p02, lz32p02⟩⟩
   rintro _ ⟨_, rfl, ⟨az33p02, cz33p02, rfl, iz33p00, iz33p01, rz33p02, lz33p02⟩⟩
   refine And.intro (fun hc34 => ?_) (fun hc34 => ?_)
   ·have hc34 : ((!x17_1)) = true := hc34
    rw [if_pos hc34] at hM0
    obtain ⟨x35, gx35, hM0⟩ := j0 hM0
    refine Tr.mono (O3 _ [.int .i64 p1_0, .int .i64 p1_1, .slice ap1_2 p1_2.length cp1_2] (p1_0, p1_1, p1_2) (z0 ip1_0 ip1_1 (K0.mono s30 rp1_2)) _  gx35) ?_
    rintro v37 k36 ⟨gx35_2, nx35_2, cx35_2, rfl, wx35⟩
    have sx35 : Sub k29 k36 := wx35.sub
    have rx35 := wx35.r
    obtain ⟨x35_0, x35_1, x35_2⟩ := x35
    dsimp only at hM0 wx35 rx35
    obtain ⟨_, _, _, _, _, _, ecx35, exx35, ix35_0, ix35_1, rx35_2⟩ := B0 rx35
    cases ecx35
    cases exx35
    obtain ⟨rfl, lx35_2⟩ := Sl.len rx35_2
    try dsimp only at hM0
    have we38 := New.sndI (New.sndI (wx35))
    have hE := Option.some.inj hM0; subst hE
    exact ⟨([.int .i64 x35_0, .int .i64 x35_1, .slice (some ⟨gx35_2, 0, none⟩) x35_2.length cx35_2]), rfl, (New.pair (New.int ix35_0) (New.pair (New.int ix35_1) (New.from we38 s30)))⟩
   ·have hc34 : ((!x17_1)) = false := hc34
    rw [if_neg (K1 hc34)] at hM0
    obtain ⟨x39, gx39, hM0⟩ := j0 hM0
    refine Tr.mono (V09 _ [.int .i64 x17_0_0, .int .i64 x17_0_1, .slice az312 x17_0_2.length cz312] (x17_0_0, x17_0_1, x17_0_2) (z0 iz310 iz311 rz312.r) _  gx39) ?_
    rintro v41 k40 ⟨csx39_0, ax39_1, nx39_1, cx39_1, rfl, wx39_0, rx39_1⟩
    obtain ⟨x39_0, x39_1⟩ := x39
    dsimp only at hM0 wx39_0 rx39_1
    have sx39 : Sub k29 k40 := wx39_0.sub
    have rx39_0 := wx39_0.r
    obtain ⟨x39_0_0, x39_0_1, ax39_0_2, nx39_0_2, cx39_0_2, x39_0_2, rfl, rfl, ix39_0_0, ix39_0_1, rx39_0_2⟩ := B0 rx39_0
    obtain ⟨rfl, lx39_0_2⟩ := Sl.len rx39_0_2
    try dsimp only at hM0
    have we42 := New.sndI (New.sndI (wx39_0))
    obtain ⟨rfl, lx39_1⟩ := Sl.len rx39_1
    have hE := Option.some.inj hM0; subst hE
    exact ⟨([.int .i64 x39_0_0, .int .i64 x39_0_1, .slice ax39_0_2 x39_0_2.length cx39_0_2]), rfl, (New.pair (New.int ix39_0_0) (New.pair (New.int ix39_0_1) (New.from we42 s30)))⟩
  ·have hc11 : ((decide (x8_0 ≥ 0))) = false := hc11
   rw [if_neg (K1 hc11)] at hM0
   obtain ⟨x43, gx43, hM0⟩ := j0 hM0
   refine Tr.mono (G04 _ [.int .i64 p1_0, .int .i64 p1_1, .slice ap1_2 p1_2.length cp1_2] (p1_0, p1_1, p1_2) (z0 ip1_0 ip1_1 rp1_2) _  gx43) ?_
   rintro v45 k44 ⟨ax43, nx43, cx43, rfl, rx43, sx43⟩
   obtain ⟨rfl, lx43⟩ := Sl.len rx43
   refine And.intro (fun hc46 => ?_) (fun hc46 => ?_)
   ·have hc46 : ((decide (((x43.length : Nat) : Int) = 0))) = true := hc46
    rw [if_pos hc46] at hM0
    obtain ⟨x47, gx47, hM0⟩ := j0 hM0
    refine Tr.mono (O3 _ [.int .i64 p1_0, .int .i64 p1_1, .slice ap1_2 p1_2.length cp1_2] (p1_0, p1_1, p1_2) (z0 ip1_0 ip1_1 (K0.mono sx43 rp1_2)) _  gx47) ?_
    rintro v49 k48 ⟨gx47_2, nx47_2, cx47_2, rfl, wx47⟩
    have sx47 : Sub k44 k48 := wx47.sub
    have rx47 := wx47.r
    obtain ⟨x47_0, x47_1, x47_2⟩ := x47
    dsimp only at hM0 wx47 rx47
    obtain ⟨_, _, _, _, _, _, ecx47, exx47, ix47_0, ix47_1, rx47_2⟩ := B0 rx47
    cases ecx47
    cases exx47
    obtain ⟨rfl, lx47_2⟩ := Sl.len rx47_2
    try dsimp only at hM0
    have we50 := New.sndI (New.sndI (wx47))
    have hE := Option.some.inj hM0; subst hE
    exact ⟨([.int .i64 x47_0, .int .i64 x47_1, .slice (some ⟨gx47_2, 0, none⟩) x47_2.length cx47_2]), rfl, (New.pair (New.int ix47_0) (New.pair (New.int ix47_1) (New.from we50 sx43)))⟩
   ·have hc46 : ((decide (((x43.length : Nat) : Int) = 0))) = false := hc46
    rw [if_neg (K1 hc46)] at hM0
    obtain ⟨x51, gx51, hM0⟩ := j0 hM0
    refine Tr.mono (v07 _ [.int .i64 p1_0, .int .i64 p1_1, .slice ap1_2 p1_2.length cp1_2] (p1_0, p1_1, p1_2) (z0 ip1_0 ip1_1 (K0.mono sx43 rp1_2)) _  gx51) ?_
    rintro v53 k52 ⟨csx51_0, rfl, wx51_0⟩
    obtain ⟨x51_0, x51_1⟩ := x51
    dsimp only at hM0 wx51_0
    have sx51 : Sub k44 k52 := wx51_0.sub
    have rx51_0 := wx51_0.r
    obtain ⟨x51_0_0, x51_0_1, ax51_0_2, nx51_0_2, cx51_0_2, x51_0_2, rfl, rfl, ix51_0_0, ix51_0_1, rx51_0_2⟩ := B0 rx51_0
    obtain ⟨rfl, lx51_0_2⟩ := Sl.len rx51_0_2
    try dsimp only at hM0
    have we54 := New.sndI (New.sndI (wx51_0))
    refine And.intro (fun hc55 => ?_) (fun hc55 => ?_)
    ·have hc55 : (x51_1) = true := hc55
     rw [if_pos hc55] at hM0
     refine Or.inr (Or.inr (Or.inr (Or.inr (Exists.intro 16 (And.intro (And.intro (by kernel_rfl) (by kernel_rfl)) ?_)))))
     obtain ⟨x56, gx56, hM0⟩ := j0 hM0
     obtain ⟨bx56, csx56, ex56, rx56⟩ := Sl.getI (r := N0.toRp) (K0.mono sx51 rx43) gx56 (by decide)
     obtain ⟨x56_0, x56_1, x56_2, rfl, rfl, ix56_0, ix56_1, ix56_2⟩ := V0 rx56
     try dsimp only at hM0
     refine Or.inl (Exists.intro (.hel (.slice ax43 x43.length cx43) 0 3 0) (And.intro ?_ ?_))
     ·intro k57 s58
      exact And.intro bx56 (And.intro rfl (And.intro rfl rfl))
     refine Or.inl (Exists.intro (.val (.int .i64 x56_0)) (And.intro ?_ ?_))
     ·intro k59 s60
      exact Exists.intro _ (And.intro (p6.up s60 ex56) (And.intro rfl (And.intro rfl rfl)))
     obtain ⟨x61, gx61, hM0⟩ := j0 hM0
     obtain ⟨bx61, csx61, ex61, rx61⟩ := Sl.getI (r := N0.toRp) (K0.mono sx51 rx43) gx61 (by decide)
     obtain ⟨x61_0, x61_1, x61_2, rfl, rfl, ix61_0, ix61_1, ix61_2⟩ := V0 rx61
     try dsimp only at hM0
     refine Or.inl (Exists.intro (.hel (.slice ax43 x43.length cx43) 0 3 0) (And.intro ?_ ?_))
     ·intro k62 s63
      exact And.intro bx61 (And.intro rfl (And.intro rfl rfl))
     refine Or.inl (Exists.intro (.val (.int .i64 x61_1)) (And.intro ?_ ?_))
     ·intro k64 s65
      exact Exists.intro _ (And.intro (p6.up s65 ex61) (And.intro rfl (And.intro rfl rfl)))
     obtain ⟨x66, gx66, hM0⟩ := j0 hM0
     obtain ⟨x66_0, x66_1, x66_2⟩ := x66
     try dsimp only at hM0
     refine Or.inr (Exists.intro (fun v hh => ∃ (_ : Unit), v = .agg #[.int .i64 x66_0, .int .i64 x66_1, .int .i64 x66_2] ∧ J0 x66_0 ∧ J0 x66_1 ∧ J0 x66_2) (And.intro (fun v h1 h2 sb q => by obtain ⟨u, e, f0, f1, f2⟩ := q; exact ⟨u, e, f0, f1, f2⟩) (And.intro ?_ ?_)))
     ·intro k67 s68
      refine Tr.mono (k04 _ x56_0 ix56_0 x61_1 ix61_1 p1_1 ip1_1 _ gx66) ?_
      rintro _ kk ⟨csx66, rfl, rx66, sb⟩
      obtain ⟨yx66_0, yx66_1, yx66_2, rfl, ey, iyx66_0, iyx66_1, iyx66_2⟩ := V0 rx66
      cases ey
      exact And.intro o00 (And.intro sb ⟨(), rfl, iyx66_0, iyx66_1, iyx66_2⟩)
     obtain ⟨x69, gx69, hM0⟩ := j0 hM0
     obtain ⟨x69_0, x69_1⟩ := x69
     try dsimp only at hM0
     obtain ⟨x69_0_0, x69_0_1, x69_0_2⟩ := x69_0
     try dsimp only at hM0
     refine Or.inr (Exists.intro (fun v hh => ∃ (ux69_0 : Value), v = .tuple #[ux69_0, .bool x69_1] ∧ (fun v hh => ∃ (ax69_0_2 : Option Addr) (cx69_0_2 : Nat), v = .agg #[.int .i64 x69_0_0, .int .i64 x69_0_1, .slice ax69_0_2 x69_0_2.length cx69_0_2] ∧ J0 x69_0_0 ∧ J0 x69_0_1 ∧ New K0 k52 hh [.slice ax69_0_2 x69_0_2.length cx69_0_2] x69_0_2 ∧ x69_0_2.length ≤ 9223372036854775807) ux69_0 hh) (And.intro (fun v h1 h2 sb q => by obtain ⟨ux69_0, e, fux69_0⟩ := q; exact ⟨ux69_0, e, (by obtain ⟨ax69_0_2, cx69_0_2, e, f0, f1, f2, f3⟩ := fux69_0; exact ⟨ax69_0_2, cx69_0_2, e, f0, f1, New.mono f2 sb, f3⟩)⟩) (And.intro ?_ ?_)))
     ·intro k70 s71
      rintro _ ⟨_, rfl, iz720, iz721, iz722⟩
      refine Tr.mono (W09 _ [.int .i64 x51_0_0, .int .i64 x51_0_1, .slice ax51_0_2 x51_0_2.length cx51_0_2] (x51_0_0, x51_0_1, x51_0_2) (z0 ix51_0_0 ix51_0_1 (K0.mono s71 rx51_0_2)) [.int .i64 x66_0, .int .i64 x66_1, .int .i64 x66_2] (x66_0, x66_1, x66_2) (O0 iz720 iz721 iz722) _ gx69) ?_
      rintro _ kk ⟨csx69_0, rfl, wx69_0⟩
      have sb := wx69_0.sub
      have rx69_0 := wx69_0.r
      obtain ⟨yx69_0_0, yx69_0_1, ayx69_0_2, nyx69_0_2, cyx69_0_2, yx69_0_2, rfl, ey, iyx69_0_0, iyx69_0_1, ryx69_0_2⟩ := B0 rx69_0
      cases ey
      obtain ⟨rfl, lyx69_0_2⟩ := Sl.len ryx69_0_2
      exact And.intro o00 (And.intro sb ⟨(.agg #[.int .i64 x69_0_0, .int .i64 x69_0_1, .slice ayx69_0_2 x69_0_2.length cyx69_0_2]), rfl, ⟨ayx69_0_2, cyx69_0_2, rfl, iyx69_0_0, iyx69_0_1, (New.from (New.sndI (New.sndI (wx69_0))) s71), lyx69_0_2⟩⟩)
     refine Or.inr (Exists.intro (fun v hh => ∃ (ux69_0 : Value), v = .tuple #[ux69_0, .bool x69_1] ∧ (fun v hh => ∃ (ax69_0_2 : Option Addr) (cx69_0_2 : Nat), v = .agg #[.int .i64 x69_0_0, .int .i64 x69_0_1, .slice ax69_0_2 x69_0_2.length cx69_0_2] ∧ J0 x69_0_0 ∧ J0 x69_0_1 ∧ New K0 k52 hh [.slice ax69_0_2 x69_0_2.length cx69_0_2] x69_0_2 ∧ x69_0_2.length ≤ 9223372036854775807) ux69_0 hh) (And.intro (fun v h1 h2 sb q => by obtain ⟨ux69_0, e, fux69_0⟩ := q; exact ⟨ux69_0, e, (by obtain ⟨ax69_0_2, cx69_0_2, e, f0, f1, f2, f3⟩ := fux69_0; exact ⟨ax69_0_2, cx69_0_2, e, f0, f1, New.mono f2 sb, f3⟩)⟩) (And.intro ?_ ?_)))
     ·intro k73 s74
      rintro _ ⟨_, rfl, ⟨az75p02, cz75p02, rfl, iz75p00, iz75p01, rz75p02, lz75p02⟩⟩
      exact And.intro o00 (And.intro (Sub.refl _) ⟨(.agg #[.int .i64 x69_0_0, .int .i64 x69_0_1, .slice az75p02 x69_0_2.length cz75p02]), rfl, ⟨az75p02, cz75p02, rfl, iz75p00, iz75p01, rz75p02, lz75p02⟩⟩)
     refine Or.inr (Exists.intro (fun v hh => ∃ (ax69_0_2 : Option Addr) (cx69_0_2 : Nat), v = .agg #[.int .i64 x69_0_0, .int .i64 x69_0_1, .slice ax69_0_2 x69_0_2.length cx69_0_2] ∧ J0 x69_0_0 ∧ J0 x69_0_1 ∧ New K0 k52 hh [.slice ax69_0_2 x69_0_2.length cx69_0_2] x69_0_2 ∧ x69_0_2.length ≤ 9223372036854775807) (And.intro (fun v h1 h2 sb q => by obtain ⟨ax69_0_2, cx69_0_2, e, f0, f1, f2, f3⟩ := q; exact ⟨ax69_0_2, cx69_0_2, e, f0, f1, New.mono f2 sb, f3⟩) (And.intro ?_ ?_)))
     ·intro k76 s77
      rintro _ ⟨_, rfl, ⟨az78p02, cz78p02, rfl, iz78p00, iz78p01, rz78p02, lz78p02⟩⟩
      exact And.intro o00 (And.intro (Sub.refl _) ⟨az78p02, cz78p02, rfl, iz78p00, iz78p01, rz78p02, lz78p02⟩)
     refine Or.inl (Exists.intro (.val (.bool x69_1)) (And.intro ?_ ?_))
     ·intro k79 s80
      rintro _ ⟨_, rfl, ⟨az81p02, cz81p02, rfl, iz81p00, iz81p01, rz81p02, lz81p02⟩⟩
      exact And.intro rfl (And.intro rfl rfl)
     intro k82 s83
     rintro _ ⟨az842, cz842, rfl, iz840, iz841, rz842, lz842⟩
     rintro _ ⟨_, rfl, ⟨az85p02, cz85p02, rfl, iz85p00, iz85p01, rz85p02, lz85p02⟩⟩
     rintro _ ⟨_, rfl, ⟨az86p02, cz86p02, rfl, iz86p00, iz86p01, rz86p02, lz86p02⟩⟩
     rintro _ ⟨_, rfl, iz870, iz871, iz872⟩
     refine And.intro (fun hc88 => ?_) (fun hc88 => ?_)
     ·have hc88 : ((!x69_1)) = true := hc88
      rw [if_pos hc88] at hM0
      obtain ⟨x89, gx89, hM0⟩ := j0 hM0
      refine Tr.mono (O3 _ [.int .i64 p1_0, .int .i64 p1_1, .slice ap1_2 p1_2.length cp1_2] (p1_0, p1_1, p1_2) (z0 ip1_0 ip1_1 (K0.mono ((sx43.trans sx51).trans s83) rp1_2)) _  gx89) ?_
      rintro v91 k90 ⟨gx89_2, nx89_2, cx89_2, rfl, wx89⟩
      have sx89 : Sub k82 k90 := wx89.sub
      have rx89 := wx89.r
      obtain ⟨x89_0, x89_1, x89_2⟩ := x89
      dsimp only at hM0 wx89 rx89
      obtain ⟨_, _, _, _, _, _, ecx89, exx89, ix89_0, ix89_1, rx89_2⟩ := B0 rx89
      cases ecx89
      cases exx89
      obtain ⟨rfl, lx89_2⟩ := Sl.len rx89_2
      try dsimp only at hM0
      have we92 := New.sndI (New.sndI (wx89))
      have hE := Option.some.inj hM0; subst hE
      exact ⟨([.int .i64 x89_0, .int .i64 x89_1, .slice (some ⟨gx89_2, 0, none⟩) x89_2.length cx89_2]), rfl, (New.pair (New.int ix89_0) (New.pair (New.int ix89_1) (New.from we92 ((sx43.trans sx51).trans s83))))⟩
     ·have hc88 : ((!x69_1)) = false := hc88
      rw [if_neg (K1 hc88)] at hM0
      have hE := Option.some.inj hM0; subst hE
      exact ⟨([.int .i64 x69_0_0, .int .i64 x69_0_1, .slice az842 x69_0_2.length cz842]), rfl, (New.pair (New.int iz840) (New.pair (New.int iz841) (New.from rz842 (sx43.trans sx51))))⟩
    ·have hc55 : (x51_1) = false := hc55
     rw [if_neg (K1 hc55)] at hM0
     refine And.intro (fun hc93 => ?_) (fun hc93 => ?_)
     ·have hc93 : ((!x51_1)) = true := hc93
      rw [if_pos hc93] at hM0
      obtain ⟨x94, gx94, hM0⟩ := j0 hM0
      refine Tr.mono (O3 _ [.int .i64 p1_0, .int .i64 p1_1, .slice ap1_2 p1_2.length cp1_2] (p1_0, p1_1, p1_2) (z0 ip1_0 ip1_1 (K0.mono (sx43.trans sx51) rp1_2)) _  gx94) ?_
      rintro v96 k95 ⟨gx94_2, nx94_2, cx94_2, rfl, wx94⟩
      have sx94 : Sub k52 k95 := wx94.sub
      have rx94 := wx94.r
      obtain ⟨x94_0, x94_1, x94_2⟩ := x94
      dsimp only at hM0 wx94 rx94
      obtain ⟨_, _, _, _, _, _, ecx94, exx94, ix94_0, ix94_1, rx94_2⟩ := B0 rx94
      cases ecx94
      cases exx94
      obtain ⟨rfl, lx94_2⟩ := Sl.len rx94_2
      try dsimp only at hM0
      have we97 := New.sndI (New.sndI (wx94))
      have hE := Option.some.inj hM0; subst hE
      exact ⟨([.int .i64 x94_0, .int .i64 x94_1, .slice (some ⟨gx94_2, 0, none⟩) x94_2.length cx94_2]), rfl, (New.pair (New.int ix94_0) (New.pair (New.int ix94_1) (New.from we97 (sx43.trans sx51))))⟩
     ·have hc93 : ((!x51_1)) = false := hc93
      rw [if_neg (K1 hc93)] at hM0
      have hE := Option.some.inj hM0; subst hE
      exact ⟨([.int .i64 x51_0_0, .int .i64 x51_0_1, .slice ax51_0_2 x51_0_2.length cx51_0_2]), rfl, (New.pair (New.int ix51_0_0) (New.pair (New.int ix51_0_1) (New.from we54 sx43)))⟩
end Go.Proofs.YtfdlgbfeceodeaaGreat
