/- The walks of batch w4. -/
import Derived.Test.YtknoadmdnjaocaaPart12
import Derived.Test.YtknoadmdnjaocaaChecked
import Derived.Test.YtknoadmdnjaocaaH35
import Derived.Test.YtknoadmdnjaocaaPart14
import Derived.Test.YtknoadmdnjaocaaPart15
namespace Go.Proofs.Ytknoadmdnjaocaa
open Go.H
set_option linter.unusedVariables false
set_option linter.unusedSimpArgs false
set_option maxRecDepth 10000
set_option maxHeartbeats 0
theorem b06 (h : Hp) (p0 : Int) (ip0 : D0 p0) (ap1 : Option Addr) (np1 cp1 : Nat) (p1 : i0) (rp1 : j0.R h [.slice ap1 np1 cp1] p1) (r : ByteArray) (hM0 : j7 p0 p1 = some r) :
  Tr Try.prog 6 #[.int .i64 p0, .slice ap1 np1 cp1] h fun v h' => v = .string r ∧ h' = h := by
 obtain ⟨rfl, lp1⟩ := Sl.len rp1
 unfold j7 at hM0
 refine Tr.forget (S2 (args := [.int .i64 p0, .slice ap1 p1.length cp1]) (fn := Try.f6) rfl ?_)
 obtain ⟨x1, gx1, hM0⟩ := f0 hM0
 refine Tr.val (B9 _ p0 ip0 ap1 p1.length cp1 p1 rp1 _  gx1) ?_
 refine And.intro (fun hc2 => ?_) (fun hc2 => ?_)
 ·replace hM0 := ifP hM0 hc2
  have hE := Option.some.inj hM0; subst hE
  exact And.intro rfl (Sub.refl _)
 ·replace hM0 := ifN hM0 hc2
  obtain ⟨x3, gx3, hM0⟩ := f0 hM0
  refine Tr.mono (A7 _ ap1 p1.length cp1 p1 rp1 _  gx3) ?_
  rintro v5 k4 ⟨ax3_0, nx3_0, cx3_0, ax3_1, nx3_1, cx3_1, rfl, rx3_0, rx3_1, sx3⟩
  obtain ⟨x3_0, x3_1⟩ := x3
  dsimp only at hM0 rx3_0 rx3_1
  obtain ⟨rfl, lx3_0⟩ := Sl.len rx3_0
  obtain ⟨rfl, lx3_1⟩ := Sl.len rx3_1
  obtain ⟨x6, gx6, hM0⟩ := f0 hM0
  refine Tr.mono (D07 _ ap1 p1.length cp1 p1 (j0.mono sx3 rp1) _  gx6) ?_
  rintro v8 k7 ⟨ax6_0, nx6_0, cx6_0, rfl, rx6_0, sx6⟩
  obtain ⟨x6_0, x6_1⟩ := x6
  dsimp only at hM0 rx6_0
  obtain ⟨rfl, lx6_0⟩ := Sl.len rx6_0
  obtain ⟨q9, gq9, hM0⟩ := f0 hM0
  have ix6_1 : D0 x6_1 := l0 gq9
  obtain ⟨x10, gx10, hM0⟩ := f0 hM0
  refine Tr.val (z7 _ ap1 p1.length cp1 p1 (j0.mono (sx3.trans sx6) rp1) _  gx10) ?_
  obtain ⟨q11, gq11, hM0⟩ := f0 hM0
  have ix10 : x10.size ≤ 9223372036854775807 := l0 gq11
  obtain ⟨x12, gx12, hM0⟩ := f0 hM0
  refine Tr.val (z7 _ ax3_0 x3_0.length cx3_0 x3_0 (j0.mono sx6 rx3_0) _  gx12) ?_
  obtain ⟨q13, gq13, hM0⟩ := f0 hM0
  have ix12 : x12.size ≤ 9223372036854775807 := l0 gq13
  obtain ⟨x14, gx14, hM0⟩ := f0 hM0
  refine Tr.val (z7 _ ax3_1 x3_1.length cx3_1 x3_1 (j0.mono sx6 rx3_1) _  gx14) ?_
  obtain ⟨q15, gq15, hM0⟩ := f0 hM0
  have ix14 : x14.size ≤ 9223372036854775807 := l0 gq15
  obtain ⟨x16, gx16, hM0⟩ := f0 hM0
  refine Tr.val (z7 _ ax6_0 x6_0.length cx6_0 x6_0 rx6_0 _  gx16) ?_
  obtain ⟨q17, gq17, hM0⟩ := f0 hM0
  have ix16 : x16.size ≤ 9223372036854775807 := l0 gq17
  obtain ⟨x18, gx18, hM0⟩ := f0 hM0
  refine Tr.val (E01 _ x6_1 ix6_1 _  gx18) ?_
  obtain ⟨q19, gq19, hM0⟩ := f0 hM0
  have ix18 : x18.size ≤ 9223372036854775807 := l0 gq19
  obtain ⟨x20, gx20, hM0⟩ := f0 hM0
  refine Tr.val (c04 _ p0 ip0 ap1 p1.length cp1 p1 (j0.mono (sx3.trans sx6) rp1) _  gx20) ?_
  obtain ⟨q21, gq21, hM0⟩ := f0 hM0
  have ix20 : D0 x20 := l0 gq21
  obtain ⟨x22, gx22, hM0⟩ := f0 hM0
  refine Tr.val (E01 _ x20 ix20 _  gx22) ?_
  obtain ⟨q23, gq23, hM0⟩ := f0 hM0
  have ix22 : x22.size ≤ 9223372036854775807 := l0 gq23
  refine Or.inr ?_
  intro v24 k25 f26
  obtain ⟨az27, cz27, rfl, rz27, sz27, lz27⟩ := O0.out (r := Wp.str.toRp) f26 (show F2 (Wp.str.R k7) ([[.string x10], [.string (⟨#[99, 111, 114, 101]⟩ : ByteArray)], [.string x12], [.string (⟨#[98, 121]⟩ : ByteArray)], [.string x14], [.string (⟨#[114, 111, 111, 116]⟩ : ByteArray)], [.string x16], [.string (⟨#[116, 111]⟩ : ByteArray)], [.string x18], [.string (⟨#[115, 104, 111, 114, 116, 101, 115, 116]⟩ : ByteArray)], [.string x22]] : List (List Value)) [x10, (⟨#[99, 111, 114, 101]⟩ : ByteArray), x12, (⟨#[98, 121]⟩ : ByteArray), x14, (⟨#[114, 111, 111, 116]⟩ : ByteArray), x16, (⟨#[116, 111]⟩ : ByteArray), x18, (⟨#[115, 104, 111, 114, 116, 101, 115, 116]⟩ : ByteArray), x22] from ⟨⟨rfl, ix10⟩, ⟨⟨rfl, (by decide)⟩, ⟨⟨rfl, ix12⟩, ⟨⟨rfl, (by decide)⟩, ⟨⟨rfl, ix14⟩, ⟨⟨rfl, (by decide)⟩, ⟨⟨rfl, ix16⟩, ⟨⟨rfl, (by decide)⟩, ⟨⟨rfl, ix18⟩, ⟨⟨rfl, (by decide)⟩, ⟨⟨rfl, ix22⟩, trivial⟩⟩⟩⟩⟩⟩⟩⟩⟩⟩⟩)
  obtain ⟨x28, gx28, hM0⟩ := f0 hM0
  refine Tr.val (V00 _ az27 ([x10, (⟨#[99, 111, 114, 101]⟩ : ByteArray), x12, (⟨#[98, 121]⟩ : ByteArray), x14, (⟨#[114, 111, 111, 116]⟩ : ByteArray), x16, (⟨#[116, 111]⟩ : ByteArray), x18, (⟨#[115, 104, 111, 114, 116, 101, 115, 116]⟩ : ByteArray), x22]).length cz27 [x10, (⟨#[99, 111, 114, 101]⟩ : ByteArray), x12, (⟨#[98, 121]⟩ : ByteArray), x14, (⟨#[114, 111, 111, 116]⟩ : ByteArray), x16, (⟨#[116, 111]⟩ : ByteArray), x18, (⟨#[115, 104, 111, 114, 116, 101, 115, 116]⟩ : ByteArray), x22] rz27 _  gx28) (And.intro rfl ?_)
  obtain ⟨q29, gq29, hM0⟩ := f0 hM0
  have ix28 : x28.size ≤ 9223372036854775807 := l0 gq29
  obtain ⟨x30, gx30, hM0⟩ := f0 hM0
  refine Tr.val (d04 _ p0 ip0 ap1 p1.length cp1 p1 (j0.mono (sx3.trans sx6) rp1) _  gx30) ?_
  refine And.intro (fun hc31 => ?_) (fun hc31 => ?_)
  ·replace hM0 := ifP hM0 hc31
   refine Or.inr ?_
   intro v32 k33 f34
   obtain ⟨az35, cz35, rfl, rz35, sz35, lz35⟩ := O0.out (r := Wp.str.toRp) f34 (show F2 (Wp.str.R k7) ([[.string x28], [.string (⟨#[112, 114, 105, 109, 105, 116, 105, 118, 101]⟩ : ByteArray)]] : List (List Value)) [x28, (⟨#[112, 114, 105, 109, 105, 116, 105, 118, 101]⟩ : ByteArray)] from ⟨⟨rfl, ix28⟩, ⟨⟨rfl, (by decide)⟩, trivial⟩⟩)
   obtain ⟨x36, gx36, hM0⟩ := f0 hM0
   refine Tr.val (V00 _ az35 ([x28, (⟨#[112, 114, 105, 109, 105, 116, 105, 118, 101]⟩ : ByteArray)]).length cz35 [x28, (⟨#[112, 114, 105, 109, 105, 116, 105, 118, 101]⟩ : ByteArray)] rz35 _  gx36) (And.intro rfl ?_)
   obtain ⟨q37, gq37, hM0⟩ := f0 hM0
   have ix36 : x36.size ≤ 9223372036854775807 := l0 gq37
   obtain ⟨x38, gx38, hM0⟩ := f0 hM0
   refine Tr.val (F01 _ p0 ip0 ap1 p1.length cp1 p1 (j0.mono (sx3.trans sx6) rp1) _  gx38) ?_
   refine And.intro (fun hc39 => ?_) (fun hc39 => ?_)
   ·replace hM0 := ifP hM0 hc39
    refine Or.inr ?_
    intro v40 k41 f42
    obtain ⟨az43, cz43, rfl, rz43, sz43, lz43⟩ := O0.out (r := Wp.str.toRp) f42 (show F2 (Wp.str.R k7) ([[.string x36], [.string (⟨#[100, 101, 114, 105, 118, 101, 100]⟩ : ByteArray)]] : List (List Value)) [x36, (⟨#[100, 101, 114, 105, 118, 101, 100]⟩ : ByteArray)] from ⟨⟨rfl, ix36⟩, ⟨⟨rfl, (by decide)⟩, trivial⟩⟩)
    obtain ⟨x44, gx44, hM0⟩ := f0 hM0
    refine Tr.val (V00 _ az43 ([x36, (⟨#[100, 101, 114, 105, 118, 101, 100]⟩ : ByteArray)]).length cz43 [x36, (⟨#[100, 101, 114, 105, 118, 101, 100]⟩ : ByteArray)] rz43 _  gx44) (And.intro rfl ?_)
    obtain ⟨q45, gq45, hM0⟩ := f0 hM0
    have ix44 : x44.size ≤ 9223372036854775807 := l0 gq45
    have hE := Option.some.inj hM0; subst hE
    exact And.intro rfl (sx3.trans sx6)
   ·replace hM0 := ifN hM0 hc39
    have hE := Option.some.inj hM0; subst hE
    exact And.intro rfl (sx3.trans sx6)
  ·replace hM0 := ifN hM0 hc31
   obtain ⟨x46, gx46, hM0⟩ := f0 hM0
   refine Tr.val (F01 _ p0 ip0 ap1 p1.length cp1 p1 (j0.mono (sx3.trans sx6) rp1) _  gx46) ?_
   refine And.intro (fun hc47 => ?_) (fun hc47 => ?_)
   ·replace hM0 := ifP hM0 hc47
    refine Or.inr ?_
    intro v48 k49 f50
    obtain ⟨az51, cz51, rfl, rz51, sz51, lz51⟩ := O0.out (r := Wp.str.toRp) f50 (show F2 (Wp.str.R k7) ([[.string x28], [.string (⟨#[100, 101, 114, 105, 118, 101, 100]⟩ : ByteArray)]] : List (List Value)) [x28, (⟨#[100, 101, 114, 105, 118, 101, 100]⟩ : ByteArray)] from ⟨⟨rfl, ix28⟩, ⟨⟨rfl, (by decide)⟩, trivial⟩⟩)
    obtain ⟨x52, gx52, hM0⟩ := f0 hM0
    refine Tr.val (V00 _ az51 ([x28, (⟨#[100, 101, 114, 105, 118, 101, 100]⟩ : ByteArray)]).length cz51 [x28, (⟨#[100, 101, 114, 105, 118, 101, 100]⟩ : ByteArray)] rz51 _  gx52) (And.intro rfl ?_)
    obtain ⟨q53, gq53, hM0⟩ := f0 hM0
    have ix52 : x52.size ≤ 9223372036854775807 := l0 gq53
    have hE := Option.some.inj hM0; subst hE
    exact And.intro rfl (sx3.trans sx6)
   ·replace hM0 := ifN hM0 hc47
    have hE := Option.some.inj hM0; subst hE
    exact And.intro rfl (sx3.trans sx6)
end Go.Proofs.Ytknoadmdnjaocaa
