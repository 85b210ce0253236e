/- IsTrivialIn, for every input: the law returns true and its arguments read as they did. -/
import Derived.Test.YtfdlgbfeceodeaaGreatRows
import Derived.Test.YtfdlgbfeceodeaaGreatZ
import Derived.Test.YtfdlgbfeceodeaaGreatLIsTrivialIn
namespace Go.Proofs.YtfdlgbfeceodeaaGreat.rFnExactIsTrivialIn
open Go.H Go.ChangeShapes Go.WideShapes Go.ChangeAt Go.RowKit Go.WideMaps Go.WideElems
open Go.ChangeMaps (open_string)
set_option linter.unusedVariables false
theorem own : ownKnob Tryz.prog.godebug = none := by kernel_rfl
theorem s0l : laidOutB Tryz.prog = true := t0l
theorem B0m : O00 Tryz.prog 3 Wp.int.toRp := O00.int Tryz.underlying3
theorem J0l : O00 Tryz.prog 70 Z0.toRp := O00.slice Tryz.underlying70 (by kernel_rfl) (by decide) B0m
theorem j0m : O00 Tryz.prog 47 n5.toRp := O00.slice Tryz.underlying47 (by kernel_rfl) (by decide) J0l
theorem s0c : O00 Tryz.prog 49 F1.toRp := O00.struct Tryz.underlying49 (by kernel_rfl) (J09.cons rfl (by kernel_rfl) B0m (J09.one rfl (by kernel_rfl) j0m))
set_option maxRecDepth 100000 in
theorem k0m (os : Os) (started : os.Started) (H : Type) (enc : TypeId × Value → H) :
  ReturnsInHanded {} Tryz.checked os 12 .any (Rows.fnExactIsTrivialInSpec.pre6 enc Tryz.prog Tryz.f12 Rows.fnExactIsTrivialInRow.domain false) (Rows.fnExactIsTrivialInSpec.post enc Tryz.prog Tryz.f12 false true false false) := by
 refine returnsInHanded_of_change (C := Tryz.checked) own started (by kernel_rfl) Tryz.func12
  (ChangeSpec.witness6 (enc := enc) (C := Tryz.checked) false ⟨#[], #[.agg #[.int .i64 0, .slice none 0 0], .slice none 0 0], []⟩ 8 (by kernel_rfl) (by kernel_rfl) (by kernel_rfl) (by kernel_rfl)) ?_
 intro W base args ds gs before hval0 hW hcnd _
 have hval : ∀ (j : Nat) t v, Tryz.f12.params[j]? = some t → args[j]? = some v → Value.okWide Tryz.prog W .any base t v := hval0
 have hW' := hW
 obtain ⟨p, q, hA0, hV, rfl, hfz, hnd⟩ := hW
 have hA : DataW.TrodAll enc Tryz.prog W 0 (fun _ => true) true Tryz.f12.params.toList args.toList ds p := hA0
 rw [Tryz.params12] at hA hval
 obtain ⟨v0, vs0, d0, ds0, p0, q0, hargs, rfl, rfl, h0, r0⟩ := trodAll_cons hA
 obtain ⟨v1, vs1, d1, ds1, p1, q1, rfl, rfl, rfl, h1, r1⟩ := trodAll_cons r0
 obtain ⟨rfl, rfl, rfl⟩ := trodAll_nil r1
 obtain rfl : args = #[v0, v1] := by cases args; simp_all
 obtain ⟨rfl, rfl⟩ := trodVars_none hV
 obtain ⟨e0, y0, rfl, R0⟩ := H0g s0c Tryz.underlying49 (hval 0 49 v0 rfl rfl) h0
 obtain ⟨y1, R1⟩ := L0i J0l Tryz.underlying70 (hval 1 70 v1 rfl rfl) h1
 refine (Tr.calls (v09 (fun b => W.heap[b]?) e0 y0 R0 v1 y1 R1)).mono fun e W' ⟨he, hg, hz⟩ => ?_
 exact ⟨_, he, V0j s0l (by decide +kernel) rfl rfl (by kernel_rfl) Tryz.underlying4 hW' hg hz⟩
theorem w10 : (Rows.fnExactIsTrivialInRow.inPlace == Tryz.prog.inPlace 12) = true := by kernel_rfl
theorem w11 : (Rows.fnExactIsTrivialInRow.unfollowed == Tryz.prog.unfollowed 12) = true := by kernel_rfl
theorem w12 : (Rows.fnExactIsTrivialInRow.recurses == Tryz.prog.recurses 12) = true := by kernel_rfl
theorem w13 : (Rows.fnExactIsTrivialInRow.named == Tryz.prog.varsNamed 12) = true := by kernel_rfl
theorem w28 : (Tryz.prog.make == some Rows.fnExactIsTrivialInRow.make) = true := by kernel_rfl
theorem closed : joinedFacts Tryz.prog 12 Tryz.f12 Rows.fnExactIsTrivialInSpec Rows.fnExactIsTrivialInRow = true :=
 s8 (s8 (s8 (s8 (s8 (s8 (s8 (s8 (s8 (s8 (s8 (s8 (s8 (s8 (s8 (s8 (s8 (s8 (s8 (s8 (s8 (s8 (s8 (s8 (s8 (s8 (s8 (s8 (s8 (s8 (s8 ((by kernel_rfl)) t0l) l0m) (by kernel_rfl)) (by kernel_rfl)) (by kernel_rfl)) (by kernel_rfl)) (by kernel_rfl)) (by kernel_rfl)) w10) w11) w12) w13) (by kernel_rfl)) (by kernel_rfl)) (by kernel_rfl)) (by kernel_rfl)) (by kernel_rfl)) (by kernel_rfl)) (by kernel_rfl)) (by kernel_rfl)) (by kernel_rfl)) n0m) (by kernel_rfl)) K0l) L0l) m0m) w28) (by kernel_rfl)) (by kernel_rfl)) (by kernel_rfl)) (by kernel_rfl)
theorem proved : Rows.FnExactIsTrivialInSaid :=
 OpenClaim.holds_of_wide 12 Tryz.f12 rfl rfl rfl rfl rfl rfl rfl ⟨rfl, rfl, rfl, rfl, rfl⟩ rfl rfl rfl rfl rfl (by kernel_rfl) Tryz.func12 closed
  (of_decide_eq_true (by kernel_rfl)) (by unfold Func.isWrapper; first | (rw [if_pos (by decide +kernel)]; kernel_rfl) | (rw [if_neg (by decide +kernel)]; exact ⟨rfl, rfl⟩))
  (fun os started H enc _ => k0m os started H enc)
end Go.Proofs.YtfdlgbfeceodeaaGreat.rFnExactIsTrivialIn
