/- RelatorStep, for every input: the law returns true and its arguments read as they did. -/
import Derived.Test.YtfdlgbfeceodeaaGreatRows
import Derived.Test.YtfdlgbfeceodeaaGreatZ
import Derived.Test.YtfdlgbfeceodeaaGreatLRelatorStep
namespace Go.Proofs.YtfdlgbfeceodeaaGreat.rFnExactRelatorStep
open Go.H Go.ChangeShapes Go.WideShapes Go.ChangeAt Go.RowKit Go.WideMaps Go.WideElems
open Go.ChangeMaps (open_string)
set_option linter.unusedVariables false
theorem own : ownKnob Tryz.prog.godebug = none := by kernel_rfl
theorem e0h : laidOutB Tryz.prog = true := f0h
theorem P0d : C8 Tryz.prog 3 Wp.int.toRp := C8.int Tryz.underlying3
theorem n0i : C8 Tryz.prog 70 O2.toRp := C8.slice Tryz.underlying70 (by kernel_rfl) (by decide) P0d
theorem T0h : C8 Tryz.prog 47 i5.toRp := C8.slice Tryz.underlying47 (by kernel_rfl) (by decide) n0i
theorem m0a : C8 Tryz.prog 49 S0.toRp := C8.struct Tryz.underlying49 (by kernel_rfl) (j02.cons rfl (by kernel_rfl) P0d (j02.one rfl (by kernel_rfl) T0h))
theorem o0i : C8 Tryz.prog 137 N0.toRp := C8.struct Tryz.underlying137 (by kernel_rfl) (j02.cons rfl (by kernel_rfl) P0d (j02.cons rfl (by kernel_rfl) P0d (j02.one rfl (by kernel_rfl) P0d)))
theorem U0h : C8 Tryz.prog 35 K0.toRp := C8.slice Tryz.underlying35 (by kernel_rfl) (by decide) o0i
theorem V0h : C8 Tryz.prog 37 P0.toRp := C8.struct Tryz.underlying37 (by kernel_rfl) (j02.cons rfl (by kernel_rfl) P0d (j02.cons rfl (by kernel_rfl) P0d (j02.one rfl (by kernel_rfl) U0h)))
set_option maxRecDepth 100000 in
theorem W0h (os : Os) (started : os.Started) (H : Type) (enc : TypeId × Value → H) :
  ReturnsInHanded {} Tryz.checked os 5 .any (Rows.fnExactRelatorStepSpec.pre6 enc Tryz.prog Tryz.f5 Rows.fnExactRelatorStepRow.domain false) (Rows.fnExactRelatorStepSpec.post enc Tryz.prog Tryz.f5 false true false false) := by
 refine returnsInHanded_of_change (C := Tryz.checked) own started (by kernel_rfl) Tryz.func5
  (ChangeSpec.witness6 (enc := enc) (C := Tryz.checked) false ⟨#[], #[.agg #[.int .i64 0, .slice none 0 0], .agg #[.int .i64 0, .int .i64 0, .slice none 0 0]], []⟩ 8 (by kernel_rfl) (by kernel_rfl) (by kernel_rfl) (by kernel_rfl)) ?_
 intro W base args ds gs before hval0 hW hcnd _
 have hval : ∀ (j : Nat) t v, Tryz.f5.params[j]? = some t → args[j]? = some v → Value.okWide Tryz.prog W .any base t v := hval0
 have hW' := hW
 obtain ⟨p, q, hA0, hV, rfl, hfz, hnd⟩ := hW
 have hA : DataW.TrodAll enc Tryz.prog W 0 (fun _ => true) true Tryz.f5.params.toList args.toList ds p := hA0
 rw [Tryz.params5] at hA hval
 obtain ⟨v0, vs0, d0, ds0, p0, q0, hargs, rfl, rfl, h0, r0⟩ := trodAll_cons hA
 obtain ⟨v1, vs1, d1, ds1, p1, q1, rfl, rfl, rfl, h1, r1⟩ := trodAll_cons r0
 obtain ⟨rfl, rfl, rfl⟩ := trodAll_nil r1
 obtain rfl : args = #[v0, v1] := by cases args; simp_all
 obtain ⟨rfl, rfl⟩ := trodVars_none hV
 obtain ⟨e0, y0, rfl, R0⟩ := X08 m0a Tryz.underlying49 (hval 0 49 v0 rfl rfl) h0
 obtain ⟨e1, y1, rfl, R1⟩ := X08 V0h Tryz.underlying37 (hval 1 37 v1 rfl rfl) h1
 refine (Tr.calls (y07 (fun b => W.heap[b]?) e0 y0 R0 e1 y1 R1)).mono fun e W' ⟨he, hg, hz⟩ => ?_
 exact ⟨_, he, Z0f e0h (by decide +kernel) rfl rfl (by kernel_rfl) Tryz.underlying4 hW' hg hz⟩
theorem w10 : (Rows.fnExactRelatorStepRow.inPlace == Tryz.prog.inPlace 5) = true := by kernel_rfl
theorem w11 : (Rows.fnExactRelatorStepRow.unfollowed == Tryz.prog.unfollowed 5) = true := by kernel_rfl
theorem w12 : (Rows.fnExactRelatorStepRow.recurses == Tryz.prog.recurses 5) = true := by kernel_rfl
theorem w13 : (Rows.fnExactRelatorStepRow.named == Tryz.prog.varsNamed 5) = true := by kernel_rfl
theorem w28 : (Tryz.prog.make == some Rows.fnExactRelatorStepRow.make) = true := by kernel_rfl
theorem closed : joinedFacts Tryz.prog 5 Tryz.f5 Rows.fnExactRelatorStepSpec Rows.fnExactRelatorStepRow = true :=
 Z6 (Z6 (Z6 (Z6 (Z6 (Z6 (Z6 (Z6 (Z6 (Z6 (Z6 (Z6 (Z6 (Z6 (Z6 (Z6 (Z6 (Z6 (Z6 (Z6 (Z6 (Z6 (Z6 (Z6 (Z6 (Z6 (Z6 (Z6 (Z6 (Z6 (Z6 ((by kernel_rfl)) f0h) X0h) (by kernel_rfl)) (by kernel_rfl)) (by kernel_rfl)) (by kernel_rfl)) (by kernel_rfl)) (by kernel_rfl)) w10) w11) w12) w13) (by kernel_rfl)) (by kernel_rfl)) (by kernel_rfl)) (by kernel_rfl)) (by kernel_rfl)) (by kernel_rfl)) (by kernel_rfl)) (by kernel_rfl)) (by kernel_rfl)) Z0h) (by kernel_rfl)) r0h) s0h) Y0h) w28) (by kernel_rfl)) (by kernel_rfl)) (by kernel_rfl)) (by kernel_rfl)
theorem proved : Rows.FnExactRelatorStepSaid :=
 OpenClaim.holds_of_wide 5 Tryz.f5 rfl rfl rfl rfl rfl rfl rfl ⟨rfl, rfl, rfl, rfl, rfl⟩ rfl rfl rfl rfl rfl (by kernel_rfl) Tryz.func5 closed
  (of_decide_eq_true (by kernel_rfl)) (by unfold Func.isWrapper; first | (rw [if_pos (by decide +kernel)]; kernel_rfl) | (rw [if_neg (by decide +kernel)]; exact ⟨rfl, rfl⟩))
  (fun os started H enc _ => W0h os started H enc)
end Go.Proofs.YtfdlgbfeceodeaaGreat.rFnExactRelatorStep
