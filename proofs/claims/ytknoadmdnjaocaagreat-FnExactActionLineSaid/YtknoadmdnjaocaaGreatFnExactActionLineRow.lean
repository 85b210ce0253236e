/- ActionLine, for every input: the law returns true and its arguments read as they did. -/
import Derived.Test.YtknoadmdnjaocaaGreatRows
import Derived.Test.YtknoadmdnjaocaaGreatZ
import Derived.Test.YtknoadmdnjaocaaGreatLActionLine
namespace Go.Proofs.YtknoadmdnjaocaaGreat.rFnExactActionLine
open Go.H Go.ChangeShapes Go.WideShapes Go.ChangeAt Go.RowKit Go.WideMaps Go.WideElems
open Go.ChangeMaps (open_string)
set_option linter.unusedVariables false
theorem own : ownKnob Tryz.prog.godebug = none := by kernel_rfl
theorem n0l : laidOutB Tryz.prog = true := o0l
theorem E0k : v00 Tryz.prog 3 Wp.int.toRp := v00.int Tryz.underlying3
theorem L0m : v00 Tryz.prog 143 j1.toRp := v00.struct Tryz.underlying143 (by kernel_rfl) (l04.cons rfl (by kernel_rfl) E0k (l04.cons rfl (by kernel_rfl) E0k (l04.one rfl (by kernel_rfl) E0k)))
theorem n0m : v00 Tryz.prog 37 O0.toRp := v00.slice Tryz.underlying37 (by kernel_rfl) (by decide) L0m
theorem o0m : v00 Tryz.prog 39 P0.toRp := v00.struct Tryz.underlying39 (by kernel_rfl) (l04.cons rfl (by kernel_rfl) E0k (l04.cons rfl (by kernel_rfl) E0k (l04.one rfl (by kernel_rfl) n0m)))
set_option maxRecDepth 100000 in
theorem p0m (os : Os) (started : os.Started) (H : Type) (enc : TypeId × Value → H) :
  ReturnsInHanded {} Tryz.checked os 8 .any (Rows.fnExactActionLineSpec.pre6 enc Tryz.prog Tryz.f8 Rows.fnExactActionLineRow.domain false) (Rows.fnExactActionLineSpec.post enc Tryz.prog Tryz.f8 false true false false) := by
 refine returnsInHanded_of_change (C := Tryz.checked) own started (by kernel_rfl) Tryz.func8
  (ChangeSpec.witness6 (enc := enc) (C := Tryz.checked) false ⟨#[], #[.agg #[.int .i64 0, .int .i64 0, .slice none 0 0]], []⟩ 8 (by kernel_rfl) (by kernel_rfl) (by kernel_rfl) (by kernel_rfl)) ?_
 intro W base args ds gs before hval0 hW hcnd _
 have hval : ∀ (j : Nat) t v, Tryz.f8.params[j]? = some t → args[j]? = some v → Value.okWide Tryz.prog W .any base t v := hval0
 have hW' := hW
 obtain ⟨p, q, hA0, hV, rfl, hfz, hnd⟩ := hW
 have hA : DataW.TrodAll enc Tryz.prog W 0 (fun _ => true) true Tryz.f8.params.toList args.toList ds p := hA0
 rw [Tryz.params8] at hA hval
 obtain ⟨v0, vs0, d0, ds0, p0, q0, hargs, rfl, rfl, h0, r0⟩ := trodAll_cons hA
 obtain ⟨rfl, rfl, rfl⟩ := trodAll_nil r0
 obtain rfl : args = #[v0] := by cases args; simp_all
 obtain ⟨rfl, rfl⟩ := trodVars_none hV
 obtain ⟨e0, y0, rfl, R0⟩ := j0g o0m Tryz.underlying39 (hval 0 39 v0 rfl rfl) h0
 refine (Tr.calls (I09 (fun b => W.heap[b]?) e0 y0 R0)).mono fun e W' ⟨he, hg, hz⟩ => ?_
 exact ⟨_, he, K0j n0l (by decide +kernel) rfl rfl (by kernel_rfl) Tryz.underlying4 hW' hg hz⟩
theorem w10 : (Rows.fnExactActionLineRow.inPlace == Tryz.prog.inPlace 8) = true := by kernel_rfl
theorem w11 : (Rows.fnExactActionLineRow.unfollowed == Tryz.prog.unfollowed 8) = true := by kernel_rfl
theorem w12 : (Rows.fnExactActionLineRow.recurses == Tryz.prog.recurses 8) = true := by kernel_rfl
theorem w13 : (Rows.fnExactActionLineRow.named == Tryz.prog.varsNamed 8) = true := by kernel_rfl
theorem w28 : (Tryz.prog.make == some Rows.fnExactActionLineRow.make) = true := by kernel_rfl
theorem closed : joinedFacts Tryz.prog 8 Tryz.f8 Rows.fnExactActionLineSpec Rows.fnExactActionLineRow = true :=
 n8 (n8 (n8 (n8 (n8 (n8 (n8 (n8 (n8 (n8 (n8 (n8 (n8 (n8 (n8 (n8 (n8 (n8 (n8 (n8 (n8 (n8 (n8 (n8 (n8 (n8 (n8 (n8 (n8 (n8 (n8 ((by kernel_rfl)) o0l) q0m) (by kernel_rfl)) (by kernel_rfl)) (by kernel_rfl)) (by kernel_rfl)) (by kernel_rfl)) (by kernel_rfl)) w10) w11) w12) w13) (by kernel_rfl)) (by kernel_rfl)) (by kernel_rfl)) (by kernel_rfl)) (by kernel_rfl)) (by kernel_rfl)) (by kernel_rfl)) (by kernel_rfl)) (by kernel_rfl)) s0m) (by kernel_rfl)) O0l) P0l) r0m) w28) (by kernel_rfl)) (by kernel_rfl)) (by kernel_rfl)) (by kernel_rfl)
theorem proved : Rows.FnExactActionLineSaid :=
 OpenClaim.holds_of_wide 8 Tryz.f8 rfl rfl rfl rfl rfl rfl rfl ⟨rfl, rfl, rfl, rfl, rfl⟩ rfl rfl rfl rfl rfl (by kernel_rfl) Tryz.func8 closed
  (of_decide_eq_true (by kernel_rfl)) (by unfold Func.isWrapper; first | (rw [if_pos (by decide +kernel)]; kernel_rfl) | (rw [if_neg (by decide +kernel)]; exact ⟨rfl, rfl⟩))
  (fun os started H enc _ => p0m os started H enc)
end Go.Proofs.YtknoadmdnjaocaaGreat.rFnExactActionLine
