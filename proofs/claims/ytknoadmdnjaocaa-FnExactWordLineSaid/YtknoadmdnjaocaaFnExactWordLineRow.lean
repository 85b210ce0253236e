/- WordLine, for every input: the law returns true and its arguments read as they did. -/
import Derived.Test.YtknoadmdnjaocaaRows
import Derived.Test.YtknoadmdnjaocaaZ
import Derived.Test.YtknoadmdnjaocaaLWordLine
namespace Go.Proofs.Ytknoadmdnjaocaa.rFnExactWordLine
open Go.H Go.ChangeShapes Go.WideShapes Go.ChangeAt Go.RowKit Go.WideMaps Go.WideElems
open Go.ChangeMaps (open_string)
set_option linter.unusedVariables false
theorem own : ownKnob Try.prog.godebug = none := by kernel_rfl
theorem Q0e : laidOutB Try.prog = true := R0e
theorem x0g : W8 Try.prog 3 Wp.int.toRp := W8.int Try.underlying3
theorem n0g : W8 Try.prog 22 j0.toRp := W8.slice Try.underlying22 (by kernel_rfl) (by decide) x0g
set_option maxRecDepth 100000 in
theorem N0f (os : Os) (started : os.Started) (H : Type) (enc : TypeId × Value → H) :
  ReturnsInHanded {} Try.checked os 3 .any (Rows.fnExactWordLineSpec.pre6 enc Try.prog Try.f3 Rows.fnExactWordLineRow.domain false) (Rows.fnExactWordLineSpec.post enc Try.prog Try.f3 false true false false) := by
 refine returnsInHanded_of_change (C := Try.checked) own started (by kernel_rfl) Try.func3
  (ChangeSpec.witness6 (enc := enc) (C := Try.checked) false ⟨#[], #[.int .i64 0, .slice none 0 0], []⟩ 8 (by kernel_rfl) (by kernel_rfl) (by kernel_rfl) (by kernel_rfl)) ?_
 intro W base args ds gs before hval0 hW hcnd _
 have hval : ∀ (j : Nat) t v, Try.f3.params[j]? = some t → args[j]? = some v → Value.okWide Try.prog W .any base t v := hval0
 have hW' := hW
 obtain ⟨p, q, hA0, hV, rfl, hfz, hnd⟩ := hW
 have hA : DataW.TrodAll enc Try.prog W 0 (fun _ => true) true Try.f3.params.toList args.toList ds p := hA0
 rw [Try.params3] at hA hval
 obtain ⟨v0, vs0, d0, ds0, p0, q0, hargs, rfl, rfl, h0, r0⟩ := trodAll_cons hA
 obtain ⟨v1, vs1, d1, ds1, p1, q1, rfl, rfl, rfl, h1, r1⟩ := trodAll_cons r0
 obtain ⟨rfl, rfl, rfl⟩ := trodAll_nil r1
 obtain rfl : args = #[v0, v1] := by cases args; simp_all
 obtain ⟨rfl, rfl⟩ := trodVars_none hV
 obtain ⟨a0, rfl, rfl, rfl, w0⟩ := open_int Try.underlying3 (hval 0 3 v0 rfl rfl) h0
 obtain ⟨y1, R1⟩ := B0c n0g Try.underlying22 (hval 1 22 v1 rfl rfl) h1
 refine (Tr.calls (E07 (fun b => W.heap[b]?) a0 (e0g w0) v1 y1 R1)).mono fun e W' ⟨he, hg, hz⟩ => ?_
 exact ⟨_, he, z0d Q0e (by decide +kernel) rfl rfl (by kernel_rfl) Try.underlying4 hW' hg hz⟩
theorem w10 : (Rows.fnExactWordLineRow.inPlace == Try.prog.inPlace 3) = true := by kernel_rfl
theorem w11 : (Rows.fnExactWordLineRow.unfollowed == Try.prog.unfollowed 3) = true := by kernel_rfl
theorem w12 : (Rows.fnExactWordLineRow.recurses == Try.prog.recurses 3) = true := by kernel_rfl
theorem w13 : (Rows.fnExactWordLineRow.named == Try.prog.varsNamed 3) = true := by kernel_rfl
theorem w28 : (Try.prog.make == some Rows.fnExactWordLineRow.make) = true := by kernel_rfl
theorem O0f : joinedFacts Try.prog 3 Try.f3 Rows.fnExactWordLineSpec Rows.fnExactWordLineRow = true :=
 c6 (c6 (c6 (c6 (c6 (c6 (c6 (c6 (c6 (c6 (c6 (c6 (c6 (c6 (c6 (c6 (c6 (c6 (c6 (c6 (c6 (c6 (c6 (c6 (c6 (c6 (c6 (c6 (c6 (c6 (c6 ((by kernel_rfl)) R0e) Q0f) (by kernel_rfl)) (by kernel_rfl)) (by kernel_rfl)) (by kernel_rfl)) (by kernel_rfl)) (by kernel_rfl)) w10) w11) w12) w13) (by kernel_rfl)) (by kernel_rfl)) (by kernel_rfl)) (by kernel_rfl)) (by kernel_rfl)) (by kernel_rfl)) (by kernel_rfl)) (by kernel_rfl)) (by kernel_rfl)) S0f) (by kernel_rfl)) m0f) n0f) R0f) w28) (by kernel_rfl)) (by kernel_rfl)) (by kernel_rfl)) (by kernel_rfl)
theorem proved : Rows.FnExactWordLineSaid :=
 OpenClaim.holds_of_wide 3 Try.f3 rfl rfl rfl rfl rfl rfl rfl ⟨rfl, rfl, rfl, rfl, rfl⟩ rfl rfl rfl rfl rfl (by kernel_rfl) Try.func3 O0f
  (of_decide_eq_true (by kernel_rfl)) (by unfold Func.isWrapper; first | (rw [if_pos (by decide +kernel)]; kernel_rfl) | (rw [if_neg (by decide +kernel)]; exact ⟨rfl, rfl⟩))
  (fun os started H enc _ => N0f os started H enc)
end Go.Proofs.Ytknoadmdnjaocaa.rFnExactWordLine
