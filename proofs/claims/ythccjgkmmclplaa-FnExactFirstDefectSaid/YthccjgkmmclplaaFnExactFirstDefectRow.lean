/- FirstDefect, for every input: the law returns true and its arguments read as they did. -/
import Derived.Test.YthccjgkmmclplaaRows
import Derived.Test.YthccjgkmmclplaaLFirstDefect
namespace Go.Proofs.Ythccjgkmmclplaa.rFnExactFirstDefect
open Go.H Go.ChangeShapes Go.WideShapes Go.ChangeAt Go.RowKit Go.WideMaps Go.WideElems
open Go.ChangeMaps (open_string)
set_option linter.unusedVariables false

theorem own : ownKnob Try.prog.godebug = none := by kernel_rfl
theorem laidOut : laidOutB Try.prog = true := by kernel_rfl

theorem oint : Opens Try.prog 3 Wp.int.toRp := Opens.int Try.underlying3
theorem oIntS : Opens Try.prog 36 wIntS.toRp := Opens.slice Try.underlying36 (by kernel_rfl) (by decide) oint
theorem oIntSS : Opens Try.prog 22 wIntSS.toRp := Opens.slice Try.underlying22 (by kernel_rfl) (by decide) oIntS
theorem oPresentation : Opens Try.prog 24 wPresentation.toRp := Opens.struct Try.underlying24 (by kernel_rfl) (OpenF.cons rfl (by kernel_rfl) oint (OpenF.one rfl (by kernel_rfl) oIntSS))
theorem oEdge : Opens Try.prog 103 wEdge.toRp := Opens.struct Try.underlying103 (by kernel_rfl) (OpenF.cons rfl (by kernel_rfl) oint (OpenF.cons rfl (by kernel_rfl) oint (OpenF.one rfl (by kernel_rfl) oint)))
theorem oEdgeS : Opens Try.prog 47 wEdgeS.toRp := Opens.slice Try.underlying47 (by kernel_rfl) (by decide) oEdge
theorem oGraph : Opens Try.prog 49 wGraph.toRp := Opens.struct Try.underlying49 (by kernel_rfl) (OpenF.cons rfl (by kernel_rfl) oint (OpenF.cons rfl (by kernel_rfl) oint (OpenF.one rfl (by kernel_rfl) oEdgeS)))

set_option maxRecDepth 100000 in
theorem lifted (os : Os) (started : os.Started) (H : Type) (enc : TypeId × Value → H) :
    ReturnsInHanded {} Try.checked os 9 .any (Rows.fnExactFirstDefectSpec.pre6 enc Try.prog Try.f9 Rows.fnExactFirstDefectRow.domain false) (Rows.fnExactFirstDefectSpec.post enc Try.prog Try.f9 false true false false) := by
  refine returnsInHanded_of_change (C := Try.checked) own started (by kernel_rfl) Try.func9
    (ChangeSpec.witness6 (enc := enc) (C := Try.checked) false ⟨#[], #[.agg #[.int .i64 0, .slice none 0 0], .agg #[.int .i64 0, .int .i64 0, .slice none 0 0]], []⟩ 8 (by kernel_rfl) (by kernel_rfl) (by kernel_rfl) (by kernel_rfl)) ?_
  intro W base args ds gs before hval0 hW hcnd _
  have hval : ∀ (j : Nat) t v, Try.f9.params[j]? = some t → args[j]? = some v → Value.okWide Try.prog W .any base t v := hval0
  have hW' := hW
  obtain ⟨p, q, hA0, hV, rfl, hfz, hnd⟩ := hW
  have hA : DataW.TrodAll enc Try.prog W 0 (fun _ => true) true Try.f9.params.toList args.toList ds p := hA0
  rw [Try.params9] at hA hval
  obtain ⟨v0, vs0, d0, ds0, p0, q0, hargs, rfl, rfl, h0, r0⟩ := trodAll_cons hA
  obtain ⟨v1, vs1, d1, ds1, p1, q1, rfl, rfl, rfl, h1, r1⟩ := trodAll_cons r0
  obtain ⟨rfl, rfl, rfl⟩ := trodAll_nil r1
  obtain rfl : args = #[v0, v1] := by cases args; simp_all
  obtain ⟨rfl, rfl⟩ := trodVars_none hV
  obtain ⟨e0, y0, rfl, R0⟩ := arg_struct oPresentation Try.underlying24 (hval 0 24 v0 rfl rfl) h0
  obtain ⟨e1, y1, rfl, R1⟩ := arg_struct oGraph Try.underlying49 (hval 1 49 v1 rfl rfl) h1
  refine (Tr.calls (t_lawFirstDefect (fun b => W.heap[b]?) e0 y0 R0 e1 y1 R1)).mono fun e W' ⟨he, hg, hz⟩ => ?_
  exact ⟨_, he, law_post laidOut (by decide +kernel) rfl rfl (by kernel_rfl) Try.underlying4 hW' hg hz⟩

theorem proved : Rows.FnExactFirstDefectSaid :=
  OpenClaim.holds_of_wide 9 Try.f9 rfl rfl rfl rfl rfl rfl rfl ⟨rfl, rfl, rfl, rfl, rfl⟩ rfl rfl rfl rfl rfl (by kernel_rfl) Try.func9 (by kernel_rfl)
    (of_decide_eq_true (by kernel_rfl)) (by unfold Func.isWrapper; first | (rw [if_pos (by decide +kernel)]; kernel_rfl) | (rw [if_neg (by decide +kernel)]; exact ⟨rfl, rfl⟩))
    (fun os started H enc _ => lifted os started H enc)
end Go.Proofs.Ythccjgkmmclplaa.rFnExactFirstDefect
