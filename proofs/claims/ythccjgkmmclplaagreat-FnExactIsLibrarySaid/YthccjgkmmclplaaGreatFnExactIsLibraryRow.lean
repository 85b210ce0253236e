/- IsLibrary, for every input: the law returns true and its arguments read as they did. -/
import Derived.Test.YthccjgkmmclplaaGreatRows
import Derived.Test.YthccjgkmmclplaaGreatLIsLibrary
namespace Go.Proofs.YthccjgkmmclplaaGreat.rFnExactIsLibrary
open Go.H Go.ChangeShapes Go.WideShapes Go.ChangeAt Go.RowKit Go.WideMaps Go.WideElems
open Go.ChangeMaps (open_string)
set_option linter.unusedVariables false

theorem own : ownKnob Tryz.prog.godebug = none := by kernel_rfl
theorem laidOut : laidOutB Tryz.prog = true := by kernel_rfl

theorem oint : Opens Tryz.prog 3 Wp.int.toRp := Opens.int Tryz.underlying3
theorem ostr : Opens Tryz.prog 9 Wp.str.toRp := Opens.str Tryz.underlying9
theorem oEdge : Opens Tryz.prog 119 wEdge.toRp := Opens.struct Tryz.underlying119 (by kernel_rfl) (OpenF.cons rfl (by kernel_rfl) oint (OpenF.cons rfl (by kernel_rfl) oint (OpenF.one rfl (by kernel_rfl) oint)))
theorem oEdgeS : Opens Tryz.prog 43 wEdgeS.toRp := Opens.slice Tryz.underlying43 (by kernel_rfl) (by decide) oEdge
theorem oGraph : Opens Tryz.prog 45 wGraph.toRp := Opens.struct Tryz.underlying45 (by kernel_rfl) (OpenF.cons rfl (by kernel_rfl) oint (OpenF.cons rfl (by kernel_rfl) oint (OpenF.one rfl (by kernel_rfl) oEdgeS)))
theorem oEntry : Opens Tryz.prog 106 wEntry.toRp := Opens.struct Tryz.underlying106 (by kernel_rfl) (OpenF.cons rfl (by kernel_rfl) ostr (OpenF.one rfl (by kernel_rfl) oGraph))
theorem oEntryS : Opens Tryz.prog 22 wEntryS.toRp := Opens.slice Tryz.underlying22 (by kernel_rfl) (by decide) oEntry
theorem oLibrary : Opens Tryz.prog 24 wLibrary.toRp := Opens.struct Tryz.underlying24 (by kernel_rfl) (OpenF.cons rfl (by kernel_rfl) oint (OpenF.one rfl (by kernel_rfl) oEntryS))

set_option maxRecDepth 100000 in
theorem lifted (os : Os) (started : os.Started) (H : Type) (enc : TypeId × Value → H) :
    ReturnsInHanded {} Tryz.checked os 3 .any (Rows.fnExactIsLibrarySpec.pre6 enc Tryz.prog Tryz.f3 Rows.fnExactIsLibraryRow.domain false) (Rows.fnExactIsLibrarySpec.post enc Tryz.prog Tryz.f3 false true false false) := by
  refine returnsInHanded_of_change (C := Tryz.checked) own started (by kernel_rfl) Tryz.func3
    (ChangeSpec.witness6 (enc := enc) (C := Tryz.checked) false ⟨#[], #[.agg #[.int .i64 0, .slice none 0 0]], []⟩ 8 (by kernel_rfl) (by kernel_rfl) (by kernel_rfl) (by kernel_rfl)) ?_
  intro W base args ds gs before hval0 hW hcnd _
  have hval : ∀ (j : Nat) t v, Tryz.f3.params[j]? = some t → args[j]? = some v → Value.okWide Tryz.prog W .any base t v := hval0
  have hW' := hW
  obtain ⟨p, q, hA0, hV, rfl, hfz, hnd⟩ := hW
  have hA : DataW.TrodAll enc Tryz.prog W 0 (fun _ => true) true Tryz.f3.params.toList args.toList ds p := hA0
  rw [Tryz.params3] at hA hval
  obtain ⟨v0, vs0, d0, ds0, p0, q0, hargs, rfl, rfl, h0, r0⟩ := trodAll_cons hA
  obtain ⟨rfl, rfl, rfl⟩ := trodAll_nil r0
  obtain rfl : args = #[v0] := by cases args; simp_all
  obtain ⟨rfl, rfl⟩ := trodVars_none hV
  obtain ⟨e0, y0, rfl, R0⟩ := arg_struct oLibrary Tryz.underlying24 (hval 0 24 v0 rfl rfl) h0
  refine (Tr.calls (t_lawIsLibrary (fun b => W.heap[b]?) e0 y0 R0)).mono fun e W' ⟨he, hg, hz⟩ => ?_
  exact ⟨_, he, law_post laidOut (by decide +kernel) rfl rfl (by kernel_rfl) Tryz.underlying4 hW' hg hz⟩

theorem proved : Rows.FnExactIsLibrarySaid :=
  OpenClaim.holds_of_wide 3 Tryz.f3 rfl rfl rfl rfl rfl rfl rfl ⟨rfl, rfl, rfl, rfl, rfl⟩ rfl rfl rfl rfl rfl (by kernel_rfl) Tryz.func3 (by kernel_rfl)
    (of_decide_eq_true (by kernel_rfl)) (by unfold Func.isWrapper; first | (rw [if_pos (by decide +kernel)]; kernel_rfl) | (rw [if_neg (by decide +kernel)]; exact ⟨rfl, rfl⟩))
    (fun os started H enc _ => lifted os started H enc)
end Go.Proofs.YthccjgkmmclplaaGreat.rFnExactIsLibrary
