/- NamesInside, for every input: the law returns true and its arguments read as they did. -/
import Derived.Test.YtknoadmdnjaocaaGreatRows
import Derived.Test.YtknoadmdnjaocaaGreatZ
import Derived.Test.YtknoadmdnjaocaaGreatLNamesInside
namespace Go.Proofs.YtknoadmdnjaocaaGreat.rFnExactNamesInside
open Go.H Go.ChangeShapes Go.WideShapes Go.ChangeAt Go.RowKit Go.WideMaps Go.WideElems
open Go.ChangeMaps (open_string)
set_option linter.unusedVariables false
theorem own : ownKnob Tryz.prog.godebug = none := by kernel_rfl
theorem q0k : laidOutB Tryz.prog = true := s0k
theorem S0h : y7 Tryz.prog 3 Wp.int.toRp := y7.int Tryz.underlying3
theorem X0l : y7 Tryz.prog 9 Wp.str.toRp := y7.str Tryz.underlying9
theorem N0l : y7 Tryz.prog 143 N0.toRp := y7.struct Tryz.underlying143 (by kernel_rfl) (f01.cons rfl (by kernel_rfl) S0h (f01.cons rfl (by kernel_rfl) S0h (f01.one rfl (by kernel_rfl) S0h)))
theorem q0l : y7 Tryz.prog 37 O0.toRp := y7.slice Tryz.underlying37 (by kernel_rfl) (by decide) N0l
theorem r0l : y7 Tryz.prog 39 P1.toRp := y7.struct Tryz.underlying39 (by kernel_rfl) (f01.cons rfl (by kernel_rfl) S0h (f01.cons rfl (by kernel_rfl) S0h (f01.one rfl (by kernel_rfl) q0l)))
theorem s0l : y7 Tryz.prog 132 M4.toRp := y7.struct Tryz.underlying132 (by kernel_rfl) (f01.cons rfl (by kernel_rfl) X0l (f01.one rfl (by kernel_rfl) r0l))
theorem r0k : y7 Tryz.prog 22 A4.toRp := y7.slice Tryz.underlying22 (by kernel_rfl) (by decide) s0l
theorem B0j : y7 Tryz.prog 24 I3.toRp := y7.struct Tryz.underlying24 (by kernel_rfl) (f01.cons rfl (by kernel_rfl) S0h (f01.one rfl (by kernel_rfl) r0k))
set_option maxRecDepth 100000 in
theorem t0l (os : Os) (started : os.Started) (H : Type) (enc : TypeId × Value → H) :
  ReturnsInHanded {} Tryz.checked os 3 .any (Rows.fnExactNamesInsideSpec.pre6 enc Tryz.prog Tryz.f3 Rows.fnExactNamesInsideRow.domain false) (Rows.fnExactNamesInsideSpec.post enc Tryz.prog Tryz.f3 false true false false) := by
 refine returnsInHanded_of_change (C := Tryz.checked) own started (by kernel_rfl) Tryz.func3
  (ChangeSpec.witness6 (enc := enc) (C := Tryz.checked) false ⟨#[], #[.agg #[.int .i64 0, .slice none 0 0], .string ⟨#[]⟩], []⟩ 8 (by kernel_rfl) (by kernel_rfl) (by kernel_rfl) (by kernel_rfl)) ?_
 intro W base args ds gs before hval0 hW hcnd _
 have hval : ∀ (j : Nat) t v, Tryz.f3.params[j]? = some t → args[j]? = some v → Value.okWide Tryz.prog W .any base t v := hval0
 have hW' := hW
 obtain ⟨p, q, hA0, hV, rfl, hfz, hnd⟩ := hW
 have hA : DataW.TrodAll enc Tryz.prog W 0 (fun _ => true) true Tryz.f3.params.toList args.toList ds p := hA0
 rw [Tryz.params3] at hA hval
 obtain ⟨v0, vs0, d0, ds0, p0, q0, hargs, rfl, rfl, h0, r0⟩ := trodAll_cons hA
 obtain ⟨v1, vs1, d1, ds1, p1, q1, rfl, rfl, rfl, h1, r1⟩ := trodAll_cons r0
 obtain ⟨rfl, rfl, rfl⟩ := trodAll_nil r1
 obtain rfl : args = #[v0, v1] := by cases args; simp_all
 obtain ⟨rfl, rfl⟩ := trodVars_none hV
 obtain ⟨e0, y0, rfl, R0⟩ := O0e B0j Tryz.underlying24 (hval 0 24 v0 rfl rfl) h0
 obtain ⟨a1, rfl, rfl, rfl, w1⟩ := open_string Tryz.underlying9 (hval 1 9 v1 rfl rfl) h1
 refine (Tr.calls (Q07 (fun b => W.heap[b]?) e0 y0 R0 a1 (M0e w1))).mono fun e W' ⟨he, hg, hz⟩ => ?_
 exact ⟨_, he, z0i q0k (by decide +kernel) rfl rfl (by kernel_rfl) Tryz.underlying4 hW' hg hz⟩
theorem w10 : (Rows.fnExactNamesInsideRow.inPlace == Tryz.prog.inPlace 3) = true := by kernel_rfl
theorem w11 : (Rows.fnExactNamesInsideRow.unfollowed == Tryz.prog.unfollowed 3) = true := by kernel_rfl
theorem w12 : (Rows.fnExactNamesInsideRow.recurses == Tryz.prog.recurses 3) = true := by kernel_rfl
theorem w13 : (Rows.fnExactNamesInsideRow.named == Tryz.prog.varsNamed 3) = true := by kernel_rfl
theorem w28 : (Tryz.prog.make == some Rows.fnExactNamesInsideRow.make) = true := by kernel_rfl
theorem closed : joinedFacts Tryz.prog 3 Tryz.f3 Rows.fnExactNamesInsideSpec Rows.fnExactNamesInsideRow = true :=
 g7 (g7 (g7 (g7 (g7 (g7 (g7 (g7 (g7 (g7 (g7 (g7 (g7 (g7 (g7 (g7 (g7 (g7 (g7 (g7 (g7 (g7 (g7 (g7 (g7 (g7 (g7 (g7 (g7 (g7 (g7 ((by kernel_rfl)) s0k) u0l) (by kernel_rfl)) (by kernel_rfl)) (by kernel_rfl)) (by kernel_rfl)) (by kernel_rfl)) (by kernel_rfl)) w10) w11) w12) w13) (by kernel_rfl)) (by kernel_rfl)) (by kernel_rfl)) (by kernel_rfl)) (by kernel_rfl)) (by kernel_rfl)) (by kernel_rfl)) (by kernel_rfl)) (by kernel_rfl)) w0l) (by kernel_rfl)) L0k) M0k) v0l) w28) (by kernel_rfl)) (by kernel_rfl)) (by kernel_rfl)) (by kernel_rfl)
theorem proved : Rows.FnExactNamesInsideSaid :=
 OpenClaim.holds_of_wide 3 Tryz.f3 rfl rfl rfl rfl rfl rfl rfl ⟨rfl, rfl, rfl, rfl, rfl⟩ rfl rfl rfl rfl rfl (by kernel_rfl) Tryz.func3 closed
  (of_decide_eq_true (by kernel_rfl)) (by unfold Func.isWrapper; first | (rw [if_pos (by decide +kernel)]; kernel_rfl) | (rw [if_neg (by decide +kernel)]; exact ⟨rfl, rfl⟩))
  (fun os started H enc _ => t0l os started H enc)
end Go.Proofs.YtknoadmdnjaocaaGreat.rFnExactNamesInside
