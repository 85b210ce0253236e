/- NormalOnes, for every input: the law returns true and its arguments read as they did. -/
import Derived.Test.YtknoadmdnjaocaaGreatRows
import Derived.Test.YtknoadmdnjaocaaGreatZ
import Derived.Test.YtknoadmdnjaocaaGreatLNormalOnes
namespace Go.Proofs.YtknoadmdnjaocaaGreat.rFnExactNormalOnes
open Go.H Go.ChangeShapes Go.WideShapes Go.ChangeAt Go.RowKit Go.WideMaps Go.WideElems
open Go.ChangeMaps (open_string)
set_option linter.unusedVariables false
theorem own : ownKnob Tryz.prog.godebug = none := by kernel_rfl
theorem i0k : laidOutB Tryz.prog = true := k0k
theorem y0j : U9 Tryz.prog 3 Wp.int.toRp := U9.int Tryz.underlying3
theorem z0l : U9 Tryz.prog 143 P0.toRp := U9.struct Tryz.underlying143 (by kernel_rfl) (C03.cons rfl (by kernel_rfl) y0j (C03.cons rfl (by kernel_rfl) y0j (C03.one rfl (by kernel_rfl) y0j)))
theorem h0l : U9 Tryz.prog 37 J0.toRp := U9.slice Tryz.underlying37 (by kernel_rfl) (by decide) z0l
theorem i0l : U9 Tryz.prog 39 S0.toRp := U9.struct Tryz.underlying39 (by kernel_rfl) (C03.cons rfl (by kernel_rfl) y0j (C03.cons rfl (by kernel_rfl) y0j (C03.one rfl (by kernel_rfl) h0l)))
theorem j0k : U9 Tryz.prog 56 C5.toRp := U9.slice Tryz.underlying56 (by kernel_rfl) (by decide) i0l
set_option maxRecDepth 100000 in
theorem j0l (os : Os) (started : os.Started) (H : Type) (enc : TypeId × Value → H) :
  ReturnsInHanded {} Tryz.checked os 6 .any (Rows.fnExactNormalOnesSpec.pre6 enc Tryz.prog Tryz.f6 Rows.fnExactNormalOnesRow.domain false) (Rows.fnExactNormalOnesSpec.post enc Tryz.prog Tryz.f6 false true false false) := by
 refine returnsInHanded_of_change (C := Tryz.checked) own started (by kernel_rfl) Tryz.func6
  (ChangeSpec.witness6 (enc := enc) (C := Tryz.checked) false ⟨#[], #[.slice none 0 0], []⟩ 8 (by kernel_rfl) (by kernel_rfl) (by kernel_rfl) (by kernel_rfl)) ?_
 intro W base args ds gs before hval0 hW hcnd _
 have hval : ∀ (j : Nat) t v, Tryz.f6.params[j]? = some t → args[j]? = some v → Value.okWide Tryz.prog W .any base t v := hval0
 have hW' := hW
 obtain ⟨p, q, hA0, hV, rfl, hfz, hnd⟩ := hW
 have hA : DataW.TrodAll enc Tryz.prog W 0 (fun _ => true) true Tryz.f6.params.toList args.toList ds p := hA0
 rw [Tryz.params6] at hA hval
 obtain ⟨v0, vs0, d0, ds0, p0, q0, hargs, rfl, rfl, h0, r0⟩ := trodAll_cons hA
 obtain ⟨rfl, rfl, rfl⟩ := trodAll_nil r0
 obtain rfl : args = #[v0] := by cases args; simp_all
 obtain ⟨rfl, rfl⟩ := trodVars_none hV
 obtain ⟨y0, R0⟩ := r0h j0k Tryz.underlying56 (hval 0 56 v0 rfl rfl) h0
 refine (Tr.calls (J08 (fun b => W.heap[b]?) v0 y0 R0)).mono fun e W' ⟨he, hg, hz⟩ => ?_
 exact ⟨_, he, E0i i0k (by decide +kernel) rfl rfl (by kernel_rfl) Tryz.underlying4 hW' hg hz⟩
theorem w10 : (Rows.fnExactNormalOnesRow.inPlace == Tryz.prog.inPlace 6) = true := by kernel_rfl
theorem w11 : (Rows.fnExactNormalOnesRow.unfollowed == Tryz.prog.unfollowed 6) = true := by kernel_rfl
theorem w12 : (Rows.fnExactNormalOnesRow.recurses == Tryz.prog.recurses 6) = true := by kernel_rfl
theorem w13 : (Rows.fnExactNormalOnesRow.named == Tryz.prog.varsNamed 6) = true := by kernel_rfl
theorem w28 : (Tryz.prog.make == some Rows.fnExactNormalOnesRow.make) = true := by kernel_rfl
theorem closed : joinedFacts Tryz.prog 6 Tryz.f6 Rows.fnExactNormalOnesSpec Rows.fnExactNormalOnesRow = true :=
 G7 (G7 (G7 (G7 (G7 (G7 (G7 (G7 (G7 (G7 (G7 (G7 (G7 (G7 (G7 (G7 (G7 (G7 (G7 (G7 (G7 (G7 (G7 (G7 (G7 (G7 (G7 (G7 (G7 (G7 (G7 ((by kernel_rfl)) k0k) k0l) (by kernel_rfl)) (by kernel_rfl)) (by kernel_rfl)) (by kernel_rfl)) (by kernel_rfl)) (by kernel_rfl)) w10) w11) w12) w13) (by kernel_rfl)) (by kernel_rfl)) (by kernel_rfl)) (by kernel_rfl)) (by kernel_rfl)) (by kernel_rfl)) (by kernel_rfl)) (by kernel_rfl)) (by kernel_rfl)) m0l) (by kernel_rfl)) J0k) K0k) l0l) w28) (by kernel_rfl)) (by kernel_rfl)) (by kernel_rfl)) (by kernel_rfl)
theorem proved : Rows.FnExactNormalOnesSaid :=
 OpenClaim.holds_of_wide 6 Tryz.f6 rfl rfl rfl rfl rfl rfl rfl ⟨rfl, rfl, rfl, rfl, rfl⟩ rfl rfl rfl rfl rfl (by kernel_rfl) Tryz.func6 closed
  (of_decide_eq_true (by kernel_rfl)) (by unfold Func.isWrapper; first | (rw [if_pos (by decide +kernel)]; kernel_rfl) | (rw [if_neg (by decide +kernel)]; exact ⟨rfl, rfl⟩))
  (fun os started H enc _ => j0l os started H enc)
end Go.Proofs.YtknoadmdnjaocaaGreat.rFnExactNormalOnes
