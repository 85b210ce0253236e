/- SizeOfGroup, for every input: the law returns true and its arguments read as they did. -/
import Derived.Test.YtfdlgbfeceodeaaGreatRows
import Derived.Test.YtfdlgbfeceodeaaGreatZ
import Derived.Test.YtfdlgbfeceodeaaGreatLSizeOfGroup
namespace Go.Proofs.YtfdlgbfeceodeaaGreat.rFnExactSizeOfGroup
open Go.H Go.ChangeShapes Go.WideShapes Go.ChangeAt Go.RowKit Go.WideMaps Go.WideElems
open Go.ChangeMaps (open_string)
set_option linter.unusedVariables false
theorem own : ownKnob Tryz.prog.godebug = none := by kernel_rfl
theorem c0k : laidOutB Tryz.prog = true := d0k
theorem p0l : F00 Tryz.prog 3 Wp.int.toRp := F00.int Tryz.underlying3
theorem q0l : F00 Tryz.prog 70 I1.toRp := F00.slice Tryz.underlying70 (by kernel_rfl) (by decide) p0l
theorem W0k : F00 Tryz.prog 47 P4.toRp := F00.slice Tryz.underlying47 (by kernel_rfl) (by decide) q0l
theorem z0b : F00 Tryz.prog 49 D1.toRp := F00.struct Tryz.underlying49 (by kernel_rfl) (e09.cons rfl (by kernel_rfl) p0l (e09.one rfl (by kernel_rfl) W0k))
set_option maxRecDepth 100000 in
theorem X0k (os : Os) (started : os.Started) (H : Type) (enc : TypeId × Value → H) :
  ReturnsInHanded {} Tryz.checked os 11 .any (Rows.fnExactSizeOfGroupSpec.pre6 enc Tryz.prog Tryz.f11 Rows.fnExactSizeOfGroupRow.domain false) (Rows.fnExactSizeOfGroupSpec.post enc Tryz.prog Tryz.f11 false true false false) := by
 refine returnsInHanded_of_change (C := Tryz.checked) own started (by kernel_rfl) Tryz.func11
  (ChangeSpec.witness6 (enc := enc) (C := Tryz.checked) false ⟨#[], #[.agg #[.int .i64 0, .slice none 0 0]], []⟩ 8 (by kernel_rfl) (by kernel_rfl) (by kernel_rfl) (by kernel_rfl)) ?_
 intro W base args ds gs before hval0 hW hcnd _
 have hval : ∀ (j : Nat) t v, Tryz.f11.params[j]? = some t → args[j]? = some v → Value.okWide Tryz.prog W .any base t v := hval0
 have hW' := hW
 obtain ⟨p, q, hA0, hV, rfl, hfz, hnd⟩ := hW
 have hA : DataW.TrodAll enc Tryz.prog W 0 (fun _ => true) true Tryz.f11.params.toList args.toList ds p := hA0
 rw [Tryz.params11] at hA hval
 obtain ⟨v0, vs0, d0, ds0, p0, q0, hargs, rfl, rfl, h0, r0⟩ := trodAll_cons hA
 obtain ⟨rfl, rfl, rfl⟩ := trodAll_nil r0
 obtain rfl : args = #[v0] := by cases args; simp_all
 obtain ⟨rfl, rfl⟩ := trodVars_none hV
 obtain ⟨e0, y0, rfl, R0⟩ := E0f z0b Tryz.underlying49 (hval 0 49 v0 rfl rfl) h0
 refine (Tr.calls (Q08 (fun b => W.heap[b]?) e0 y0 R0)).mono fun e W' ⟨he, hg, hz⟩ => ?_
 exact ⟨_, he, H0i c0k (by decide +kernel) rfl rfl (by kernel_rfl) Tryz.underlying4 hW' hg hz⟩
theorem w10 : (Rows.fnExactSizeOfGroupRow.inPlace == Tryz.prog.inPlace 11) = true := by kernel_rfl
theorem w11 : (Rows.fnExactSizeOfGroupRow.unfollowed == Tryz.prog.unfollowed 11) = true := by kernel_rfl
theorem w12 : (Rows.fnExactSizeOfGroupRow.recurses == Tryz.prog.recurses 11) = true := by kernel_rfl
theorem w13 : (Rows.fnExactSizeOfGroupRow.named == Tryz.prog.varsNamed 11) = true := by kernel_rfl
theorem w28 : (Tryz.prog.make == some Rows.fnExactSizeOfGroupRow.make) = true := by kernel_rfl
theorem closed : joinedFacts Tryz.prog 11 Tryz.f11 Rows.fnExactSizeOfGroupSpec Rows.fnExactSizeOfGroupRow = true :=
 V7 (V7 (V7 (V7 (V7 (V7 (V7 (V7 (V7 (V7 (V7 (V7 (V7 (V7 (V7 (V7 (V7 (V7 (V7 (V7 (V7 (V7 (V7 (V7 (V7 (V7 (V7 (V7 (V7 (V7 (V7 ((by kernel_rfl)) d0k) Y0k) (by kernel_rfl)) (by kernel_rfl)) (by kernel_rfl)) (by kernel_rfl)) (by kernel_rfl)) (by kernel_rfl)) w10) w11) w12) w13) (by kernel_rfl)) (by kernel_rfl)) (by kernel_rfl)) (by kernel_rfl)) (by kernel_rfl)) (by kernel_rfl)) (by kernel_rfl)) (by kernel_rfl)) (by kernel_rfl)) a0l) (by kernel_rfl)) u0k) v0k) Z0k) w28) (by kernel_rfl)) (by kernel_rfl)) (by kernel_rfl)) (by kernel_rfl)
theorem proved : Rows.FnExactSizeOfGroupSaid :=
 OpenClaim.holds_of_wide 11 Tryz.f11 rfl rfl rfl rfl rfl rfl rfl ⟨rfl, rfl, rfl, rfl, rfl⟩ rfl rfl rfl rfl rfl (by kernel_rfl) Tryz.func11 closed
  (of_decide_eq_true (by kernel_rfl)) (by unfold Func.isWrapper; first | (rw [if_pos (by decide +kernel)]; kernel_rfl) | (rw [if_neg (by decide +kernel)]; exact ⟨rfl, rfl⟩))
  (fun os started H enc _ => X0k os started H enc)
end Go.Proofs.YtfdlgbfeceodeaaGreat.rFnExactSizeOfGroup
