/- EnumerateCosets, for every input: the law returns true and its arguments read as they did. -/
import Derived.Test.YtfdlgbfeceodeaaGreatRows
import Derived.Test.YtfdlgbfeceodeaaGreatZ
import Derived.Test.YtfdlgbfeceodeaaGreatLEnumerateCosets
namespace Go.Proofs.YtfdlgbfeceodeaaGreat.rFnExactEnumerateCosets
open Go.H Go.ChangeShapes Go.WideShapes Go.ChangeAt Go.RowKit Go.WideMaps Go.WideElems
open Go.ChangeMaps (open_string)
set_option linter.unusedVariables false
theorem own : ownKnob Tryz.prog.godebug = none := by kernel_rfl
theorem T0k : laidOutB Tryz.prog = true := U0k
theorem g0m : E00 Tryz.prog 3 Wp.int.toRp := E00.int Tryz.underlying3
theorem i0m : E00 Tryz.prog 70 K1.toRp := E00.slice Tryz.underlying70 (by kernel_rfl) (by decide) g0m
theorem d0k : E00 Tryz.prog 47 D3.toRp := E00.slice Tryz.underlying47 (by kernel_rfl) (by decide) i0m
theorem j0c : E00 Tryz.prog 49 j1.toRp := E00.struct Tryz.underlying49 (by kernel_rfl) (A09.cons rfl (by kernel_rfl) g0m (A09.one rfl (by kernel_rfl) d0k))
set_option maxRecDepth 100000 in
theorem O0l (os : Os) (started : os.Started) (H : Type) (enc : TypeId × Value → H) :
  ReturnsInHanded {} Tryz.checked os 13 .any (Rows.fnExactEnumerateCosetsSpec.pre6 enc Tryz.prog Tryz.f13 Rows.fnExactEnumerateCosetsRow.domain false) (Rows.fnExactEnumerateCosetsSpec.post enc Tryz.prog Tryz.f13 false true false false) := by
 refine returnsInHanded_of_change (C := Tryz.checked) own started (by kernel_rfl) Tryz.func13
  (ChangeSpec.witness6 (enc := enc) (C := Tryz.checked) false ⟨#[], #[.agg #[.int .i64 0, .slice none 0 0], .slice none 0 0], []⟩ 8 (by kernel_rfl) (by kernel_rfl) (by kernel_rfl) (by kernel_rfl)) ?_
 intro W base args ds gs before hval0 hW hcnd _
 have hval : ∀ (j : Nat) t v, Tryz.f13.params[j]? = some t → args[j]? = some v → Value.okWide Tryz.prog W .any base t v := hval0
 have hW' := hW
 obtain ⟨p, q, hA0, hV, rfl, hfz, hnd⟩ := hW
 have hA : DataW.TrodAll enc Tryz.prog W 0 (fun _ => true) true Tryz.f13.params.toList args.toList ds p := hA0
 rw [Tryz.params13] at hA hval
 obtain ⟨v0, vs0, d0, ds0, p0, q0, hargs, rfl, rfl, h0, r0⟩ := trodAll_cons hA
 obtain ⟨v1, vs1, d1, ds1, p1, q1, rfl, rfl, rfl, h1, r1⟩ := trodAll_cons r0
 obtain ⟨rfl, rfl, rfl⟩ := trodAll_nil r1
 obtain rfl : args = #[v0, v1] := by cases args; simp_all
 obtain ⟨rfl, rfl⟩ := trodVars_none hV
 obtain ⟨e0, y0, rfl, R0⟩ := q0g j0c Tryz.underlying49 (hval 0 49 v0 rfl rfl) h0
 obtain ⟨y1, R1⟩ := r0i d0k Tryz.underlying47 (hval 1 47 v1 rfl rfl) h1
 refine (Tr.calls (F05 (fun b => W.heap[b]?) e0 y0 R0 v1 y1 R1)).mono fun e W' ⟨he, hg, hz⟩ => ?_
 exact ⟨_, he, q0j T0k (by decide +kernel) rfl rfl (by kernel_rfl) Tryz.underlying4 hW' hg hz⟩
theorem w10 : (Rows.fnExactEnumerateCosetsRow.inPlace == Tryz.prog.inPlace 13) = true := by kernel_rfl
theorem w11 : (Rows.fnExactEnumerateCosetsRow.unfollowed == Tryz.prog.unfollowed 13) = true := by kernel_rfl
theorem w12 : (Rows.fnExactEnumerateCosetsRow.recurses == Tryz.prog.recurses 13) = true := by kernel_rfl
theorem w13 : (Rows.fnExactEnumerateCosetsRow.named == Tryz.prog.varsNamed 13) = true := by kernel_rfl
theorem w28 : (Tryz.prog.make == some Rows.fnExactEnumerateCosetsRow.make) = true := by kernel_rfl
theorem closed : joinedFacts Tryz.prog 13 Tryz.f13 Rows.fnExactEnumerateCosetsSpec Rows.fnExactEnumerateCosetsRow = true :=
 j8 (j8 (j8 (j8 (j8 (j8 (j8 (j8 (j8 (j8 (j8 (j8 (j8 (j8 (j8 (j8 (j8 (j8 (j8 (j8 (j8 (j8 (j8 (j8 (j8 (j8 (j8 (j8 (j8 (j8 (j8 ((by kernel_rfl)) U0k) P0l) (by kernel_rfl)) (by kernel_rfl)) (by kernel_rfl)) (by kernel_rfl)) (by kernel_rfl)) (by kernel_rfl)) w10) w11) w12) w13) (by kernel_rfl)) (by kernel_rfl)) (by kernel_rfl)) (by kernel_rfl)) (by kernel_rfl)) (by kernel_rfl)) (by kernel_rfl)) (by kernel_rfl)) (by kernel_rfl)) R0l) (by kernel_rfl)) l0l) m0l) Q0l) w28) (by kernel_rfl)) (by kernel_rfl)) (by kernel_rfl)) (by kernel_rfl)
theorem proved : Rows.FnExactEnumerateCosetsSaid :=
 OpenClaim.holds_of_wide 13 Tryz.f13 rfl rfl rfl rfl rfl rfl rfl ⟨rfl, rfl, rfl, rfl, rfl⟩ rfl rfl rfl rfl rfl (by kernel_rfl) Tryz.func13 closed
  (of_decide_eq_true (by kernel_rfl)) (by unfold Func.isWrapper; first | (rw [if_pos (by decide +kernel)]; kernel_rfl) | (rw [if_neg (by decide +kernel)]; exact ⟨rfl, rfl⟩))
  (fun os started H enc _ => O0l os started H enc)
end Go.Proofs.YtfdlgbfeceodeaaGreat.rFnExactEnumerateCosets
