/- IndexModulo, for every input: the law returns true and its arguments read as they did. -/
import Derived.Test.YtfdlgbfeceodeaaGreatRows
import Derived.Test.YtfdlgbfeceodeaaGreatZ
import Derived.Test.YtfdlgbfeceodeaaGreatLIndexModulo
namespace Go.Proofs.YtfdlgbfeceodeaaGreat.rFnExactIndexModulo
open Go.H Go.ChangeShapes Go.WideShapes Go.ChangeAt Go.RowKit Go.WideMaps Go.WideElems
open Go.ChangeMaps (open_string)
set_option linter.unusedVariables false
theorem own : ownKnob Tryz.prog.godebug = none := by kernel_rfl
theorem V0j : laidOutB Tryz.prog = true := W0j
theorem h0l : r00 Tryz.prog 3 Wp.int.toRp := r00.int Tryz.underlying3
theorem i0l : r00 Tryz.prog 70 I1.toRp := r00.slice Tryz.underlying70 (by kernel_rfl) (by decide) h0l
theorem j0j : r00 Tryz.prog 47 R3.toRp := r00.slice Tryz.underlying47 (by kernel_rfl) (by decide) i0l
theorem u0b : r00 Tryz.prog 49 D1.toRp := r00.struct Tryz.underlying49 (by kernel_rfl) (Y08.cons rfl (by kernel_rfl) h0l (Y08.one rfl (by kernel_rfl) j0j))
set_option maxRecDepth 100000 in
theorem P0k (os : Os) (started : os.Started) (H : Type) (enc : TypeId × Value → H) :
  ReturnsInHanded {} Tryz.checked os 10 .any (Rows.fnExactIndexModuloSpec.pre6 enc Tryz.prog Tryz.f10 Rows.fnExactIndexModuloRow.domain false) (Rows.fnExactIndexModuloSpec.post enc Tryz.prog Tryz.f10 false true false false) := by
 refine returnsInHanded_of_change (C := Tryz.checked) own started (by kernel_rfl) Tryz.func10
  (ChangeSpec.witness6 (enc := enc) (C := Tryz.checked) false ⟨#[], #[.agg #[.int .i64 0, .slice none 0 0], .slice none 0 0], []⟩ 8 (by kernel_rfl) (by kernel_rfl) (by kernel_rfl) (by kernel_rfl)) ?_
 intro W base args ds gs before hval0 hW hcnd _
 have hval : ∀ (j : Nat) t v, Tryz.f10.params[j]? = some t → args[j]? = some v → Value.okWide Tryz.prog W .any base t v := hval0
 have hW' := hW
 obtain ⟨p, q, hA0, hV, rfl, hfz, hnd⟩ := hW
 have hA : DataW.TrodAll enc Tryz.prog W 0 (fun _ => true) true Tryz.f10.params.toList args.toList ds p := hA0
 rw [Tryz.params10] at hA hval
 obtain ⟨v0, vs0, d0, ds0, p0, q0, hargs, rfl, rfl, h0, r0⟩ := trodAll_cons hA
 obtain ⟨v1, vs1, d1, ds1, p1, q1, rfl, rfl, rfl, h1, r1⟩ := trodAll_cons r0
 obtain ⟨rfl, rfl, rfl⟩ := trodAll_nil r1
 obtain rfl : args = #[v0, v1] := by cases args; simp_all
 obtain ⟨rfl, rfl⟩ := trodVars_none hV
 obtain ⟨e0, y0, rfl, R0⟩ := B0f u0b Tryz.underlying49 (hval 0 49 v0 rfl rfl) h0
 obtain ⟨y1, R1⟩ := z0h j0j Tryz.underlying47 (hval 1 47 v1 rfl rfl) h1
 refine (Tr.calls (K08 (fun b => W.heap[b]?) e0 y0 R0 v1 y1 R1)).mono fun e W' ⟨he, hg, hz⟩ => ?_
 exact ⟨_, he, y0i V0j (by decide +kernel) rfl rfl (by kernel_rfl) Tryz.underlying4 hW' hg hz⟩
theorem w10 : (Rows.fnExactIndexModuloRow.inPlace == Tryz.prog.inPlace 10) = true := by kernel_rfl
theorem w11 : (Rows.fnExactIndexModuloRow.unfollowed == Tryz.prog.unfollowed 10) = true := by kernel_rfl
theorem w12 : (Rows.fnExactIndexModuloRow.recurses == Tryz.prog.recurses 10) = true := by kernel_rfl
theorem w13 : (Rows.fnExactIndexModuloRow.named == Tryz.prog.varsNamed 10) = true := by kernel_rfl
theorem w28 : (Tryz.prog.make == some Rows.fnExactIndexModuloRow.make) = true := by kernel_rfl
theorem closed : joinedFacts Tryz.prog 10 Tryz.f10 Rows.fnExactIndexModuloSpec Rows.fnExactIndexModuloRow = true :=
 V7 (V7 (V7 (V7 (V7 (V7 (V7 (V7 (V7 (V7 (V7 (V7 (V7 (V7 (V7 (V7 (V7 (V7 (V7 (V7 (V7 (V7 (V7 (V7 (V7 (V7 (V7 (V7 (V7 (V7 (V7 ((by kernel_rfl)) W0j) Q0k) (by kernel_rfl)) (by kernel_rfl)) (by kernel_rfl)) (by kernel_rfl)) (by kernel_rfl)) (by kernel_rfl)) w10) w11) w12) w13) (by kernel_rfl)) (by kernel_rfl)) (by kernel_rfl)) (by kernel_rfl)) (by kernel_rfl)) (by kernel_rfl)) (by kernel_rfl)) (by kernel_rfl)) (by kernel_rfl)) S0k) (by kernel_rfl)) n0k) o0k) R0k) w28) (by kernel_rfl)) (by kernel_rfl)) (by kernel_rfl)) (by kernel_rfl)
theorem proved : Rows.FnExactIndexModuloSaid :=
 OpenClaim.holds_of_wide 10 Tryz.f10 rfl rfl rfl rfl rfl rfl rfl ⟨rfl, rfl, rfl, rfl, rfl⟩ rfl rfl rfl rfl rfl (by kernel_rfl) Tryz.func10 closed
  (of_decide_eq_true (by kernel_rfl)) (by unfold Func.isWrapper; first | (rw [if_pos (by decide +kernel)]; kernel_rfl) | (rw [if_neg (by decide +kernel)]; exact ⟨rfl, rfl⟩))
  (fun os started H enc _ => P0k os started H enc)
end Go.Proofs.YtfdlgbfeceodeaaGreat.rFnExactIndexModulo
