/- DropEntry, for every input: the law returns true and its arguments read as they did. -/
import Derived.Test.YtfdlgbfeceodeaaGreatRows
import Derived.Test.YtfdlgbfeceodeaaGreatZ
import Derived.Test.YtfdlgbfeceodeaaGreatLDropEntry
namespace Go.Proofs.YtfdlgbfeceodeaaGreat.rFnExactDropEntry
open Go.H Go.ChangeShapes Go.WideShapes Go.ChangeAt Go.RowKit Go.WideMaps Go.WideElems
open Go.ChangeMaps (open_string)
set_option linter.unusedVariables false
theorem own : ownKnob Tryz.prog.godebug = none := by kernel_rfl
theorem H0f : laidOutB Tryz.prog = true := J0f
theorem y0d : A6 Tryz.prog 3 Wp.int.toRp := A6.int Tryz.underlying3
theorem d0h : A6 Tryz.prog 9 Wp.str.toRp := A6.str Tryz.underlying9
theorem Y0g : A6 Tryz.prog 137 M0.toRp := A6.struct Tryz.underlying137 (by kernel_rfl) (e00.cons rfl (by kernel_rfl) y0d (e00.cons rfl (by kernel_rfl) y0d (e00.one rfl (by kernel_rfl) y0d)))
theorem B0g : A6 Tryz.prog 35 I0.toRp := A6.slice Tryz.underlying35 (by kernel_rfl) (by decide) Y0g
theorem C0g : A6 Tryz.prog 37 A2.toRp := A6.struct Tryz.underlying37 (by kernel_rfl) (e00.cons rfl (by kernel_rfl) y0d (e00.cons rfl (by kernel_rfl) y0d (e00.one rfl (by kernel_rfl) B0g)))
theorem D0g : A6 Tryz.prog 133 H1.toRp := A6.struct Tryz.underlying133 (by kernel_rfl) (e00.cons rfl (by kernel_rfl) d0h (e00.one rfl (by kernel_rfl) C0g))
theorem I0f : A6 Tryz.prog 22 U2.toRp := A6.slice Tryz.underlying22 (by kernel_rfl) (by decide) D0g
theorem T0e : A6 Tryz.prog 24 E1.toRp := A6.struct Tryz.underlying24 (by kernel_rfl) (e00.cons rfl (by kernel_rfl) y0d (e00.one rfl (by kernel_rfl) I0f))
set_option maxRecDepth 100000 in
theorem E0g (os : Os) (started : os.Started) (H : Type) (enc : TypeId × Value → H) :
  ReturnsInHanded {} Tryz.checked os 3 .any (Rows.fnExactDropEntrySpec.pre6 enc Tryz.prog Tryz.f3 Rows.fnExactDropEntryRow.domain false) (Rows.fnExactDropEntrySpec.post enc Tryz.prog Tryz.f3 false true false false) := by
 refine returnsInHanded_of_change (C := Tryz.checked) own started (by kernel_rfl) Tryz.func3
  (ChangeSpec.witness6 (enc := enc) (C := Tryz.checked) false ⟨#[], #[.agg #[.int .i64 0, .slice none 0 0], .string ⟨#[]⟩], []⟩ 8 (by kernel_rfl) (by kernel_rfl) (by kernel_rfl) (by kernel_rfl)) ?_
 intro W base args ds gs before hval0 hW hcnd _
 have hval : ∀ (j : Nat) t v, Tryz.f3.params[j]? = some t → args[j]? = some v → Value.okWide Tryz.prog W .any base t v := hval0
 have hW' := hW
 obtain ⟨p, q, hA0, hV, rfl, hfz, hnd⟩ := hW
 have hA : DataW.TrodAll enc Tryz.prog W 0 (fun _ => true) true Tryz.f3.params.toList args.toList ds p := hA0
 rw [Tryz.params3] at hA hval
 obtain ⟨v0, vs0, d0, ds0, p0, q0, hargs, rfl, rfl, h0, r0⟩ := trodAll_cons hA
 obtain ⟨v1, vs1, d1, ds1, p1, q1, rfl, rfl, rfl, h1, r1⟩ := trodAll_cons r0
 obtain ⟨rfl, rfl, rfl⟩ := trodAll_nil r1
 obtain rfl : args = #[v0, v1] := by cases args; simp_all
 obtain ⟨rfl, rfl⟩ := trodVars_none hV
 obtain ⟨e0, y0, rfl, R0⟩ := V0a T0e Tryz.underlying24 (hval 0 24 v0 rfl rfl) h0
 obtain ⟨a1, rfl, rfl, rfl, w1⟩ := open_string Tryz.underlying9 (hval 1 9 v1 rfl rfl) h1
 refine (Tr.calls (q07 (fun b => W.heap[b]?) e0 y0 R0 a1 (T0a w1))).mono fun e W' ⟨he, hg, hz⟩ => ?_
 exact ⟨_, he, g0e H0f (by decide +kernel) rfl rfl (by kernel_rfl) Tryz.underlying4 hW' hg hz⟩
theorem w10 : (Rows.fnExactDropEntryRow.inPlace == Tryz.prog.inPlace 3) = true := by kernel_rfl
theorem w11 : (Rows.fnExactDropEntryRow.unfollowed == Tryz.prog.unfollowed 3) = true := by kernel_rfl
theorem w12 : (Rows.fnExactDropEntryRow.recurses == Tryz.prog.recurses 3) = true := by kernel_rfl
theorem w13 : (Rows.fnExactDropEntryRow.named == Tryz.prog.varsNamed 3) = true := by kernel_rfl
theorem w28 : (Tryz.prog.make == some Rows.fnExactDropEntryRow.make) = true := by kernel_rfl
theorem closed : joinedFacts Tryz.prog 3 Tryz.f3 Rows.fnExactDropEntrySpec Rows.fnExactDropEntryRow = true :=
 j6 (j6 (j6 (j6 (j6 (j6 (j6 (j6 (j6 (j6 (j6 (j6 (j6 (j6 (j6 (j6 (j6 (j6 (j6 (j6 (j6 (j6 (j6 (j6 (j6 (j6 (j6 (j6 (j6 (j6 (j6 ((by kernel_rfl)) J0f) F0g) (by kernel_rfl)) (by kernel_rfl)) (by kernel_rfl)) (by kernel_rfl)) (by kernel_rfl)) (by kernel_rfl)) w10) w11) w12) w13) (by kernel_rfl)) (by kernel_rfl)) (by kernel_rfl)) (by kernel_rfl)) (by kernel_rfl)) (by kernel_rfl)) (by kernel_rfl)) (by kernel_rfl)) (by kernel_rfl)) H0g) (by kernel_rfl)) a0g) b0g) G0g) w28) (by kernel_rfl)) (by kernel_rfl)) (by kernel_rfl)) (by kernel_rfl)
theorem proved : Rows.FnExactDropEntrySaid :=
 OpenClaim.holds_of_wide 3 Tryz.f3 rfl rfl rfl rfl rfl rfl rfl ⟨rfl, rfl, rfl, rfl, rfl⟩ rfl rfl rfl rfl rfl (by kernel_rfl) Tryz.func3 closed
  (of_decide_eq_true (by kernel_rfl)) (by unfold Func.isWrapper; first | (rw [if_pos (by decide +kernel)]; kernel_rfl) | (rw [if_neg (by decide +kernel)]; exact ⟨rfl, rfl⟩))
  (fun os started H enc _ => E0g os started H enc)
end Go.Proofs.YtfdlgbfeceodeaaGreat.rFnExactDropEntry
