/- ConjugacyClasses, for every input: the law returns true and its arguments read as they did. -/
import Derived.Test.YtkjhghloldgioaaGreatRows
import Derived.Test.YtkjhghloldgioaaGreatZ
import Derived.Test.YtkjhghloldgioaaGreatLConjugacyClasses
namespace Go.Proofs.YtkjhghloldgioaaGreat.rFnExactConjugacyClasses
open Go.H Go.ChangeShapes Go.WideShapes Go.ChangeAt Go.RowKit Go.WideMaps Go.WideElems
open Go.ChangeMaps (open_string)
set_option linter.unusedVariables false
theorem own:ownKnob Tryz.prog.godebug=none:=by kernel_rfl
theorem S0l:laidOutB Tryz.prog=true:=U0l
theorem e0l:l00 Tryz.prog 3 Wp.int.toRp:=l00.int Tryz.underlying3
theorem g0n:l00 Tryz.prog 179 K1.toRp:=l00.struct Tryz.underlying179 (by kernel_rfl) (y04.cons rfl (by kernel_rfl) e0l (y04.cons rfl (by kernel_rfl) e0l (y04.one rfl (by kernel_rfl) e0l)))
theorem N0m:l00 Tryz.prog 39 M0.toRp:=l00.slice Tryz.underlying39 (by kernel_rfl) (by decide) g0n
theorem O0m:l00 Tryz.prog 41 Y0.toRp:=l00.struct Tryz.underlying41 (by kernel_rfl) (y04.cons rfl (by kernel_rfl) e0l (y04.cons rfl (by kernel_rfl) e0l (y04.one rfl (by kernel_rfl) N0m)))
theorem T0l:l00 Tryz.prog 92 C5.toRp:=l00.slice Tryz.underlying92 (by kernel_rfl) (by decide) O0m
set_option maxRecDepth 100000 in
theorem P0m(os:Os)(started:os.Started)(H:Type)(enc:TypeId×Value->H):
  ReturnsInHanded {} Tryz.checked os 12 .any (Rows.fnExactConjugacyClassesSpec.pre6 enc Tryz.prog Tryz.f12 Rows.fnExactConjugacyClassesRow.domain false) (Rows.fnExactConjugacyClassesSpec.post enc Tryz.prog Tryz.f12 false true false false):=by
 refine returnsInHanded_of_change (C:=Tryz.checked) own started (by kernel_rfl) Tryz.func12
  (ChangeSpec.witness6 (enc:=enc) (C:=Tryz.checked) false ⟨#[],#[.slice none 0 0],[]⟩ 8 (by kernel_rfl) (by kernel_rfl) (by kernel_rfl) (by kernel_rfl)) ?_
 intro W base args ds gs before hval0 hW hcnd _
 have hval:∀(j:Nat) t v,Tryz.f12.params[j]?=some t->args[j]?=some v->Value.okWide Tryz.prog W .any base t v:=hval0
 have hW':=hW
 obtain⟨p,q,hA0,hV,rfl,hfz,hnd⟩:=hW
 have hA:DataW.TrodAll enc Tryz.prog W 0 (λ_=>true) true Tryz.f12.params.toList args.toList ds p:=hA0
 rw[Tryz.params12]at hA hval
 obtain⟨v0,vs0,d0,ds0,p0,q0,hargs,rfl,rfl,h0,r0⟩:=trodAll_cons hA
 obtain⟨rfl,rfl,rfl⟩:=trodAll_nil r0
 obtain rfl:args = #[v0]:=by cases args;simp_all
 obtain⟨rfl,rfl⟩:=trodVars_none hV
 obtain⟨y0,R0⟩:=L0i T0l Tryz.underlying92 (hval 0 92 v0 rfl rfl) h0
 refine(Tr.calls (I04 (λb=>W.heap[b]?) v0 y0 R0)).mono λe W' ⟨he,hg,hz⟩=>?_
 exact⟨_,he,X0j S0l (by decide +kernel) rfl rfl (by kernel_rfl) Tryz.underlying4 hW' hg hz⟩
theorem w10:(Rows.fnExactConjugacyClassesRow.inPlace == Tryz.prog.inPlace 12)=true:=by kernel_rfl
theorem w11:(Rows.fnExactConjugacyClassesRow.unfollowed == Tryz.prog.unfollowed 12)=true:=by kernel_rfl
theorem w12:(Rows.fnExactConjugacyClassesRow.recurses == Tryz.prog.recurses 12)=true:=by kernel_rfl
theorem w13:(Rows.fnExactConjugacyClassesRow.named == Tryz.prog.varsNamed 12)=true:=by kernel_rfl
theorem w28:(Tryz.prog.make == some Rows.fnExactConjugacyClassesRow.make)=true:=by kernel_rfl
theorem closed:joinedFacts Tryz.prog 12 Tryz.f12 Rows.fnExactConjugacyClassesSpec Rows.fnExactConjugacyClassesRow=true :=
 g8 (g8 (g8 (g8 (g8 (g8 (g8 (g8 (g8 (g8 (g8 (g8 (g8 (g8 (g8 (g8 (g8 (g8 (g8 (g8 (g8 (g8 (g8 (g8 (g8 (g8 (g8 (g8 (g8 (g8 (g8 ((by kernel_rfl)) U0l) Q0m) (by kernel_rfl)) (by kernel_rfl)) (by kernel_rfl)) (by kernel_rfl)) (by kernel_rfl)) (by kernel_rfl)) w10) w11) w12) w13) (by kernel_rfl)) (by kernel_rfl)) (by kernel_rfl)) (by kernel_rfl)) (by kernel_rfl)) (by kernel_rfl)) (by kernel_rfl)) (by kernel_rfl)) (by kernel_rfl)) S0m) (by kernel_rfl)) o0m) p0m) R0m) w28) (by kernel_rfl)) (by kernel_rfl)) (by kernel_rfl)) (by kernel_rfl)
theorem proved:Rows.FnExactConjugacyClassesSaid :=
 OpenClaim.holds_of_wide 12 Tryz.f12 rfl rfl rfl rfl rfl rfl rfl ⟨rfl,rfl,rfl,rfl,rfl⟩ rfl rfl rfl rfl rfl (by kernel_rfl) Tryz.func12 closed
  (of_decide_eq_true (by kernel_rfl)) (by unfold Func.isWrapper;first|(rw[if_pos (by decide +kernel)];kernel_rfl)|(rw[if_neg (by decide +kernel)];exact⟨rfl,rfl⟩))
  (λos started H enc _=>P0m os started H enc)
end Go.Proofs.YtkjhghloldgioaaGreat.rFnExactConjugacyClasses
