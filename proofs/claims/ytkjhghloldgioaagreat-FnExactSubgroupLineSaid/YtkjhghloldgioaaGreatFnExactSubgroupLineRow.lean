/- SubgroupLine, for every input: the law returns true and its arguments read as they did. -/
import Derived.Test.YtkjhghloldgioaaGreatRows
import Derived.Test.YtkjhghloldgioaaGreatZ
import Derived.Test.YtkjhghloldgioaaGreatLSubgroupLine
namespace Go.Proofs.YtkjhghloldgioaaGreat.rFnExactSubgroupLine
open Go.H Go.ChangeShapes Go.WideShapes Go.ChangeAt Go.RowKit Go.WideMaps Go.WideElems
open Go.ChangeMaps (open_string)
set_option linter.unusedVariables false
theorem own:ownKnob Tryz.prog.godebug=none:=by kernel_rfl
theorem N0q:laidOutB Tryz.prog=true:=O0q
theorem X0p:i02 Tryz.prog 3 Wp.int.toRp:=i02.int Tryz.underlying3
theorem m0s:i02 Tryz.prog 179 E1.toRp:=i02.struct Tryz.underlying179 (by kernel_rfl) (G06.cons rfl (by kernel_rfl) X0p (G06.cons rfl (by kernel_rfl) X0p (G06.one rfl (by kernel_rfl) X0p)))
theorem R0r:i02 Tryz.prog 39 O0.toRp:=i02.slice Tryz.underlying39 (by kernel_rfl) (by decide) m0s
theorem S0r:i02 Tryz.prog 41 Z0.toRp:=i02.struct Tryz.underlying41 (by kernel_rfl) (G06.cons rfl (by kernel_rfl) X0p (G06.cons rfl (by kernel_rfl) X0p (G06.one rfl (by kernel_rfl) R0r)))
set_option maxRecDepth 100000 in
theorem T0r(os:Os)(started:os.Started)(H:Type)(enc:TypeId×Value->H):
  ReturnsInHanded {} Tryz.checked os 8 .any (Rows.fnExactSubgroupLineSpec.pre6 enc Tryz.prog Tryz.f8 Rows.fnExactSubgroupLineRow.domain false) (Rows.fnExactSubgroupLineSpec.post enc Tryz.prog Tryz.f8 false true false false):=by
 refine returnsInHanded_of_change (C:=Tryz.checked) own started (by kernel_rfl) Tryz.func8
  (ChangeSpec.witness6 (enc:=enc) (C:=Tryz.checked) false ⟨#[],#[.agg #[.int .i64 0,.int .i64 0,.slice none 0 0]],[]⟩ 8 (by kernel_rfl) (by kernel_rfl) (by kernel_rfl) (by kernel_rfl)) ?_
 intro W base args ds gs before hval0 hW hcnd _
 have hval:∀(j:Nat) t v,Tryz.f8.params[j]?=some t->args[j]?=some v->Value.okWide Tryz.prog W .any base t v:=hval0
 have hW':=hW
 obtain⟨p,q,hA0,hV,rfl,hfz,hnd⟩:=hW
 have hA:DataW.TrodAll enc Tryz.prog W 0 (λ_=>true) true Tryz.f8.params.toList args.toList ds p:=hA0
 rw[Tryz.params8]at hA hval
 obtain⟨v0,vs0,d0,ds0,p0,q0,hargs,rfl,rfl,h0,r0⟩:=trodAll_cons hA
 obtain⟨rfl,rfl,rfl⟩:=trodAll_nil r0
 obtain rfl:args = #[v0]:=by cases args;simp_all
 obtain⟨rfl,rfl⟩:=trodVars_none hV
 obtain⟨e0,y0,rfl,R0⟩:=t0k S0r Tryz.underlying41 (hval 0 41 v0 rfl rfl) h0
 refine(Tr.calls (C0a (λb=>W.heap[b]?) e0 y0 R0)).mono λe W' ⟨he,hg,hz⟩=>?_
 exact⟨_,he,w0o N0q (by decide +kernel) rfl rfl (by kernel_rfl) Tryz.underlying4 hW' hg hz⟩
theorem w10:(Rows.fnExactSubgroupLineRow.inPlace == Tryz.prog.inPlace 8)=true:=by kernel_rfl
theorem w11:(Rows.fnExactSubgroupLineRow.unfollowed == Tryz.prog.unfollowed 8)=true:=by kernel_rfl
theorem w12:(Rows.fnExactSubgroupLineRow.recurses == Tryz.prog.recurses 8)=true:=by kernel_rfl
theorem w13:(Rows.fnExactSubgroupLineRow.named == Tryz.prog.varsNamed 8)=true:=by kernel_rfl
theorem w28:(Tryz.prog.make == some Rows.fnExactSubgroupLineRow.make)=true:=by kernel_rfl
theorem closed:joinedFacts Tryz.prog 8 Tryz.f8 Rows.fnExactSubgroupLineSpec Rows.fnExactSubgroupLineRow=true :=
 O9 (O9 (O9 (O9 (O9 (O9 (O9 (O9 (O9 (O9 (O9 (O9 (O9 (O9 (O9 (O9 (O9 (O9 (O9 (O9 (O9 (O9 (O9 (O9 (O9 (O9 (O9 (O9 (O9 (O9 (O9 ((by kernel_rfl)) O0q) U0r) (by kernel_rfl)) (by kernel_rfl)) (by kernel_rfl)) (by kernel_rfl)) (by kernel_rfl)) (by kernel_rfl)) w10) w11) w12) w13) (by kernel_rfl)) (by kernel_rfl)) (by kernel_rfl)) (by kernel_rfl)) (by kernel_rfl)) (by kernel_rfl)) (by kernel_rfl)) (by kernel_rfl)) (by kernel_rfl)) W0r) (by kernel_rfl)) o0r) p0r) V0r) w28) (by kernel_rfl)) (by kernel_rfl)) (by kernel_rfl)) (by kernel_rfl)
theorem proved:Rows.FnExactSubgroupLineSaid :=
 OpenClaim.holds_of_wide 8 Tryz.f8 rfl rfl rfl rfl rfl rfl rfl ⟨rfl,rfl,rfl,rfl,rfl⟩ rfl rfl rfl rfl rfl (by kernel_rfl) Tryz.func8 closed
  (of_decide_eq_true (by kernel_rfl)) (by unfold Func.isWrapper;first|(rw[if_pos (by decide +kernel)];kernel_rfl)|(rw[if_neg (by decide +kernel)];exact⟨rfl,rfl⟩))
  (λos started H enc _=>T0r os started H enc)
end Go.Proofs.YtkjhghloldgioaaGreat.rFnExactSubgroupLine
