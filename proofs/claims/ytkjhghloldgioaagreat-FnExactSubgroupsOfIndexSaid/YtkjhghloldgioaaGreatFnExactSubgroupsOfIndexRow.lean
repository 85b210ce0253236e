/- SubgroupsOfIndex, for every input: the law returns true and its arguments read as they did. -/
import Derived.Test.YtkjhghloldgioaaGreatRows
import Derived.Test.YtkjhghloldgioaaGreatZ
import Derived.Test.YtkjhghloldgioaaGreatLSubgroupsOfIndex
namespace Go.Proofs.YtkjhghloldgioaaGreat.rFnExactSubgroupsOfIndex
open Go.H Go.ChangeShapes Go.WideShapes Go.ChangeAt Go.RowKit Go.WideMaps Go.WideElems
open Go.ChangeMaps (open_string)
set_option linter.unusedVariables false
theorem own:ownKnob Tryz.prog.godebug=none:=by kernel_rfl
theorem m0c:laidOutB Tryz.prog=true:=n0c
set_option maxRecDepth 100000 in
theorem Y0c(os:Os)(started:os.Started)(H:Type)(enc:TypeId×Value->H):
  ReturnsInHanded {} Tryz.checked os 11 .any (Rows.fnExactSubgroupsOfIndexSpec.pre6 enc Tryz.prog Tryz.f11 Rows.fnExactSubgroupsOfIndexRow.domain false) (Rows.fnExactSubgroupsOfIndexSpec.post enc Tryz.prog Tryz.f11 false true false false):=by
 refine returnsInHanded_of_change (C:=Tryz.checked) own started (by kernel_rfl) Tryz.func11
  (ChangeSpec.witness6 (enc:=enc) (C:=Tryz.checked) false ⟨#[],#[.int .i64 0,.int .i64 0],[]⟩ 8 (by kernel_rfl) (by kernel_rfl) (by kernel_rfl) (by kernel_rfl)) ?_
 intro W base args ds gs before hval0 hW hcnd _
 have hval:∀(j:Nat) t v,Tryz.f11.params[j]?=some t->args[j]?=some v->Value.okWide Tryz.prog W .any base t v:=hval0
 have hW':=hW
 obtain⟨p,q,hA0,hV,rfl,hfz,hnd⟩:=hW
 have hA:DataW.TrodAll enc Tryz.prog W 0 (λ_=>true) true Tryz.f11.params.toList args.toList ds p:=hA0
 rw[Tryz.params11]at hA hval
 obtain⟨v0,vs0,d0,ds0,p0,q0,hargs,rfl,rfl,h0,r0⟩:=trodAll_cons hA
 obtain⟨v1,vs1,d1,ds1,p1,q1,rfl,rfl,rfl,h1,r1⟩:=trodAll_cons r0
 obtain⟨rfl,rfl,rfl⟩:=trodAll_nil r1
 obtain rfl:args = #[v0,v1]:=by cases args;simp_all
 obtain⟨rfl,rfl⟩:=trodVars_none hV
 obtain⟨a0,rfl,rfl,rfl,w0⟩:=open_int Tryz.underlying3 (hval 0 3 v0 rfl rfl) h0
 obtain⟨a1,rfl,rfl,rfl,w1⟩:=open_int Tryz.underlying3 (hval 1 3 v1 rfl rfl) h1
 refine(Tr.calls (H01 (λb=>W.heap[b]?) a0 (I0c w0) a1 (I0c w1))).mono λe W' ⟨he,hg,hz⟩=>?_
 exact⟨_,he,u0b m0c (by decide +kernel) rfl rfl (by kernel_rfl) Tryz.underlying4 hW' hg hz⟩
theorem w10:(Rows.fnExactSubgroupsOfIndexRow.inPlace == Tryz.prog.inPlace 11)=true:=by kernel_rfl
theorem w11:(Rows.fnExactSubgroupsOfIndexRow.unfollowed == Tryz.prog.unfollowed 11)=true:=by kernel_rfl
theorem w12:(Rows.fnExactSubgroupsOfIndexRow.recurses == Tryz.prog.recurses 11)=true:=by kernel_rfl
theorem w13:(Rows.fnExactSubgroupsOfIndexRow.named == Tryz.prog.varsNamed 11)=true:=by kernel_rfl
theorem w28:(Tryz.prog.make == some Rows.fnExactSubgroupsOfIndexRow.make)=true:=by kernel_rfl
theorem Z0c:joinedFacts Tryz.prog 11 Tryz.f11 Rows.fnExactSubgroupsOfIndexSpec Rows.fnExactSubgroupsOfIndexRow=true :=
 C5 (C5 (C5 (C5 (C5 (C5 (C5 (C5 (C5 (C5 (C5 (C5 (C5 (C5 (C5 (C5 (C5 (C5 (C5 (C5 (C5 (C5 (C5 (C5 (C5 (C5 (C5 (C5 (C5 (C5 (C5 ((by kernel_rfl)) n0c) a0d) (by kernel_rfl)) (by kernel_rfl)) (by kernel_rfl)) (by kernel_rfl)) (by kernel_rfl)) (by kernel_rfl)) w10) w11) w12) w13) (by kernel_rfl)) (by kernel_rfl)) (by kernel_rfl)) (by kernel_rfl)) (by kernel_rfl)) (by kernel_rfl)) (by kernel_rfl)) (by kernel_rfl)) (by kernel_rfl)) c0d) (by kernel_rfl)) w0c) x0c) b0d) w28) (by kernel_rfl)) (by kernel_rfl)) (by kernel_rfl)) (by kernel_rfl)
theorem proved:Rows.FnExactSubgroupsOfIndexSaid :=
 OpenClaim.holds_of_wide 11 Tryz.f11 rfl rfl rfl rfl rfl rfl rfl ⟨rfl,rfl,rfl,rfl,rfl⟩ rfl rfl rfl rfl rfl (by kernel_rfl) Tryz.func11 Z0c
  (of_decide_eq_true (by kernel_rfl)) (by unfold Func.isWrapper;first|(rw[if_pos (by decide +kernel)];kernel_rfl)|(rw[if_neg (by decide +kernel)];exact⟨rfl,rfl⟩))
  (λos started H enc _=>Y0c os started H enc)
end Go.Proofs.YtkjhghloldgioaaGreat.rFnExactSubgroupsOfIndex
