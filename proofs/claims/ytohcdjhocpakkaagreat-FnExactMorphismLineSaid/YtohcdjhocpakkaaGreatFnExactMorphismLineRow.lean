/- MorphismLine, for every input: the law returns true and its arguments read as they did. -/
import Derived.Test.YtohcdjhocpakkaaGreatRows
import Derived.Test.YtohcdjhocpakkaaGreatZ
import Derived.Test.YtohcdjhocpakkaaGreatLMorphismLine
namespace Go.Proofs.YtohcdjhocpakkaaGreat.rFnExactMorphismLine
open Go.H Go.ChangeShapes Go.WideShapes Go.ChangeAt Go.RowKit Go.WideMaps Go.WideElems
open Go.ChangeMaps (open_string)
set_option linter.unusedVariables false
theorem own:ownKnob Tryz.prog.godebug=none:=by kernel_rfl
theorem M0r:laidOutB Tryz.prog=true:=N0r
theorem v0t:q02 Tryz.prog 3 Wp.int.toRp:=q02.int Tryz.underlying3
theorem w0t:q02 Tryz.prog 40 C0.toRp:=q02.slice Tryz.underlying40 (by kernel_rfl) (by decide) v0t
theorem R0s:q02 Tryz.prog 22 Y0.toRp:=q02.slice Tryz.underlying22 (by kernel_rfl) (by decide) w0t
theorem q0o:q02 Tryz.prog 24 D3.toRp:=q02.struct Tryz.underlying24 (by kernel_rfl) (B0c.cons rfl (by kernel_rfl) v0t (B0c.one rfl (by kernel_rfl) R0s))
set_option maxRecDepth 100000 in
theorem S0s(os:Os)(x:os.Started)(H:Type)(enc:TypeId×Value->H):
  ReturnsInHanded {} Tryz.checked os 3 .any (Rows.fnExactMorphismLineSpec.pre6 enc Tryz.prog Tryz.f3 Rows.fnExactMorphismLineRow.domain false) (Rows.fnExactMorphismLineSpec.post enc Tryz.prog Tryz.f3 false true false false):=by
 refine returnsInHanded_of_change (C:=Tryz.checked) own x (by kernel_rfl) Tryz.func3
  (ChangeSpec.witness6 (enc:=enc) (C:=Tryz.checked) false ⟨#[],#[.agg #[.int .i64 0,.slice none 0 0]],[]⟩ 8 (by kernel_rfl) (by kernel_rfl) (by kernel_rfl) (by kernel_rfl)) ?_
 intro a base args ds gs A s d F _
 have f:∀(j:Nat) t v,Tryz.f3.params[j]?=some t->args[j]?=some v->Value.okWide Tryz.prog a .any base t v:=s
 have m:=d
 obtain⟨p,q,k,l,rfl,G,I⟩:=d
 have c:DataW.TrodAll enc Tryz.prog a 0 (λ_=>true) true Tryz.f3.params.toList args.toList ds p:=k
 rw[Tryz.params3]at c f
 obtain⟨g,L,d0,D,J,K,E,rfl,rfl,h0,w⟩:=trodAll_cons c
 obtain⟨rfl,rfl,rfl⟩:=trodAll_nil w
 obtain rfl:args = #[g]:=by cases args;simp_all
 obtain⟨rfl,rfl⟩:=trodVars_none l
 obtain⟨i,y,rfl,h⟩:=b0l q0o Tryz.underlying24 (f 0 24 g rfl rfl) h0
 refine(Tr.calls (h0b (λb=>a.heap[b]?) i y h)).mono λe z ⟨n,o,u⟩=>?_
 exact⟨_,n,b0p M0r (by decide +kernel) rfl rfl (by kernel_rfl) Tryz.underlying4 m o u⟩
theorem w10:(Rows.fnExactMorphismLineRow.inPlace == Tryz.prog.inPlace 3)=true:=by kernel_rfl
theorem w11:(Rows.fnExactMorphismLineRow.unfollowed == Tryz.prog.unfollowed 3)=true:=by kernel_rfl
theorem w12:(Rows.fnExactMorphismLineRow.recurses == Tryz.prog.recurses 3)=true:=by kernel_rfl
theorem w13:(Rows.fnExactMorphismLineRow.named == Tryz.prog.varsNamed 3)=true:=by kernel_rfl
theorem w28:(Tryz.prog.make == some Rows.fnExactMorphismLineRow.make)=true:=by kernel_rfl
theorem closed:joinedFacts Tryz.prog 3 Tryz.f3 Rows.fnExactMorphismLineSpec Rows.fnExactMorphismLineRow=true :=
 I9 (I9 (I9 (I9 (I9 (I9 (I9 (I9 (I9 (I9 (I9 (I9 (I9 (I9 (I9 (I9 (I9 (I9 (I9 (I9 (I9 (I9 (I9 (I9 (I9 (I9 (I9 (I9 (I9 (I9 (I9 ((by kernel_rfl)) N0r) U0s) (by kernel_rfl)) (by kernel_rfl)) (by kernel_rfl)) (by kernel_rfl)) (by kernel_rfl)) (by kernel_rfl)) w10) w11) w12) w13) (by kernel_rfl)) (by kernel_rfl)) (by kernel_rfl)) (by kernel_rfl)) (by kernel_rfl)) (by kernel_rfl)) (by kernel_rfl)) (by kernel_rfl)) (by kernel_rfl)) W0s) (by kernel_rfl)) d0s) e0s) V0s) w28) (by kernel_rfl)) (by kernel_rfl)) (by kernel_rfl)) (by kernel_rfl)
theorem proved:Rows.FnExactMorphismLineSaid :=
 OpenClaim.holds_of_wide 3 Tryz.f3 rfl rfl rfl rfl rfl rfl rfl ⟨rfl,rfl,rfl,rfl,rfl⟩ rfl rfl rfl rfl rfl (by kernel_rfl) Tryz.func3 closed
  (of_decide_eq_true (by kernel_rfl)) (by unfold Func.isWrapper;first|(rw[if_pos (by decide +kernel)];kernel_rfl)|(rw[if_neg (by decide +kernel)];exact⟨rfl,rfl⟩))
  (λos a H enc _=>S0s os a H enc)
end Go.Proofs.YtohcdjhocpakkaaGreat.rFnExactMorphismLine
