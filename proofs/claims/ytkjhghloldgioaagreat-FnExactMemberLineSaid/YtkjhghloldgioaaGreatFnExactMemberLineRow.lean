/- MemberLine, for every input: the law returns true and its arguments read as they did. -/
import Derived.Test.YtkjhghloldgioaaGreatRows
import Derived.Test.YtkjhghloldgioaaGreatZ
import Derived.Test.YtkjhghloldgioaaGreatLMemberLine
namespace Go.Proofs.YtkjhghloldgioaaGreat.rFnExactMemberLine
open Go.H Go.ChangeShapes Go.WideShapes Go.ChangeAt Go.RowKit Go.WideMaps Go.WideElems
open Go.ChangeMaps (open_string)
set_option linter.unusedVariables false
theorem own:ownKnob Tryz.prog.godebug=none:=by kernel_rfl
theorem Z0o:laidOutB Tryz.prog=true:=a0p
theorem v0m:w00 Tryz.prog 3 Wp.int.toRp:=w00.int Tryz.underlying3
theorem F0q:w00 Tryz.prog 179 Z0.toRp:=w00.struct Tryz.underlying179 (by kernel_rfl) (Q05.cons rfl (by kernel_rfl) v0m (Q05.cons rfl (by kernel_rfl) v0m (Q05.one rfl (by kernel_rfl) v0m)))
theorem j0q:w00 Tryz.prog 39 K0.toRp:=w00.slice Tryz.underlying39 (by kernel_rfl) (by decide) F0q
theorem k0q:w00 Tryz.prog 41 Y0.toRp:=w00.struct Tryz.underlying41 (by kernel_rfl) (Q05.cons rfl (by kernel_rfl) v0m (Q05.cons rfl (by kernel_rfl) v0m (Q05.one rfl (by kernel_rfl) j0q)))
theorem G0q:w00 Tryz.prog 33 T0.toRp:=w00.slice Tryz.underlying33 (by kernel_rfl) (by decide) v0m
set_option maxRecDepth 100000 in
theorem l0q(os:Os)(D:os.Started)(H:Type)(enc:TypeId×Value->H):
  ReturnsInHanded {} Tryz.checked os 7 .any (Rows.fnExactMemberLineSpec.pre6 enc Tryz.prog Tryz.f7 Rows.fnExactMemberLineRow.domain false) (Rows.fnExactMemberLineSpec.post enc Tryz.prog Tryz.f7 false true false false):=by
 refine returnsInHanded_of_change (C:=Tryz.checked) own D (by kernel_rfl) Tryz.func7
  (ChangeSpec.witness6 (enc:=enc) (C:=Tryz.checked) false ⟨#[],#[.agg #[.int .i64 0,.int .i64 0,.slice none 0 0],.slice none 0 0],[]⟩ 8 (by kernel_rfl) (by kernel_rfl) (by kernel_rfl) (by kernel_rfl)) ?_
 intro a base args ds M I x g O _
 have c:∀(j:Nat) t v,Tryz.f7.params[j]?=some t->args[j]?=some v->Value.okWide Tryz.prog a .any base t v:=x
 have s:=g
 obtain⟨p,q,n,o,rfl,P,Q⟩:=g
 have f:DataW.TrodAll enc Tryz.prog a 0 (λ_=>true) true Tryz.f7.params.toList args.toList ds p:=n
 rw[Tryz.params7]at f c
 obtain⟨h,V,d0,K,R,T,N,rfl,rfl,h0,z⟩:=trodAll_cons f
 obtain⟨d,W,J,L,S,U,rfl,rfl,rfl,m,A⟩:=trodAll_cons z
 obtain⟨rfl,rfl,rfl⟩:=trodAll_nil A
 obtain rfl:args = #[h,d]:=by cases args;simp_all
 obtain⟨rfl,rfl⟩:=trodVars_none o
 obtain⟨l,E,rfl,i⟩:=j0j k0q Tryz.underlying41 (c 0 41 h rfl rfl) h0
 obtain⟨F,k⟩:=J0l G0q Tryz.underlying33 (c 1 33 d rfl rfl) m
 refine(Tr.calls (I0b (λb=>a.heap[b]?) l E i d F k)).mono λe G ⟨u,w,y⟩=>?_
 exact⟨_,u,g0n Z0o (by decide +kernel) rfl rfl (by kernel_rfl) Tryz.underlying4 s w y⟩
theorem w10:(Rows.fnExactMemberLineRow.inPlace == Tryz.prog.inPlace 7)=true:=by kernel_rfl
theorem w11:(Rows.fnExactMemberLineRow.unfollowed == Tryz.prog.unfollowed 7)=true:=by kernel_rfl
theorem w12:(Rows.fnExactMemberLineRow.recurses == Tryz.prog.recurses 7)=true:=by kernel_rfl
theorem w13:(Rows.fnExactMemberLineRow.named == Tryz.prog.varsNamed 7)=true:=by kernel_rfl
theorem w28:(Tryz.prog.make == some Rows.fnExactMemberLineRow.make)=true:=by kernel_rfl
theorem closed:joinedFacts Tryz.prog 7 Tryz.f7 Rows.fnExactMemberLineSpec Rows.fnExactMemberLineRow=true :=
 W8 (W8 (W8 (W8 (W8 (W8 (W8 (W8 (W8 (W8 (W8 (W8 (W8 (W8 (W8 (W8 (W8 (W8 (W8 (W8 (W8 (W8 (W8 (W8 (W8 (W8 (W8 (W8 (W8 (W8 (W8 ((by kernel_rfl)) a0p) m0q) (by kernel_rfl)) (by kernel_rfl)) (by kernel_rfl)) (by kernel_rfl)) (by kernel_rfl)) (by kernel_rfl)) w10) w11) w12) w13) (by kernel_rfl)) (by kernel_rfl)) (by kernel_rfl)) (by kernel_rfl)) (by kernel_rfl)) (by kernel_rfl)) (by kernel_rfl)) (by kernel_rfl)) (by kernel_rfl)) o0q) (by kernel_rfl)) F0p) G0p) n0q) w28) (by kernel_rfl)) (by kernel_rfl)) (by kernel_rfl)) (by kernel_rfl)
theorem proved:Rows.FnExactMemberLineSaid :=
 OpenClaim.holds_of_wide 7 Tryz.f7 rfl rfl rfl rfl rfl rfl rfl ⟨rfl,rfl,rfl,rfl,rfl⟩ rfl rfl rfl rfl rfl (by kernel_rfl) Tryz.func7 closed
  (of_decide_eq_true (by kernel_rfl)) (by unfold Func.isWrapper;first|(rw[if_pos (by decide +kernel)];kernel_rfl)|(rw[if_neg (by decide +kernel)];exact⟨rfl,rfl⟩))
  (λos a H enc _=>l0q os a H enc)
end Go.Proofs.YtkjhghloldgioaaGreat.rFnExactMemberLine
