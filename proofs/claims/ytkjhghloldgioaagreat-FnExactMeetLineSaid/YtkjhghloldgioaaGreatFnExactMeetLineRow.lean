/- MeetLine, for every input: the law returns true and its arguments read as they did. -/
import Derived.Test.YtkjhghloldgioaaGreatRows
import Derived.Test.YtkjhghloldgioaaGreatZ
import Derived.Test.YtkjhghloldgioaaGreatLMeetLine
namespace Go.Proofs.YtkjhghloldgioaaGreat.rFnExactMeetLine
open Go.H Go.ChangeShapes Go.WideShapes Go.ChangeAt Go.RowKit Go.WideMaps Go.WideElems
open Go.ChangeMaps (open_string)
set_option linter.unusedVariables false
theorem own:ownKnob Tryz.prog.godebug=none:=by kernel_rfl
theorem y0s:laidOutB Tryz.prog=true:=z0s
theorem z0r:i02 Tryz.prog 3 Wp.int.toRp:=i02.int Tryz.underlying3
theorem Z0t:i02 Tryz.prog 179 H1.toRp:=i02.struct Tryz.underlying179 (by kernel_rfl) (Y06.cons rfl (by kernel_rfl) z0r (Y06.cons rfl (by kernel_rfl) z0r (Y06.one rfl (by kernel_rfl) z0r)))
theorem F0t:i02 Tryz.prog 39 S0.toRp:=i02.slice Tryz.underlying39 (by kernel_rfl) (by decide) Z0t
theorem A0r:i02 Tryz.prog 41 V0.toRp:=i02.struct Tryz.underlying41 (by kernel_rfl) (Y06.cons rfl (by kernel_rfl) z0r (Y06.cons rfl (by kernel_rfl) z0r (Y06.one rfl (by kernel_rfl) F0t)))
set_option maxRecDepth 100000 in
theorem G0t(os:Os)(E:os.Started)(H:Type)(enc:TypeId×Value->H):
  ReturnsInHanded {} Tryz.checked os 13 .any (Rows.fnExactMeetLineSpec.pre6 enc Tryz.prog Tryz.f13 Rows.fnExactMeetLineRow.domain false) (Rows.fnExactMeetLineSpec.post enc Tryz.prog Tryz.f13 false true false false):=by
 refine returnsInHanded_of_change (C:=Tryz.checked) own E (by kernel_rfl) Tryz.func13
  (ChangeSpec.witness6 (enc:=enc) (C:=Tryz.checked) false ⟨#[],#[.agg #[.int .i64 0,.int .i64 0,.slice none 0 0],.agg #[.int .i64 0,.int .i64 0,.slice none 0 0]],[]⟩ 8 (by kernel_rfl) (by kernel_rfl) (by kernel_rfl) (by kernel_rfl)) ?_
 intro a base args ds N J y f P _
 have c:∀(j:Nat) t v,Tryz.f13.params[j]?=some t->args[j]?=some v->Value.okWide Tryz.prog a .any base t v:=y
 have u:=f
 obtain⟨p,q,o,s,rfl,Q,R⟩:=f
 have d:DataW.TrodAll enc Tryz.prog a 0 (λ_=>true) true Tryz.f13.params.toList args.toList ds p:=o
 rw[Tryz.params13]at d c
 obtain⟨g,W,d0,L,S,U,O,rfl,rfl,h0,A⟩:=trodAll_cons d
 obtain⟨h,X,K,M,T,V,rfl,rfl,rfl,n,D⟩:=trodAll_cons A
 obtain⟨rfl,rfl,rfl⟩:=trodAll_nil D
 obtain rfl:args = #[g,h]:=by cases args;simp_all
 obtain⟨rfl,rfl⟩:=trodVars_none s
 obtain⟨l,F,rfl,i⟩:=Z0d A0r Tryz.underlying41 (c 0 41 g rfl rfl) h0
 obtain⟨m,G,rfl,k⟩:=Z0d A0r Tryz.underlying41 (c 1 41 h rfl rfl) n
 refine(Tr.calls (c0g (λb=>a.heap[b]?) l F i m G k)).mono λe I ⟨w,x,z⟩=>?_
 exact⟨_,w,F0p y0s (by decide +kernel) rfl rfl (by kernel_rfl) Tryz.underlying4 u x z⟩
theorem w10:(Rows.fnExactMeetLineRow.inPlace == Tryz.prog.inPlace 13)=true:=by kernel_rfl
theorem w11:(Rows.fnExactMeetLineRow.unfollowed == Tryz.prog.unfollowed 13)=true:=by kernel_rfl
theorem w12:(Rows.fnExactMeetLineRow.recurses == Tryz.prog.recurses 13)=true:=by kernel_rfl
theorem w13:(Rows.fnExactMeetLineRow.named == Tryz.prog.varsNamed 13)=true:=by kernel_rfl
theorem w28:(Tryz.prog.make == some Rows.fnExactMeetLineRow.make)=true:=by kernel_rfl
theorem closed:joinedFacts Tryz.prog 13 Tryz.f13 Rows.fnExactMeetLineSpec Rows.fnExactMeetLineRow=true :=
 Y9 (Y9 (Y9 (Y9 (Y9 (Y9 (Y9 (Y9 (Y9 (Y9 (Y9 (Y9 (Y9 (Y9 (Y9 (Y9 (Y9 (Y9 (Y9 (Y9 (Y9 (Y9 (Y9 (Y9 (Y9 (Y9 (Y9 (Y9 (Y9 (Y9 (Y9 ((by kernel_rfl)) z0s) H0t) (by kernel_rfl)) (by kernel_rfl)) (by kernel_rfl)) (by kernel_rfl)) (by kernel_rfl)) (by kernel_rfl)) w10) w11) w12) w13) (by kernel_rfl)) (by kernel_rfl)) (by kernel_rfl)) (by kernel_rfl)) (by kernel_rfl)) (by kernel_rfl)) (by kernel_rfl)) (by kernel_rfl)) (by kernel_rfl)) J0t) (by kernel_rfl)) X0s) Y0s) I0t) w28) (by kernel_rfl)) (by kernel_rfl)) (by kernel_rfl)) (by kernel_rfl)
theorem proved:Rows.FnExactMeetLineSaid :=
 OpenClaim.holds_of_wide 13 Tryz.f13 rfl rfl rfl rfl rfl rfl rfl ⟨rfl,rfl,rfl,rfl,rfl⟩ rfl rfl rfl rfl rfl (by kernel_rfl) Tryz.func13 closed
  (of_decide_eq_true (by kernel_rfl)) (by unfold Func.isWrapper;first|(rw[if_pos (by decide +kernel)];kernel_rfl)|(rw[if_neg (by decide +kernel)];exact⟨rfl,rfl⟩))
  (λos a H enc _=>G0t os a H enc)
end Go.Proofs.YtkjhghloldgioaaGreat.rFnExactMeetLine
