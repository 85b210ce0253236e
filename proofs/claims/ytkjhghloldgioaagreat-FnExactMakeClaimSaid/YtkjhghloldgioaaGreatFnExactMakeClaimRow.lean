/- MakeClaim, for every input: the law returns true and its arguments read as they did. -/
import Derived.Test.YtkjhghloldgioaaGreatRows
import Derived.Test.YtkjhghloldgioaaGreatZ
import Derived.Test.YtkjhghloldgioaaGreatLMakeClaim
namespace Go.Proofs.YtkjhghloldgioaaGreat.rFnExactMakeClaim
open Go.H Go.ChangeShapes Go.WideShapes Go.ChangeAt Go.RowKit Go.WideMaps Go.WideElems
open Go.ChangeMaps (open_string)
set_option linter.unusedVariables false
theorem own:ownKnob Tryz.prog.godebug=none:=by kernel_rfl
theorem f0r:laidOutB Tryz.prog=true:=g0r
theorem T0s:V03 Tryz.prog 3 Wp.int.toRp:=V03.int Tryz.underlying3
theorem H0r:V03 Tryz.prog 33 M0.toRp:=V03.slice Tryz.underlying33 (by kernel_rfl) (by decide) T0s
theorem l0s:V03 Tryz.prog 38 Z1.toRp:=V03.slice Tryz.underlying38 (by kernel_rfl) (by decide) H0r
set_option maxRecDepth 100000 in
theorem m0s(os:Os)(K:os.Started)(H:Type)(enc:TypeId×Value->H):
  ReturnsInHanded {} Tryz.checked os 6 .any (Rows.fnExactMakeClaimSpec.pre6 enc Tryz.prog Tryz.f6 Rows.fnExactMakeClaimRow.domain false) (Rows.fnExactMakeClaimSpec.post enc Tryz.prog Tryz.f6 false true false false):=by
 refine returnsInHanded_of_change (C:=Tryz.checked) own K (by kernel_rfl) Tryz.func6
  (ChangeSpec.witness6 (enc:=enc) (C:=Tryz.checked) false ⟨#[],#[.int .i64 0,.int .i64 0,.slice none 0 0,.slice none 0 0],[]⟩ 8 (by kernel_rfl) (by kernel_rfl) (by kernel_rfl) (by kernel_rfl)) ?_
 intro c base args ds X P D h Z _
 have a:∀(j:Nat) t v,Tryz.f6.params[j]?=some t->args[j]?=some v->Value.okWide Tryz.prog c .any base t v:=D
 have z:=h
 obtain⟨p,q,x,y,rfl,aa,ab⟩:=h
 have g:DataW.TrodAll enc Tryz.prog c 0 (λ_=>true) true Tryz.f6.params.toList args.toList ds p:=x
 rw[Tryz.params6]at g a
 obtain⟨i,ak,d0,T,ac,ag,Y,rfl,rfl,h0,F⟩:=trodAll_cons g
 obtain⟨k,al,Q,U,ad,ah,rfl,rfl,rfl,s,G⟩:=trodAll_cons F
 obtain⟨d,am,R,V,ae,ai,rfl,rfl,rfl,u,I⟩:=trodAll_cons G
 obtain⟨f,an,S,W,af,aj,rfl,rfl,rfl,w,J⟩:=trodAll_cons I
 obtain⟨rfl,rfl,rfl⟩:=trodAll_nil J
 obtain rfl:args = #[i,k,d,f]:=by cases args;simp_all
 obtain⟨rfl,rfl⟩:=trodVars_none y
 obtain⟨n,rfl,rfl,rfl,w0⟩:=open_int Tryz.underlying3 (a 0 3 i rfl rfl) h0
 obtain⟨o,rfl,rfl,rfl,L⟩:=open_int Tryz.underlying3 (a 1 3 k rfl rfl) s
 obtain⟨M,l⟩:=P0g l0s Tryz.underlying38 (a 2 38 d rfl rfl) u
 obtain⟨N,m⟩:=P0g H0r Tryz.underlying33 (a 3 33 f rfl rfl) w
 refine(Tr.calls (d0g (λb=>c.heap[b]?) n (U0r w0) o (U0r L) d M l f N m)).mono λe O ⟨A,B,E⟩=>?_
 exact⟨_,A,h0p f0r (by decide +kernel) rfl rfl (by kernel_rfl) Tryz.underlying4 z B E⟩
theorem w10:(Rows.fnExactMakeClaimRow.inPlace == Tryz.prog.inPlace 6)=true:=by kernel_rfl
theorem w11:(Rows.fnExactMakeClaimRow.unfollowed == Tryz.prog.unfollowed 6)=true:=by kernel_rfl
theorem w12:(Rows.fnExactMakeClaimRow.recurses == Tryz.prog.recurses 6)=true:=by kernel_rfl
theorem w13:(Rows.fnExactMakeClaimRow.named == Tryz.prog.varsNamed 6)=true:=by kernel_rfl
theorem w28:(Tryz.prog.make == some Rows.fnExactMakeClaimRow.make)=true:=by kernel_rfl
theorem closed:joinedFacts Tryz.prog 6 Tryz.f6 Rows.fnExactMakeClaimSpec Rows.fnExactMakeClaimRow=true :=
 b00 (b00 (b00 (b00 (b00 (b00 (b00 (b00 (b00 (b00 (b00 (b00 (b00 (b00 (b00 (b00 (b00 (b00 (b00 (b00 (b00 (b00 (b00 (b00 (b00 (b00 (b00 (b00 (b00 (b00 (b00 ((by kernel_rfl)) g0r) n0s) (by kernel_rfl)) (by kernel_rfl)) (by kernel_rfl)) (by kernel_rfl)) (by kernel_rfl)) (by kernel_rfl)) w10) w11) w12) w13) (by kernel_rfl)) (by kernel_rfl)) (by kernel_rfl)) (by kernel_rfl)) (by kernel_rfl)) (by kernel_rfl)) (by kernel_rfl)) (by kernel_rfl)) (by kernel_rfl)) p0s) (by kernel_rfl)) I0r) J0r) o0s) w28) (by kernel_rfl)) (by kernel_rfl)) (by kernel_rfl)) (by kernel_rfl)
theorem proved:Rows.FnExactMakeClaimSaid :=
 OpenClaim.holds_of_wide 6 Tryz.f6 rfl rfl rfl rfl rfl rfl rfl ⟨rfl,rfl,rfl,rfl,rfl⟩ rfl rfl rfl rfl rfl (by kernel_rfl) Tryz.func6 closed
  (of_decide_eq_true (by kernel_rfl)) (by unfold Func.isWrapper;first|(rw[if_pos (by decide +kernel)];kernel_rfl)|(rw[if_neg (by decide +kernel)];exact⟨rfl,rfl⟩))
  (λos a H enc _=>m0s os a H enc)
end Go.Proofs.YtkjhghloldgioaaGreat.rFnExactMakeClaim
