/- CheckClaim, for every input: the law returns true and its arguments read as they did. -/
import Derived.Test.YtcakocbgbelmeaaGreatRows
import Derived.Test.YtcakocbgbelmeaaGreatZ
import Derived.Test.YtcakocbgbelmeaaGreatLCheckClaim
namespace Go.Proofs.YtcakocbgbelmeaaGreat.rFnExactCheckClaim
open Go.H Go.ChangeShapes Go.WideShapes Go.ChangeAt Go.RowKit Go.WideMaps Go.WideElems
open Go.ChangeMaps (open_string)
set_option linter.unusedVariables false
theorem own:ownKnob Tryz.prog.godebug=none:=by kernel_rfl
theorem X0p:laidOutB Tryz.prog=true:=Y0p
theorem c0i:Q00 Tryz.prog 3 Wp.int.toRp:=Q00.int Tryz.underlying3
theorem o0p:Q00 Tryz.prog 31 J0.toRp:=Q00.slice Tryz.underlying31 (by kernel_rfl) (by decide) c0i
theorem S0q:Q00 Tryz.prog 22 Q2.toRp:=Q00.slice Tryz.underlying22 (by kernel_rfl) (by decide) o0p
theorem o0r:Q00 Tryz.prog 149 P0.toRp:=Q00.struct Tryz.underlying149 (by kernel_rfl) (V02.cons rfl (by kernel_rfl) c0i (V02.cons rfl (by kernel_rfl) c0i (V02.one rfl (by kernel_rfl) c0i)))
theorem T0q:Q00 Tryz.prog 32 F0.toRp:=Q00.slice Tryz.underlying32 (by kernel_rfl) (by decide) o0r
theorem U0q:Q00 Tryz.prog 34 W0.toRp:=Q00.struct Tryz.underlying34 (by kernel_rfl) (V02.cons rfl (by kernel_rfl) c0i (V02.cons rfl (by kernel_rfl) c0i (V02.one rfl (by kernel_rfl) T0q)))
theorem V0q:Q00 Tryz.prog 36 u01.toRp:=Q00.struct Tryz.underlying36 (by kernel_rfl) (V02.cons rfl (by kernel_rfl) c0i (V02.cons rfl (by kernel_rfl) c0i (V02.cons rfl (by kernel_rfl) S0q (V02.cons rfl (by kernel_rfl) o0p (V02.cons rfl (by kernel_rfl) o0p (V02.cons rfl (by kernel_rfl) U0q (V02.one rfl (by kernel_rfl) c0i)))))))
set_option maxRecDepth 100000 in
theorem W0q(os:Os)(started:os.Started)(H:Type)(enc:TypeId×Value→H):
  ReturnsInHanded {} Tryz.checked os 4 .any (Rows.fnExactCheckClaimSpec.pre6 enc Tryz.prog Tryz.f4 Rows.fnExactCheckClaimRow.domain false) (Rows.fnExactCheckClaimSpec.post enc Tryz.prog Tryz.f4 false true false false):=by
 refine returnsInHanded_of_change (C:=Tryz.checked) own started (by kernel_rfl) Tryz.func4
  (ChangeSpec.witness6 (enc:=enc) (C:=Tryz.checked) false ⟨#[],#[.agg #[.int .i64 0,.int .i64 0,.slice none 0 0,.slice none 0 0,.slice none 0 0,.int .i64 0,.int .i64 0,.slice none 0 0,.int .i64 0]],[]⟩ 8 (by kernel_rfl) (by kernel_rfl) (by kernel_rfl) (by kernel_rfl)) ?_
 intro W base args ds gs before hval0 hW hcnd _
 have hval:∀(j:Nat) t v,Tryz.f4.params[j]?=some t→args[j]?=some v→Value.okWide Tryz.prog W .any base t v:=hval0
 have hW':=hW
 obtain⟨p,q,hA0,hV,rfl,hfz,hnd⟩:=hW
 have hA:DataW.TrodAll enc Tryz.prog W 0 (fun _=>true) true Tryz.f4.params.toList args.toList ds p:=hA0
 rw[Tryz.params4]at hA hval
 obtain⟨v0,vs0,d0,ds0,p0,q0,hargs,rfl,rfl,h0,r0⟩:=trodAll_cons hA
 obtain⟨rfl,rfl,rfl⟩:=trodAll_nil r0
 obtain rfl:args = #[v0]:=by cases args;simp_all
 obtain⟨rfl,rfl⟩:=trodVars_none hV
 obtain⟨e0,y0,rfl,R0⟩:=u0k V0q Tryz.underlying36 (hval 0 36 v0 rfl rfl) h0
 refine(Tr.calls (h0d (fun b=>W.heap[b]?) e0 y0 R0)).mono fun e W' ⟨he,hg,hz⟩=>?_
 exact⟨_,he,l0o X0p (by decide +kernel) rfl rfl (by kernel_rfl) Tryz.underlying4 hW' hg hz⟩
theorem w10:(Rows.fnExactCheckClaimRow.inPlace == Tryz.prog.inPlace 4)=true:=by kernel_rfl
theorem w11:(Rows.fnExactCheckClaimRow.unfollowed == Tryz.prog.unfollowed 4)=true:=by kernel_rfl
theorem w12:(Rows.fnExactCheckClaimRow.recurses == Tryz.prog.recurses 4)=true:=by kernel_rfl
theorem w13:(Rows.fnExactCheckClaimRow.named == Tryz.prog.varsNamed 4)=true:=by kernel_rfl
theorem w28:(Tryz.prog.make == some Rows.fnExactCheckClaimRow.make)=true:=by kernel_rfl
theorem closed:joinedFacts Tryz.prog 4 Tryz.f4 Rows.fnExactCheckClaimSpec Rows.fnExactCheckClaimRow=true :=
 L9 (L9 (L9 (L9 (L9 (L9 (L9 (L9 (L9 (L9 (L9 (L9 (L9 (L9 (L9 (L9 (L9 (L9 (L9 (L9 (L9 (L9 (L9 (L9 (L9 (L9 (L9 (L9 (L9 (L9 (L9 ((by kernel_rfl)) Y0p) X0q) (by kernel_rfl)) (by kernel_rfl)) (by kernel_rfl)) (by kernel_rfl)) (by kernel_rfl)) (by kernel_rfl)) w10) w11) w12) w13) (by kernel_rfl)) (by kernel_rfl)) (by kernel_rfl)) (by kernel_rfl)) (by kernel_rfl)) (by kernel_rfl)) (by kernel_rfl)) (by kernel_rfl)) (by kernel_rfl)) Z0q) (by kernel_rfl)) t0q) u0q) Y0q) w28) (by kernel_rfl)) (by kernel_rfl)) (by kernel_rfl)) (by kernel_rfl)
theorem proved:Rows.FnExactCheckClaimSaid :=
 OpenClaim.holds_of_wide 4 Tryz.f4 rfl rfl rfl rfl rfl rfl rfl ⟨rfl,rfl,rfl,rfl,rfl⟩ rfl rfl rfl rfl rfl (by kernel_rfl) Tryz.func4 closed
  (of_decide_eq_true (by kernel_rfl)) (by unfold Func.isWrapper;first|(rw[if_pos (by decide +kernel)];kernel_rfl)|(rw[if_neg (by decide +kernel)];exact⟨rfl,rfl⟩))
  (fun os started H enc _=>W0q os started H enc)
end Go.Proofs.YtcakocbgbelmeaaGreat.rFnExactCheckClaim
