/- AddClaim, for every input: the law returns true and its arguments read as they did. -/
import Derived.Test.YtkjhghloldgioaaGreatRows
import Derived.Test.YtkjhghloldgioaaGreatZ
import Derived.Test.YtkjhghloldgioaaGreatLAddClaim
namespace Go.Proofs.YtkjhghloldgioaaGreat.rFnExactAddClaim
open Go.H Go.ChangeShapes Go.WideShapes Go.ChangeAt Go.RowKit Go.WideMaps Go.WideElems
open Go.ChangeMaps (open_string)
set_option linter.unusedVariables false
theorem own:ownKnob Tryz.prog.godebug=none:=by kernel_rfl
theorem j0t:laidOutB Tryz.prog=true:=l0t
theorem Z0h:r01 Tryz.prog 3 Wp.int.toRp:=r01.int Tryz.underlying3
theorem u0s:r01 Tryz.prog 33 D0.toRp:=r01.slice Tryz.underlying33 (by kernel_rfl) (by decide) Z0h
theorem g0u:r01 Tryz.prog 38 j2.toRp:=r01.slice Tryz.underlying38 (by kernel_rfl) (by decide) u0s
theorem D0u:r01 Tryz.prog 179 E1.toRp:=r01.struct Tryz.underlying179 (by kernel_rfl) (T03.cons rfl (by kernel_rfl) Z0h (T03.cons rfl (by kernel_rfl) Z0h (T03.one rfl (by kernel_rfl) Z0h)))
theorem h0u:r01 Tryz.prog 39 I0.toRp:=r01.slice Tryz.underlying39 (by kernel_rfl) (by decide) D0u
theorem i0u:r01 Tryz.prog 41 C1.toRp:=r01.struct Tryz.underlying41 (by kernel_rfl) (T03.cons rfl (by kernel_rfl) Z0h (T03.cons rfl (by kernel_rfl) Z0h (T03.one rfl (by kernel_rfl) h0u)))
theorem v0s:r01 Tryz.prog 43 Q1.toRp:=r01.struct Tryz.underlying43 (by kernel_rfl) (T03.cons rfl (by kernel_rfl) Z0h (T03.cons rfl (by kernel_rfl) Z0h (T03.cons rfl (by kernel_rfl) g0u (T03.cons rfl (by kernel_rfl) u0s (T03.cons rfl (by kernel_rfl) u0s (T03.cons rfl (by kernel_rfl) i0u (T03.one rfl (by kernel_rfl) Z0h)))))))
theorem k0t:r01 Tryz.prog 22 U4.toRp:=r01.slice Tryz.underlying22 (by kernel_rfl) (by decide) v0s
theorem z0q:r01 Tryz.prog 24 L1.toRp:=r01.struct Tryz.underlying24 (by kernel_rfl) (T03.cons rfl (by kernel_rfl) Z0h (T03.one rfl (by kernel_rfl) k0t))
set_option maxRecDepth 100000 in
theorem j0u(os:Os)(D:os.Started)(H:Type)(enc:TypeId×Value->H):
  ReturnsInHanded {} Tryz.checked os 5 .any (Rows.fnExactAddClaimSpec.pre6 enc Tryz.prog Tryz.f5 Rows.fnExactAddClaimRow.domain false) (Rows.fnExactAddClaimSpec.post enc Tryz.prog Tryz.f5 false true false false):=by
 refine returnsInHanded_of_change (C:=Tryz.checked) own D (by kernel_rfl) Tryz.func5
  (ChangeSpec.witness6 (enc:=enc) (C:=Tryz.checked) false ⟨#[],#[.agg #[.int .i64 0,.slice none 0 0],.agg #[.int .i64 0,.int .i64 0,.slice none 0 0,.slice none 0 0,.slice none 0 0,.int .i64 0,.int .i64 0,.slice none 0 0,.int .i64 0]],[]⟩ 8 (by kernel_rfl) (by kernel_rfl) (by kernel_rfl) (by kernel_rfl)) ?_
 intro a base args ds M I y f O _
 have c:∀(j:Nat) t v,Tryz.f5.params[j]?=some t->args[j]?=some v->Value.okWide Tryz.prog a .any base t v:=y
 have u:=f
 obtain⟨p,q,o,s,rfl,P,Q⟩:=f
 have d:DataW.TrodAll enc Tryz.prog a 0 (λ_=>true) true Tryz.f5.params.toList args.toList ds p:=o
 rw[Tryz.params5]at d c
 obtain⟨g,V,d0,K,R,T,N,rfl,rfl,h0,A⟩:=trodAll_cons d
 obtain⟨h,W,J,L,S,U,rfl,rfl,rfl,n,B⟩:=trodAll_cons A
 obtain⟨rfl,rfl,rfl⟩:=trodAll_nil B
 obtain rfl:args = #[g,h]:=by cases args;simp_all
 obtain⟨rfl,rfl⟩:=trodVars_none s
 obtain⟨l,E,rfl,i⟩:=j0g z0q Tryz.underlying24 (c 0 24 g rfl rfl) h0
 obtain⟨m,F,rfl,k⟩:=j0g v0s Tryz.underlying43 (c 1 43 h rfl rfl) n
 refine(Tr.calls (Y0h (λb=>a.heap[b]?) l E i m F k)).mono λe G ⟨w,x,z⟩=>?_
 exact⟨_,w,l0r j0t (by decide +kernel) rfl rfl (by kernel_rfl) Tryz.underlying4 u x z⟩
theorem w10:(Rows.fnExactAddClaimRow.inPlace == Tryz.prog.inPlace 5)=true:=by kernel_rfl
theorem w11:(Rows.fnExactAddClaimRow.unfollowed == Tryz.prog.unfollowed 5)=true:=by kernel_rfl
theorem w12:(Rows.fnExactAddClaimRow.recurses == Tryz.prog.recurses 5)=true:=by kernel_rfl
theorem w13:(Rows.fnExactAddClaimRow.named == Tryz.prog.varsNamed 5)=true:=by kernel_rfl
theorem w28:(Tryz.prog.make == some Rows.fnExactAddClaimRow.make)=true:=by kernel_rfl
theorem closed:joinedFacts Tryz.prog 5 Tryz.f5 Rows.fnExactAddClaimSpec Rows.fnExactAddClaimRow=true :=
 g01 (g01 (g01 (g01 (g01 (g01 (g01 (g01 (g01 (g01 (g01 (g01 (g01 (g01 (g01 (g01 (g01 (g01 (g01 (g01 (g01 (g01 (g01 (g01 (g01 (g01 (g01 (g01 (g01 (g01 (g01 ((by kernel_rfl)) l0t) l0u) (by kernel_rfl)) (by kernel_rfl)) (by kernel_rfl)) (by kernel_rfl)) (by kernel_rfl)) (by kernel_rfl)) w10) w11) w12) w13) (by kernel_rfl)) (by kernel_rfl)) (by kernel_rfl)) (by kernel_rfl)) (by kernel_rfl)) (by kernel_rfl)) (by kernel_rfl)) (by kernel_rfl)) (by kernel_rfl)) n0u) (by kernel_rfl)) F0t) G0t) m0u) w28) (by kernel_rfl)) (by kernel_rfl)) (by kernel_rfl)) (by kernel_rfl)
theorem proved:Rows.FnExactAddClaimSaid :=
 OpenClaim.holds_of_wide 5 Tryz.f5 rfl rfl rfl rfl rfl rfl rfl ⟨rfl,rfl,rfl,rfl,rfl⟩ rfl rfl rfl rfl rfl (by kernel_rfl) Tryz.func5 closed
  (of_decide_eq_true (by kernel_rfl)) (by unfold Func.isWrapper;first|(rw[if_pos (by decide +kernel)];kernel_rfl)|(rw[if_neg (by decide +kernel)];exact⟨rfl,rfl⟩))
  (λos a H enc _=>j0u os a H enc)
end Go.Proofs.YtkjhghloldgioaaGreat.rFnExactAddClaim
