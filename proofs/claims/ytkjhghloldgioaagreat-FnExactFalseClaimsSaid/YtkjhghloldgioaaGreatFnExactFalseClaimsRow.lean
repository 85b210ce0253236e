/- FalseClaims, for every input: the law returns true and its arguments read as they did. -/
import Derived.Test.YtkjhghloldgioaaGreatRows
import Derived.Test.YtkjhghloldgioaaGreatZ
import Derived.Test.YtkjhghloldgioaaGreatLFalseClaims
namespace Go.Proofs.YtkjhghloldgioaaGreat.rFnExactFalseClaims
open Go.H Go.ChangeShapes Go.WideShapes Go.ChangeAt Go.RowKit Go.WideMaps Go.WideElems
open Go.ChangeMaps (open_string)
set_option linter.unusedVariables false
theorem own:ownKnob Tryz.prog.godebug=none:=by kernel_rfl
theorem b0s:laidOutB Tryz.prog=true:=d0s
theorem g0h:Z00 Tryz.prog 3 Wp.int.toRp:=Z00.int Tryz.underlying3
theorem n0r:Z00 Tryz.prog 33 I0.toRp:=Z00.slice Tryz.underlying33 (by kernel_rfl) (by decide) g0h
theorem X0s:Z00 Tryz.prog 38 D2.toRp:=Z00.slice Tryz.underlying38 (by kernel_rfl) (by decide) n0r
theorem u0t:Z00 Tryz.prog 179 Z0.toRp:=Z00.struct Tryz.underlying179 (by kernel_rfl) (r03.cons rfl (by kernel_rfl) g0h (r03.cons rfl (by kernel_rfl) g0h (r03.one rfl (by kernel_rfl) g0h)))
theorem Y0s:Z00 Tryz.prog 39 H0.toRp:=Z00.slice Tryz.underlying39 (by kernel_rfl) (by decide) u0t
theorem Z0s:Z00 Tryz.prog 41 j1.toRp:=Z00.struct Tryz.underlying41 (by kernel_rfl) (r03.cons rfl (by kernel_rfl) g0h (r03.cons rfl (by kernel_rfl) g0h (r03.one rfl (by kernel_rfl) Y0s)))
theorem a0t:Z00 Tryz.prog 43 S6.toRp:=Z00.struct Tryz.underlying43 (by kernel_rfl) (r03.cons rfl (by kernel_rfl) g0h (r03.cons rfl (by kernel_rfl) g0h (r03.cons rfl (by kernel_rfl) X0s (r03.cons rfl (by kernel_rfl) n0r (r03.cons rfl (by kernel_rfl) n0r (r03.cons rfl (by kernel_rfl) Z0s (r03.one rfl (by kernel_rfl) g0h)))))))
theorem c0s:Z00 Tryz.prog 22 n7.toRp:=Z00.slice Tryz.underlying22 (by kernel_rfl) (by decide) a0t
theorem t0p:Z00 Tryz.prog 24 l5.toRp:=Z00.struct Tryz.underlying24 (by kernel_rfl) (r03.cons rfl (by kernel_rfl) g0h (r03.one rfl (by kernel_rfl) c0s))
set_option maxRecDepth 100000 in
theorem b0t(os:Os)(x:os.Started)(H:Type)(enc:TypeId×Value->H):
  ReturnsInHanded {} Tryz.checked os 4 .any (Rows.fnExactFalseClaimsSpec.pre6 enc Tryz.prog Tryz.f4 Rows.fnExactFalseClaimsRow.domain false) (Rows.fnExactFalseClaimsSpec.post enc Tryz.prog Tryz.f4 false true false false):=by
 refine returnsInHanded_of_change (C:=Tryz.checked) own x (by kernel_rfl) Tryz.func4
  (ChangeSpec.witness6 (enc:=enc) (C:=Tryz.checked) false ⟨#[],#[.agg #[.int .i64 0,.slice none 0 0]],[]⟩ 8 (by kernel_rfl) (by kernel_rfl) (by kernel_rfl) (by kernel_rfl)) ?_
 intro a base args ds D A s d F _
 have f:∀(j:Nat) t v,Tryz.f4.params[j]?=some t->args[j]?=some v->Value.okWide Tryz.prog a .any base t v:=s
 have m:=d
 obtain⟨p,q,k,l,rfl,G,I⟩:=d
 have c:DataW.TrodAll enc Tryz.prog a 0 (λ_=>true) true Tryz.f4.params.toList args.toList ds p:=k
 rw[Tryz.params4]at c f
 obtain⟨g,L,d0,B,J,K,E,rfl,rfl,h0,w⟩:=trodAll_cons c
 obtain⟨rfl,rfl,rfl⟩:=trodAll_nil w
 obtain rfl:args = #[g]:=by cases args;simp_all
 obtain⟨rfl,rfl⟩:=trodVars_none l
 obtain⟨i,y,rfl,h⟩:=g0m t0p Tryz.underlying24 (f 0 24 g rfl rfl) h0
 refine(Tr.calls (B0d (λb=>a.heap[b]?) i y h)).mono λe z ⟨n,o,u⟩=>?_
 exact⟨_,n,f0q b0s (by decide +kernel) rfl rfl (by kernel_rfl) Tryz.underlying4 m o u⟩
theorem w10:(Rows.fnExactFalseClaimsRow.inPlace == Tryz.prog.inPlace 4)=true:=by kernel_rfl
theorem w11:(Rows.fnExactFalseClaimsRow.unfollowed == Tryz.prog.unfollowed 4)=true:=by kernel_rfl
theorem w12:(Rows.fnExactFalseClaimsRow.recurses == Tryz.prog.recurses 4)=true:=by kernel_rfl
theorem w13:(Rows.fnExactFalseClaimsRow.named == Tryz.prog.varsNamed 4)=true:=by kernel_rfl
theorem w28:(Tryz.prog.make == some Rows.fnExactFalseClaimsRow.make)=true:=by kernel_rfl
theorem closed:joinedFacts Tryz.prog 4 Tryz.f4 Rows.fnExactFalseClaimsSpec Rows.fnExactFalseClaimsRow=true :=
 P00 (P00 (P00 (P00 (P00 (P00 (P00 (P00 (P00 (P00 (P00 (P00 (P00 (P00 (P00 (P00 (P00 (P00 (P00 (P00 (P00 (P00 (P00 (P00 (P00 (P00 (P00 (P00 (P00 (P00 (P00 ((by kernel_rfl)) d0s) d0t) (by kernel_rfl)) (by kernel_rfl)) (by kernel_rfl)) (by kernel_rfl)) (by kernel_rfl)) (by kernel_rfl)) w10) w11) w12) w13) (by kernel_rfl)) (by kernel_rfl)) (by kernel_rfl)) (by kernel_rfl)) (by kernel_rfl)) (by kernel_rfl)) (by kernel_rfl)) (by kernel_rfl)) (by kernel_rfl)) f0t) (by kernel_rfl)) x0s) y0s) e0t) w28) (by kernel_rfl)) (by kernel_rfl)) (by kernel_rfl)) (by kernel_rfl)
theorem proved:Rows.FnExactFalseClaimsSaid :=
 OpenClaim.holds_of_wide 4 Tryz.f4 rfl rfl rfl rfl rfl rfl rfl ⟨rfl,rfl,rfl,rfl,rfl⟩ rfl rfl rfl rfl rfl (by kernel_rfl) Tryz.func4 closed
  (of_decide_eq_true (by kernel_rfl)) (by unfold Func.isWrapper;first|(rw[if_pos (by decide +kernel)];kernel_rfl)|(rw[if_neg (by decide +kernel)];exact⟨rfl,rfl⟩))
  (λos a H enc _=>b0t os a H enc)
end Go.Proofs.YtkjhghloldgioaaGreat.rFnExactFalseClaims
