/- IsNotebook, for every input: the law returns true and its arguments read as they did. -/
import Derived.Test.YtkjhghloldgioaaGreatRows
import Derived.Test.YtkjhghloldgioaaGreatZ
import Derived.Test.YtkjhghloldgioaaGreatLIsNotebook
namespace Go.Proofs.YtkjhghloldgioaaGreat.rFnExactIsNotebook
open Go.H Go.ChangeShapes Go.WideShapes Go.ChangeAt Go.RowKit Go.WideMaps Go.WideElems
open Go.ChangeMaps (open_string)
set_option linter.unusedVariables false
theorem own:ownKnob Tryz.prog.godebug=none:=by kernel_rfl
theorem E0q:laidOutB Tryz.prog=true:=G0q
theorem V0f:f00 Tryz.prog 3 Wp.int.toRp:=f00.int Tryz.underlying3
theorem T0p:f00 Tryz.prog 33 N0.toRp:=f00.slice Tryz.underlying33 (by kernel_rfl) (by decide) V0f
theorem A0r:f00 Tryz.prog 38 Q2.toRp:=f00.slice Tryz.underlying38 (by kernel_rfl) (by decide) T0p
theorem X0r:f00 Tryz.prog 179 Z0.toRp:=f00.struct Tryz.underlying179 (by kernel_rfl) (D02.cons rfl (by kernel_rfl) V0f (D02.cons rfl (by kernel_rfl) V0f (D02.one rfl (by kernel_rfl) V0f)))
theorem B0r:f00 Tryz.prog 39 F0.toRp:=f00.slice Tryz.underlying39 (by kernel_rfl) (by decide) X0r
theorem C0r:f00 Tryz.prog 41 V0.toRp:=f00.struct Tryz.underlying41 (by kernel_rfl) (D02.cons rfl (by kernel_rfl) V0f (D02.cons rfl (by kernel_rfl) V0f (D02.one rfl (by kernel_rfl) B0r)))
theorem D0r:f00 Tryz.prog 43 D01.toRp:=f00.struct Tryz.underlying43 (by kernel_rfl) (D02.cons rfl (by kernel_rfl) V0f (D02.cons rfl (by kernel_rfl) V0f (D02.cons rfl (by kernel_rfl) A0r (D02.cons rfl (by kernel_rfl) T0p (D02.cons rfl (by kernel_rfl) T0p (D02.cons rfl (by kernel_rfl) C0r (D02.one rfl (by kernel_rfl) V0f)))))))
theorem F0q:f00 Tryz.prog 22 G01.toRp:=f00.slice Tryz.underlying22 (by kernel_rfl) (by decide) D0r
theorem d0o:f00 Tryz.prog 24 Y5.toRp:=f00.struct Tryz.underlying24 (by kernel_rfl) (D02.cons rfl (by kernel_rfl) V0f (D02.one rfl (by kernel_rfl) F0q))
set_option maxRecDepth 100000 in
theorem E0r(os:Os)(x:os.Started)(H:Type)(enc:TypeId×Value->H):
  ReturnsInHanded {} Tryz.checked os 3 .any (Rows.fnExactIsNotebookSpec.pre6 enc Tryz.prog Tryz.f3 Rows.fnExactIsNotebookRow.domain false) (Rows.fnExactIsNotebookSpec.post enc Tryz.prog Tryz.f3 false true false false):=by
 refine returnsInHanded_of_change (C:=Tryz.checked) own x (by kernel_rfl) Tryz.func3
  (ChangeSpec.witness6 (enc:=enc) (C:=Tryz.checked) false ⟨#[],#[.agg #[.int .i64 0,.slice none 0 0]],[]⟩ 8 (by kernel_rfl) (by kernel_rfl) (by kernel_rfl) (by kernel_rfl)) ?_
 intro a base args ds D A s d F _
 have f:∀(j:Nat) t v,Tryz.f3.params[j]?=some t->args[j]?=some v->Value.okWide Tryz.prog a .any base t v:=s
 have m:=d
 obtain⟨p,q,k,l,rfl,G,I⟩:=d
 have c:DataW.TrodAll enc Tryz.prog a 0 (λ_=>true) true Tryz.f3.params.toList args.toList ds p:=k
 rw[Tryz.params3]at c f
 obtain⟨g,L,d0,B,J,K,E,rfl,rfl,h0,w⟩:=trodAll_cons c
 obtain⟨rfl,rfl,rfl⟩:=trodAll_nil w
 obtain rfl:args = #[g]:=by cases args;simp_all
 obtain⟨rfl,rfl⟩:=trodVars_none l
 obtain⟨i,y,rfl,h⟩:=V0k d0o Tryz.underlying24 (f 0 24 g rfl rfl) h0
 refine(Tr.calls (x0d (λb=>a.heap[b]?) i y h)).mono λe z ⟨n,o,u⟩=>?_
 exact⟨_,n,P0o E0q (by decide +kernel) rfl rfl (by kernel_rfl) Tryz.underlying4 m o u⟩
theorem w10:(Rows.fnExactIsNotebookRow.inPlace == Tryz.prog.inPlace 3)=true:=by kernel_rfl
theorem w11:(Rows.fnExactIsNotebookRow.unfollowed == Tryz.prog.unfollowed 3)=true:=by kernel_rfl
theorem w12:(Rows.fnExactIsNotebookRow.recurses == Tryz.prog.recurses 3)=true:=by kernel_rfl
theorem w13:(Rows.fnExactIsNotebookRow.named == Tryz.prog.varsNamed 3)=true:=by kernel_rfl
theorem w28:(Tryz.prog.make == some Rows.fnExactIsNotebookRow.make)=true:=by kernel_rfl
theorem closed:joinedFacts Tryz.prog 3 Tryz.f3 Rows.fnExactIsNotebookSpec Rows.fnExactIsNotebookRow=true :=
 T9 (T9 (T9 (T9 (T9 (T9 (T9 (T9 (T9 (T9 (T9 (T9 (T9 (T9 (T9 (T9 (T9 (T9 (T9 (T9 (T9 (T9 (T9 (T9 (T9 (T9 (T9 (T9 (T9 (T9 (T9 ((by kernel_rfl)) G0q) G0r) (by kernel_rfl)) (by kernel_rfl)) (by kernel_rfl)) (by kernel_rfl)) (by kernel_rfl)) (by kernel_rfl)) w10) w11) w12) w13) (by kernel_rfl)) (by kernel_rfl)) (by kernel_rfl)) (by kernel_rfl)) (by kernel_rfl)) (by kernel_rfl)) (by kernel_rfl)) (by kernel_rfl)) (by kernel_rfl)) I0r) (by kernel_rfl)) a0r) b0r) H0r) w28) (by kernel_rfl)) (by kernel_rfl)) (by kernel_rfl)) (by kernel_rfl)
theorem proved:Rows.FnExactIsNotebookSaid :=
 OpenClaim.holds_of_wide 3 Tryz.f3 rfl rfl rfl rfl rfl rfl rfl ⟨rfl,rfl,rfl,rfl,rfl⟩ rfl rfl rfl rfl rfl (by kernel_rfl) Tryz.func3 closed
  (of_decide_eq_true (by kernel_rfl)) (by unfold Func.isWrapper;first|(rw[if_pos (by decide +kernel)];kernel_rfl)|(rw[if_neg (by decide +kernel)];exact⟨rfl,rfl⟩))
  (λos a H enc _=>E0r os a H enc)
end Go.Proofs.YtkjhghloldgioaaGreat.rFnExactIsNotebook
