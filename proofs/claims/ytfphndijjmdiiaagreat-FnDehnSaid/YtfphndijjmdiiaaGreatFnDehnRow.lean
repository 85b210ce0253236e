/- FnDehn, for every input: the law returns true and its argument reads as it did. -/
import Derived.Test.YtfphndijjmdiiaaGreatRows
import Derived.Test.YtfphndijjmdiiaaGreatZ
import Derived.Test.YtfphndijjmdiiaaGreatH49
import Derived.Test.YtfphndijjmdiiaaGreatPart22
import Derived.Test.YtfphndijjmdiiaaGreatPart27
namespace Go.Proofs.YtfphndijjmdiiaaGreat.rFnDehn
open Go.H Go.ChangeShapes Go.WideShapes Go.ChangeAt Go.RowKit Go.WideMaps Go.WideElems
open Go.ChangeMaps (open_string)
set_option linter.unusedVariables false
theorem law(h:Hp)(v:Value)(y:List Int)(R:Rp.u8.slice.R h [v] y):Tr Tryz.prog 3 #[v] h λv h'=>v = .bool true/\Sub h h':=by
 have b:=R
 obtain⟨a,n,c,vs,e,_⟩:=b
 cases e
 exact Tr.mono (V0g h a n c y R true (o0t y)) λv h' e=>⟨e.1,by rw[e.2];exact Sub.refl _⟩
theorem opn:Q03 Tryz.prog 22 Rp.u8.slice:=Q03.slice Tryz.underlying22 (by kernel_rfl) (by decide) (Q03.u8 Tryz.underlying5)
theorem own:ownKnob Tryz.prog.godebug=none:=by kernel_rfl
theorem t0t:laidOutB Tryz.prog=true:=u0t
set_option maxRecDepth 100000 in
theorem z0u(os:Os)(u:os.Started)(H:Type)(enc:TypeId×Value->H):
  ReturnsInHanded {} Tryz.checked os 3 .any (Rows.fnDehnSpec.pre6 enc Tryz.prog Tryz.f3 Rows.fnDehnRow.domain false) (Rows.fnDehnSpec.post enc Tryz.prog Tryz.f3 false true false false):=by
 refine returnsInHanded_of_change (C:=Tryz.checked) own u (by kernel_rfl) Tryz.func3
  (ChangeSpec.witness6 (enc:=enc) (C:=Tryz.checked) false ⟨#[],#[.slice none 0 0],[]⟩ 8 (by kernel_rfl) (by kernel_rfl) (by kernel_rfl) (by kernel_rfl)) ?_
 intro a base args ds A y n f D _
 have g:∀(j:Nat) t v,Tryz.f3.params[j]?=some t->args[j]?=some v->Value.okWide Tryz.prog a .any base t v:=n
 have k:=f
 obtain⟨p,q,h,i,rfl,E,F⟩:=f
 have d:DataW.TrodAll enc Tryz.prog a 0 (λ_=>true) true Tryz.f3.params.toList args.toList ds p:=h
 rw[Tryz.params3]at d g
 obtain⟨c,J,d0,z,G,I,B,rfl,rfl,h0,s⟩:=trodAll_cons d
 obtain⟨rfl,rfl,rfl⟩:=trodAll_nil s
 obtain rfl:args = #[c]:=by cases args;simp_all
 obtain⟨rfl,rfl⟩:=trodVars_none i
 obtain⟨w,R0⟩:=c0p opn Tryz.underlying22 (g 0 22 c rfl rfl) h0
 refine(Tr.calls (law (λb=>a.heap[b]?) c w R0)).mono λe x ⟨l,m,o⟩=>?_
 exact⟨_,l,r0q t0t (by decide +kernel) rfl rfl (by kernel_rfl) Tryz.underlying4 k m o⟩
theorem w10:(Rows.fnDehnRow.inPlace == Tryz.prog.inPlace 3)=true:=by kernel_rfl
theorem w11:(Rows.fnDehnRow.unfollowed == Tryz.prog.unfollowed 3)=true:=by kernel_rfl
theorem w12:(Rows.fnDehnRow.recurses == Tryz.prog.recurses 3)=true:=by kernel_rfl
theorem w13:(Rows.fnDehnRow.named == Tryz.prog.varsNamed 3)=true:=by kernel_rfl
theorem w28:(Tryz.prog.make == some Rows.fnDehnRow.make)=true:=by kernel_rfl
theorem closed:joinedFacts Tryz.prog 3 Tryz.f3 Rows.fnDehnSpec Rows.fnDehnRow=true :=
 N9 (N9 (N9 (N9 (N9 (N9 (N9 (N9 (N9 (N9 (N9 (N9 (N9 (N9 (N9 (N9 (N9 (N9 (N9 (N9 (N9 (N9 (N9 (N9 (N9 (N9 (N9 (N9 (N9 (N9 (N9 ((by kernel_rfl)) u0t) A0u) (by kernel_rfl)) (by kernel_rfl)) (by kernel_rfl)) (by kernel_rfl)) (by kernel_rfl)) (by kernel_rfl)) w10) w11) w12) w13) (by kernel_rfl)) (by kernel_rfl)) (by kernel_rfl)) (by kernel_rfl)) (by kernel_rfl)) (by kernel_rfl)) (by kernel_rfl)) (by kernel_rfl)) (by kernel_rfl)) C0u) (by kernel_rfl)) M0t) N0t) B0u) w28) (by kernel_rfl)) (by kernel_rfl)) (by kernel_rfl)) (by kernel_rfl)
theorem proved:Rows.FnDehnSaid :=
 OpenClaim.holds_of_wide 3 Tryz.f3 rfl rfl rfl rfl rfl rfl rfl ⟨rfl,rfl,rfl,rfl,rfl⟩ rfl rfl rfl rfl rfl (by kernel_rfl) Tryz.func3 closed
  (of_decide_eq_true (by kernel_rfl)) (by unfold Func.isWrapper;first|(rw[if_pos (by decide +kernel)];kernel_rfl)|(rw[if_neg (by decide +kernel)];exact⟨rfl,rfl⟩))
  (λos a H enc _=>z0u os a H enc)
end Go.Proofs.YtfphndijjmdiiaaGreat.rFnDehn
