/- FnLibraries, for every input: the law returns true and its argument reads as it did. -/
import Derived.Test.YtmgikbbmpnbbjaaGreatRows
import Derived.Test.YtmgikbbmpnbbjaaGreatZ
import Derived.Test.YtmgikbbmpnbbjaaGreatH49
import Derived.Test.YtmgikbbmpnbbjaaGreatPart30
import Derived.Test.YtmgikbbmpnbbjaaGreatPart34
namespace Go.Proofs.YtmgikbbmpnbbjaaGreat.rFnLibraries
open Go.H Go.ChangeShapes Go.WideShapes Go.ChangeAt Go.RowKit Go.WideMaps Go.WideElems
open Go.ChangeMaps (open_string)
set_option linter.unusedVariables false
theorem law(h:Hp)(v:Value)(y:List Int)(R:Rp.u8.slice.R h [v] y):Tr Tryz.prog 4 #[v] h λv h'=>v = .bool true/\Sub h h':=by
 have b:=R
 obtain⟨a,n,c,vs,e,_⟩:=b
 cases e
 exact Tr.mono (a0b h a n c y R true (K0t y)) λv h' e=>⟨e.1,by rw[e.2];exact Sub.refl _⟩
theorem opn:n04 Tryz.prog 22 Rp.u8.slice:=n04.slice Tryz.underlying22 (by kernel_rfl) (by decide) (n04.u8 Tryz.underlying5)
theorem own:ownKnob Tryz.prog.godebug=none:=by kernel_rfl
theorem N0t:laidOutB Tryz.prog=true:=O0t
set_option maxRecDepth 100000 in
theorem U0u(os:Os)(w:os.Started)(H:Type)(enc:TypeId×Value->H):
  ReturnsInHanded {} Tryz.checked os 4 .any (Rows.fnLibrariesSpec.pre6 enc Tryz.prog Tryz.f4 Rows.fnLibrariesRow.domain false) (Rows.fnLibrariesSpec.post enc Tryz.prog Tryz.f4 false true false false):=by
 refine returnsInHanded_of_change (C:=Tryz.checked) own w (by kernel_rfl) Tryz.func4
  (ChangeSpec.witness6 (enc:=enc) (C:=Tryz.checked) false ⟨#[],#[.slice none 0 0],[]⟩ 8 (by kernel_rfl) (by kernel_rfl) (by kernel_rfl) (by kernel_rfl)) ?_
 intro a base args ds B z o f E _
 have g:∀(j:Nat) t v,Tryz.f4.params[j]?=some t->args[j]?=some v->Value.okWide Tryz.prog a .any base t v:=o
 have l:=f
 obtain⟨p,q,i,k,rfl,F,G⟩:=f
 have d:DataW.TrodAll enc Tryz.prog a 0 (λ_=>true) true Tryz.f4.params.toList args.toList ds p:=i
 rw[Tryz.params4]at d g
 obtain⟨c,K,d0,A,I,J,D,rfl,rfl,h0,u⟩:=trodAll_cons d
 obtain⟨rfl,rfl,rfl⟩:=trodAll_nil u
 obtain rfl:args = #[c]:=by cases args;simp_all
 obtain⟨rfl,rfl⟩:=trodVars_none k
 obtain⟨x,h⟩:=X0p opn Tryz.underlying22 (g 0 22 c rfl rfl) h0
 refine(Tr.calls (law (λb=>a.heap[b]?) c x h)).mono λe y ⟨m,n,s⟩=>?_
 exact⟨_,m,j0r N0t (by decide +kernel) rfl rfl (by kernel_rfl) Tryz.underlying4 l n s⟩
theorem w10:(Rows.fnLibrariesRow.inPlace == Tryz.prog.inPlace 4)=true:=by kernel_rfl
theorem w11:(Rows.fnLibrariesRow.unfollowed == Tryz.prog.unfollowed 4)=true:=by kernel_rfl
theorem w12:(Rows.fnLibrariesRow.recurses == Tryz.prog.recurses 4)=true:=by kernel_rfl
theorem w13:(Rows.fnLibrariesRow.named == Tryz.prog.varsNamed 4)=true:=by kernel_rfl
theorem w28:(Tryz.prog.make == some Rows.fnLibrariesRow.make)=true:=by kernel_rfl
theorem closed:joinedFacts Tryz.prog 4 Tryz.f4 Rows.fnLibrariesSpec Rows.fnLibrariesRow=true :=
 O00 (O00 (O00 (O00 (O00 (O00 (O00 (O00 (O00 (O00 (O00 (O00 (O00 (O00 (O00 (O00 (O00 (O00 (O00 (O00 (O00 (O00 (O00 (O00 (O00 (O00 (O00 (O00 (O00 (O00 (O00 ((by kernel_rfl)) O0t) V0u) (by kernel_rfl)) (by kernel_rfl)) (by kernel_rfl)) (by kernel_rfl)) (by kernel_rfl)) (by kernel_rfl)) w10) w11) w12) w13) (by kernel_rfl)) (by kernel_rfl)) (by kernel_rfl)) (by kernel_rfl)) (by kernel_rfl)) (by kernel_rfl)) (by kernel_rfl)) (by kernel_rfl)) (by kernel_rfl)) X0u) (by kernel_rfl)) h0u) i0u) W0u) w28) (by kernel_rfl)) (by kernel_rfl)) (by kernel_rfl)) (by kernel_rfl)
theorem proved:Rows.FnLibrariesSaid :=
 OpenClaim.holds_of_wide 4 Tryz.f4 rfl rfl rfl rfl rfl rfl rfl ⟨rfl,rfl,rfl,rfl,rfl⟩ rfl rfl rfl rfl rfl (by kernel_rfl) Tryz.func4 closed
  (of_decide_eq_true (by kernel_rfl)) (by unfold Func.isWrapper;first|(rw[if_pos (by decide +kernel)];kernel_rfl)|(rw[if_neg (by decide +kernel)];exact⟨rfl,rfl⟩))
  (λos a H enc _=>U0u os a H enc)
end Go.Proofs.YtmgikbbmpnbbjaaGreat.rFnLibraries
