/- FnHall, for every input: the law returns true and its argument reads as it did. -/
import Derived.Test.YtmgikbbmpnbbjaaGreatRows
import Derived.Test.YtmgikbbmpnbbjaaGreatZ
import Derived.Test.YtmgikbbmpnbbjaaGreatH49
import Derived.Test.YtmgikbbmpnbbjaaGreatPart27
import Derived.Test.YtmgikbbmpnbbjaaGreatPart32
namespace Go.Proofs.YtmgikbbmpnbbjaaGreat.rFnHall
open Go.H Go.ChangeShapes Go.WideShapes Go.ChangeAt Go.RowKit Go.WideMaps Go.WideElems
open Go.ChangeMaps (open_string)
set_option linter.unusedVariables false
theorem law(h:Hp)(v:Value)(y:List Int)(R:Rp.u8.slice.R h [v] y):Tr Tryz.prog 3 #[v] h λv h'=>v = .bool true/\Sub h h':=by
 have b:=R
 obtain⟨a,n,c,vs,e,_⟩:=b
 cases e
 exact Tr.mono (S0g h a n c y R true (F0r y)) λv h' e=>⟨e.1,by rw[e.2];exact Sub.refl _⟩
theorem opn:M04 Tryz.prog 22 Rp.u8.slice:=M04.slice Tryz.underlying22 (by kernel_rfl) (by decide) (M04.u8 Tryz.underlying5)
theorem own:ownKnob Tryz.prog.godebug=none:=by kernel_rfl
theorem K0r:laidOutB Tryz.prog=true:=L0r
set_option maxRecDepth 100000 in
theorem i0t(os:Os)(w:os.Started)(H:Type)(enc:TypeId×Value->H):
  ReturnsInHanded {} Tryz.checked os 3 .any (Rows.fnHallSpec.pre6 enc Tryz.prog Tryz.f3 Rows.fnHallRow.domain false) (Rows.fnHallSpec.post enc Tryz.prog Tryz.f3 false true false false):=by
 refine returnsInHanded_of_change (C:=Tryz.checked) own w (by kernel_rfl) Tryz.func3
  (ChangeSpec.witness6 (enc:=enc) (C:=Tryz.checked) false ⟨#[],#[.slice none 0 0],[]⟩ 8 (by kernel_rfl) (by kernel_rfl) (by kernel_rfl) (by kernel_rfl)) ?_
 intro a base args ds B z o f E _
 have g:∀(j:Nat) t v,Tryz.f3.params[j]?=some t->args[j]?=some v->Value.okWide Tryz.prog a .any base t v:=o
 have l:=f
 obtain⟨p,q,i,k,rfl,F,G⟩:=f
 have d:DataW.TrodAll enc Tryz.prog a 0 (λ_=>true) true Tryz.f3.params.toList args.toList ds p:=i
 rw[Tryz.params3]at d g
 obtain⟨c,K,d0,A,I,J,D,rfl,rfl,h0,u⟩:=trodAll_cons d
 obtain⟨rfl,rfl,rfl⟩:=trodAll_nil u
 obtain rfl:args = #[c]:=by cases args;simp_all
 obtain⟨rfl,rfl⟩:=trodVars_none k
 obtain⟨x,h⟩:=z0o opn Tryz.underlying22 (g 0 22 c rfl rfl) h0
 refine(Tr.calls (law (λb=>a.heap[b]?) c x h)).mono λe y ⟨m,n,s⟩=>?_
 exact⟨_,m,N0p K0r (by decide +kernel) rfl rfl (by kernel_rfl) Tryz.underlying4 l n s⟩
theorem w10:(Rows.fnHallRow.inPlace == Tryz.prog.inPlace 3)=true:=by kernel_rfl
theorem w11:(Rows.fnHallRow.unfollowed == Tryz.prog.unfollowed 3)=true:=by kernel_rfl
theorem w12:(Rows.fnHallRow.recurses == Tryz.prog.recurses 3)=true:=by kernel_rfl
theorem w13:(Rows.fnHallRow.named == Tryz.prog.varsNamed 3)=true:=by kernel_rfl
theorem w28:(Tryz.prog.make == some Rows.fnHallRow.make)=true:=by kernel_rfl
theorem closed:joinedFacts Tryz.prog 3 Tryz.f3 Rows.fnHallSpec Rows.fnHallRow=true :=
 D00 (D00 (D00 (D00 (D00 (D00 (D00 (D00 (D00 (D00 (D00 (D00 (D00 (D00 (D00 (D00 (D00 (D00 (D00 (D00 (D00 (D00 (D00 (D00 (D00 (D00 (D00 (D00 (D00 (D00 (D00 ((by kernel_rfl)) L0r) j0t) (by kernel_rfl)) (by kernel_rfl)) (by kernel_rfl)) (by kernel_rfl)) (by kernel_rfl)) (by kernel_rfl)) w10) w11) w12) w13) (by kernel_rfl)) (by kernel_rfl)) (by kernel_rfl)) (by kernel_rfl)) (by kernel_rfl)) (by kernel_rfl)) (by kernel_rfl)) (by kernel_rfl)) (by kernel_rfl)) l0t) (by kernel_rfl)) j0s) k0s) k0t) w28) (by kernel_rfl)) (by kernel_rfl)) (by kernel_rfl)) (by kernel_rfl)
theorem proved:Rows.FnHallSaid :=
 OpenClaim.holds_of_wide 3 Tryz.f3 rfl rfl rfl rfl rfl rfl rfl ⟨rfl,rfl,rfl,rfl,rfl⟩ rfl rfl rfl rfl rfl (by kernel_rfl) Tryz.func3 closed
  (of_decide_eq_true (by kernel_rfl)) (by unfold Func.isWrapper;first|(rw[if_pos (by decide +kernel)];kernel_rfl)|(rw[if_neg (by decide +kernel)];exact⟨rfl,rfl⟩))
  (λos a H enc _=>i0t os a H enc)
end Go.Proofs.YtmgikbbmpnbbjaaGreat.rFnHall
