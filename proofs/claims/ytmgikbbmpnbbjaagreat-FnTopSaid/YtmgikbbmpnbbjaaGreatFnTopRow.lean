/- FnTop, for every input: the law returns true and its argument reads as it did. -/
import Derived.Test.YtmgikbbmpnbbjaaGreatRows
import Derived.Test.YtmgikbbmpnbbjaaGreatZ
import Derived.Test.YtmgikbbmpnbbjaaGreatH51
import Derived.Test.YtmgikbbmpnbbjaaGreatPart28
import Derived.Test.YtmgikbbmpnbbjaaGreatPart32
namespace Go.Proofs.YtmgikbbmpnbbjaaGreat.rFnTop
open Go.H Go.ChangeShapes Go.WideShapes Go.ChangeAt Go.RowKit Go.WideMaps Go.WideElems
open Go.ChangeMaps (open_string)
set_option linter.unusedVariables false
theorem law(h:Hp)(v:Value)(y:List Int)(R:Rp.u8.slice.R h [v] y)(d:∀ x∈y,0<=x/\x<256):Tr Tryz.prog 6 #[v] h λv h'=>v = .bool true/\Sub h h':=by
 have b:=R
 obtain⟨a,n,c,vs,e,_⟩:=b
 cases e
 exact Tr.mono (G0j h a n c y R true (D0s y d)) λv h' e=>⟨e.1,by rw[e.2];exact Sub.refl _⟩
theorem opn:E03 Tryz.prog 22 Rp.u8b.slice:=E03.slice Tryz.underlying22 (by kernel_rfl) (by decide) (E03.u8b Tryz.underlying5)
theorem own:ownKnob Tryz.prog.godebug=none:=by kernel_rfl
theorem G0s:laidOutB Tryz.prog=true:=H0s
set_option maxRecDepth 100000 in
theorem Z0t(os:Os)(w:os.Started)(H:Type)(enc:TypeId×Value->H):
  ReturnsInHanded {} Tryz.checked os 6 .any (Rows.fnTopSpec.pre6 enc Tryz.prog Tryz.f6 Rows.fnTopRow.domain false) (Rows.fnTopSpec.post enc Tryz.prog Tryz.f6 false true false false):=by
 refine returnsInHanded_of_change (C:=Tryz.checked) own w (by kernel_rfl) Tryz.func6
  (ChangeSpec.witness6 (enc:=enc) (C:=Tryz.checked) false ⟨#[],#[.slice none 0 0],[]⟩ 8 (by kernel_rfl) (by kernel_rfl) (by kernel_rfl) (by kernel_rfl)) ?_
 intro a base args ds B z o g E _
 have h:∀(j:Nat) t v,Tryz.f6.params[j]?=some t->args[j]?=some v->Value.okWide Tryz.prog a .any base t v:=o
 have l:=g
 obtain⟨p,q,i,k,rfl,F,G⟩:=g
 have f:DataW.TrodAll enc Tryz.prog a 0 (λ_=>true) true Tryz.f6.params.toList args.toList ds p:=i
 rw[Tryz.params6]at f h
 obtain⟨c,K,d0,A,I,J,D,rfl,rfl,h0,u⟩:=trodAll_cons f
 obtain⟨rfl,rfl,rfl⟩:=trodAll_nil u
 obtain rfl:args = #[c]:=by cases args;simp_all
 obtain⟨rfl,rfl⟩:=trodVars_none k
 obtain⟨x,d⟩:=i0p opn Tryz.underlying22 (h 0 22 c rfl rfl) h0
 refine(Tr.calls (law (λb=>a.heap[b]?) c x (Rp.u8b_is d).1 (Rp.u8b_is d).2)).mono λe y ⟨m,n,s⟩=>?_
 exact⟨_,m,A0q G0s (by decide +kernel) rfl rfl (by kernel_rfl) Tryz.underlying4 l n s⟩
theorem w10:(Rows.fnTopRow.inPlace == Tryz.prog.inPlace 6)=true:=by kernel_rfl
theorem w11:(Rows.fnTopRow.unfollowed == Tryz.prog.unfollowed 6)=true:=by kernel_rfl
theorem w12:(Rows.fnTopRow.recurses == Tryz.prog.recurses 6)=true:=by kernel_rfl
theorem w13:(Rows.fnTopRow.named == Tryz.prog.varsNamed 6)=true:=by kernel_rfl
theorem w28:(Tryz.prog.make == some Rows.fnTopRow.make)=true:=by kernel_rfl
theorem closed:joinedFacts Tryz.prog 6 Tryz.f6 Rows.fnTopSpec Rows.fnTopRow=true :=
 j00 (j00 (j00 (j00 (j00 (j00 (j00 (j00 (j00 (j00 (j00 (j00 (j00 (j00 (j00 (j00 (j00 (j00 (j00 (j00 (j00 (j00 (j00 (j00 (j00 (j00 (j00 (j00 (j00 (j00 (j00 ((by kernel_rfl)) H0s) a0u) (by kernel_rfl)) (by kernel_rfl)) (by kernel_rfl)) (by kernel_rfl)) (by kernel_rfl)) (by kernel_rfl)) w10) w11) w12) w13) (by kernel_rfl)) (by kernel_rfl)) (by kernel_rfl)) (by kernel_rfl)) (by kernel_rfl)) (by kernel_rfl)) (by kernel_rfl)) (by kernel_rfl)) (by kernel_rfl)) c0u) (by kernel_rfl)) j0t) k0t) b0u) w28) (by kernel_rfl)) (by kernel_rfl)) (by kernel_rfl)) (by kernel_rfl)
theorem proved:Rows.FnTopSaid :=
 OpenClaim.holds_of_wide 6 Tryz.f6 rfl rfl rfl rfl rfl rfl rfl ⟨rfl,rfl,rfl,rfl,rfl⟩ rfl rfl rfl rfl rfl (by kernel_rfl) Tryz.func6 closed
  (of_decide_eq_true (by kernel_rfl)) (by unfold Func.isWrapper;first|(rw[if_pos (by decide +kernel)];kernel_rfl)|(rw[if_neg (by decide +kernel)];exact⟨rfl,rfl⟩))
  (λos a H enc _=>Z0t os a H enc)
end Go.Proofs.YtmgikbbmpnbbjaaGreat.rFnTop
