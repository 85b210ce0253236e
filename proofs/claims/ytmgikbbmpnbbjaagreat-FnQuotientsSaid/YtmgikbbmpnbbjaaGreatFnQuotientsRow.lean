/- FnQuotients, for every input: the law returns true and its argument reads as it did. -/
import Derived.Test.YtmgikbbmpnbbjaaGreatRows
import Derived.Test.YtmgikbbmpnbbjaaGreatZ
import Derived.Test.YtmgikbbmpnbbjaaGreatH51
import Derived.Test.YtmgikbbmpnbbjaaGreatPart29
import Derived.Test.YtmgikbbmpnbbjaaGreatPart33
namespace Go.Proofs.YtmgikbbmpnbbjaaGreat.rFnQuotients
open Go.H Go.ChangeShapes Go.WideShapes Go.ChangeAt Go.RowKit Go.WideMaps Go.WideElems
open Go.ChangeMaps (open_string)
set_option linter.unusedVariables false
theorem law(h:Hp)(v:Value)(y:List Int)(R:Rp.u8.slice.R h [v] y)(d:∀ x∈y,0<=x/\x<256):Tr Tryz.prog 5 #[v] h λv h'=>v = .bool true/\Sub h h':=by
 have b:=R
 obtain⟨a,n,c,vs,e,_⟩:=b
 cases e
 exact Tr.mono (E0b h a n c y R true (G0t y d)) λv h' e=>⟨e.1,by rw[e.2];exact Sub.refl _⟩
theorem opn:W02 Tryz.prog 22 Rp.u8b.slice:=W02.slice Tryz.underlying22 (by kernel_rfl) (by decide) (W02.u8b Tryz.underlying5)
theorem own:ownKnob Tryz.prog.godebug=none:=by kernel_rfl
theorem J0t:laidOutB Tryz.prog=true:=K0t
set_option maxRecDepth 100000 in
theorem O0u(os:Os)(w:os.Started)(H:Type)(enc:TypeId×Value->H):
  ReturnsInHanded {} Tryz.checked os 5 .any (Rows.fnQuotientsSpec.pre6 enc Tryz.prog Tryz.f5 Rows.fnQuotientsRow.domain false) (Rows.fnQuotientsSpec.post enc Tryz.prog Tryz.f5 false true false false):=by
 refine returnsInHanded_of_change (C:=Tryz.checked) own w (by kernel_rfl) Tryz.func5
  (ChangeSpec.witness6 (enc:=enc) (C:=Tryz.checked) false ⟨#[],#[.slice none 0 0],[]⟩ 8 (by kernel_rfl) (by kernel_rfl) (by kernel_rfl) (by kernel_rfl)) ?_
 intro a base args ds D z o g F _
 have h:∀(j:Nat) t v,Tryz.f5.params[j]?=some t->args[j]?=some v->Value.okWide Tryz.prog a .any base t v:=o
 have l:=g
 obtain⟨p,q,i,k,rfl,G,I⟩:=g
 have f:DataW.TrodAll enc Tryz.prog a 0 (λ_=>true) true Tryz.f5.params.toList args.toList ds p:=i
 rw[Tryz.params5]at f h
 obtain⟨c,L,d0,A,J,K,E,rfl,rfl,h0,u⟩:=trodAll_cons f
 obtain⟨rfl,rfl,rfl⟩:=trodAll_nil u
 obtain rfl:args = #[c]:=by cases args;simp_all
 obtain⟨rfl,rfl⟩:=trodVars_none k
 obtain⟨x,d⟩:=d0q opn Tryz.underlying22 (h 0 22 c rfl rfl) h0
 refine(Tr.calls (law (λb=>a.heap[b]?) c x (Rp.u8b_is d).1 (Rp.u8b_is d).2)).mono λe y ⟨m,n,s⟩=>?_
 exact⟨_,m,n0r J0t (by decide +kernel) rfl rfl (by kernel_rfl) Tryz.underlying4 l n s⟩
theorem w10:(Rows.fnQuotientsRow.inPlace == Tryz.prog.inPlace 5)=true:=by kernel_rfl
theorem w11:(Rows.fnQuotientsRow.unfollowed == Tryz.prog.unfollowed 5)=true:=by kernel_rfl
theorem w12:(Rows.fnQuotientsRow.recurses == Tryz.prog.recurses 5)=true:=by kernel_rfl
theorem w13:(Rows.fnQuotientsRow.named == Tryz.prog.varsNamed 5)=true:=by kernel_rfl
theorem w28:(Tryz.prog.make == some Rows.fnQuotientsRow.make)=true:=by kernel_rfl
theorem closed:joinedFacts Tryz.prog 5 Tryz.f5 Rows.fnQuotientsSpec Rows.fnQuotientsRow=true :=
 B00 (B00 (B00 (B00 (B00 (B00 (B00 (B00 (B00 (B00 (B00 (B00 (B00 (B00 (B00 (B00 (B00 (B00 (B00 (B00 (B00 (B00 (B00 (B00 (B00 (B00 (B00 (B00 (B00 (B00 (B00 ((by kernel_rfl)) K0t) P0u) (by kernel_rfl)) (by kernel_rfl)) (by kernel_rfl)) (by kernel_rfl)) (by kernel_rfl)) (by kernel_rfl)) w10) w11) w12) w13) (by kernel_rfl)) (by kernel_rfl)) (by kernel_rfl)) (by kernel_rfl)) (by kernel_rfl)) (by kernel_rfl)) (by kernel_rfl)) (by kernel_rfl)) (by kernel_rfl)) R0u) (by kernel_rfl)) h0u) i0u) Q0u) w28) (by kernel_rfl)) (by kernel_rfl)) (by kernel_rfl)) (by kernel_rfl)
theorem proved:Rows.FnQuotientsSaid :=
 OpenClaim.holds_of_wide 5 Tryz.f5 rfl rfl rfl rfl rfl rfl rfl ⟨rfl,rfl,rfl,rfl,rfl⟩ rfl rfl rfl rfl rfl (by kernel_rfl) Tryz.func5 closed
  (of_decide_eq_true (by kernel_rfl)) (by unfold Func.isWrapper;first|(rw[if_pos (by decide +kernel)];kernel_rfl)|(rw[if_neg (by decide +kernel)];exact⟨rfl,rfl⟩))
  (λos a H enc _=>O0u os a H enc)
end Go.Proofs.YtmgikbbmpnbbjaaGreat.rFnQuotients
