/- FnClaims, for every input: the law returns true and its argument reads as it did. -/
import Derived.Test.YthkpbcnhdhfifaaGreatRows
import Derived.Test.YthkpbcnhdhfifaaGreatZ
import Derived.Test.YthkpbcnhdhfifaaGreatH49
import Derived.Test.YthkpbcnhdhfifaaGreatPart36
import Derived.Test.YthkpbcnhdhfifaaGreatPart44
namespace Go.Proofs.YthkpbcnhdhfifaaGreat.rFnClaims
set_option linter.all false
open Go.H Go.ChangeShapes Go.WideShapes Go.ChangeAt Go.RowKit Go.WideMaps Go.WideElems
open Go.ChangeMaps (open_string)
def law(h:Hp)(v:Value)(y:List Int)(R:Rp.u8.slice.R h [v] y):Tr Tryz.prog 3 #[v] h λv h'=>v = .bool true/\Sub h h':=by have b:=R;obtain⟨a,n,c,vs,e,_⟩:=b;cases e;exact Tr.mono (z0j h a n c y R true (w0z y)) λv h' e=>⟨e.1,by rw[e.2];exact Sub.refl _⟩
def opn:K06 Tryz.prog 22 Rp.u8.slice:=K06.slice Tryz.underlying22 (by kernel_rfl) oD (K06.u8 Tryz.underlying5)
def own:ownKnob Tryz.prog.godebug=none:=by kernel_rfl
def z0z:laidOutB Tryz.prog:=A0z
set_option maxRecDepth 100000 in
def W0A(os:Os)(w:os.Started)(H:Type)(enc:TypeId×Value->H): ReturnsInHanded {} Tryz.checked os 3 .any (Rows.fnClaimsSpec.pre6 enc Tryz.prog Tryz.f3 Rows.fnClaimsRow.domain false) (Rows.fnClaimsSpec.post enc Tryz.prog Tryz.f3 false true false false):=by
 refine returnsInHanded_of_change (C:=Tryz.checked) own w (by kernel_rfl) Tryz.func3
  (ChangeSpec.witness6 (enc:=enc) (C:=Tryz.checked) false ⟨#[],#[.slice none 0 0],[]⟩ 8 (by kernel_rfl) (by kernel_rfl) (by kernel_rfl) (by kernel_rfl)) ?_
 intro a base args ds D z o f F _;have g:∀(h:Nat) t v,Tryz.f3.params[h]?=some t->args[h]?=some v->Value.okWide Tryz.prog a .any base t v:=o;have l:=f;obtain⟨p,q,j,k,rfl,G,I⟩:=f;have d:DataW.TrodAll enc Tryz.prog a 0 (λ_=>true) true Tryz.f3.params.toList args.toList ds p:=j;rw[Tryz.params3]at d g;obtain⟨c,L,d0,A,J,K,E,rfl,rfl,h0,u⟩:=trodAll_cons d;obtain⟨rfl,rfl,rfl⟩:=trodAll_nil u;obtain rfl:args = #[c]:=by cases args;simp_all
 obtain⟨rfl,rfl⟩:=trodVars_none k;obtain⟨x,i⟩:=y0v opn Tryz.underlying22 (g 0 22 c rfl rfl) h0;refine(Tr.calls (law (λb=>a.heap[b]?) c x i)).mono λe y ⟨m,n,s⟩=>?_;exact⟨_,m,S0w z0z (by decide +kernel) rfl rfl (by kernel_rfl) Tryz.underlying4 l n s⟩
def w10:(Rows.fnClaimsRow.inPlace == Tryz.prog.inPlace 3):=by kernel_rfl
def w11:(Rows.fnClaimsRow.unfollowed == Tryz.prog.unfollowed 3):=by kernel_rfl
def w12:(Rows.fnClaimsRow.recurses == Tryz.prog.recurses 3):=by kernel_rfl
def w13:(Rows.fnClaimsRow.named == Tryz.prog.varsNamed 3):=by kernel_rfl
def w28:(Tryz.prog.make == some Rows.fnClaimsRow.make):=by kernel_rfl
def closed:joinedFacts Tryz.prog 3 Tryz.f3 Rows.fnClaimsSpec Rows.fnClaimsRow=true :=
 C02 (C02 (C02 (C02 (C02 (C02 (C02 (C02 (C02 (C02 (C02 (C02 (C02 (C02 (C02 (C02 (C02 (C02 (C02 (C02 (C02 (C02 (C02 (C02 (C02 (C02 (C02 (C02 (C02 (C02 (C02 ((by kernel_rfl)) A0z) Y0A) (by kernel_rfl)) (by kernel_rfl)) (by kernel_rfl)) (by kernel_rfl)) (by kernel_rfl)) (by kernel_rfl)) w10) w11) w12) w13) (by kernel_rfl)) (by kernel_rfl)) (by kernel_rfl)) (by kernel_rfl)) (by kernel_rfl)) (by kernel_rfl)) (by kernel_rfl)) (by kernel_rfl)) (by kernel_rfl)) a0B) (by kernel_rfl)) i0A) j0A) Z0A) w28) (by kernel_rfl)) (by kernel_rfl)) (by kernel_rfl)) (by kernel_rfl)
def proved:Rows.FnClaimsSaid :=
 OpenClaim.holds_of_wide 3 Tryz.f3 rfl rfl rfl rfl rfl rfl rfl ⟨rfl,rfl,rfl,rfl,rfl⟩ rfl rfl rfl rfl rfl (by kernel_rfl) Tryz.func3 closed
  (of_decide_eq_true (by kernel_rfl)) (by unfold Func.isWrapper;first|(rw[iP (by decide +kernel)];kernel_rfl)|(rw[iE (by decide +kernel)];exact⟨rfl,rfl⟩))
  (λos a H enc _=>W0A os a H enc)
end Go.Proofs.YthkpbcnhdhfifaaGreat.rFnClaims
