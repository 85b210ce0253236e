/- FnConsoleResults, for every input: the law returns true and its argument reads as it did. -/
import Derived.Test.YthakcafglempaaaGreatRows
import Derived.Test.YthakcafglempaaaGreatZ
import Derived.Test.YthakcafglempaaaGreatH51
import Derived.Test.YthakcafglempaaaGreatPart38
import Derived.Test.YthakcafglempaaaGreatPart46
namespace Go.Proofs.YthakcafglempaaaGreat.rFnConsoleResults
set_option linter.all false
open Go.H Go.ChangeShapes Go.WideShapes Go.ChangeAt Go.RowKit Go.WideMaps Go.WideElems
open Go.ChangeMaps (open_string)
def law(h:Hp)(v:Value)(y:List Int)(R:Rp.u8.slice.R h [v] y)(d:∀ x∈y,0<=x/\x<256):Tr Tryz.prog 3 #[v] h λv h'=>v = .bool true/\Sub h h':=by have b:=R;obtain⟨a,n,c,vs,e,_⟩:=b;cases e;exact Tr.mono (t0a h a n c y R true (c0y y d)) λv h' e=>⟨e.1,by rw[e.2];exact Sub.refl _⟩
def opn:a05 Tryz.prog 22 Rp.u8b.slice:=a05.slice Tryz.underlying22 (by kernel_rfl) oD (a05.u8b Tryz.underlying5)
def own:ownKnob Tryz.prog.godebug=none:=by kernel_rfl
def g0y:laidOutB Tryz.prog:=h0y
set_option maxRecDepth 100000 in
def E0z(os:Os)(w:os.Started)(H:Type)(enc:TypeId×Value->H): ReturnsInHanded {} Tryz.checked os 3 .any (Rows.fnConsoleResultsSpec.pre6 enc Tryz.prog Tryz.f3 Rows.fnConsoleResultsRow.domain false) (Rows.fnConsoleResultsSpec.post enc Tryz.prog Tryz.f3 false true false false):=by
 refine returnsInHanded_of_change (C:=Tryz.checked) own w (by kernel_rfl) Tryz.func3
  (ChangeSpec.witness6 (enc:=enc) (C:=Tryz.checked) false ⟨#[],#[.slice none 0 0],[]⟩ 8 (by kernel_rfl) (by kernel_rfl) (by kernel_rfl) (by kernel_rfl)) ?_
 intro a base args ds D z o g F _;have h:∀(j:Nat) t v,Tryz.f3.params[j]?=some t->args[j]?=some v->Value.okWide Tryz.prog a .any base t v:=o;have l:=g;obtain⟨p,q,i,k,rfl,G,I⟩:=g;have f:DataW.TrodAll enc Tryz.prog a 0 (λ_=>true) true Tryz.f3.params.toList args.toList ds p:=i;rw[Tryz.params3]at f h;obtain⟨c,L,d0,A,J,K,E,rfl,rfl,h0,u⟩:=trodAll_cons f;obtain⟨rfl,rfl,rfl⟩:=trodAll_nil u;obtain rfl:args = #[c]:=by cases args;simp_all
 obtain⟨rfl,rfl⟩:=trodVars_none k;obtain⟨x,d⟩:=W0t opn Tryz.underlying22 (h 0 22 c rfl rfl) h0;refine(Tr.calls (law (λb=>a.heap[b]?) c x (Rp.u8b_is d).1 (Rp.u8b_is d).2)).mono λe y ⟨m,n,s⟩=>?_;exact⟨_,m,w0v g0y (by decide +kernel) rfl rfl (by kernel_rfl) Tryz.underlying4 l n s⟩
def w10:(Rows.fnConsoleResultsRow.inPlace == Tryz.prog.inPlace 3):=by kernel_rfl
def w11:(Rows.fnConsoleResultsRow.unfollowed == Tryz.prog.unfollowed 3):=by kernel_rfl
def w12:(Rows.fnConsoleResultsRow.recurses == Tryz.prog.recurses 3):=by kernel_rfl
def w13:(Rows.fnConsoleResultsRow.named == Tryz.prog.varsNamed 3):=by kernel_rfl
def w28:(Tryz.prog.make == some Rows.fnConsoleResultsRow.make):=by kernel_rfl
def closed:joinedFacts Tryz.prog 3 Tryz.f3 Rows.fnConsoleResultsSpec Rows.fnConsoleResultsRow=true :=
 Z01 (Z01 (Z01 (Z01 (Z01 (Z01 (Z01 (Z01 (Z01 (Z01 (Z01 (Z01 (Z01 (Z01 (Z01 (Z01 (Z01 (Z01 (Z01 (Z01 (Z01 (Z01 (Z01 (Z01 (Z01 (Z01 (Z01 (Z01 (Z01 (Z01 (Z01 ((by kernel_rfl)) h0y) G0z) (by kernel_rfl)) (by kernel_rfl)) (by kernel_rfl)) (by kernel_rfl)) (by kernel_rfl)) (by kernel_rfl)) w10) w11) w12) w13) (by kernel_rfl)) (by kernel_rfl)) (by kernel_rfl)) (by kernel_rfl)) (by kernel_rfl)) (by kernel_rfl)) (by kernel_rfl)) (by kernel_rfl)) (by kernel_rfl)) I0z) (by kernel_rfl)) S0y) T0y) H0z) w28) (by kernel_rfl)) (by kernel_rfl)) (by kernel_rfl)) (by kernel_rfl)
def proved:Rows.FnConsoleResultsSaid :=
 OpenClaim.holds_of_wide 3 Tryz.f3 rfl rfl rfl rfl rfl rfl rfl ⟨rfl,rfl,rfl,rfl,rfl⟩ rfl rfl rfl rfl rfl (by kernel_rfl) Tryz.func3 closed
  (of_decide_eq_true (by kernel_rfl)) (by unfold Func.isWrapper;first|(rw[iP (by decide +kernel)];kernel_rfl)|(rw[iE (by decide +kernel)];exact⟨rfl,rfl⟩))
  (λos a H enc _=>E0z os a H enc)
end Go.Proofs.YthakcafglempaaaGreat.rFnConsoleResults
