/- FnNotebooks, for every input: the law returns true and its argument reads as it did. -/
import Derived.Test.YtcpjomkcdlggaaaGreatRows
import Derived.Test.YtcpjomkcdlggaaaGreatZ
import Derived.Test.YtcpjomkcdlggaaaGreatH49
import Derived.Test.YtcpjomkcdlggaaaGreatPart35
import Derived.Test.YtcpjomkcdlggaaaGreatPart44
namespace Go.Proofs.YtcpjomkcdlggaaaGreat.rFnNotebooks
set_option linter.all false
open Go.H Go.ChangeShapes Go.WideShapes Go.ChangeAt Go.RowKit Go.WideMaps Go.WideElems
open Go.ChangeMaps (open_string)
def law(h:Hp)(v:Value)(y:List Int)(R:Rp.u8.slice.R h [v] y):Tr Tryz.prog 4 #[v] h λv h'=>v = .bool true/\Sub h h':=by
 have b:=R
 obtain⟨a,n,c,vs,e,_⟩:=b
 cases e
 exact Tr.mono (f0f h a n c y R true (d0x y)) λv h' e=>⟨e.1,by rw[e.2];exact Sub.refl _⟩
def opn:t06 Tryz.prog 22 Rp.u8.slice:=t06.slice Tryz.underlying22 (by kernel_rfl) (by decide) (t06.u8 Tryz.underlying5)
def own:ownKnob Tryz.prog.godebug=none:=by kernel_rfl
def g0x:laidOutB Tryz.prog=true:=h0x
set_option maxRecDepth 100000 in
def v0y(os:Os)(x:os.Started)(H:Type)(enc:TypeId×Value->H):
  ReturnsInHanded {} Tryz.checked os 4 .any (Rows.fnNotebooksSpec.pre6 enc Tryz.prog Tryz.f4 Rows.fnNotebooksRow.domain false) (Rows.fnNotebooksSpec.post enc Tryz.prog Tryz.f4 false true false false):=by
 refine returnsInHanded_of_change (C:=Tryz.checked) own x (by kernel_rfl) Tryz.func4
  (ChangeSpec.witness6 (enc:=enc) (C:=Tryz.checked) false ⟨#[],#[.slice none 0 0],[]⟩ 8 (by kernel_rfl) (by kernel_rfl) (by kernel_rfl) (by kernel_rfl)) ?_
 intro a base args ds E A s f G _
 have g:∀(h:Nat) t v,Tryz.f4.params[h]?=some t->args[h]?=some v->Value.okWide Tryz.prog a .any base t v:=s
 have l:=f
 obtain⟨p,q,j,k,rfl,I,J⟩:=f
 have d:DataW.TrodAll enc Tryz.prog a 0 (λ_=>true) true Tryz.f4.params.toList args.toList ds p:=j
 rw[Tryz.params4]at d g
 obtain⟨c,M,d0,D,K,L,F,rfl,rfl,h0,w⟩:=trodAll_cons d
 obtain⟨rfl,rfl,rfl⟩:=trodAll_nil w
 obtain rfl:args = #[c]:=by cases args;simp_all
 obtain⟨rfl,rfl⟩:=trodVars_none k
 obtain⟨y,i⟩:=E0t opn Tryz.underlying22 (g 0 22 c rfl rfl) h0
 refine(Tr.calls (law (λb=>a.heap[b]?) c y i)).mono λe z ⟨m,o,u⟩=>?_
 exact⟨_,m,V0u g0x (by decide +kernel) rfl rfl (by kernel_rfl) Tryz.underlying4 l o u⟩
def w10:(Rows.fnNotebooksRow.inPlace == Tryz.prog.inPlace 4)=true:=by kernel_rfl
def w11:(Rows.fnNotebooksRow.unfollowed == Tryz.prog.unfollowed 4)=true:=by kernel_rfl
def w12:(Rows.fnNotebooksRow.recurses == Tryz.prog.recurses 4)=true:=by kernel_rfl
def w13:(Rows.fnNotebooksRow.named == Tryz.prog.varsNamed 4)=true:=by kernel_rfl
def w28:(Tryz.prog.make == some Rows.fnNotebooksRow.make)=true:=by kernel_rfl
def closed:joinedFacts Tryz.prog 4 Tryz.f4 Rows.fnNotebooksSpec Rows.fnNotebooksRow=true :=
 n02 (n02 (n02 (n02 (n02 (n02 (n02 (n02 (n02 (n02 (n02 (n02 (n02 (n02 (n02 (n02 (n02 (n02 (n02 (n02 (n02 (n02 (n02 (n02 (n02 (n02 (n02 (n02 (n02 (n02 (n02 ((by kernel_rfl)) h0x) x0y) (by kernel_rfl)) (by kernel_rfl)) (by kernel_rfl)) (by kernel_rfl)) (by kernel_rfl)) (by kernel_rfl)) w10) w11) w12) w13) (by kernel_rfl)) (by kernel_rfl)) (by kernel_rfl)) (by kernel_rfl)) (by kernel_rfl)) (by kernel_rfl)) (by kernel_rfl)) (by kernel_rfl)) (by kernel_rfl)) z0y) (by kernel_rfl)) I0x) J0x) y0y) w28) (by kernel_rfl)) (by kernel_rfl)) (by kernel_rfl)) (by kernel_rfl)
def proved:Rows.FnNotebooksSaid :=
 OpenClaim.holds_of_wide 4 Tryz.f4 rfl rfl rfl rfl rfl rfl rfl ⟨rfl,rfl,rfl,rfl,rfl⟩ rfl rfl rfl rfl rfl (by kernel_rfl) Tryz.func4 closed
  (of_decide_eq_true (by kernel_rfl)) (by unfold Func.isWrapper;first|(rw[if_pos (by decide +kernel)];kernel_rfl)|(rw[if_neg (by decide +kernel)];exact⟨rfl,rfl⟩))
  (λos a H enc _=>v0y os a H enc)
end Go.Proofs.YtcpjomkcdlggaaaGreat.rFnNotebooks
