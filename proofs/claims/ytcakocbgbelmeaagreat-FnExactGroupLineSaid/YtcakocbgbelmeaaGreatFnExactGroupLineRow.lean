/- GroupLine, for every input: the law returns true and its arguments read as they did. -/
import Derived.Test.YtcakocbgbelmeaaGreatRows
import Derived.Test.YtcakocbgbelmeaaGreatZ
import Derived.Test.YtcakocbgbelmeaaGreatLGroupLine
namespace Go.Proofs.YtcakocbgbelmeaaGreat.rFnExactGroupLine
open Go.H Go.ChangeShapes Go.WideShapes Go.ChangeAt Go.RowKit Go.WideMaps Go.WideElems
open Go.ChangeMaps (open_string)
set_option linter.unusedVariables false
theorem own:ownKnob Tryz.prog.godebug=none:=by kernel_rfl
theorem v0q:laidOutB Tryz.prog=true:=w0q
theorem I0r:X01 Tryz.prog 3 Wp.int.toRp:=X01.int Tryz.underlying3
theorem J0r:X01 Tryz.prog 31 J0.toRp:=X01.slice Tryz.underlying31 (by kernel_rfl) (by decide) I0r
theorem o0r:X01 Tryz.prog 22 T1.toRp:=X01.slice Tryz.underlying22 (by kernel_rfl) (by decide) J0r
theorem g0g:X01 Tryz.prog 24 E1.toRp:=X01.struct Tryz.underlying24 (by kernel_rfl) (Z0c.cons rfl (by kernel_rfl) I0r (Z0c.one rfl (by kernel_rfl) o0r))
set_option maxRecDepth 100000 in
theorem p0r (os:Os) (started:os.Started) (H:Type) (enc:TypeId×Value→H) :
  ReturnsInHanded {} Tryz.checked os 3 .any (Rows.fnExactGroupLineSpec.pre6 enc Tryz.prog Tryz.f3 Rows.fnExactGroupLineRow.domain false) (Rows.fnExactGroupLineSpec.post enc Tryz.prog Tryz.f3 false true false false):=by
 refine returnsInHanded_of_change (C:=Tryz.checked) own started (by kernel_rfl) Tryz.func3
  (ChangeSpec.witness6 (enc:=enc) (C:=Tryz.checked) false ⟨#[],#[.agg #[.int .i64 0,.slice none 0 0]],[]⟩ 8 (by kernel_rfl) (by kernel_rfl) (by kernel_rfl) (by kernel_rfl)) ?_
 intro W base args ds gs before hval0 hW hcnd _
 have hval:∀(j:Nat) t v,Tryz.f3.params[j]?=some t→args[j]?=some v→Value.okWide Tryz.prog W .any base t v:=hval0
 have hW':=hW
 obtain⟨p,q,hA0,hV,rfl,hfz,hnd⟩:=hW
 have hA:DataW.TrodAll enc Tryz.prog W 0 (fun _=>true) true Tryz.f3.params.toList args.toList ds p:=hA0
 rw[Tryz.params3]at hA hval
 obtain⟨v0,vs0,d0,ds0,p0,q0,hargs,rfl,rfl,h0,r0⟩:=trodAll_cons hA
 obtain⟨rfl,rfl,rfl⟩:=trodAll_nil r0
 obtain rfl:args = #[v0]:=by cases args;simp_all
 obtain⟨rfl,rfl⟩:=trodVars_none hV
 obtain⟨e0,y0,rfl,R0⟩:=T0k g0g Tryz.underlying24 (hval 0 24 v0 rfl rfl) h0
 refine(Tr.calls (R0f (fun b=>W.heap[b]?) e0 y0 R0)).mono fun e W' ⟨he,hg,hz⟩=>?_
 exact⟨_,he,v0o v0q (by decide +kernel) rfl rfl (by kernel_rfl) Tryz.underlying4 hW' hg hz⟩
theorem w10:(Rows.fnExactGroupLineRow.inPlace == Tryz.prog.inPlace 3)=true:=by kernel_rfl
theorem w11:(Rows.fnExactGroupLineRow.unfollowed == Tryz.prog.unfollowed 3)=true:=by kernel_rfl
theorem w12:(Rows.fnExactGroupLineRow.recurses == Tryz.prog.recurses 3)=true:=by kernel_rfl
theorem w13:(Rows.fnExactGroupLineRow.named == Tryz.prog.varsNamed 3)=true:=by kernel_rfl
theorem w28:(Tryz.prog.make == some Rows.fnExactGroupLineRow.make)=true:=by kernel_rfl
theorem closed:joinedFacts Tryz.prog 3 Tryz.f3 Rows.fnExactGroupLineSpec Rows.fnExactGroupLineRow=true :=
 E9 (E9 (E9 (E9 (E9 (E9 (E9 (E9 (E9 (E9 (E9 (E9 (E9 (E9 (E9 (E9 (E9 (E9 (E9 (E9 (E9 (E9 (E9 (E9 (E9 (E9 (E9 (E9 (E9 (E9 (E9 ((by kernel_rfl)) w0q) q0r) (by kernel_rfl)) (by kernel_rfl)) (by kernel_rfl)) (by kernel_rfl)) (by kernel_rfl)) (by kernel_rfl)) w10) w11) w12) w13) (by kernel_rfl)) (by kernel_rfl)) (by kernel_rfl)) (by kernel_rfl)) (by kernel_rfl)) (by kernel_rfl)) (by kernel_rfl)) (by kernel_rfl)) (by kernel_rfl)) s0r) (by kernel_rfl)) Q0q) R0q) r0r) w28) (by kernel_rfl)) (by kernel_rfl)) (by kernel_rfl)) (by kernel_rfl)
theorem proved:Rows.FnExactGroupLineSaid :=
 OpenClaim.holds_of_wide 3 Tryz.f3 rfl rfl rfl rfl rfl rfl rfl ⟨rfl,rfl,rfl,rfl,rfl⟩ rfl rfl rfl rfl rfl (by kernel_rfl) Tryz.func3 closed
  (of_decide_eq_true (by kernel_rfl)) (by unfold Func.isWrapper;first|(rw[if_pos (by decide +kernel)];kernel_rfl)|(rw[if_neg (by decide +kernel)];exact⟨rfl,rfl⟩))
  (fun os started H enc _=>p0r os started H enc)
end Go.Proofs.YtcakocbgbelmeaaGreat.rFnExactGroupLine
