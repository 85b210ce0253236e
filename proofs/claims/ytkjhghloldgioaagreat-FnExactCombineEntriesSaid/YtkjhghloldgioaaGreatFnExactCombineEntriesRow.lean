/- CombineEntries, for every input: the law returns true and its arguments read as they did. -/
import Derived.Test.YtkjhghloldgioaaGreatRows
import Derived.Test.YtkjhghloldgioaaGreatZ
import Derived.Test.YtkjhghloldgioaaGreatLCombineEntries
namespace Go.Proofs.YtkjhghloldgioaaGreat.rFnExactCombineEntries
open Go.H Go.ChangeShapes Go.WideShapes Go.ChangeAt Go.RowKit Go.WideMaps Go.WideElems
open Go.ChangeMaps (open_string)
set_option linter.unusedVariables false
theorem own:ownKnob Tryz.prog.godebug=none:=by kernel_rfl
theorem J0n:laidOutB Tryz.prog=true:=L0n
theorem B0k:V8 Tryz.prog 3 Wp.int.toRp:=V8.int Tryz.underlying3
theorem l0p:V8 Tryz.prog 9 Wp.str.toRp:=V8.str Tryz.underlying9
theorem a0p:V8 Tryz.prog 179 H1.toRp:=V8.struct Tryz.underlying179 (by kernel_rfl) (z02.cons rfl (by kernel_rfl) B0k (z02.cons rfl (by kernel_rfl) B0k (z02.one rfl (by kernel_rfl) B0k)))
theorem F0o:V8 Tryz.prog 39 J0.toRp:=V8.slice Tryz.underlying39 (by kernel_rfl) (by decide) a0p
theorem G0o:V8 Tryz.prog 41 D1.toRp:=V8.struct Tryz.underlying41 (by kernel_rfl) (z02.cons rfl (by kernel_rfl) B0k (z02.cons rfl (by kernel_rfl) B0k (z02.one rfl (by kernel_rfl) F0o)))
theorem H0o:V8 Tryz.prog 192 Z0.toRp:=V8.struct Tryz.underlying192 (by kernel_rfl) (z02.cons rfl (by kernel_rfl) l0p (z02.one rfl (by kernel_rfl) G0o))
theorem K0n:V8 Tryz.prog 70 Z1.toRp:=V8.slice Tryz.underlying70 (by kernel_rfl) (by decide) H0o
theorem M0m:V8 Tryz.prog 72 Y1.toRp:=V8.struct Tryz.underlying72 (by kernel_rfl) (z02.cons rfl (by kernel_rfl) B0k (z02.one rfl (by kernel_rfl) K0n))
set_option maxRecDepth 100000 in
theorem I0o(os:Os)(started:os.Started)(H:Type)(enc:TypeId×Value->H):
  ReturnsInHanded {} Tryz.checked os 10 .any (Rows.fnExactCombineEntriesSpec.pre6 enc Tryz.prog Tryz.f10 Rows.fnExactCombineEntriesRow.domain false) (Rows.fnExactCombineEntriesSpec.post enc Tryz.prog Tryz.f10 false true false false):=by
 refine returnsInHanded_of_change (C:=Tryz.checked) own started (by kernel_rfl) Tryz.func10
  (ChangeSpec.witness6 (enc:=enc) (C:=Tryz.checked) false ⟨#[],#[.agg #[.int .i64 0,.slice none 0 0],.string ⟨#[]⟩,.string ⟨#[]⟩,.string ⟨#[]⟩,.string ⟨#[]⟩],[]⟩ 8 (by kernel_rfl) (by kernel_rfl) (by kernel_rfl) (by kernel_rfl)) ?_
 intro W base args ds gs before hval0 hW hcnd _
 have hval:∀(j:Nat) t v,Tryz.f10.params[j]?=some t->args[j]?=some v->Value.okWide Tryz.prog W .any base t v:=hval0
 have hW':=hW
 obtain⟨p,q,hA0,hV,rfl,hfz,hnd⟩:=hW
 have hA:DataW.TrodAll enc Tryz.prog W 0 (λ_=>true) true Tryz.f10.params.toList args.toList ds p:=hA0
 rw[Tryz.params10]at hA hval
 obtain⟨v0,vs0,d0,ds0,p0,q0,hargs,rfl,rfl,h0,r0⟩:=trodAll_cons hA
 obtain⟨v1,vs1,d1,ds1,p1,q1,rfl,rfl,rfl,h1,r1⟩:=trodAll_cons r0
 obtain⟨v2,vs2,d2,ds2,p2,q2,rfl,rfl,rfl,h2,r2⟩:=trodAll_cons r1
 obtain⟨v3,vs3,d3,ds3,p3,q3,rfl,rfl,rfl,h3,r3⟩:=trodAll_cons r2
 obtain⟨v4,vs4,d4,ds4,p4,q4,rfl,rfl,rfl,h4,r4⟩:=trodAll_cons r3
 obtain⟨rfl,rfl,rfl⟩:=trodAll_nil r4
 obtain rfl:args = #[v0,v1,v2,v3,v4]:=by cases args;simp_all
 obtain⟨rfl,rfl⟩:=trodVars_none hV
 obtain⟨e0,y0,rfl,R0⟩:=h0h M0m Tryz.underlying72 (hval 0 72 v0 rfl rfl) h0
 obtain⟨a1,rfl,rfl,rfl,w1⟩:=open_string Tryz.underlying9 (hval 1 9 v1 rfl rfl) h1
 obtain⟨a2,rfl,rfl,rfl,w2⟩:=open_string Tryz.underlying9 (hval 2 9 v2 rfl rfl) h2
 obtain⟨a3,rfl,rfl,rfl,w3⟩:=open_string Tryz.underlying9 (hval 3 9 v3 rfl rfl) h3
 obtain⟨a4,rfl,rfl,rfl,w4⟩:=open_string Tryz.underlying9 (hval 4 9 v4 rfl rfl) h4
 refine(Tr.calls (w06 (λb=>W.heap[b]?) e0 y0 R0 a1 (m0c w1) a2 (m0c w2) a3 (m0c w3) a4 (m0c w4))).mono λe W' ⟨he,hg,hz⟩=>?_
 exact⟨_,he,m0l J0n (by decide +kernel) rfl rfl (by kernel_rfl) Tryz.underlying4 hW' hg hz⟩
theorem w10:(Rows.fnExactCombineEntriesRow.inPlace == Tryz.prog.inPlace 10)=true:=by kernel_rfl
theorem w11:(Rows.fnExactCombineEntriesRow.unfollowed == Tryz.prog.unfollowed 10)=true:=by kernel_rfl
theorem w12:(Rows.fnExactCombineEntriesRow.recurses == Tryz.prog.recurses 10)=true:=by kernel_rfl
theorem w13:(Rows.fnExactCombineEntriesRow.named == Tryz.prog.varsNamed 10)=true:=by kernel_rfl
theorem w28:(Tryz.prog.make == some Rows.fnExactCombineEntriesRow.make)=true:=by kernel_rfl
theorem closed:joinedFacts Tryz.prog 10 Tryz.f10 Rows.fnExactCombineEntriesSpec Rows.fnExactCombineEntriesRow=true :=
 J8 (J8 (J8 (J8 (J8 (J8 (J8 (J8 (J8 (J8 (J8 (J8 (J8 (J8 (J8 (J8 (J8 (J8 (J8 (J8 (J8 (J8 (J8 (J8 (J8 (J8 (J8 (J8 (J8 (J8 (J8 ((by kernel_rfl)) L0n) J0o) (by kernel_rfl)) (by kernel_rfl)) (by kernel_rfl)) (by kernel_rfl)) (by kernel_rfl)) (by kernel_rfl)) w10) w11) w12) w13) (by kernel_rfl)) (by kernel_rfl)) (by kernel_rfl)) (by kernel_rfl)) (by kernel_rfl)) (by kernel_rfl)) (by kernel_rfl)) (by kernel_rfl)) (by kernel_rfl)) L0o) (by kernel_rfl)) a0o) b0o) K0o) w28) (by kernel_rfl)) (by kernel_rfl)) (by kernel_rfl)) (by kernel_rfl)
theorem proved:Rows.FnExactCombineEntriesSaid :=
 OpenClaim.holds_of_wide 10 Tryz.f10 rfl rfl rfl rfl rfl rfl rfl ⟨rfl,rfl,rfl,rfl,rfl⟩ rfl rfl rfl rfl rfl (by kernel_rfl) Tryz.func10 closed
  (of_decide_eq_true (by kernel_rfl)) (by unfold Func.isWrapper;first|(rw[if_pos (by decide +kernel)];kernel_rfl)|(rw[if_neg (by decide +kernel)];exact⟨rfl,rfl⟩))
  (λos started H enc _=>I0o os started H enc)
end Go.Proofs.YtkjhghloldgioaaGreat.rFnExactCombineEntries
