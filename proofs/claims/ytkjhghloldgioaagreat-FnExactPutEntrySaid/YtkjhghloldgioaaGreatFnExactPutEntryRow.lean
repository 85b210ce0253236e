/- PutEntry, for every input: the law returns true and its arguments read as they did. -/
import Derived.Test.YtkjhghloldgioaaGreatRows
import Derived.Test.YtkjhghloldgioaaGreatZ
import Derived.Test.YtkjhghloldgioaaGreatLPutEntry
namespace Go.Proofs.YtkjhghloldgioaaGreat.rFnExactPutEntry
open Go.H Go.ChangeShapes Go.WideShapes Go.ChangeAt Go.RowKit Go.WideMaps Go.WideElems
open Go.ChangeMaps (open_string)
set_option linter.unusedVariables false
theorem own:ownKnob Tryz.prog.godebug=none:=by kernel_rfl
theorem k0h:laidOutB Tryz.prog=true:=m0h
theorem O0e:M6 Tryz.prog 3 Wp.int.toRp:=M6.int Tryz.underlying3
theorem M0i:M6 Tryz.prog 9 Wp.str.toRp:=M6.str Tryz.underlying9
theorem C0i:M6 Tryz.prog 179 D1.toRp:=M6.struct Tryz.underlying179 (by kernel_rfl) (Z9.cons rfl (by kernel_rfl) O0e (Z9.cons rfl (by kernel_rfl) O0e (Z9.one rfl (by kernel_rfl) O0e)))
theorem g0i:M6 Tryz.prog 39 I0.toRp:=M6.slice Tryz.underlying39 (by kernel_rfl) (by decide) C0i
theorem u0g:M6 Tryz.prog 41 C1.toRp:=M6.struct Tryz.underlying41 (by kernel_rfl) (Z9.cons rfl (by kernel_rfl) O0e (Z9.cons rfl (by kernel_rfl) O0e (Z9.one rfl (by kernel_rfl) g0i)))
theorem h0i:M6 Tryz.prog 192 H0.toRp:=M6.struct Tryz.underlying192 (by kernel_rfl) (Z9.cons rfl (by kernel_rfl) M0i (Z9.one rfl (by kernel_rfl) u0g))
theorem l0h:M6 Tryz.prog 70 J2.toRp:=M6.slice Tryz.underlying70 (by kernel_rfl) (by decide) h0i
theorem v0g:M6 Tryz.prog 72 O0.toRp:=M6.struct Tryz.underlying72 (by kernel_rfl) (Z9.cons rfl (by kernel_rfl) O0e (Z9.one rfl (by kernel_rfl) l0h))
set_option maxRecDepth 100000 in
theorem i0i(os:Os)(I:os.Started)(H:Type)(enc:TypeId×Value->H):
  ReturnsInHanded {} Tryz.checked os 9 .any (Rows.fnExactPutEntrySpec.pre6 enc Tryz.prog Tryz.f9 Rows.fnExactPutEntryRow.domain false) (Rows.fnExactPutEntrySpec.post enc Tryz.prog Tryz.f9 false true false false):=by
 refine returnsInHanded_of_change (C:=Tryz.checked) own I (by kernel_rfl) Tryz.func9
  (ChangeSpec.witness6 (enc:=enc) (C:=Tryz.checked) false ⟨#[],#[.agg #[.int .i64 0,.slice none 0 0],.string ⟨#[]⟩,.agg #[.int .i64 0,.int .i64 0,.slice none 0 0]],[]⟩ 8 (by kernel_rfl) (by kernel_rfl) (by kernel_rfl) (by kernel_rfl)) ?_
 intro c base args ds T N B f V _
 have a:∀(j:Nat) t v,Tryz.f9.params[j]?=some t->args[j]?=some v->Value.okWide Tryz.prog c .any base t v:=B
 have y:=f
 obtain⟨p,q,w,x,rfl,W,X⟩:=f
 have d:DataW.TrodAll enc Tryz.prog c 0 (λ_=>true) true Tryz.f9.params.toList args.toList ds p:=w
 rw[Tryz.params9]at d a
 obtain⟨g,ae,d0,Q,Y,ab,U,rfl,rfl,h0,E⟩:=trodAll_cons d
 obtain⟨h,af,O,R,Z,ac,rfl,rfl,rfl,s,F⟩:=trodAll_cons E
 obtain⟨i,ag,P,S,aa,ad,rfl,rfl,rfl,u,G⟩:=trodAll_cons F
 obtain⟨rfl,rfl,rfl⟩:=trodAll_nil G
 obtain rfl:args = #[g,h,i]:=by cases args;simp_all
 obtain⟨rfl,rfl⟩:=trodVars_none x
 obtain⟨n,K,rfl,k⟩:=u07 v0g Tryz.underlying72 (a 0 72 g rfl rfl) h0
 obtain⟨m,rfl,rfl,rfl,J⟩:=open_string Tryz.underlying9 (a 1 9 h rfl rfl) s
 obtain⟨o,L,rfl,l⟩:=u07 u0g Tryz.underlying41 (a 2 41 i rfl rfl) u
 refine(Tr.calls (r08 (λb=>c.heap[b]?) n K k m (b0c J) o L l)).mono λe M ⟨z,A,D⟩=>?_
 exact⟨_,z,x0f k0h (by decide +kernel) rfl rfl (by kernel_rfl) Tryz.underlying4 y A D⟩
theorem w10:(Rows.fnExactPutEntryRow.inPlace == Tryz.prog.inPlace 9)=true:=by kernel_rfl
theorem w11:(Rows.fnExactPutEntryRow.unfollowed == Tryz.prog.unfollowed 9)=true:=by kernel_rfl
theorem w12:(Rows.fnExactPutEntryRow.recurses == Tryz.prog.recurses 9)=true:=by kernel_rfl
theorem w13:(Rows.fnExactPutEntryRow.named == Tryz.prog.varsNamed 9)=true:=by kernel_rfl
theorem w28:(Tryz.prog.make == some Rows.fnExactPutEntryRow.make)=true:=by kernel_rfl
theorem closed:joinedFacts Tryz.prog 9 Tryz.f9 Rows.fnExactPutEntrySpec Rows.fnExactPutEntryRow=true :=
 D6 (D6 (D6 (D6 (D6 (D6 (D6 (D6 (D6 (D6 (D6 (D6 (D6 (D6 (D6 (D6 (D6 (D6 (D6 (D6 (D6 (D6 (D6 (D6 (D6 (D6 (D6 (D6 (D6 (D6 (D6 ((by kernel_rfl)) m0h) j0i) (by kernel_rfl)) (by kernel_rfl)) (by kernel_rfl)) (by kernel_rfl)) (by kernel_rfl)) (by kernel_rfl)) w10) w11) w12) w13) (by kernel_rfl)) (by kernel_rfl)) (by kernel_rfl)) (by kernel_rfl)) (by kernel_rfl)) (by kernel_rfl)) (by kernel_rfl)) (by kernel_rfl)) (by kernel_rfl)) l0i) (by kernel_rfl)) E0h) F0h) k0i) w28) (by kernel_rfl)) (by kernel_rfl)) (by kernel_rfl)) (by kernel_rfl)
theorem proved:Rows.FnExactPutEntrySaid :=
 OpenClaim.holds_of_wide 9 Tryz.f9 rfl rfl rfl rfl rfl rfl rfl ⟨rfl,rfl,rfl,rfl,rfl⟩ rfl rfl rfl rfl rfl (by kernel_rfl) Tryz.func9 closed
  (of_decide_eq_true (by kernel_rfl)) (by unfold Func.isWrapper;first|(rw[if_pos (by decide +kernel)];kernel_rfl)|(rw[if_neg (by decide +kernel)];exact⟨rfl,rfl⟩))
  (λos a H enc _=>i0i os a H enc)
end Go.Proofs.YtkjhghloldgioaaGreat.rFnExactPutEntry
