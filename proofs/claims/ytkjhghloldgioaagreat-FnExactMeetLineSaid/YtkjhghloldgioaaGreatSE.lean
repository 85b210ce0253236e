/- The library's sort and Compact, at edges that lie in memory of the call's own. -/
import Derived.Test.YtkjhghloldgioaaGreatCE
import Derived.Test.YtkjhghloldgioaaGreatPart28
import Derived.Test.YtkjhghloldgioaaGreatPart25
import Derived.Test.YtkjhghloldgioaaGreatH37
import Derived.Shelf.SlLaysF
import Derived.Shelf.Lay
import Derived.Ground.SlsfProg
import Derived.Test.YtkjhghloldgioaaGreatChecked
namespace Go.Proofs
open Go.Shelf Go.Lib Go.Sort
shelf_lay_g SlLaysF0.n6 Slsf 6 at Tryz 315 as Tryz.sortE
end Go.Proofs
namespace Go.Proofs.YtkjhghloldgioaaGreat
open Go.H
set_option linter.unusedVariables false
set_option linter.unusedSimpArgs false
theorem n0u:∀(args:Array Value) (w:World),(callFunc 316 args).run Tryz.prog w = .ok (.enter 316 args) w:=Go.Proofs.enters_of (fn:=Tryz.f316) (by kernel_rfl) (by kernel_rfl) rfl
theorem a0l(h:Hp){a:Hp}{v:Value}{e:Nat}{vs:List (List Value)}{xs:O0}(fr:G1 h a v e 3 true vs)(f2:F2 (H1.R h) vs xs)(c:xs.length<4611686018427387904):
  Tr Tryz.prog 315 #[v,.func (.func 316) #[] #[]] a λu k=>u = .tuple #[]/\∃ b,G1 h k v e 3 true b/\F2 (H1.R h) b (Y05 D1 xs) :=
 Tr.sortKF (r:=H1.toRp) Tryz.sortE (by decide) Tryz.isAgg166 Tryz.sizeOf166 H8.cmp n0u (z:=[.int .i64 0,.int .i64 0,.int .i64 0]) (z':=(0,0,0)) (T1 (by decide) (by decide) (by decide))
  (λu v x y d f=>X03 h u x d v y f _ (O04 x y)) fr f2 c
theorem F2.edges{h:Hp}:∀ {vs:List (List Value)} {xs:List M0},F2 (H1.R h) vs xs->vs=(xs.map λx=>[.int .i64 x.1,.int .i64 x.2.1,.int .i64 x.2.2])/\∀ x∈xs,I0 x.1/\I0 x.2.1/\I0 x.2.2
 | [],[],_=>⟨rfl,by simp⟩
 |v::vs,x::xs,hf=>by
  obtain⟨f,g,i,rfl,rfl,c,d,e⟩:=Q1 hf.1
  obtain⟨rfl,b⟩:=F2.edges hf.2
  exact⟨rfl,λy a=>by rcases List.mem_cons.1 a with rfl|a;exact⟨c,d,e⟩;exact b y a⟩
 | [],_::_,hf=>hf.elim
 |_::_,[],hf=>hf.elim
theorem F2.ofEdges{h:Hp}:∀ {xs:List M0},(∀ x∈xs,I0 x.1/\I0 x.2.1/\I0 x.2.2)->F2 (H1.R h) (xs.map λx=>[.int .i64 x.1,.int .i64 x.2.1,.int .i64 x.2.2]) xs
 | [],_=>trivial
 |x::xs,b=>by
  have a:=b x mS
  exact⟨T1 a.1 a.2.1 a.2.2,F2.ofEdges λy c=>b y (mC _ c)⟩
theorem b0l(h:Hp){b:Hp}{v:Value}{e:Nat}{vs:List (List Value)}{xs:O0}(fr:G1 h b v e 3 true vs)(f2:F2 (H1.R h) vs xs):
  Tr Tryz.prog 317 #[v] b λu k=>∃ d,G1 h k u e 3 true d/\F2 (H1.R h) d (h03 eqE xs):=by
 obtain⟨rfl,i⟩:=F2.edges f2
 obtain⟨a,c,_,g⟩:=fr.slice
 refine(Z0k h fr (by have:=e0o g;simpa using this)).mono ?_
 rintro u k ⟨m,rfl,f⟩
 exact⟨_,f,F2.ofEdges λx j=>i x ((q0h (eq:=λp q=>eqE p q) (l:=xs)).subset j)⟩
end Go.Proofs.YtkjhghloldgioaaGreat
