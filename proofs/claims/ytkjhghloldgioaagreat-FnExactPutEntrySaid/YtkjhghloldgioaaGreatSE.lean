/- The library's sort and Compact, at edges that lie in memory of the call's own. -/
import Derived.Test.YtkjhghloldgioaaGreatCE
import Derived.Test.YtkjhghloldgioaaGreatPart24
import Derived.Test.YtkjhghloldgioaaGreatPart23
import Derived.Test.YtkjhghloldgioaaGreatH37
import Derived.Shelf.SlLaysF
import Derived.Shelf.Lay
import Derived.Ground.SlsfProg
import Derived.Test.YtkjhghloldgioaaGreatChecked
namespace Go.Proofs
open Go.Shelf Go.Lib Go.Sort
shelf_lay_g SlLaysF0.n6 Slsf 6 at Tryz 315 as Tryz.sortE
end Go.Proofs
namespace Go.Proofs.YtkjhghloldgioaaGreat
open Go.H
set_option linter.unusedVariables false
set_option linter.unusedSimpArgs false
theorem L0i:∀(args:Array Value) (w:World),(callFunc 316 args).run Tryz.prog w = .ok (.enter 316 args) w:=Go.Proofs.enters_of (fn:=Tryz.f316) (by kernel_rfl) (by kernel_rfl) rfl
theorem B0b(h:Hp){a:Hp}{v:Value}{e:Nat}{vs:List (List Value)}{xs:K0}(fr:U0 h a v e 3 true vs)(f2:F2 (D1.R h) vs xs)(d:xs.length<4611686018427387904):
  Tr Tryz.prog 315 #[v,.func (.func 316) #[] #[]] a λu k=>u = .tuple #[]/\∃ b,U0 h k v e 3 true b/\F2 (D1.R h) b (D01 P1 xs) :=
 Tr.sortKF (r:=D1.toRp) Tryz.sortE (by decide) Tryz.isAgg166 Tryz.sizeOf166 A07.cmp L0i (z:=[.int .i64 0,.int .i64 0,.int .i64 0]) (z':=(0,0,0)) (M1 (by decide) (by decide) (by decide))
  (λu v x c f g=>b00 h u x f v c g _ (C00 x c)) fr f2 d
theorem F2.edges{h:Hp}:∀ {vs:List (List Value)} {xs:List C0},F2 (D1.R h) vs xs->vs=(xs.map λx=>[.int .i64 x.1,.int .i64 x.2.1,.int .i64 x.2.2])/\∀ x∈xs,Q0 x.1/\Q0 x.2.1/\Q0 x.2.2
 | [],[],_=>⟨rfl,by simp⟩
 |v::vs,x::xs,hf=>by
  obtain⟨g,i,j,rfl,rfl,c,d,e⟩:=H1 hf.1
  obtain⟨rfl,b⟩:=F2.edges hf.2
  exact⟨rfl,λf a=>by rcases List.mem_cons.1 a with rfl|a;exact⟨c,d,e⟩;exact b f a⟩
 | [],_::_,hf=>hf.elim
 |_::_,[],hf=>hf.elim
theorem F2.ofEdges{h:Hp}:∀ {xs:List C0},(∀ x∈xs,Q0 x.1/\Q0 x.2.1/\Q0 x.2.2)->F2 (D1.R h) (xs.map λx=>[.int .i64 x.1,.int .i64 x.2.1,.int .i64 x.2.2]) xs
 | [],_=>trivial
 |x::xs,b=>by
  have a:=b x mS
  exact⟨M1 a.1 a.2.1 a.2.2,F2.ofEdges λd c=>b d (mC _ c)⟩
theorem C0b(h:Hp){b:Hp}{v:Value}{e:Nat}{vs:List (List Value)}{xs:K0}(fr:U0 h b v e 3 true vs)(f2:F2 (D1.R h) vs xs):
  Tr Tryz.prog 317 #[v] b λu k=>∃ d,U0 h k u e 3 true d/\F2 (D1.R h) d (p9 eqE xs):=by
 obtain⟨rfl,i⟩:=F2.edges f2
 obtain⟨a,c,_,g⟩:=fr.slice
 refine(A0b h fr (by have:=b0c g;simpa using this)).mono ?_
 rintro u k ⟨m,rfl,f⟩
 exact⟨_,f,F2.ofEdges λx j=>i x ((g09 (eq:=λp q=>eqE p q) (l:=xs)).subset j)⟩
end Go.Proofs.YtkjhghloldgioaaGreat
