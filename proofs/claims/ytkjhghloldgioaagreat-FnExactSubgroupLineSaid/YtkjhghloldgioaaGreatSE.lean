/- The library's sort and Compact, at edges that lie in memory of the call's own. -/
import Derived.Test.YtkjhghloldgioaaGreatCE
import Derived.Test.YtkjhghloldgioaaGreatPart28
import Derived.Test.YtkjhghloldgioaaGreatPart25
import Derived.Test.YtkjhghloldgioaaGreatH37
import Derived.Shelf.SlLaysF
import Derived.Shelf.Lay
import Derived.Ground.SlsfProg
import Derived.Test.YtkjhghloldgioaaGreatChecked
namespace Go.Proofs
open Go.Shelf Go.Lib Go.Sort
shelf_lay_g SlLaysF0.n6 Slsf 6 at Tryz 315 as Tryz.sortE
end Go.Proofs
namespace Go.Proofs.YtkjhghloldgioaaGreat
open Go.H
set_option linter.unusedVariables false
set_option linter.unusedSimpArgs false
theorem z0s:∀(args:Array Value) (w:World),(callFunc 316 args).run Tryz.prog w = .ok (.enter 316 args) w:=Go.Proofs.enters_of (fn:=Tryz.f316) (by kernel_rfl) (by kernel_rfl) rfl
theorem T0j(h:Hp){h':Hp}{v:Value}{e:Nat}{vs:List (List Value)}{xs:K0}(fr:U0 h h' v e 3 true vs)(f2:F2 (E1.R h) vs xs)(hl:xs.length<4611686018427387904):
  Tr Tryz.prog 315 #[v,.func (.func 316) #[] #[]] h' λu k=>u = .tuple #[]/\∃ vs',U0 h k v e 3 true vs'/\F2 (E1.R h) vs' (M05 C1 xs) :=
 Tr.sortKF (r:=E1.toRp) Tryz.sortE (by decide) Tryz.isAgg166 Tryz.sizeOf166 S9.cmp z0s (z:=[.int .i64 0,.int .i64 0,.int .i64 0]) (z':=(0,0,0)) (L1 (by decide) (by decide) (by decide))
  (λu v x y hx hy=>Q03 h u x hx v y hy _ (F04 x y)) fr f2 hl
theorem F2.edges{h:Hp}:∀ {vs:List (List Value)} {xs:List M0},F2 (E1.R h) vs xs->vs=(xs.map λx=>[.int .i64 x.1,.int .i64 x.2.1,.int .i64 x.2.2])/\∀ x∈xs,P0 x.1/\P0 x.2.1/\P0 x.2.2
 | [],[],_=>⟨rfl,by simp⟩
 |v::vs,x::xs,hf=>by
  obtain⟨x0,x1,x2,rfl,rfl,i0,i1,i2⟩:=N1 hf.1
  obtain⟨rfl,h3⟩:=F2.edges hf.2
  exact⟨rfl,λy hy=>by rcases List.mem_cons.1 hy with rfl|hy;exact⟨i0,i1,i2⟩;exact h3 y hy⟩
 | [],_::_,hf=>hf.elim
 |_::_,[],hf=>hf.elim
theorem F2.ofEdges{h:Hp}:∀ {xs:List M0},(∀ x∈xs,P0 x.1/\P0 x.2.1/\P0 x.2.2)->F2 (E1.R h) (xs.map λx=>[.int .i64 x.1,.int .i64 x.2.1,.int .i64 x.2.2]) xs
 | [],_=>trivial
 |x::xs,hx=>by
  have h1:=hx x mS
  exact⟨L1 h1.1 h1.2.1 h1.2.2,F2.ofEdges λy hy=>hx y (mC _ hy)⟩
theorem U0j(h:Hp){h':Hp}{v:Value}{e:Nat}{vs:List (List Value)}{xs:K0}(fr:U0 h h' v e 3 true vs)(f2:F2 (E1.R h) vs xs):
  Tr Tryz.prog 317 #[v] h' λu k=>∃ vs',U0 h k u e 3 true vs'/\F2 (E1.R h) vs' (Z02 eqE xs):=by
 obtain⟨rfl,hx⟩:=F2.edges f2
 obtain⟨a,c,_,hl⟩:=fr.slice
 refine(S0j h fr (by have:=U0m hl;simpa using this)).mono ?_
 rintro u k ⟨l',rfl,fr'⟩
 exact⟨_,fr',F2.ofEdges λx hx'=>hx x ((D0g (eq:=λp q=>eqE p q) (l:=xs)).subset hx')⟩
end Go.Proofs.YtkjhghloldgioaaGreat
