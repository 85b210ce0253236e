/- The library's sort and Compact, at edges that lie in memory of the call's own. -/
import Derived.Test.YtcakocbgbelmeaaGreatCE
import Derived.Test.YtcakocbgbelmeaaGreatPart26
import Derived.Test.YtcakocbgbelmeaaGreatPart23
import Derived.Test.YtcakocbgbelmeaaGreatH37
import Derived.Shelf.SlLaysF
import Derived.Shelf.Lay
import Derived.Ground.SlsfProg
import Derived.Test.YtcakocbgbelmeaaGreatChecked
namespace Go.Proofs
open Go.Shelf Go.Lib Go.Sort
shelf_lay_g SlLaysF0.n6 Slsf 6 at Tryz 256 as Tryz.sortE
end Go.Proofs
namespace Go.Proofs.YtcakocbgbelmeaaGreat
open Go.H
set_option linter.unusedVariables false
set_option linter.unusedSimpArgs false
theorem x0r:∀(args:Array Value) (w:World),(callFunc 231 args).run Tryz.prog w = .ok (.enter 231 args) w:=Go.Proofs.enters_of (fn:=Tryz.f231) (by kernel_rfl) (by kernel_rfl) rfl
theorem W0j(h:Hp){h':Hp}{v:Value}{e:Nat}{vs:List (List Value)}{xs:I0}(fr:Z0 h h' v e 3 true vs)(f2:F2 (P0.R h) vs xs)(hl:xs.length<4611686018427387904):
  Tr Tryz.prog 256 #[v,.func (.func 231) #[] #[]] h' fun u k=>u = .tuple #[]∧∃ vs',Z0 h k v e 3 true vs'∧F2 (P0.R h) vs' (b06 O0 xs) :=
 Tr.sortKF (r:=P0.toRp) Tryz.sortE (by decide) Tryz.isAgg115 Tryz.sizeOf115 E6.cmp x0r (z:=[.int .i64 0,.int .i64 0,.int .i64 0]) (z':=(0,0,0)) (D1 (by decide) (by decide) (by decide))
  (fun u v x y hx hy=>h04 h u x hx v y hy _ (M04 x y)) fr f2 hl
theorem F2.edges{h:Hp}:∀ {vs:List (List Value)} {xs:List H0},F2 (P0.R h) vs xs→vs=(xs.map fun x=>[.int .i64 x.1,.int .i64 x.2.1,.int .i64 x.2.2])∧∀ x∈xs,M0 x.1∧M0 x.2.1∧M0 x.2.2
 | [],[],_=>⟨rfl,by simp⟩
 |v::vs,x::xs,hf=>by
  obtain⟨x0,x1,x2,rfl,rfl,i0,i1,i2⟩:=I1 hf.1
  obtain⟨rfl,h3⟩:=F2.edges hf.2
  exact⟨rfl,fun y hy=>by rcases List.mem_cons.1 hy with rfl|hy;exact⟨i0,i1,i2⟩;exact h3 y hy⟩
 | [],_::_,hf=>hf.elim
 |_::_,[],hf=>hf.elim
theorem F2.ofEdges{h:Hp}:∀ {xs:List H0},(∀ x∈xs,M0 x.1∧M0 x.2.1∧M0 x.2.2)→F2 (P0.R h) (xs.map fun x=>[.int .i64 x.1,.int .i64 x.2.1,.int .i64 x.2.2]) xs
 | [],_=>trivial
 |x::xs,hx=>by
  have h1:=hx x mS
  exact⟨D1 h1.1 h1.2.1 h1.2.2,F2.ofEdges fun y hy=>hx y (mC _ hy)⟩
theorem X0j(h:Hp){h':Hp}{v:Value}{e:Nat}{vs:List (List Value)}{xs:I0}(fr:Z0 h h' v e 3 true vs)(f2:F2 (P0.R h) vs xs):
  Tr Tryz.prog 257 #[v] h' fun u k=>∃ vs',Z0 h k u e 3 true vs'∧F2 (P0.R h) vs' (k03 eqE xs):=by
 obtain⟨rfl,hx⟩:=F2.edges f2
 obtain⟨a,c,_,hl⟩:=fr.slice
 refine(V0j h fr (by have:=k0o hl;simpa using this)).mono ?_
 rintro u k ⟨l',rfl,fr'⟩
 exact⟨_,fr',F2.ofEdges fun x hx'=>hx x ((S0g (eq:=fun p q=>eqE p q) (l:=xs)).subset hx')⟩
end Go.Proofs.YtcakocbgbelmeaaGreat
