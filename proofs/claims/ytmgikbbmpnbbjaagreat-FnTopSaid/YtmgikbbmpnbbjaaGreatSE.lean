/- The library's sort and Compact, at edges that lie in memory of the call's own. -/
import Derived.Test.YtmgikbbmpnbbjaaGreatCE
import Derived.Test.YtmgikbbmpnbbjaaGreatPart29
import Derived.Test.YtmgikbbmpnbbjaaGreatPart26
import Derived.Test.YtmgikbbmpnbbjaaGreatH37
import Derived.Shelf.SlLaysF
import Derived.Shelf.Lay
import Derived.Ground.SlsfProg
import Derived.Test.YtmgikbbmpnbbjaaGreatChecked
namespace Go.Proofs
open Go.Shelf Go.Lib Go.Sort
shelf_lay_g SlLaysF0.n6 Slsf 6 at Tryz 251 as Tryz.sortE
end Go.Proofs
namespace Go.Proofs.YtmgikbbmpnbbjaaGreat
open Go.H
set_option linter.unusedVariables false
set_option linter.unusedSimpArgs false
theorem M0u:∀(args:Array Value) (w:World),(callFunc 240 args).run Tryz.prog w = .ok (.enter 240 args) w:=Go.Proofs.enters_of (fn:=Tryz.f240) (by kernel_rfl) (by kernel_rfl) rfl
theorem Q0l(h:Hp){h':Hp}{v:Value}{e:Nat}{vs:List (List Value)}{xs:V0}(fr:E1 h h' v e 3 true vs)(f2:F2 (D1.R h) vs xs)(b:xs.length<4611686018427387904):
  Tr Tryz.prog 251 #[v,.func (.func 240) #[] #[]] h' λu k=>u = .tuple #[]/\∃ a,E1 h k v e 3 true a/\F2 (D1.R h) a (X06 T0 xs) :=
 Tr.sortKF (r:=D1.toRp) Tryz.sortE (by decide) Tryz.isAgg124 Tryz.sizeOf124 L3.cmp M0u (z:=[.int .i64 0,.int .i64 0,.int .i64 0]) (z':=(0,0,0)) (L1 (by decide) (by decide) (by decide))
  (λu v x y c d=>W04 h u x c v y d _ (H05 x y)) fr f2 b
theorem F2.edges{h:Hp}:∀ {vs:List (List Value)} {xs:List K0},F2 (D1.R h) vs xs->vs=(xs.map λx=>[.int .i64 x.1,.int .i64 x.2.1,.int .i64 x.2.2])/\∀ x∈xs,J0 x.1/\J0 x.2.1/\J0 x.2.2
 | [],[],_=>⟨rfl,by simp⟩
 |v::vs,x::xs,hf=>by
  obtain⟨f,g,i,rfl,rfl,c,d,e⟩:=Y1 hf.1
  obtain⟨rfl,b⟩:=F2.edges hf.2
  exact⟨rfl,λy a=>by rcases List.mem_cons.1 a with rfl|a;exact⟨c,d,e⟩;exact b y a⟩
 | [],_::_,hf=>hf.elim
 |_::_,[],hf=>hf.elim
theorem F2.ofEdges{h:Hp}:∀ {xs:List K0},(∀ x∈xs,J0 x.1/\J0 x.2.1/\J0 x.2.2)->F2 (D1.R h) (xs.map λx=>[.int .i64 x.1,.int .i64 x.2.1,.int .i64 x.2.2]) xs
 | [],_=>trivial
 |x::xs,b=>by
  have a:=b x mS
  exact⟨L1 a.1 a.2.1 a.2.2,F2.ofEdges λy c=>b y (mC _ c)⟩
theorem R0l(h:Hp){h':Hp}{v:Value}{e:Nat}{vs:List (List Value)}{xs:V0}(fr:E1 h h' v e 3 true vs)(f2:F2 (D1.R h) vs xs):
  Tr Tryz.prog 252 #[v] h' λu k=>∃ b,E1 h k u e 3 true b/\F2 (D1.R h) b (X03 eqE xs):=by
 obtain⟨rfl,g⟩:=F2.edges f2
 obtain⟨a,c,_,f⟩:=fr.slice
 refine(P0l h fr (by have:=z0q f;simpa using this)).mono ?_
 rintro u k ⟨j,rfl,d⟩
 exact⟨_,d,F2.ofEdges λx i=>g x ((o0i (eq:=λp q=>eqE p q) (l:=xs)).subset i)⟩
end Go.Proofs.YtmgikbbmpnbbjaaGreat
