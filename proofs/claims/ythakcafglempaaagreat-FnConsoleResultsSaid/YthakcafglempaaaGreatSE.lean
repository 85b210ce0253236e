/- The library's sort and Compact, at edges that lie in memory of the call's own. -/
import Derived.Test.YthakcafglempaaaGreatCE
import Derived.Test.YthakcafglempaaaGreatPart39
import Derived.Test.YthakcafglempaaaGreatPart32
import Derived.Test.YthakcafglempaaaGreatH37
import Derived.Shelf.SlLaysF
import Derived.Shelf.Lay
import Derived.Ground.SlsfProg
import Derived.Test.YthakcafglempaaaGreatChecked
namespace Go.Proofs
set_option linter.all false
open Go.Shelf Go.Lib Go.Sort
shelf_lay_g SlLaysF0.n6 Slsf 6 at Tryz 286 as Tryz.sortE
end Go.Proofs
namespace Go.Proofs.YthakcafglempaaaGreat
set_option linter.all false
open Go.H
open IntKind (i64)
def J0A:∀(args:Array Value) (w:World),(callFunc 218 args).run Tryz.prog w = .ok (.enter 218 args) w:=Go.Proofs.enters_of (fn:=Tryz.f218) (by kernel_rfl) (by kernel_rfl) rfl
def C0q(h:Hp){h':Hp}{v:Value}{e:Nat}{vs:LV}{xs:T0}(fr:Y0 h h' v e 3 true vs)(f2:F2 (C1.R h) vs xs)(b:xs.length<4611686018427387904): Tr Tryz.prog 286 #[v,.func (.func 218) #[] #[]] h' λu k=>u = .tuple #[]/\∃ a,Y0 h k v e 3 true a/\F2 (C1.R h) a (L0a V0 xs) :=
 Tr.sortKF (r:=C1.toRp) Tryz.sortE oD Tryz.isAgg83 Tryz.sizeOf83 j4.cmp J0A (z:=[.int .i64 0,.int .i64 0,.int .i64 0]) (z':=(0,0,0)) (N1 oD oD oD)
  (λu v x y c d=>L07 h u x c v y d _ (H08 x y)) fr f2 b
def F2.edges{h:Hp}:∀ {vs:LV} {xs:List O0},F2 (C1.R h) vs xs->vs=(xs.map λx=>[.int .i64 x.1,.int .i64 x.2.1,.int .i64 x.2.2])/\∀ x∈xs,H0 x.1/\H0 x.2.1/\H0 x.2.2
 | [],[],_=>⟨rfl,oS⟩
 |v::vs,x::xs,hf=>by obtain⟨f,g,i,rfl,rfl,c,d,e⟩:=Q1 hf.1;obtain⟨rfl,b⟩:=F2.edges hf.2;exact⟨rfl,λy a=>by rcases mE.1 a with rfl|a;exact⟨c,d,e⟩;exact b y a⟩
 | [],_::_,hf=>hf.elim
 |_::_,[],hf=>hf.elim
def F2.ofEdges{h:Hp}:∀ {xs:List O0},(∀ x∈xs,H0 x.1/\H0 x.2.1/\H0 x.2.2)->F2 (C1.R h) (xs.map λx=>[.int .i64 x.1,.int .i64 x.2.1,.int .i64 x.2.2]) xs
 | [],_=>trivial
 |x::xs,b=>by have a:=b x mS;exact⟨N1 a.1 a.2.1 a.2.2,F2.ofEdges λy c=>b y (mC _ c)⟩
def D0q(h:Hp){h':Hp}{v:Value}{e:Nat}{vs:LV}{xs:T0}(fr:Y0 h h' v e 3 true vs)(f2:F2 (C1.R h) vs xs): Tr Tryz.prog 287 #[v] h' λu k=>∃ b,Y0 h k u e 3 true b/\F2 (C1.R h) b (g07 eqE xs):=by obtain⟨rfl,g⟩:=F2.edges f2;obtain⟨a,c,_,f⟩:=fr.slice;refine(B0q h fr (by have:=Q0t f;simpa using this)).mono ?_;rintro u k ⟨j,rfl,d⟩;exact⟨_,d,F2.ofEdges λx i=>g x ((H0m (eq:=λp q=>eqE p q) (l:=xs)).subset i)⟩
end Go.Proofs.YthakcafglempaaaGreat
