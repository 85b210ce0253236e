/- The library's sort and Compact, at edges that lie in memory of the call's own. -/
import Derived.Test.YthkpbcnhdhfifaaGreatCE
import Derived.Test.YthkpbcnhdhfifaaGreatPart37
import Derived.Test.YthkpbcnhdhfifaaGreatPart29
import Derived.Test.YthkpbcnhdhfifaaGreatH37
import Derived.Shelf.SlLaysF
import Derived.Shelf.Lay
import Derived.Ground.SlsfProg
import Derived.Test.YthkpbcnhdhfifaaGreatChecked
namespace Go.Proofs
set_option linter.all false
open Go.Shelf Go.Lib Go.Sort
shelf_lay_g SlLaysF0.n6 Slsf 6 at Tryz 207 as Tryz.sortE
end Go.Proofs
namespace Go.Proofs.YthkpbcnhdhfifaaGreat
set_option linter.all false
open Go.H
open IntKind (i64)
def U0B:∀(args:Array Value) (w:World),(callFunc 161 args).run Tryz.prog w = .ok (.enter 161 args) w:=Go.Proofs.enters_of (fn:=Tryz.f161) (by kernel_rfl) (by kernel_rfl) rfl
def U0r(h:Hp){h':Hp}{v:Value}{e:Nat}{vs:LV}{xs:T0}(fr:C1 h h' v e 3 true vs)(f2:F2 (E1.R h) vs xs)(b:xs.length<4611686018427387904): Tr Tryz.prog 207 #[v,.func (.func 161) #[] #[]] h' λu k=>u = .tuple #[]/\∃ a,C1 h k v e 3 true a/\F2 (E1.R h) a (B0b X0 xs) :=
 Tr.sortKF (r:=E1.toRp) Tryz.sortE oD Tryz.isAgg90 Tryz.sizeOf90 Q3.cmp U0B (z:=[.int .i64 0,.int .i64 0,.int .i64 0]) (z':=(0,0,0)) (Z1 oD oD oD)
  (λu v x y c d=>y08 h u x c v y d _ (m09 x y)) fr f2 b
def F2.edges{h:Hp}:∀ {vs:LV} {xs:List Q0},F2 (E1.R h) vs xs->vs=(xs.map λx=>[.int .i64 x.1,.int .i64 x.2.1,.int .i64 x.2.2])/\∀ x∈xs,I0 x.1/\I0 x.2.1/\I0 x.2.2
 | [],[],_=>⟨rfl,oS⟩
 |v::vs,x::xs,hf=>by obtain⟨f,g,i,rfl,rfl,c,d,e⟩:=D2 hf.1;obtain⟨rfl,b⟩:=F2.edges hf.2;exact⟨rfl,λy a=>by rcases mE.1 a with rfl|a;exact⟨c,d,e⟩;exact b y a⟩
 | [],_::_,hf=>hf.elim
 |_::_,[],hf=>hf.elim
def F2.ofEdges{h:Hp}:∀ {xs:List Q0},(∀ x∈xs,I0 x.1/\I0 x.2.1/\I0 x.2.2)->F2 (E1.R h) (xs.map λx=>[.int .i64 x.1,.int .i64 x.2.1,.int .i64 x.2.2]) xs
 | [],_=>trivial
 |x::xs,b=>by have a:=b x mS;exact⟨Z1 a.1 a.2.1 a.2.2,F2.ofEdges λy c=>b y (mC _ c)⟩
def V0r(h:Hp){h':Hp}{v:Value}{e:Nat}{vs:LV}{xs:T0}(fr:C1 h h' v e 3 true vs)(f2:F2 (E1.R h) vs xs): Tr Tryz.prog 208 #[v] h' λu k=>∃ b,C1 h k u e 3 true b/\F2 (E1.R h) b (V07 eqE xs):=by obtain⟨rfl,g⟩:=F2.edges f2;obtain⟨a,c,_,f⟩:=fr.slice;refine(T0r h fr (by have:=t0v f;simpa using this)).mono ?_;rintro u k ⟨j,rfl,d⟩;exact⟨_,d,F2.ofEdges λx i=>g x ((Y0n (eq:=λp q=>eqE p q) (l:=xs)).subset i)⟩
end Go.Proofs.YthkpbcnhdhfifaaGreat
