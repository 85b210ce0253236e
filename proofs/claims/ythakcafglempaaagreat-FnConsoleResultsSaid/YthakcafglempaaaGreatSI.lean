/- The library's sort and Compact, at ints that lie in memory of the call's own. -/
import Derived.Test.YthakcafglempaaaGreatCI
import Derived.Test.YthakcafglempaaaGreatH39
import Derived.Shelf.Lay
import Derived.Ground.NamesProg
import Derived.Test.YthakcafglempaaaGreatChecked
namespace Go.Proofs
set_option linter.all false
open Go.Shelf Go.Lib Go.Sort
shelf_lay Lays.n189 Nm 189 at Tryz as Tryz.sortI
end Go.Proofs
namespace Go.Proofs.YthakcafglempaaaGreat
set_option linter.all false
open Go.H
open IntKind (i64)
def P0r(h:Hp){h':Hp}{v:Value}{e:Nat}{vs:LV}{xs:I0}(fr:Y0 h h' v e 1 true vs)(f2:F2 (Wp.int.R h) vs xs)(b:xs.length<4611686018427387904): Tr Tryz.prog 264 #[v] h' λu k=>u = .tuple #[]/\∃ a,Y0 h k v e 1 true a/\F2 (Wp.int.R h) a (L0a H01 xs):=Tr.sortI Tryz.sortI fr f2 b
def Q0r(h:Hp){h':Hp}{v:Value}{e:Nat}{vs:LV}{xs:I0}(fr:Y0 h h' v e 1 true vs)(f2:F2 (Wp.int.R h) vs xs): Tr Tryz.prog 265 #[v] h' λu k=>∃ b,Y0 h k u e 1 true b/\F2 (Wp.int.R h) b (g07 eqI xs):=by obtain⟨rfl,g⟩:=F2.ints f2;obtain⟨a,c,_,f⟩:=fr.slice;refine(O0r h fr (by have:=Q0t f;simpa using this)).mono ?_;rintro u k ⟨j,rfl,d⟩;exact⟨_,d,F2.ofInts λx i=>g x ((H0m (eq:=eqI) (l:=xs)).subset i)⟩
end Go.Proofs.YthakcafglempaaaGreat
