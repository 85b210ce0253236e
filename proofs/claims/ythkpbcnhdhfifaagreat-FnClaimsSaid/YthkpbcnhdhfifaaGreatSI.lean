/- The library's sort and Compact, at ints that lie in memory of the call's own. -/
import Derived.Test.YthkpbcnhdhfifaaGreatCI
import Derived.Test.YthkpbcnhdhfifaaGreatH39
import Derived.Shelf.Lay
import Derived.Ground.NamesProg
import Derived.Test.YthkpbcnhdhfifaaGreatChecked
namespace Go.Proofs
set_option linter.all false
open Go.Shelf Go.Lib Go.Sort
shelf_lay Lays.n189 Nm 189 at Tryz as Tryz.sortI
end Go.Proofs
namespace Go.Proofs.YthkpbcnhdhfifaaGreat
set_option linter.all false
open Go.H
open IntKind (i64)
def v0t(h:Hp){h':Hp}{v:Value}{e:Nat}{vs:LV}{xs:J0}(fr:C1 h h' v e 1 true vs)(f2:F2 (Wp.int.R h) vs xs)(b:xs.length<4611686018427387904): Tr Tryz.prog 194 #[v] h' λu k=>u = .tuple #[]/\∃ a,C1 h k v e 1 true a/\F2 (Wp.int.R h) a (B0b l02 xs):=Tr.sortI Tryz.sortI fr f2 b
def w0t(h:Hp){h':Hp}{v:Value}{e:Nat}{vs:LV}{xs:J0}(fr:C1 h h' v e 1 true vs)(f2:F2 (Wp.int.R h) vs xs): Tr Tryz.prog 195 #[v] h' λu k=>∃ b,C1 h k u e 1 true b/\F2 (Wp.int.R h) b (V07 eqI xs):=by obtain⟨rfl,g⟩:=F2.ints f2;obtain⟨a,c,_,f⟩:=fr.slice;refine(u0t h fr (by have:=t0v f;simpa using this)).mono ?_;rintro u k ⟨j,rfl,d⟩;exact⟨_,d,F2.ofInts λx i=>g x ((Y0n (eq:=eqI) (l:=xs)).subset i)⟩
end Go.Proofs.YthkpbcnhdhfifaaGreat
