/- The library's sort and Compact, at ints that lie in memory of the call's own. -/
import Derived.Test.YtkjhghloldgioaaGreatCI
import Derived.Test.YtkjhghloldgioaaGreatH39
import Derived.Shelf.Lay
import Derived.Ground.NamesProg
import Derived.Test.YtkjhghloldgioaaGreatChecked
namespace Go.Proofs
open Go.Shelf Go.Lib Go.Sort
shelf_lay Lays.n189 Nm 189 at Tryz as Tryz.sortI
end Go.Proofs
namespace Go.Proofs.YtkjhghloldgioaaGreat
open Go.H
set_option linter.unusedVariables false
set_option linter.unusedSimpArgs false
theorem g0m(h:Hp){a:Hp}{v:Value}{e:Nat}{vs:List (List Value)}{xs:P0}(fr:G1 h a v e 1 true vs)(f2:F2 (Wp.int.R h) vs xs)(c:xs.length<4611686018427387904):
  Tr Tryz.prog 332 #[v] a λu k=>u = .tuple #[]/\∃ b,G1 h k v e 1 true b/\F2 (Wp.int.R h) b (Y05 t9 xs):=Tr.sortI Tryz.sortI fr f2 c
theorem h0m(h:Hp){b:Hp}{v:Value}{e:Nat}{vs:List (List Value)}{xs:P0}(fr:G1 h b v e 1 true vs)(f2:F2 (Wp.int.R h) vs xs):
  Tr Tryz.prog 333 #[v] b λu k=>∃ d,G1 h k u e 1 true d/\F2 (Wp.int.R h) d (h03 eqI xs):=by
 obtain⟨rfl,i⟩:=F2.ints f2
 obtain⟨a,c,_,g⟩:=fr.slice
 refine(f0m h fr (by have:=e0o g;simpa using this)).mono ?_
 rintro u k ⟨m,rfl,f⟩
 exact⟨_,f,F2.ofInts λx j=>i x ((q0h (eq:=eqI) (l:=xs)).subset j)⟩
end Go.Proofs.YtkjhghloldgioaaGreat
