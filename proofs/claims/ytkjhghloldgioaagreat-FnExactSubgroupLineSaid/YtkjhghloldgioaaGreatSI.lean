/- The library's sort and Compact, at ints that lie in memory of the call's own. -/
import Derived.Test.YtkjhghloldgioaaGreatCI
import Derived.Test.YtkjhghloldgioaaGreatH39
import Derived.Shelf.Lay
import Derived.Ground.NamesProg
import Derived.Test.YtkjhghloldgioaaGreatChecked
namespace Go.Proofs
open Go.Shelf Go.Lib Go.Sort
shelf_lay Lays.n189 Nm 189 at Tryz as Tryz.sortI
end Go.Proofs
namespace Go.Proofs.YtkjhghloldgioaaGreat
open Go.H
set_option linter.unusedVariables false
set_option linter.unusedSimpArgs false
theorem d0l(h:Hp){h':Hp}{v:Value}{e:Nat}{vs:List (List Value)}{xs:F0}(fr:U0 h h' v e 1 true vs)(f2:F2 (Wp.int.R h) vs xs)(hl:xs.length<4611686018427387904):
  Tr Tryz.prog 332 #[v] h' λu k=>u = .tuple #[]/\∃ vs',U0 h k v e 1 true vs'/\F2 (Wp.int.R h) vs' (M05 c9 xs):=Tr.sortI Tryz.sortI fr f2 hl
theorem e0l(h:Hp){h':Hp}{v:Value}{e:Nat}{vs:List (List Value)}{xs:F0}(fr:U0 h h' v e 1 true vs)(f2:F2 (Wp.int.R h) vs xs):
  Tr Tryz.prog 333 #[v] h' λu k=>∃ vs',U0 h k u e 1 true vs'/\F2 (Wp.int.R h) vs' (Z02 eqI xs):=by
 obtain⟨rfl,hx⟩:=F2.ints f2
 obtain⟨a,c,_,hl⟩:=fr.slice
 refine(c0l h fr (by have:=U0m hl;simpa using this)).mono ?_
 rintro u k ⟨l',rfl,fr'⟩
 exact⟨_,fr',F2.ofInts λx hx'=>hx x ((D0g (eq:=eqI) (l:=xs)).subset hx')⟩
end Go.Proofs.YtkjhghloldgioaaGreat
