/- The library's sort and Compact, at ints that lie in memory of the call's own. -/
import Derived.Test.YtcakocbgbelmeaaGreatCI
import Derived.Test.YtcakocbgbelmeaaGreatH39
import Derived.Shelf.Lay
import Derived.Ground.NamesProg
import Derived.Test.YtcakocbgbelmeaaGreatChecked
namespace Go.Proofs
open Go.Shelf Go.Lib Go.Sort
shelf_lay Lays.n189 Nm 189 at Tryz as Tryz.sortI
end Go.Proofs
namespace Go.Proofs.YtcakocbgbelmeaaGreat
open Go.H
set_option linter.unusedVariables false
set_option linter.unusedSimpArgs false
theorem c0l(h:Hp){h':Hp}{v:Value}{e:Nat}{vs:List (List Value)}{xs:C0}(fr:Z0 h h' v e 1 true vs)(f2:F2 (Wp.int.R h) vs xs)(hl:xs.length<4611686018427387904):
  Tr Tryz.prog 236 #[v] h' fun u k=>u = .tuple #[]∧∃ vs',Z0 h k v e 1 true vs'∧F2 (Wp.int.R h) vs' (b06 Z8 xs):=Tr.sortI Tryz.sortI fr f2 hl
theorem d0l(h:Hp){h':Hp}{v:Value}{e:Nat}{vs:List (List Value)}{xs:C0}(fr:Z0 h h' v e 1 true vs)(f2:F2 (Wp.int.R h) vs xs):
  Tr Tryz.prog 237 #[v] h' fun u k=>∃ vs',Z0 h k u e 1 true vs'∧F2 (Wp.int.R h) vs' (k03 eqI xs):=by
 obtain⟨rfl,hx⟩:=F2.ints f2
 obtain⟨a,c,_,hl⟩:=fr.slice
 refine(b0l h fr (by have:=k0o hl;simpa using this)).mono ?_
 rintro u k ⟨l',rfl,fr'⟩
 exact⟨_,fr',F2.ofInts fun x hx'=>hx x ((S0g (eq:=eqI) (l:=xs)).subset hx')⟩
end Go.Proofs.YtcakocbgbelmeaaGreat
