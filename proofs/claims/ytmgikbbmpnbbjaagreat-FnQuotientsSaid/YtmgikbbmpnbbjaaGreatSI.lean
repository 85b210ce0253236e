/- The library's sort and Compact, at ints that lie in memory of the call's own. -/
import Derived.Test.YtmgikbbmpnbbjaaGreatCI
import Derived.Test.YtmgikbbmpnbbjaaGreatH39
import Derived.Shelf.Lay
import Derived.Ground.NamesProg
import Derived.Test.YtmgikbbmpnbbjaaGreatChecked
namespace Go.Proofs
open Go.Shelf Go.Lib Go.Sort
shelf_lay Lays.n189 Nm 189 at Tryz as Tryz.sortI
end Go.Proofs
namespace Go.Proofs.YtmgikbbmpnbbjaaGreat
open Go.H
set_option linter.unusedVariables false
set_option linter.unusedSimpArgs false
theorem j0o(h:Hp){h':Hp}{v:Value}{e:Nat}{vs:List (List Value)}{xs:J0}(fr:W0 h h' v e 1 true vs)(f2:F2 (Wp.int.R h) vs xs)(b:xs.length<4611686018427387904):
  Tr Tryz.prog 285 #[v] h' λu k=>u = .tuple #[]/\∃ a,W0 h k v e 1 true a/\F2 (Wp.int.R h) a (A07 Y9 xs):=Tr.sortI Tryz.sortI fr f2 b
theorem k0o(h:Hp){h':Hp}{v:Value}{e:Nat}{vs:List (List Value)}{xs:J0}(fr:W0 h h' v e 1 true vs)(f2:F2 (Wp.int.R h) vs xs):
  Tr Tryz.prog 286 #[v] h' λu k=>∃ b,W0 h k u e 1 true b/\F2 (Wp.int.R h) b (g04 eqI xs):=by
 obtain⟨rfl,g⟩:=F2.ints f2
 obtain⟨a,c,_,f⟩:=fr.slice
 refine(i0o h fr (by have:=X0p f;simpa using this)).mono ?_
 rintro u k ⟨j,rfl,d⟩
 exact⟨_,d,F2.ofInts λx i=>g x ((o0j (eq:=eqI) (l:=xs)).subset i)⟩
end Go.Proofs.YtmgikbbmpnbbjaaGreat
