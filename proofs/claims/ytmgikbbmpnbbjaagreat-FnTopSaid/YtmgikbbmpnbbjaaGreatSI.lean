/- The library's sort and Compact, at ints that lie in memory of the call's own. -/
import Derived.Test.YtmgikbbmpnbbjaaGreatCI
import Derived.Test.YtmgikbbmpnbbjaaGreatH39
import Derived.Shelf.Lay
import Derived.Ground.NamesProg
import Derived.Test.YtmgikbbmpnbbjaaGreatChecked
namespace Go.Proofs
open Go.Shelf Go.Lib Go.Sort
shelf_lay Lays.n189 Nm 189 at Tryz as Tryz.sortI
end Go.Proofs
namespace Go.Proofs.YtmgikbbmpnbbjaaGreat
open Go.H
set_option linter.unusedVariables false
set_option linter.unusedSimpArgs false
theorem h0n(h:Hp){h':Hp}{v:Value}{e:Nat}{vs:List (List Value)}{xs:M0}(fr:E1 h h' v e 1 true vs)(f2:F2 (Wp.int.R h) vs xs)(b:xs.length<4611686018427387904):
  Tr Tryz.prog 285 #[v] h' λu k=>u = .tuple #[]/\∃ a,E1 h k v e 1 true a/\F2 (Wp.int.R h) a (X06 D9 xs):=Tr.sortI Tryz.sortI fr f2 b
theorem i0n(h:Hp){h':Hp}{v:Value}{e:Nat}{vs:List (List Value)}{xs:M0}(fr:E1 h h' v e 1 true vs)(f2:F2 (Wp.int.R h) vs xs):
  Tr Tryz.prog 286 #[v] h' λu k=>∃ b,E1 h k u e 1 true b/\F2 (Wp.int.R h) b (X03 eqI xs):=by
 obtain⟨rfl,g⟩:=F2.ints f2
 obtain⟨a,c,_,f⟩:=fr.slice
 refine(g0n h fr (by have:=z0q f;simpa using this)).mono ?_
 rintro u k ⟨j,rfl,d⟩
 exact⟨_,d,F2.ofInts λx i=>g x ((o0i (eq:=eqI) (l:=xs)).subset i)⟩
end Go.Proofs.YtmgikbbmpnbbjaaGreat
