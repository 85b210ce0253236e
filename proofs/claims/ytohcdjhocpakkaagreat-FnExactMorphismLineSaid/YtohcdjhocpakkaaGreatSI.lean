/- The library's sort and Compact, at ints that lie in memory of the call's own. -/
import Derived.Test.YtohcdjhocpakkaaGreatCI
import Derived.Test.YtohcdjhocpakkaaGreatH39
import Derived.Shelf.Lay
import Derived.Ground.NamesProg
import Derived.Test.YtohcdjhocpakkaaGreatChecked
namespace Go.Proofs
open Go.Shelf Go.Lib Go.Sort
shelf_lay Lays.n189 Nm 189 at Tryz as Tryz.sortI
end Go.Proofs
namespace Go.Proofs.YtohcdjhocpakkaaGreat
open Go.H
set_option linter.unusedVariables false
set_option linter.unusedSimpArgs false
theorem L0l(h:Hp){a:Hp}{v:Value}{e:Nat}{vs:List (List Value)}{xs:D0}(fr:V0 h a v e 1 true vs)(f2:F2 (Wp.int.R h) vs xs)(c:xs.length<4611686018427387904):
  Tr Tryz.prog 157 #[v] a λu k=>u = .tuple #[]/\∃ b,V0 h k v e 1 true b/\F2 (Wp.int.R h) b (f06 N5 xs):=Tr.sortI Tryz.sortI fr f2 c
theorem M0l(h:Hp){b:Hp}{v:Value}{e:Nat}{vs:List (List Value)}{xs:D0}(fr:V0 h b v e 1 true vs)(f2:F2 (Wp.int.R h) vs xs):
  Tr Tryz.prog 158 #[v] b λu k=>∃ d,V0 h k u e 1 true d/\F2 (Wp.int.R h) d (k03 eqI xs):=by
 obtain⟨rfl,i⟩:=F2.ints f2
 obtain⟨a,c,_,g⟩:=fr.slice
 refine(K0l h fr (by have:=A0n g;simpa using this)).mono ?_
 rintro u k ⟨m,rfl,f⟩
 exact⟨_,f,F2.ofInts λx j=>i x ((f0h (eq:=eqI) (l:=xs)).subset j)⟩
end Go.Proofs.YtohcdjhocpakkaaGreat
