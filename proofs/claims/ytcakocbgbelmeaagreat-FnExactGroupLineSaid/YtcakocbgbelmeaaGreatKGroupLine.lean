/- GroupLine, of the spec and of the code. -/
import Derived.Test.YtcakocbgbelmeaaGreatPart24
import Derived.Test.YtcakocbgbelmeaaGreatPart23
import Derived.Test.YtcakocbgbelmeaaGreatPart28
import Derived.Test.YtcakocbgbelmeaaGreatPart29
namespace Go.Proofs.YtcakocbgbelmeaaGreat
open Go.H
set_option linter.unusedVariables false
theorem M0d (h:Hp) (cs:List Value) (x:B0) (hx:E1.R h cs x) (hm:J8 x≤1048576) :
  Tr Tryz.prog 10 #[.agg cs.toArray] h fun v h'=>v = .string (v02 x)∧h'=h :=
 F0c h cs x hx _ (x0d x (N06 hm).1 (N06 hm).2)
theorem N0d (h:Hp) (cs:List Value) (x:B0) (hx:E1.R h cs x) (hm:J8 x≤1048576) :
  Tr Tryz.prog 12 #[.agg cs.toArray] h fun v h'=>v = .string (v02 x)∧h'=h :=
 K0c h cs x hx _ (y0d x (N06 hm).1 (N06 hm).2)
end Go.Proofs.YtcakocbgbelmeaaGreat
