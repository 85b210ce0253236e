/- SubgroupsOfIndex, of the spec and of the code. -/
import Derived.Test.YtkjhghloldgioaaGreatPart23
import Derived.Test.YtkjhghloldgioaaGreatPart24
import Derived.Test.YtkjhghloldgioaaGreatPart26
namespace Go.Proofs.YtkjhghloldgioaaGreat
open Go.H
set_option linter.unusedVariables false
theorem w03(x y:Int)(hx:J0 x)(hy:J0 y):p8 (R0 x y).1<=16777216:=Nat.le_trans (E0b x y).2.2 (by decide)
theorem y01(h:Hp)(x:Int)(hx:J0 x)(y:Int)(hy:J0 y):
  Tr Tryz.prog 58 #[.int .i64 x,.int .i64 y] h λv h'=>∃ u,v = .tuple #[u,.bool (R0 x y).2]/\f4.R h' [u] (R0 x y).1/\Sub h h':=by
 refine Tr.mono (b01 h x hx y hy _ (E0b x y).1) ?_
 rintro v k ⟨a,n,c,rfl,r,s⟩
 exact⟨_,rfl,r,s⟩
theorem C8(h:Hp)(x:Int)(hx:J0 x)(y:Int)(hy:J0 y):
  Tr Tryz.prog 59 #[.int .i64 x,.int .i64 y] h λv h'=>∃ u,v = .tuple #[u,.bool (R0 x y).2]/\New f4 h h' [u] (R0 x y).1:=by
 refine Tr.mono (c01 h x hx y hy _ (E0b x y).2.1) ?_
 rintro v k ⟨a,n,c,rfl,r⟩
 exact⟨_,rfl,r⟩
end Go.Proofs.YtkjhghloldgioaaGreat
