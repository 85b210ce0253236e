/- Plain laws over the model: how a slice of bytes is opened. -/
import Derived.Test.YthkpbcnhdhfifaaGreatHE
import Derived.Test.YthkpbcnhdhfifaaGreatH45
namespace Go.H
set_option linter.all false
theorem K06.u8{P:Program}{t:TypeId}(a:P.underlying t=some (.int .u8)):K06 P t Rp.u8:=by intro H enc w base e c n cs x b;obtain⟨k,rfl,_,d⟩:=DataW.trod_int a b;exact⟨k,rfl⟩
end Go.H
