/- Plain laws over the model: how a slice of bytes is opened. -/
import Derived.Test.YthakcafglempaaaGreatHE
import Derived.Test.YthakcafglempaaaGreatH45
namespace Go.H
set_option linter.all false
theorem a05.u8{P:Program}{t:TypeId}(a:P.underlying t=some (.int .u8)):a05 P t Rp.u8:=by intro H enc w base e c n cs x b;obtain⟨k,rfl,_,d⟩:=DataW.trod_int a b;exact⟨k,rfl⟩
end Go.H
