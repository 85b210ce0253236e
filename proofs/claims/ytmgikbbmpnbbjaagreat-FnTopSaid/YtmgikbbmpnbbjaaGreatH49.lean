/- Plain laws over the model: how a slice of bytes is opened. -/
import Derived.Test.YtmgikbbmpnbbjaaGreatHE
import Derived.Test.YtmgikbbmpnbbjaaGreatH45
namespace Go.H
theorem E03.u8{P:Program}{t:TypeId}(a:P.underlying t=some (.int .u8)):E03 P t Rp.u8:=by
 intro H enc w base e c n cs x b
 obtain⟨k,rfl,_,d⟩:=DataW.trod_int a b
 exact⟨k,rfl⟩
end Go.H
