/- Plain laws over the model: maps whose keys are pairs of ints: each pair's value is its place in a list. -/
import Derived.Test.YthakcafglempaaaGreatHE
namespace Go.H
set_option linter.all false
section
variable {P:Program}
theorem p03{h:Hp}{b o:Nat}{c:Array Value}{t:TypeId}{a:Nat×Nat}{v:Value}(d:h b=some (.cells c t a))(e:c[o]?=some v):Hp.cell h b o=some v:=by unfold Hp.cell;rw[d];exact e
end
end Go.H
