/- Plain laws over the model: maps whose keys are pairs of ints: each pair's value is its place in a list. -/
import Derived.Test.YtkjhghloldgioaaGreatHE
namespace Go.H
set_option linter.unusedVariables false
set_option linter.unusedSimpArgs false
section
variable {P:Program}
def lkP(p:Int×Int):List (Int×Int)->Nat->Option Nat
 | [],_=>none
 |q::r,i=>bif decide (p.1=q.1)&&decide (p.2=q.2)then some i else lkP p r (i+1)
def lkZ(p:Int×Int)(ps:List (Int×Int)):Int:=match lkP p ps 0 with
 |some k=>(k:Int)
 |none => -1
end
end Go.H
