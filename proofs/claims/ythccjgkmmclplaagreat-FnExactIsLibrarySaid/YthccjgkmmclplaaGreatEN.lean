/- A slice compared with nil. -/
import Derived.Test.YthccjgkmmclplaaGreatGD
import Derived.Test.YthccjgkmmclplaaGreatChecked
import Derived.Laws.StructEq
namespace Go.Proofs.YthccjgkmmclplaaGreat
open Go.H
set_option linter.unusedVariables false
set_option linter.unusedSimpArgs false
set_option maxRecDepth 10000
theorem eqNil (o : Oper) (x y : Operand) (ho : o.op = .binOp .eql 76 x y 76) (a : Option Addr) (n m : Nat) : AggOp Tryz.prog o x y (.slice a n m) (.slice none 0 0) a.isNone := by
  intro ρ hx hy w
  unfold execOp
  rw [ho]
  have h5 : Tryz.prog.underlying 76 = some (.slice 3) := Tryz.underlying76
  have e1 : ∀ (d : Nat), Sem.run Tryz.prog (Op.equalIn (d + 1) 76 (.slice a n m) (.slice none 0 0)) w = .ok a.isNone w := fun d => by
    unfold Op.equalIn
    cases a <;> simp [Sem.run_bind, run_underlying h5]
  have e2 := e1 9999
  simp [hx, hy, Sem.run_bind, go_sem, h5, eqGuard, binOp, Op.equal]
  rw [show Op.maxDepth = 9999 + 1 from rfl, e2]
  rfl
end Go.Proofs.YthccjgkmmclplaaGreat
