/- What the small functions on ints do: l1In, within, ClaimWord, FactorialOf. -/
import Derived.Test.YtalidbmconldoaaH24
import Derived.Test.YtalidbmconldoaaChecked
namespace Go.Proofs.Ytalidbmconldoaa
open Go.H
set_option linter.unusedVariables false
set_option maxRecDepth 10000

theorem t_l1In (h : Hp) (x lo hi : Int) : Tr Try.prog 72 #[.int .i64 x, .int .i64 lo, .int .i64 hi] h fun v h' => v = .bool (decide (lo ≤ x ∧ x ≤ hi)) ∧ h' = h := by
  refine walk (args := [.int .i64 x, .int .i64 lo, .int .i64 hi]) (fn := Try.f72) rfl ?_
  refine And.intro (congrArg Value.bool ?_) rfl
  by_cases h1 : lo ≤ x <;> by_cases h2 : x ≤ hi <;> simp [h1, h2]
theorem t_within (h : Hp) (x lo hi : Int) : Tr Try.prog 73 #[.int .i64 x, .int .i64 lo, .int .i64 hi] h fun v h' => v = .bool (decide (lo ≤ x ∧ x ≤ hi)) ∧ h' = h := by
  refine walk (args := [.int .i64 x, .int .i64 lo, .int .i64 hi]) (fn := Try.f73) rfl ?_
  refine And.intro (congrArg Value.bool ?_) rfl
  by_cases h1 : lo ≤ x <;> by_cases h2 : x ≤ hi <;> simp [h1, h2]
end Go.Proofs.Ytalidbmconldoaa
