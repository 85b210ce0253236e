/- Sizes: what the law's helpers measure bounds the lengths. -/
import Derived.Test.YthccjgkmmclplaaP1b
namespace Go.Proofs.Ythccjgkmmclplaa
open Go.H
set_option linter.unusedVariables false
theorem intSS_short {ws : LIntSS} {n : Nat} (h : mIntSS ws ≤ n) (hn : n ≤ 140737488355328) : ws.length ≤ 140737488355328 ∧ wordsShort ws := by
  unfold mIntSS at h
  exact ⟨by omega, fun w hw => by have := sumM_mem (m := mIntS) hw; unfold mIntS at this h; omega⟩
theorem pres_short {x : LPresentation} (h : mPresentation x ≤ 1048576) : x.2.length ≤ 140737488355328 ∧ wordsShort x.2 := intSS_short (ws := x.2) h (by decide)
end Go.Proofs.Ythccjgkmmclplaa
