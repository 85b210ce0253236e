/- IsPresentation in the laws' form. -/
import Derived.Test.YtalidbmconldoaaD7
namespace Go.Proofs.Ytalidbmconldoaa
open Go.H
set_option linter.unusedVariables false
set_option maxRecDepth 10000

def F_IsPresentation (x : LPresentation) : Bool := isPresB x.1 x.2
theorem t_specIsPresentation' (h : Hp) (cs : List Value) (x : LPresentation) (hx : wPresentation.R h cs x) :
    Tr Try.prog 16 #[.agg cs.toArray] h fun v h' => v = .bool (F_IsPresentation x) ∧ h' = h := by
  obtain ⟨r, a, n, c, ws, rfl, rfl, hr, hw⟩ := openPresentation hx
  exact t_specIsPresentation0 h r a n c ws hw hr
theorem t_implIsPresentation' (h : Hp) (cs : List Value) (x : LPresentation) (hx : wPresentation.R h cs x) :
    Tr Try.prog 18 #[.agg cs.toArray] h fun v h' => v = .bool (F_IsPresentation x) ∧ h' = h := by
  obtain ⟨r, a, n, c, ws, rfl, rfl, hr, hw⟩ := openPresentation hx
  exact t_implIsPresentation0 h r a n c ws hw
theorem t_specIsPresentation (h : Hp) (cs : List Value) (x : LPresentation) (hx : wPresentation.R h cs x) (hm : mPresentation x ≤ 1048576) :
    Tr Try.prog 16 #[.agg cs.toArray] h fun v h' => v = .bool (F_IsPresentation x) ∧ h' = h := t_specIsPresentation' h cs x hx
theorem t_implIsPresentation (h : Hp) (cs : List Value) (x : LPresentation) (hx : wPresentation.R h cs x) (hm : mPresentation x ≤ 1048576) :
    Tr Try.prog 18 #[.agg cs.toArray] h fun v h' => v = .bool (F_IsPresentation x) ∧ h' = h := t_implIsPresentation' h cs x hx
end Go.Proofs.Ytalidbmconldoaa
