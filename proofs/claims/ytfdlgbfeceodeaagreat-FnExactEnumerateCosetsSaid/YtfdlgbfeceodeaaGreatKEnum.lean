/- EnumerateCosets, IndexModulo and SizeOfGroup, of the spec and of the code. -/
import Derived.Test.YtfdlgbfeceodeaaGreatPart24
import Derived.Test.YtfdlgbfeceodeaaGreatPart27
import Derived.Test.YtfdlgbfeceodeaaGreatPart28
namespace Go.Proofs.YtfdlgbfeceodeaaGreat
open Go.H
set_option linter.unusedVariables false
theorem R01 {x : V2} (h : j9 x ≤ 1048576) : x.length ≤ 140737488355328 ∧ Q3 x := by
 unfold j9 at h
 refine ⟨by omega, fun w hw => ?_⟩
 have := W0a (m := S00) hw
 unfold S00 at this h
 omega
theorem a03 {x : D0} (h : l4 x ≤ 1048576) : x.2.length ≤ 140737488355328 ∧ Q3 x.2 := R01 (x := x.2) (by unfold l4 at h; omega)
def P1 (x : D0) (y : V2) : l0 × Bool := l03 x y
theorem j08 (x : D0) (y : V2) (hx : l4 x ≤ 1048576) (hy : j9 y ≤ 1048576) : i9 (P1 x y).1 ≤ 16777216 := by
 have h3 := E0k (P1 x y).1
 have h1 := Y0j x y
 have h4 : r0g (P1 x y).1 = (l03 x y).1.2.2.length := rfl
 omega
theorem K04 (h : Hp) (cs : List Value) (x : D0) (hx : j1.R h cs x) (hm : l4 x ≤ 1048576) (a : Option Addr) (n c : Nat) (y : V2) (hy : D3.R h [.slice a n c] y) (hmy : j9 y ≤ 1048576) :
  Tr Tryz.prog 65 #[.agg cs.toArray, .slice a n c] h fun v h' => ∃ cs, v = .tuple #[.agg cs.toArray, .bool (P1 x y).2] ∧ Y0.R h' cs (P1 x y).1 ∧ Sub h h' :=
 w04 h cs x hx a n c y hy _ (L0g x y (a03 hm).1 (a03 hm).2 (R01 hmy).1 (R01 hmy).2)
theorem p01 (h : Hp) (cs : List Value) (x : D0) (hx : j1.R h cs x) (hm : l4 x ≤ 1048576) (a : Option Addr) (n c : Nat) (y : V2) (hy : D3.R h [.slice a n c] y) (hmy : j9 y ≤ 1048576) :
  Tr Tryz.prog 66 #[.agg cs.toArray, .slice a n c] h fun v h' => ∃ cs, v = .tuple #[.agg cs.toArray, .bool (P1 x y).2] ∧ New Y0 h h' cs (P1 x y).1 :=
 x04 h cs x hx a n c y hy _ (M0g x y (a03 hm).1 (a03 hm).2 (R01 hmy).1 (R01 hmy).2)
end Go.Proofs.YtfdlgbfeceodeaaGreat
