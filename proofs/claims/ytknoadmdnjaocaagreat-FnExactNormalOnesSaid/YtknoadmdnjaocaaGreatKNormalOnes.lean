/- NormalOnes, of the spec and of the code. -/
import Derived.Test.YtknoadmdnjaocaaGreatPart24
import Derived.Test.YtknoadmdnjaocaaGreatPart27
import Derived.Test.YtknoadmdnjaocaaGreatPart28
namespace Go.Proofs.YtknoadmdnjaocaaGreat
open Go.H
set_option linter.unusedVariables false
theorem P0f {l : V5} (h : b9 l ≤ 1048576) : u0j l := by
 unfold b9 at h
 refine ⟨by omega, fun g hg => ?_⟩
 have := B09 (m := P7) hg
 unfold P7 k01 at this h
 omega
theorem O0e : ∀ l : List Int, c5 (fun _ => 1) l = l.length
 | [] => rfl
 | x :: l => by simp only [c5, O0e l, List.length_cons]; omega
theorem V0c (l : V5) (h : b9 l ≤ 1048576) : j05 (O3 l) ≤ 16777216 := by
 have h1 := (P0f h).1
 have h2 := S0g l l.length 0
 unfold j05
 rw [O0e]
 unfold O3
 omega
theorem T07 (h : Hp) (a : Option Addr) (n c : Nat) (l : V5) (hx : C5.R h [.slice a n c] l) (hm : b9 l ≤ 1048576) :
  Tr Tryz.prog 36 #[.slice a n c] h fun v h' => D1.R h' [v] (O3 l) ∧ Sub h h' := by
 refine Tr.mono (R06 h a n c l hx _ (I07 l (P0f hm))) ?_
 rintro v k ⟨a0, n0, c0, rfl, r, s⟩
 exact ⟨r, s⟩
theorem X02 (h : Hp) (a : Option Addr) (n c : Nat) (l : V5) (hx : C5.R h [.slice a n c] l) (hm : b9 l ≤ 1048576) :
  Tr Tryz.prog 38 #[.slice a n c] h fun v h' => New D1 h h' [v] (O3 l) := by
 refine Tr.mono (T06 h a n c l hx _ (J07 l (P0f hm))) ?_
 rintro v k ⟨a0, n0, c0, rfl, r⟩
 exact r
end Go.Proofs.YtknoadmdnjaocaaGreat
