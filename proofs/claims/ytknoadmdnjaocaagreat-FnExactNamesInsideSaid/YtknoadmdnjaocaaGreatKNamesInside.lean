/- NamesInside, of the spec and of the code. -/
import Derived.Test.YtknoadmdnjaocaaGreatPart24
import Derived.Test.YtknoadmdnjaocaaGreatPart27
namespace Go.Proofs.YtknoadmdnjaocaaGreat
open Go.H
set_option linter.unusedVariables false
theorem u0f {x : L1} (h : Y7 x ≤ 1048576) : R01 x.2 := by
 unfold Y7 h9 at h
 refine ⟨by omega, fun e he => ?_⟩
 have := l09 (m := W6) he
 unfold W6 R9 c01 at this h
 exact ⟨by omega, by omega⟩
theorem C0b (g : j0) : ∀ l : n3, (T01 g l).length ≤ l.length
 | [] => Nat.le_refl _
 | e :: l => by
  have := C0b g l
  rw [T01]
  cases p6 e.2 g <;> simp only [cond_true, cond_false, List.length_cons] <;> omega
theorem n0e {α : Type} : ∀ l : List α, Y4 (fun _ => 1) l = l.length
 | [] => rfl
 | x :: l => by simp only [Y4, n0e l, List.length_cons]; omega
theorem A0a (x : L1) (s : ByteArray) (hm : Y7 x ≤ 1048576) (hs : s.size ≤ 1048576) : z9 (E2 x s) ≤ 16777216 := by
 have h1 := (u0f hm).1
 unfold z9
 rw [n0e]
 unfold E2
 cases (K7 x s).2 && d7 x
 ·simp
 ·have := C0b (K7 x s).1 x.2
  rw [cond_true]; omega
theorem U06 (h : Hp) (cs : List Value) (x : L1) (hx : I3.R h cs x) (hm : Y7 x ≤ 1048576) (y : ByteArray) (hy : y.size ≤ 9223372036854775807) (hs : y.size ≤ 1048576) :
  Tr Tryz.prog 15 #[.agg cs.toArray, .string y] h fun v h' => I6.R h' [v] (E2 x y) ∧ Sub h h' := by
 refine Tr.mono (O05 h cs x hx y hy _ (i0e x y (u0f hm))) ?_
 rintro v k ⟨a0, n0, c0, rfl, r, s⟩
 exact ⟨r, s⟩
theorem k02 (h : Hp) (cs : List Value) (x : L1) (hx : I3.R h cs x) (hm : Y7 x ≤ 1048576) (y : ByteArray) (hy : y.size ≤ 9223372036854775807) (hs : y.size ≤ 1048576) :
  Tr Tryz.prog 17 #[.agg cs.toArray, .string y] h fun v h' => New I6 h h' [v] (E2 x y) := by
 refine Tr.mono (R05 h cs x hx y hy _ (g0e x y (u0f hm))) ?_
 rintro v k ⟨a0, n0, c0, rfl, r⟩
 exact r
end Go.Proofs.YtknoadmdnjaocaaGreat
