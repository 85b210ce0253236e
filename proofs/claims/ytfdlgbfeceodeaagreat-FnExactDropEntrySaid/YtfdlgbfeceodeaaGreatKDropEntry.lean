/- DropEntry, of the spec and of the code. -/
import Derived.Test.YtfdlgbfeceodeaaGreatPart23
import Derived.Test.YtfdlgbfeceodeaaGreatPart26
namespace Go.Proofs.YtfdlgbfeceodeaaGreat
open Go.H
set_option linter.unusedVariables false
theorem Q0e {x : O0} (h : K6 x ≤ 1048576) : e01 x.2 := by
 unfold K6 B8 at h
 refine ⟨by omega, fun e he => ?_⟩
 have := E06 (m := Z5) he
 unfold Z5 V8 b00 at this h
 exact ⟨by omega, by omega⟩
theorem b06 {α : Type} (f : α → Nat) : ∀ a b : List α, M3 f (a ++ b) = M3 f a + M3 f b
 | [], b => by simp [M3]
 | x :: a, b => by simp only [List.cons_append, M3, b06 f a b]; omega
theorem w0a (x : O0) (s : ByteArray) (hm : K6 x ≤ 1048576) (hs : s.size ≤ 1048576) : U4 (I2 x s).1 ≤ 16777216 := by
 have h1 : U4 x ≤ 16 * K6 x := X09 x.2
 have h2 : ∀ i, M3 Y1 (x.2.take i ++ x.2.drop (i + 1)) ≤ M3 Y1 x.2 := fun i => by
  have e : x.2 = x.2.take (i + 1) ++ x.2.drop (i + 1) := (List.take_append_drop _ _).symm
  have e2 : x.2.take (i + 1) = x.2.take i ++ (x.2.drop i).take 1 := by rw [List.take_add]
  have e3 : M3 Y1 x.2 = M3 Y1 (x.2.take i) + M3 Y1 ((x.2.drop i).take 1) + M3 Y1 (x.2.drop (i + 1)) := by
   conv => lhs; rw [e, b06, e2, b06]
  rw [b06, e3]; omega
 unfold I2
 cases c5 x
 ·exact Nat.le_trans h1 (by omega)
 ·cases d02 x s with
  | none => exact Nat.le_trans h1 (by omega)
  | some i => exact Nat.le_trans (h2 i) (Nat.le_trans h1 (by omega))
theorem T05 (h : Hp) (cs : List Value) (x : O0) (hx : E1.R h cs x) (hm : K6 x ≤ 1048576) (y : ByteArray) (hy : y.size ≤ 9223372036854775807) (hs : y.size ≤ 1048576) :
  Tr Tryz.prog 15 #[.agg cs.toArray, .string y] h fun v h' => ∃ cs, v = .tuple #[.agg cs.toArray, .bool (I2 x y).2] ∧ E1.R h' cs (I2 x y).1 ∧ Sub h h' :=
 v05 h cs x hx y hy _ (o0b x y (Q0e hm))
theorem i02 (h : Hp) (cs : List Value) (x : O0) (hx : E1.R h cs x) (hm : K6 x ≤ 1048576) (y : ByteArray) (hy : y.size ≤ 9223372036854775807) (hs : y.size ≤ 1048576) :
  Tr Tryz.prog 17 #[.agg cs.toArray, .string y] h fun v h' => ∃ cs, v = .tuple #[.agg cs.toArray, .bool (I2 x y).2] ∧ New E1 h h' cs (I2 x y).1 :=
 w05 h cs x hx y hy _ (n0b x y (Q0e hm))
end Go.Proofs.YtfdlgbfeceodeaaGreat
