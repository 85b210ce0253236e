/- FirstDefect, of the spec and of the code. -/
import Derived.Test.YthccjgkmmclplaaP9f
import Derived.Test.YthccjgkmmclplaaW9f
import Derived.Test.YthccjgkmmclplaaPS
namespace Go.Proofs.Ythccjgkmmclplaa
open Go.H
set_option linter.unusedVariables false
theorem graph_len {g : LGraph} (h : mGraph g ≤ 1048576) : g.2.2.length ≤ 140737488355328 := by
  have : g.2.2.length ≤ mGraph g := by unfold mGraph mEdgeS; omega
  omega
theorem t_specFirstDefect (h : Hp) (cs : List Value) (x : LPresentation) (hx : wPresentation.R h cs x) (hm : mPresentation x ≤ 1048576) (ds : List Value) (y : LGraph) (hy : wGraph.R h ds y) (hmy : mGraph y ≤ 1048576) :
    Tr Try.prog 34 #[.agg cs.toArray, .agg ds.toArray] h fun v h' => v = .tuple #[.int .i64 (F_FirstDefect x y).1, .int .i64 (F_FirstDefect x y).2] ∧ h' = h :=
  t_spec_FirstDefect h cs x hx ds y hy _ (m_specFirstDefect x y (pres_short hm).1 (pres_short hm).2 (graph_len hmy))
theorem t_implFirstDefect (h : Hp) (cs : List Value) (x : LPresentation) (hx : wPresentation.R h cs x) (hm : mPresentation x ≤ 1048576) (ds : List Value) (y : LGraph) (hy : wGraph.R h ds y) (hmy : mGraph y ≤ 1048576) :
    Tr Try.prog 36 #[.agg cs.toArray, .agg ds.toArray] h fun v h' => v = .tuple #[.int .i64 (F_FirstDefect x y).1, .int .i64 (F_FirstDefect x y).2] ∧ h' = h :=
  t_impl_FirstDefect h cs x hx ds y hy _ (m_implFirstDefect x y (pres_short hm).1 (pres_short hm).2 (graph_len hmy))
end Go.Proofs.Ythccjgkmmclplaa
