/- Plain laws over the model: the library's sort, at a slice that lies in memory. -/
import Derived.Test.YtknoadmdnjaocaaH35
import Derived.Sort.Grow
import Derived.Shelf.SlSortCmp.Whole1
open Go.Sort Go.Proofs Go.Shelf Go.Lib
namespace Go.H
set_option linter.unusedVariables false
set_option linter.unusedSimpArgs false
theorem T0.grown {h : Hp} {w w' : World} (hv : Vis h w) (m : T0 h w h w') : ∃ q os', w' = grow (w.drewN q) os' := by
 refine ⟨w'.drawn - w.drawn, w'.heap.extract w.heap.size w'.heap.size, ?_⟩
 have hp : ∀ b, b < w.heap.size → w'.heap[b]? = w.heap[b]? := fun b hb => by
  cases hc : h b with
  | none => exact m.keep b hb hc
  | some o => rw [m.vis b o hc, hv b o hc]
 have hh : w'.heap = w.heap ++ w'.heap.extract w.heap.size w'.heap.size := by
  refine Array.ext_getElem? fun i => ?_
  rcases Nat.lt_or_ge i w.heap.size with hi | hi
  ·rw [Array.getElem?_append_left hi, hp i hi]
  ·rw [Array.getElem?_append_right hi, Array.getElem?_extract]
   have := m.size
   by_cases hi2 : i < w'.heap.size
   ·rw [if_pos (by omega)]
    congr 1
    omega
   ·rw [if_neg (by omega), Array.getElem?_eq_none (by omega)]
 have hd := m.dn
 cases w
 cases w'
 simp only [grow, Go.World.drewN] at *
 have e1 := m.os
 have e2 := m.tape
 have e3 := m.output
 simp only at e1 e2 e3
 subst e1 e2 e3
 congr 1
 omega
section
variable {P : Program} {ρ : Ren} {ι α : Type} [Inhabited ι] {row : ι → List Value} {dat : ι → α} {cf : α → α → Int} {gf sz : Nat} {h h' : Hp} {v : Value} {e : Nat} {l : List ι}
end
section
variable {P : Program} {ρ : Ren} {α : Type} {cf : α → α → Int} {gf : Nat} {h h' : Hp} {v : Value} {e : Nat} {vs : List (List Value)} {xs : List α}
end
end Go.H
