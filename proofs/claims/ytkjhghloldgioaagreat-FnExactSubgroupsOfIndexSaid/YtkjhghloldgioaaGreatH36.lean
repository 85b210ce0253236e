/- Plain laws: comparisons that order, strictly ordered lists, and what a sort without doubles is. -/
import Derived.Test.YtkjhghloldgioaaGreatH34
import Derived.Test.YtkjhghloldgioaaGreatH33
open Go.Sort Go.Proofs
namespace Go.H
set_option linter.unusedVariables false
theorem K8.cmp{α:Type}{cf:α->α->Int}(h:K8 cf):Cmp cf:=by
 refine⟨⟨λx=>?_,λx y z h1 h2=>?_,λx y z h1 h2=>?_⟩,λx y h1 h2=>?_⟩
 ·simp[ltOf,h.refl]
 ·simp only[ltOf,decide_eq_true_eq]at *;exact h.trans x y z h1 h2
 ·simp only[ltOf,decide_eq_false_iff_not]at *
  intro h3
  have a1:=h.anti x y
  rcases Int.lt_or_le (cf y x) 0 with h4|h4
  ·exact h2 (h.trans y x z h4 h3)
  ·have:cf x y=0:=by omega
   rw[h.eq _ _ this]at h3
   exact h2 h3
 ·simp only[ltOf,decide_eq_false_iff_not]at *
  have a1:=h.anti x y
  exact h.eq x y (by omega)
def L8{α:Type}(eq:α->α->Bool):α->List α->List α
 |_,[]=>[]
 |p,y::l=>bif eq y p then L8 eq y l else y::L8 eq y l
def c00{α:Type}(eq:α->α->Bool):List α->List α
 | []=>[]
 |x::l=>x::L8 eq x l
theorem r03{α:Type}(eq:α->α->Bool):∀(l:List α) (p:α),(L8 eq p l).Sublist l
 | [],_ => .slnil
 |y::l,p=>by
  unfold L8
  cases eq y p
  ·exact(r03 eq l y).cons_cons y
  ·exact(r03 eq l y).cons y
end Go.H
