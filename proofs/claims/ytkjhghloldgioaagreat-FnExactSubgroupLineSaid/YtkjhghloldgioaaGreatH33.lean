/- Plain laws: comparisons that order. -/
import Derived.Test.YtkjhghloldgioaaGreatHE
namespace Go.H
set_option linter.unusedVariables false
structure e00 {α:Type} (cf:α->α->Int):Prop where
 anti:∀ x y,cf y x = - cf x y
 eq:∀ x y,cf x y=0->x=y
 trans:∀ x y z,cf x y<0->cf y z<0->cf x z<0
theorem e00.refl{α:Type}{cf:α->α->Int}(h:e00 cf)(x:α):cf x x=0:=by have:=h.anti x x;omega
def c9(a b:Int):Int:=if a<b then -1 else if a>b then 1 else 0
theorem m02:e00 c9 :=
  ⟨λx y=>by unfold c9;split<;>split<;>(try split)<;>omega,λx y h=>by unfold c9 at h;split at h<;>(try split at h)<;>omega,
   λx y z h1 h2=>by unfold c9 at *;split at h1<;>split at h2<;>(try split at h1)<;>(try split at h2)<;>(try split)<;>omega⟩
theorem e00.on{α β:Type}{cf:α->α->Int}(h:e00 cf)(f:β->α)(hf:∀ x y,f x=f y->x=y):e00 λx y=>cf (f x) (f y) :=
 ⟨λx y=>h.anti _ _,λx y e=>hf x y (h.eq _ _ e),λx y z=>h.trans _ _ _⟩
def thenC(a b:Int):Int:=if a≠0 then a else b
theorem e00.thenC{α β γ:Type}{c1:α->α->Int}{c2:β->β->Int}(h1:e00 c1)(h2:e00 c2)(f:γ->α)(g:γ->β)(hfg:∀ x y,f x=f y->g x=g y->x=y):
  e00 λx y=>H.thenC (c1 (f x) (f y)) (c2 (g x) (g y)):=by
 have hz:∀ a b:Int,H.thenC a b=0↔a=0/\b=0:=λa b=>by unfold H.thenC;split<;>omega
 have hn:∀ a b:Int,H.thenC a b<0↔a<0∨a=0/\b<0:=λa b=>by unfold H.thenC;split<;>omega
 refine⟨λx y=>?_,λx y e=>?_,λx y z e1 e2=>?_⟩
 ·have a1:=h1.anti (f x) (f y);have a2:=h2.anti (g x) (g y)
  simp only[H.thenC,a1,a2]
  split<;>split<;>omega
 ·obtain⟨e1,e2⟩:=(hz _ _).1 e
  exact hfg x y (h1.eq _ _ e1) (h2.eq _ _ e2)
 ·rw[hn]at e1 e2 ⊢
  rcases e1 with e1|⟨e1,k1⟩
  ·rcases e2 with e2|⟨e2,k2⟩
   ·exact .inl (h1.trans _ _ _ e1 e2)
   ·rw[h1.eq _ _ e2]at e1;exact .inl e1
  ·rw[h1.eq _ _ e1]
   rcases e2 with e2|⟨e2,k2⟩
   ·exact .inl e2
   ·exact .inr ⟨e2,h2.trans _ _ _ k1 k2⟩
theorem n0h(a b:Int):P0 (c9 a b):=by unfold c9;split<;>(try split)<;>decide
def eqI(a b:Int):Bool:=decide (a=b)
def eqE(a b:Int×Int×Int):Bool:=decide (a=b)
def C1(e f:Int×Int×Int):Int:=thenC (c9 e.1 f.1) (thenC (c9 e.2.1 f.2.1) (c9 e.2.2 f.2.2))
theorem S9:e00 C1 :=
 m02.thenC (m02.thenC m02 (λe:Int×Int=>e.1) (λe=>e.2) λ_ _ h1 h2=>Prod.ext h1 h2) (λe:Int×Int×Int=>e.1) (λe=>e.2) λ_ _ h1 h2=>Prod.ext h1 h2
end Go.H
