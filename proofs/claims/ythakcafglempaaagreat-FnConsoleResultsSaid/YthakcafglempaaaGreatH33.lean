/- Plain laws: comparisons that order. -/
import Derived.Test.YthakcafglempaaaGreatHE
namespace Go.H
set_option linter.all false
structure o02 {α:Type} (cf:α->α->Int):Prop where
 anti:∀ x y,cf y x = - cf x y
 eq:∀ x y,cf x y=0->x=y
 trans:∀ x y z,cf x y<0->cf y z<0->cf x z<0
theorem o02.refl{a:Type}{b:a->a->Int}(h:o02 b)(x:a):b x x=0:=by have:=h.anti x x;omega
def H01(a b:Int):Int:=if a<b then -1 else if a>b then 1 else 0
theorem d05:o02 H01 :=
  ⟨λx y=>by unfold H01;split<;>split<;>(try split)<;>omega,λx y h=>by unfold H01 at h;split at h<;>(try split at h)<;>omega,
   λx y z a b=>by unfold H01 at *;split at a<;>split at b<;>(try split at a)<;>(try split at b)<;>(try split)<;>omega⟩
theorem o02.on{a c:Type}{b:a->a->Int}(h:o02 b)(f:c->a)(hf:∀ x y,f x=f y->x=y):o02 λx y=>b (f x) (f y) :=
 ⟨λx y=>h.anti _ _,λx y e=>hf x y (h.eq _ _ e),λx y z=>h.trans _ _ _⟩
def thenC(a b:Int):Int:=if a≠0 then a else b
theorem o02.thenC{j k o:Type}{l:j->j->Int}{m:k->k->Int}(h:o02 l)(i:o02 m)(f:o->j)(g:o->k)(s:∀ x y,f x=f y->g x=g y->x=y): o02 λx y=>H.thenC (l (f x) (f y)) (m (g x) (g y)):=by
 have u:∀ a b:Int,H.thenC a b=0↔a=0/\b=0:=λa b=>by unfold H.thenC;split<;>omega
 have t:∀ a b:Int,H.thenC a b<0↔a<0∨a=0/\b<0:=λa b=>by unfold H.thenC;split<;>omega
 refine⟨λx y=>?_,λx y e=>?_,λx y z d c=>?_⟩;·have p:=h.anti (f x) (f y);have q:=i.anti (g x) (g y);simp only[H.thenC,p,q];split<;>split<;>omega
 ·obtain⟨d,c⟩:=(u _ _).1 e;exact s x y (h.eq _ _ d) (i.eq _ _ c)
 rw[t]at d c ⊢;rcases d with d|⟨d,v⟩
 ·rcases c with c|⟨c,n⟩;·exact .inl (h.trans _ _ _ d c)
  rw[h.eq _ _ c]at d;exact .inl d
 rw[h.eq _ _ d];rcases c with c|⟨c,n⟩;·exact .inl c
 exact .inr ⟨c,i.trans _ _ _ v n⟩
theorem v0s(a b:Int):H0 (H01 a b):=by unfold H01;split<;>(try split)<;>decide
def eqW(a b:List Int):Bool:=decide (a=b)
def eqI(a b:Int):Bool:=decide (a=b)
def eqE(a b:Int×Int×Int):Bool:=decide (a=b)
def V0(e f:Int×Int×Int):Int:=thenC (H01 e.1 f.1) (thenC (H01 e.2.1 f.2.1) (H01 e.2.2 f.2.2))
theorem j4:o02 V0 :=
 d05.thenC (d05.thenC d05 (λe:Int×Int=>e.1) (λe=>e.2) λ_ _ a b=>Prod.ext a b) (λe:Int×Int×Int=>e.1) (λe=>e.2) λ_ _ a b=>Prod.ext a b
end Go.H
