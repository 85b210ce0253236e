/- Plain laws: comparisons that order. -/
import Derived.Test.YtkjhghloldgioaaGreatHE
namespace Go.H
set_option linter.unusedVariables false
structure Z6 {α:Type} (cf:α->α->Int):Prop where
 anti:∀ x y,cf y x = - cf x y
 eq:∀ x y,cf x y=0->x=y
 trans:∀ x y z,cf x y<0->cf y z<0->cf x z<0
theorem Z6.refl{a:Type}{b:a->a->Int}(h:Z6 b)(x:a):b x x=0:=by have:=h.anti x x;omega
def j6(a b:Int):Int:=if a<b then -1 else if a>b then 1 else 0
theorem i9:Z6 j6 :=
  ⟨λx c=>by unfold j6;split<;>split<;>(try split)<;>omega,λx c h=>by unfold j6 at h;split at h<;>(try split at h)<;>omega,
   λx c z a b=>by unfold j6 at *;split at a<;>split at b<;>(try split at a)<;>(try split at b)<;>(try split)<;>omega⟩
theorem Z6.on{b d:Type}{c:b->b->Int}(h:Z6 c)(f:d->b)(hf:∀ x a,f x=f a->x=a):Z6 λx a=>c (f x) (f a) :=
 ⟨λx a=>h.anti _ _,λx a e=>hf x a (h.eq _ _ e),λx a z=>h.trans _ _ _⟩
def thenC(a b:Int):Int:=if a≠0 then a else b
theorem Z6.thenC{k l p:Type}{m:k->k->Int}{n:l->l->Int}(i:Z6 m)(j:Z6 n)(f:p->k)(g:p->l)(t:∀ x d,f x=f d->g x=g d->x=d):
  Z6 λx d=>H.thenC (m (f x) (f d)) (n (g x) (g d)):=by
 have v:∀ a b:Int,H.thenC a b=0↔a=0/\b=0:=λa b=>by unfold H.thenC;split<;>omega
 have u:∀ a b:Int,H.thenC a b<0↔a<0∨a=0/\b<0:=λa b=>by unfold H.thenC;split<;>omega
 refine⟨λx d=>?_,λx d e=>?_,λx d z h c=>?_⟩
 ·have q:=i.anti (f x) (f d);have s:=j.anti (g x) (g d)
  simp only[H.thenC,q,s]
  split<;>split<;>omega
 ·obtain⟨h,c⟩:=(v _ _).1 e
  exact t x d (i.eq _ _ h) (j.eq _ _ c)
 ·rw[u]at h c ⊢
  rcases h with h|⟨h,w⟩
  ·rcases c with c|⟨c,o⟩
   ·exact .inl (i.trans _ _ _ h c)
   ·rw[i.eq _ _ c]at h;exact .inl h
  ·rw[i.eq _ _ h]
   rcases c with c|⟨c,o⟩
   ·exact .inl c
   ·exact .inr ⟨c,j.trans _ _ _ w o⟩
theorem S09(a b:Int):Q0 (j6 a b):=by unfold j6;split<;>(try split)<;>decide
def eqI(a b:Int):Bool:=decide (a=b)
def eqE(a b:Int×Int×Int):Bool:=decide (a=b)
def P1(e f:Int×Int×Int):Int:=thenC (j6 e.1 f.1) (thenC (j6 e.2.1 f.2.1) (j6 e.2.2 f.2.2))
theorem A07:Z6 P1 :=
 i9.thenC (i9.thenC i9 (λe:Int×Int=>e.1) (λe=>e.2) λ_ _ a b=>Prod.ext a b) (λe:Int×Int×Int=>e.1) (λe=>e.2) λ_ _ a b=>Prod.ext a b
end Go.H
