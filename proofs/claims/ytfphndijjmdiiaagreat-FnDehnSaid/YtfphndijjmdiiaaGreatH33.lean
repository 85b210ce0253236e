/- Plain laws: comparisons that order. -/
import Derived.Test.YtfphndijjmdiiaaGreatHE
namespace Go.H
set_option linter.unusedVariables false
structure b9 {α:Type} (cf:α->α->Int):Prop where
 anti:∀ x y,cf y x = - cf x y
 eq:∀ x y,cf x y=0->x=y
 trans:∀ x y z,cf x y<0->cf y z<0->cf x z<0
theorem b9.refl{a:Type}{cf:a->a->Int}(h:b9 cf)(x:a):cf x x=0:=by have:=h.anti x x;omega
def t9(a b:Int):Int:=if a<b then -1 else if a>b then 1 else 0
theorem h01:b9 t9 :=
  ⟨λx y=>by unfold t9;split<;>split<;>(try split)<;>omega,λx y h=>by unfold t9 at h;split at h<;>(try split at h)<;>omega,
   λx y z a b=>by unfold t9 at *;split at a<;>split at b<;>(try split at a)<;>(try split at b)<;>(try split)<;>omega⟩
theorem b9.on{a b:Type}{cf:a->a->Int}(h:b9 cf)(f:b->a)(hf:∀ x y,f x=f y->x=y):b9 λx y=>cf (f x) (f y) :=
 ⟨λx y=>h.anti _ _,λx y e=>hf x y (h.eq _ _ e),λx y z=>h.trans _ _ _⟩
def thenC(a b:Int):Int:=if a≠0 then a else b
theorem b9.thenC{j k o:Type}{l:j->j->Int}{m:k->k->Int}(h:b9 l)(i:b9 m)(f:o->j)(g:o->k)(s:∀ x y,f x=f y->g x=g y->x=y):
  b9 λx y=>H.thenC (l (f x) (f y)) (m (g x) (g y)):=by
 have u:∀ a b:Int,H.thenC a b=0↔a=0/\b=0:=λa b=>by unfold H.thenC;split<;>omega
 have t:∀ a b:Int,H.thenC a b<0↔a<0∨a=0/\b<0:=λa b=>by unfold H.thenC;split<;>omega
 refine⟨λx y=>?_,λx y e=>?_,λx y z d c=>?_⟩
 ·have p:=h.anti (f x) (f y);have q:=i.anti (g x) (g y)
  simp only[H.thenC,p,q]
  split<;>split<;>omega
 ·obtain⟨d,c⟩:=(u _ _).1 e
  exact s x y (h.eq _ _ d) (i.eq _ _ c)
 ·rw[t]at d c ⊢
  rcases d with d|⟨d,v⟩
  ·rcases c with c|⟨c,n⟩
   ·exact .inl (h.trans _ _ _ d c)
   ·rw[h.eq _ _ c]at d;exact .inl d
  ·rw[h.eq _ _ d]
   rcases c with c|⟨c,n⟩
   ·exact .inl c
   ·exact .inr ⟨c,i.trans _ _ _ v n⟩
def i06{d:Type}(c:d->d->Int):List d->List d->Int
 | [],[]=>0
 | [],_::_ => -1
 |_::_,[]=>1
 |x::a,y::b=>thenC (c x y) (i06 c a b)
theorem z0q{j:Type}{c:j->j->Int}(h:b9 c):b9 (i06 c):=by
 have n:∀ a b:Int,H.thenC a b=0↔a=0/\b=0:=λa b=>by unfold H.thenC;split<;>omega
 have m:∀ a b:Int,H.thenC a b<0↔a<0∨a=0/\b<0:=λa b=>by unfold H.thenC;split<;>omega
 refine⟨λx=>?_,λx=>?_,λx=>?_⟩
 ·induction x with
  |nil=>intro y;cases y<;>simp[i06]
  |cons a x g =>
   intro y
   cases y with
   |nil=>simp[i06]
   |cons b y =>
    have k:=h.anti a b;have l:=g y
    simp only[i06,H.thenC,k,l]
    split<;>split<;>omega
 ·induction x with
  |nil=>intro y e;cases y<;>simp_all [i06]
  |cons a x g =>
   intro y e
   cases y with
   |nil=>simp[i06]at e
   |cons b y =>
    obtain⟨f,d⟩:=(n _ _).1 e
    rw[h.eq _ _ f,g y d]
 ·induction x with
  |nil=>intro y z f d;cases y<;>cases z<;>simp_all [i06]
  |cons a x g =>
   intro y z f d
   cases y with
   |nil=>simp[i06]at f
   |cons b y =>
    cases z with
    |nil=>simp[i06]at d
    |cons p z =>
     simp only[i06]at f d ⊢
     rw[m]at f d ⊢
     rcases f with f|⟨f,o⟩
     ·rcases d with d|⟨d,i⟩
      ·exact .inl (h.trans _ _ _ f d)
      ·rw[h.eq _ _ d]at f;exact .inl f
     ·rw[h.eq _ _ f]
      rcases d with d|⟨d,i⟩
      ·exact .inl d
      ·exact .inr ⟨d,g y z o i⟩
theorem U06(a b:Int):H0 (t9 a b):=by unfold t9;split<;>(try split)<;>decide
def k0f(x:Int):Int:=if x<0 then 1-2*x else 2*x
theorem A0q(x y:Int)(h:k0f x=k0f y):x=y:=by unfold k0f at h;split at h<;>split at h<;>omega
def a09(x y:Int):Int:=t9 (k0f x) (k0f y)
theorem O0k:b9 a09:=h01.on k0f A0q
theorem J0n(a b:Int):H0 (a09 a b):=U06 _ _
def J1(a b:List Int):Int:=thenC (t9 (a.length:Int) (b.length:Int)) (i06 a09 a b)
theorem d08:b9 J1:=h01.thenC (z0q O0k) (λa:List Int=>(a.length:Int)) (λa=>a) λ_ _ _ h=>h
def eqW(a b:List Int):Bool:=decide (a=b)
def eqE(a b:Int×Int×Int):Bool:=decide (a=b)
def P0(e f:Int×Int×Int):Int:=thenC (t9 e.1 f.1) (thenC (t9 e.2.1 f.2.1) (t9 e.2.2 f.2.2))
theorem O5:b9 P0 :=
 h01.thenC (h01.thenC h01 (λe:Int×Int=>e.1) (λe=>e.2) λ_ _ a b=>Prod.ext a b) (λe:Int×Int×Int=>e.1) (λe=>e.2) λ_ _ a b=>Prod.ext a b
end Go.H
