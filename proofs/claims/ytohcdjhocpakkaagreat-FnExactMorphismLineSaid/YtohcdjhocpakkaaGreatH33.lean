/- Plain laws: comparisons that order. -/
import Derived.Test.YtohcdjhocpakkaaGreatHE
namespace Go.H
set_option linter.unusedVariables false
structure K8 {α:Type} (cf:α->α->Int):Prop where
 anti:∀ x y,cf y x = - cf x y
 eq:∀ x y,cf x y=0->x=y
 trans:∀ x y z,cf x y<0->cf y z<0->cf x z<0
theorem K8.refl{a:Type}{b:a->a->Int}(h:K8 b)(x:a):b x x=0:=by have:=h.anti x x;omega
def N5(a b:Int):Int:=if a<b then -1 else if a>b then 1 else 0
theorem L8:K8 N5 :=
  ⟨λx c=>by unfold N5;split<;>split<;>(try split)<;>omega,λx c h=>by unfold N5 at h;split at h<;>(try split at h)<;>omega,
   λx c z a b=>by unfold N5 at *;split at a<;>split at b<;>(try split at a)<;>(try split at b)<;>(try split)<;>omega⟩
theorem K8.on{b d:Type}{c:b->b->Int}(h:K8 c)(f:d->b)(hf:∀ x a,f x=f a->x=a):K8 λx a=>c (f x) (f a) :=
 ⟨λx a=>h.anti _ _,λx a e=>hf x a (h.eq _ _ e),λx a z=>h.trans _ _ _⟩
def thenC(a b:Int):Int:=if a≠0 then a else b
theorem K8.thenC{k l γ:Type}{m:k->k->Int}{n:l->l->Int}(i:K8 m)(j:K8 n)(f:γ->k)(g:γ->l)(s:∀ x d,f x=f d->g x=g d->x=d):
  K8 λx d=>H.thenC (m (f x) (f d)) (n (g x) (g d)):=by
 have u:∀ a b:Int,H.thenC a b=0↔a=0/\b=0:=λa b=>by unfold H.thenC;split<;>omega
 have t:∀ a b:Int,H.thenC a b<0↔a<0∨a=0/\b<0:=λa b=>by unfold H.thenC;split<;>omega
 refine⟨λx d=>?_,λx d e=>?_,λx d z h c=>?_⟩
 ·have p:=i.anti (f x) (f d);have q:=j.anti (g x) (g d)
  simp only[H.thenC,p,q]
  split<;>split<;>omega
 ·obtain⟨h,c⟩:=(u _ _).1 e
  exact s x d (i.eq _ _ h) (j.eq _ _ c)
 ·rw[t]at h c ⊢
  rcases h with h|⟨h,v⟩
  ·rcases c with c|⟨c,o⟩
   ·exact .inl (i.trans _ _ _ h c)
   ·rw[i.eq _ _ c]at h;exact .inl h
  ·rw[i.eq _ _ h]
   rcases c with c|⟨c,o⟩
   ·exact .inl c
   ·exact .inr ⟨c,j.trans _ _ _ v o⟩
def g06{d:Type}(c:d->d->Int):List d->List d->Int
 | [],[]=>0
 | [],_::_ => -1
 |_::_,[]=>1
 |x::a,f::b=>thenC (c x f) (g06 c a b)
theorem k0p{k:Type}{c:k->k->Int}(h:K8 c):K8 (g06 c):=by
 have o:∀ a b:Int,H.thenC a b=0↔a=0/\b=0:=λa b=>by unfold H.thenC;split<;>omega
 have n:∀ a b:Int,H.thenC a b<0↔a<0∨a=0/\b<0:=λa b=>by unfold H.thenC;split<;>omega
 refine⟨λx=>?_,λx=>?_,λx=>?_⟩
 ·induction x with
  |nil=>intro d;cases d<;>simp[g06]
  |cons a x i =>
   intro d
   cases d with
   |nil=>simp[g06]
   |cons b d =>
    have l:=h.anti a b;have m:=i d
    simp only[g06,H.thenC,l,m]
    split<;>split<;>omega
 ·induction x with
  |nil=>intro d e;cases d<;>simp_all [g06]
  |cons a x i =>
   intro d e
   cases d with
   |nil=>simp[g06]at e
   |cons b d =>
    obtain⟨g,f⟩:=(o _ _).1 e
    rw[h.eq _ _ g,i d f]
 ·induction x with
  |nil=>intro d z g f;cases d<;>cases z<;>simp_all [g06]
  |cons a x i =>
   intro d z g f
   cases d with
   |nil=>simp[g06]at g
   |cons b d =>
    cases z with
    |nil=>simp[g06]at f
    |cons q z =>
     simp only[g06]at g f ⊢
     rw[n]at g f ⊢
     rcases g with g|⟨g,p⟩
     ·rcases f with f|⟨f,j⟩
      ·exact .inl (h.trans _ _ _ g f)
      ·rw[h.eq _ _ f]at g;exact .inl g
     ·rw[h.eq _ _ g]
      rcases f with f|⟨f,j⟩
      ·exact .inl f
      ·exact .inr ⟨f,i d z p j⟩
theorem s05(a b:Int):K0 (N5 a b):=by unfold N5;split<;>(try split)<;>decide
def j0e(x:Int):Int:=if x<0 then 1-2*x else 2*x
theorem l0p(x y:Int)(h:j0e x=j0e y):x=y:=by unfold j0e at h;split at h<;>split at h<;>omega
def H08(x y:Int):Int:=N5 (j0e x) (j0e y)
theorem w0j:K8 H08:=L8.on j0e l0p
theorem q0m(a b:Int):K0 (H08 a b):=s05 _ _
def C4(a b:List Int):Int:=thenC (N5 (a.length:Int) (b.length:Int)) (g06 H08 a b)
theorem m0p:K8 C4:=L8.thenC (k0p w0j) (λa:List Int=>(a.length:Int)) (λa=>a) λ_ _ _ h=>h
def eqI(a b:Int):Bool:=decide (a=b)
def eqE(a b:Int×Int×Int):Bool:=decide (a=b)
def P0(e f:Int×Int×Int):Int:=thenC (N5 e.1 f.1) (thenC (N5 e.2.1 f.2.1) (N5 e.2.2 f.2.2))
theorem Y3:K8 P0 :=
 L8.thenC (L8.thenC L8 (λe:Int×Int=>e.1) (λe=>e.2) λ_ _ a b=>Prod.ext a b) (λe:Int×Int×Int=>e.1) (λe=>e.2) λ_ _ a b=>Prod.ext a b
end Go.H
