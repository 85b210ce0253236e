/- Plain laws: comparisons that order. -/
import Derived.Test.YtcakocbgbelmeaaGreatHE
namespace Go.H
set_option linter.unusedVariables false
structure Q8 {α:Type} (cf:α→α→Int):Prop where
 anti:∀ x y,cf y x = - cf x y
 eq:∀ x y,cf x y=0→x=y
 trans:∀ x y z,cf x y<0→cf y z<0→cf x z<0
theorem Q8.refl {α:Type} {cf:α→α→Int} (h:Q8 cf) (x:α):cf x x=0:=by have:=h.anti x x;omega
def C6 (a b:Int):Int:=if a<b then -1 else if a>b then 1 else 0
theorem j00:Q8 C6 :=
  ⟨fun x y=>by unfold C6;split <;> split <;> (try split) <;> omega,fun x y h=>by unfold C6 at h;split at h <;> (try split at h) <;> omega,
   fun x y z h1 h2=>by unfold C6 at *;split at h1 <;> split at h2 <;> (try split at h1) <;> (try split at h2) <;> (try split) <;> omega⟩
theorem Q8.on {α β:Type} {cf:α→α→Int} (h:Q8 cf) (f:β→α) (hf:∀ x y,f x=f y→x=y):Q8 fun x y=>cf (f x) (f y) :=
 ⟨fun x y=>h.anti _ _,fun x y e=>hf x y (h.eq _ _ e),fun x y z=>h.trans _ _ _⟩
def thenC (a b:Int):Int:=if a≠0 then a else b
theorem Q8.thenC {α β γ:Type} {c1:α→α→Int} {c2:β→β→Int} (h1:Q8 c1) (h2:Q8 c2) (f:γ→α) (g:γ→β) (hfg:∀ x y,f x=f y→g x=g y→x=y) :
  Q8 fun x y=>H.thenC (c1 (f x) (f y)) (c2 (g x) (g y)):=by
 have hz:∀ a b:Int,H.thenC a b=0↔a=0∧b=0:=fun a b=>by unfold H.thenC;split <;> omega
 have hn:∀ a b:Int,H.thenC a b<0↔a<0∨a=0∧b<0:=fun a b=>by unfold H.thenC;split <;> omega
 refine⟨fun x y=>?_,fun x y e=>?_,fun x y z e1 e2=>?_⟩
 ·have a1:=h1.anti (f x) (f y);have a2:=h2.anti (g x) (g y)
  simp only[H.thenC,a1,a2]
  split <;> split <;> omega
 ·obtain⟨e1,e2⟩:=(hz _ _).1 e
  exact hfg x y (h1.eq _ _ e1) (h2.eq _ _ e2)
 ·rw[hn]at e1 e2 ⊢
  rcases e1 with e1|⟨e1,k1⟩
  ·rcases e2 with e2|⟨e2,k2⟩
   ·exact .inl (h1.trans _ _ _ e1 e2)
   ·rw[h1.eq _ _ e2]at e1;exact .inl e1
  ·rw[h1.eq _ _ e1]
   rcases e2 with e2|⟨e2,k2⟩
   ·exact .inl e2
   ·exact .inr ⟨e2,h2.trans _ _ _ k1 k2⟩
def R05 {α:Type} (c:α→α→Int):List α→List α→Int
 | [],[]=>0
 | [],_::_ => -1
 |_::_,[]=>1
 |x::a,y::b=>thenC (c x y) (R05 c a b)
theorem E0o {α:Type} {c:α→α→Int} (h:Q8 c):Q8 (R05 c):=by
 have hz:∀ a b:Int,H.thenC a b=0↔a=0∧b=0:=fun a b=>by unfold H.thenC;split <;> omega
 have hn:∀ a b:Int,H.thenC a b<0↔a<0∨a=0∧b<0:=fun a b=>by unfold H.thenC;split <;> omega
 refine⟨fun x=>?_,fun x=>?_,fun x=>?_⟩
 ·induction x with
  |nil=>intro y;cases y <;> simp[R05]
  |cons a x ih =>
   intro y
   cases y with
   |nil=>simp[R05]
   |cons b y =>
    have a1:=h.anti a b;have a2:=ih y
    simp only[R05,H.thenC,a1,a2]
    split <;> split <;> omega
 ·induction x with
  |nil=>intro y e;cases y <;> simp_all [R05]
  |cons a x ih =>
   intro y e
   cases y with
   |nil=>simp[R05]at e
   |cons b y =>
    obtain⟨e1,e2⟩:=(hz _ _).1 e
    rw[h.eq _ _ e1,ih y e2]
 ·induction x with
  |nil=>intro y z e1 e2;cases y <;> cases z <;> simp_all [R05]
  |cons a x ih =>
   intro y z e1 e2
   cases y with
   |nil=>simp[R05]at e1
   |cons b y =>
    cases z with
    |nil=>simp[R05]at e2
    |cons c' z =>
     simp only[R05]at e1 e2 ⊢
     rw[hn]at e1 e2 ⊢
     rcases e1 with e1|⟨e1,k1⟩
     ·rcases e2 with e2|⟨e2,k2⟩
      ·exact .inl (h.trans _ _ _ e1 e2)
      ·rw[h.eq _ _ e2]at e1;exact .inl e1
     ·rw[h.eq _ _ e1]
      rcases e2 with e2|⟨e2,k2⟩
      ·exact .inl e2
      ·exact .inr ⟨e2,ih y z k1 k2⟩
theorem X04 (a b:Int):H0 (C6 a b):=by unfold C6;split <;> (try split) <;> decide
def M0e (x:Int):Int:=if x<0 then 1-2*x else 2*x
theorem F0o (x y:Int) (h:M0e x=M0e y):x=y:=by unfold M0e at h;split at h <;> split at h <;> omega
def A08 (x y:Int):Int:=C6 (M0e x) (M0e y)
theorem r0j:Q8 A08:=j00.on M0e F0o
theorem g0m (a b:Int):H0 (A08 a b):=X04 _ _
def I1 (a b:List Int):Int:=thenC (C6 (a.length:Int) (b.length:Int)) (R05 A08 a b)
theorem N0e:Q8 I1:=j00.thenC (E0o r0j) (fun a:List Int=>(a.length:Int)) (fun a=>a) fun _ _ _ h=>h
def eqW (a b:List Int):Bool:=decide (a=b)
def eqI (a b:Int):Bool:=decide (a=b)
def eqE (a b:Int×Int×Int):Bool:=decide (a=b)
def U0 (e f:Int×Int×Int):Int:=thenC (C6 e.1 f.1) (thenC (C6 e.2.1 f.2.1) (C6 e.2.2 f.2.2))
theorem p7:Q8 U0 :=
 j00.thenC (j00.thenC j00 (fun e:Int×Int=>e.1) (fun e=>e.2) fun _ _ h1 h2=>Prod.ext h1 h2) (fun e:Int×Int×Int=>e.1) (fun e=>e.2) fun _ _ h1 h2=>Prod.ext h1 h2
end Go.H
