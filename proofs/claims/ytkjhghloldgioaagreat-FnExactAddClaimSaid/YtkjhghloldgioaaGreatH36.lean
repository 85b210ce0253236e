/- Plain laws: comparisons that order, strictly ordered lists, and what a sort without doubles is. -/
import Derived.Test.YtkjhghloldgioaaGreatH34
import Derived.Test.YtkjhghloldgioaaGreatH33
open Go.Sort Go.Proofs
namespace Go.H
set_option linter.unusedVariables false
theorem t01.cmp{f:Type}{b:f->f->Int}(h:t01 b):Cmp b:=by
 refine⟨⟨λx=>?_,λx y z c a=>?_,λx y z c a=>?_⟩,λx y c a=>?_⟩
 ·simp[ltOf,h.refl]
 ·simp only[ltOf,decide_eq_true_eq]at *;exact h.trans x y z c a
 ·simp only[ltOf,decide_eq_false_iff_not]at *
  intro d
  have g:=h.anti x y
  rcases Int.lt_or_le (b y x) 0 with e|e
  ·exact a (h.trans y x z e d)
  ·have:b x y=0:=by omega
   rw[h.eq _ _ this]at d
   exact a d
 ·simp only[ltOf,decide_eq_false_iff_not]at *
  have g:=h.anti x y
  exact h.eq x y (by omega)
def e02{a:Type}(eq:a->a->Bool):a->List a->List a
 |_,[]=>[]
 |p,y::l=>bif eq y p then e02 eq y l else y::e02 eq y l
def X04{a:Type}(eq:a->a->Bool):List a->List a
 | []=>[]
 |x::l=>x::e02 eq x l
def Asc{c:Type}(d:c->c->Int)(l:List c):Prop:=l.Pairwise λa b=>d a b<0
theorem y0b{d:Type}{c:d->d->Int}(h:t01 c){f g:List d}(i:Asc c f)(j:Asc c g)(o:∀ x,x∈f↔x∈g):f=g:=by
 have k:∀ {l:List d},Asc c l->l.Nodup:=λm=>m.imp λ{a b} n e=>by rw[e,h.refl]at n;omega
 refine q05 (R:=λa b=>c a b<0) (λx y p q=>?_) ((List.perm_ext_iff_of_nodup (k i) (k j)).2 o) i j
 have:=h.anti x y
 omega
theorem z0b{a:Type}(eq:a->a->Bool):∀(l:List a) (p:a),(e02 eq p l).Sublist l
 | [],_ => .slnil
 |y::l,p=>by
  unfold e02
  cases eq y p
  ·exact(z0b eq l y).cons_cons y
  ·exact(z0b eq l y).cons y
theorem r0g{d:Type}{c:d->d->Int}(h:t01 c){eq:d->d->Bool}(g:∀ x y,eq x y=true↔x=y):∀(l:List d) (p:d),(p::l).Pairwise (λa b=>ltOf c b a=false)->Asc c (p::e02 eq p l)
 | [],p,_=>by simp[e02,Asc]
 |y::l,p,o=>by
  obtain⟨m,n⟩:=List.pairwise_cons.1 o
  have f:=r0g h g l y n
  unfold e02
  cases hc:eq y p with
  |true=>rw[(g _ _).1 hc]at f ⊢;exact f
  |false =>
   show Asc c (p::y::e02 eq y l)
   have k:c p y<0:=by
    have:=m y mS
    simp only[ltOf,decide_eq_false_iff_not]at this
    have a:=h.anti p y
    rcases Int.lt_or_le (c p y) 0 with j|j
    ·exact j
    ·have e:=h.eq p y (by omega)
     have:=(g y p).2 e.symm
     rw[hc]at this;cases this
   refine List.pairwise_cons.2 ⟨λz i=>?_,f⟩
   rcases List.mem_cons.1 i with rfl|i
   ·exact k
   ·exact h.trans _ _ _ k ((List.pairwise_cons.1 f).1 z i)
theorem s0g{a:Type}{eq:a->a->Bool}(b:∀ x y,eq x y=true↔x=y)(x:a):∀(l:List a) (p:a),x∈p::e02 eq p l↔x∈p::l
 | [],p=>by simp[e02]
 |y::l,p=>by
  have c:=s0g b x l y
  unfold e02
  cases hc:eq y p with
  |true =>
   have e:=(b _ _).1 hc
   subst e
   simp only[cond_true,List.mem_cons]at *
   rw[c];simp
  |false=>simp only[cond_false,List.mem_cons]at *;rw[c]
def F0l{a:Type}(b:a->a->Int)(eq:a->a->Bool)(l:List a):List a:=X04 eq (Y07 b l)
theorem K0p{a:Type}{b:a->a->Int}(h:t01 b){eq:a->a->Bool}(c:∀ x y,eq x y=true↔x=y)(l:List a):Asc b (F0l b eq l):=by
 have:=i07 h.cmp.swo l
 unfold F0l X04
 cases hs:Y07 b l with
 |nil=>exact .nil
 |cons x m=>rw[hs]at this;exact r0g h c m x this
theorem L0p{a:Type}{b:a->a->Int}{eq:a->a->Bool}(c:∀ x y,eq x y=true↔x=y)(x:a)(l:List a):x∈F0l b eq l↔x∈l:=by
 rw[←(g06 b l).mem_iff]
 unfold F0l X04
 cases Y07 b l with
 |nil=>rfl
 |cons y m=>exact s0g c x m y
def H01{a:Type}(b:a->a->Int)(x:a):List a->List a
 | []=>[x]
 |y::l=>if b x y<0 then x::y::l else if b x y=0 then y::l else y::H01 b x l
theorem E09{a:Type}{b:a->a->Int}(h:t01 b)(x z:a):∀ l,z∈H01 b x l↔z=x∨z∈l
 | []=>by simp[H01]
 |y::l=>by
  have c:=E09 h x z l
  unfold H01
  split
  ·simp
  ·split
   ·rename_i e;rw[h.eq _ _ e];simp
   ·simp only[List.mem_cons,c];constructor<;>(rintro(e|e|e)<;>simp[e])
theorem G0l{d:Type}{b:d->d->Int}(h:t01 b)(x:d):∀ l,Asc b l->Asc b (H01 b x l)
 | [],_=>by simp[H01,Asc]
 |y::l,c=>by
  obtain⟨e,g⟩:=List.pairwise_cons.1 c
  unfold H01
  split
  ·rename_i f
   refine List.pairwise_cons.2 ⟨λz a=>?_,c⟩
   rcases List.mem_cons.1 a with rfl|a
   ·exact f
   ·exact h.trans _ _ _ f (e z a)
  ·split
   ·exact c
   ·refine List.pairwise_cons.2 ⟨λz a=>?_,G0l h x l g⟩
    rcases(E09 h x z l).1 a with rfl|a
    ·have:=h.anti z y;omega
    ·exact e z a
def C6{a:Type}(b:a->a->Int):List a->List a->List a
 |l,[]=>l
 |l,x::r=>C6 b (H01 b x l) r
theorem j04{c:Type}{a:c->c->Int}(h:t01 a):∀(r l:List c),Asc a l->Asc a (C6 a l r)
 | [],_,b=>b
 |x::r,l,b=>j04 h r _ (G0l h x l b)
theorem I00{c:Type}{d:c->c->Int}(h:t01 d)(z:c):∀(r l:List c),z∈C6 d l r↔z∈l∨z∈r
 | [],l=>by simp[C6]
 |x::r,l=>by
  rw[C6,I00 h z r,E09 h]
  simp only[List.mem_cons]
  by_cases a:z=x<;>by_cases b:z∈l<;>simp[a,b]
theorem H0l{a:Type}{b:a->a->Int}(h:t01 b){eq:a->a->Bool}(c:∀ x y,eq x y=true↔x=y)(l r:List a)(d:∀ x,x∈l↔x∈r):F0l b eq l=C6 b [] r :=
 y0b h (K0p h c l) (j04 h r [] .nil) λx=>by rw[L0p c,I00 h,d];simp
end Go.H
