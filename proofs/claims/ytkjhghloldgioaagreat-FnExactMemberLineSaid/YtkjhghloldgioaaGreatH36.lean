/- Plain laws: comparisons that order, strictly ordered lists, and what a sort without doubles is. -/
import Derived.Test.YtkjhghloldgioaaGreatH34
import Derived.Test.YtkjhghloldgioaaGreatH33
open Go.Sort Go.Proofs
namespace Go.H
set_option linter.unusedVariables false
theorem n9.cmp{f:Type}{b:f->f->Int}(h:n9 b):Cmp b:=by
 refine⟨⟨λx=>?_,λx y z c a=>?_,λx y z c a=>?_⟩,λx y c a=>?_⟩
 ·simp[ltOf,h.refl]
 ·simp only[ltOf,decide_eq_true_eq]at *;exact h.trans x y z c a
 ·simp only[ltOf,decide_eq_false_iff_not]at *
  intro d
  have g:=h.anti x y
  rcases Int.lt_or_le (b y x) 0 with e|e
  ·exact a (h.trans y x z e d)
  ·have:b x y=0:=by omega
   rw[h.eq _ _ this]at d
   exact a d
 ·simp only[ltOf,decide_eq_false_iff_not]at *
  have g:=h.anti x y
  exact h.eq x y (by omega)
def P9{a:Type}(eq:a->a->Bool):a->List a->List a
 |_,[]=>[]
 |p,y::l=>bif eq y p then P9 eq y l else y::P9 eq y l
def z02{a:Type}(eq:a->a->Bool):List a->List a
 | []=>[]
 |x::l=>x::P9 eq x l
def Asc{c:Type}(d:c->c->Int)(l:List c):Prop:=l.Pairwise λa b=>d a b<0
theorem m08{d:Type}{c:d->d->Int}(h:n9 c){f g:List d}(i:Asc c f)(j:Asc c g)(o:∀ x,x∈f↔x∈g):f=g:=by
 have k:∀ {l:List d},Asc c l->l.Nodup:=λm=>m.imp λ{a b} n e=>by rw[e,h.refl]at n;omega
 refine J02 (R:=λa b=>c a b<0) (λx y p q=>?_) ((List.perm_ext_iff_of_nodup (k i) (k j)).2 o) i j
 have:=h.anti x y
 omega
theorem n08{a:Type}(eq:a->a->Bool):∀(l:List a) (p:a),(P9 eq p l).Sublist l
 | [],_ => .slnil
 |y::l,p=>by
  unfold P9
  cases eq y p
  ·exact(n08 eq l y).cons_cons y
  ·exact(n08 eq l y).cons y
theorem L0c{d:Type}{c:d->d->Int}(h:n9 c){eq:d->d->Bool}(g:∀ x y,eq x y=true↔x=y):∀(l:List d) (p:d),(p::l).Pairwise (λa b=>ltOf c b a=false)->Asc c (p::P9 eq p l)
 | [],p,_=>by simp[P9,Asc]
 |y::l,p,o=>by
  obtain⟨m,n⟩:=List.pairwise_cons.1 o
  have f:=L0c h g l y n
  unfold P9
  cases hc:eq y p with
  |true=>rw[(g _ _).1 hc]at f ⊢;exact f
  |false =>
   show Asc c (p::y::P9 eq y l)
   have k:c p y<0:=by
    have:=m y mS
    simp only[ltOf,decide_eq_false_iff_not]at this
    have a:=h.anti p y
    rcases Int.lt_or_le (c p y) 0 with j|j
    ·exact j
    ·have e:=h.eq p y (by omega)
     have:=(g y p).2 e.symm
     rw[hc]at this;cases this
   refine List.pairwise_cons.2 ⟨λz i=>?_,f⟩
   rcases List.mem_cons.1 i with rfl|i
   ·exact k
   ·exact h.trans _ _ _ k ((List.pairwise_cons.1 f).1 z i)
theorem M0c{a:Type}{eq:a->a->Bool}(b:∀ x y,eq x y=true↔x=y)(x:a):∀(l:List a) (p:a),x∈p::P9 eq p l↔x∈p::l
 | [],p=>by simp[P9]
 |y::l,p=>by
  have c:=M0c b x l y
  unfold P9
  cases hc:eq y p with
  |true =>
   have e:=(b _ _).1 hc
   subst e
   simp only[cond_true,List.mem_cons]at *
   rw[c];simp
  |false=>simp only[cond_false,List.mem_cons]at *;rw[c]
def B0h{a:Type}(b:a->a->Int)(eq:a->a->Bool)(l:List a):List a:=z02 eq (W04 b l)
theorem M0l{a:Type}{b:a->a->Int}(h:n9 b){eq:a->a->Bool}(c:∀ x y,eq x y=true↔x=y)(l:List a):Asc b (B0h b eq l):=by
 have:=o04 h.cmp.swo l
 unfold B0h z02
 cases hs:W04 b l with
 |nil=>exact .nil
 |cons x m=>rw[hs]at this;exact L0c h c m x this
theorem N0l{a:Type}{b:a->a->Int}{eq:a->a->Bool}(c:∀ x y,eq x y=true↔x=y)(x:a)(l:List a):x∈B0h b eq l↔x∈l:=by
 rw[←(x03 b l).mem_iff]
 unfold B0h z02
 cases W04 b l with
 |nil=>rfl
 |cons y m=>exact M0c c x m y
def b9{a:Type}(b:a->a->Int)(x:a):List a->List a
 | []=>[x]
 |y::l=>if b x y<0 then x::y::l else if b x y=0 then y::l else y::b9 b x l
theorem y06{a:Type}{b:a->a->Int}(h:n9 b)(x z:a):∀ l,z∈b9 b x l↔z=x∨z∈l
 | []=>by simp[b9]
 |y::l=>by
  have c:=y06 h x z l
  unfold b9
  split
  ·simp
  ·split
   ·rename_i e;rw[h.eq _ _ e];simp
   ·simp only[List.mem_cons,c];constructor<;>(rintro(e|e|e)<;>simp[e])
theorem C0h{d:Type}{b:d->d->Int}(h:n9 b)(x:d):∀ l,Asc b l->Asc b (b9 b x l)
 | [],_=>by simp[b9,Asc]
 |y::l,c=>by
  obtain⟨e,g⟩:=List.pairwise_cons.1 c
  unfold b9
  split
  ·rename_i f
   refine List.pairwise_cons.2 ⟨λz a=>?_,c⟩
   rcases List.mem_cons.1 a with rfl|a
   ·exact f
   ·exact h.trans _ _ _ f (e z a)
  ·split
   ·exact c
   ·refine List.pairwise_cons.2 ⟨λz a=>?_,C0h h x l g⟩
    rcases(y06 h x z l).1 a with rfl|a
    ·have:=h.anti z y;omega
    ·exact e z a
def G3{a:Type}(b:a->a->Int):List a->List a->List a
 |l,[]=>l
 |l,x::r=>G3 b (b9 b x l) r
theorem O01{c:Type}{a:c->c->Int}(h:n9 a):∀(r l:List c),Asc a l->Asc a (G3 a l r)
 | [],_,b=>b
 |x::r,l,b=>O01 h r _ (C0h h x l b)
theorem Q7{c:Type}{d:c->c->Int}(h:n9 d)(z:c):∀(r l:List c),z∈G3 d l r↔z∈l∨z∈r
 | [],l=>by simp[G3]
 |x::r,l=>by
  rw[G3,Q7 h z r,y06 h]
  simp only[List.mem_cons]
  by_cases a:z=x<;>by_cases b:z∈l<;>simp[a,b]
theorem D0h{a:Type}{b:a->a->Int}(h:n9 b){eq:a->a->Bool}(c:∀ x y,eq x y=true↔x=y)(l r:List a)(d:∀ x,x∈l↔x∈r):B0h b eq l=G3 b [] r :=
 m08 h (M0l h c l) (O01 h r [] .nil) λx=>by rw[N0l c,Q7 h,d];simp
end Go.H
