/- Plain laws: comparisons that order, strictly ordered lists, and what a sort without doubles is. -/
import Derived.Test.YtfphndijjmdiiaaGreatH34
import Derived.Test.YtfphndijjmdiiaaGreatH33
open Go.Sort Go.Proofs
namespace Go.H
set_option linter.unusedVariables false
theorem b9.cmp{e:Type}{cf:e->e->Int}(h:b9 cf):Cmp cf:=by
 refine⟨⟨λx=>?_,λx y z b a=>?_,λx y z b a=>?_⟩,λx y b a=>?_⟩
 ·simp[ltOf,h.refl]
 ·simp only[ltOf,decide_eq_true_eq]at *;exact h.trans x y z b a
 ·simp only[ltOf,decide_eq_false_iff_not]at *
  intro c
  have f:=h.anti x y
  rcases Int.lt_or_le (cf y x) 0 with d|d
  ·exact a (h.trans y x z d c)
  ·have:cf x y=0:=by omega
   rw[h.eq _ _ this]at c
   exact a c
 ·simp only[ltOf,decide_eq_false_iff_not]at *
  have f:=h.anti x y
  exact h.eq x y (by omega)
def P9{a:Type}(eq:a->a->Bool):a->List a->List a
 |_,[]=>[]
 |p,y::l=>bif eq y p then P9 eq y l else y::P9 eq y l
def N02{a:Type}(eq:a->a->Bool):List a->List a
 | []=>[]
 |x::l=>x::P9 eq x l
def Asc{c:Type}(cf:c->c->Int)(l:List c):Prop:=l.Pairwise λa b=>cf a b<0
theorem T09{c:Type}{cf:c->c->Int}(h:b9 cf){d f:List c}(g:Asc cf d)(i:Asc cf f)(m:∀ x,x∈d↔x∈f):d=f:=by
 have j:∀ {l:List c},Asc cf l->l.Nodup:=λh'=>h'.imp λ{a b} k e=>by rw[e,h.refl]at k;omega
 refine I05 (R:=λa b=>cf a b<0) (λx y n o=>?_) ((List.perm_ext_iff_of_nodup (j g) (j i)).2 m) g i
 have:=h.anti x y
 omega
theorem V06{a:Type}(eq:a->a->Bool):∀(l:List a) (p:a),(P9 eq p l).Sublist l
 | [],_ => .slnil
 |y::l,p=>by
  unfold P9
  cases eq y p
  ·exact(V06 eq l y).cons_cons y
  ·exact(V06 eq l y).cons y
theorem l0f{c:Type}{cf:c->c->Int}(h:b9 cf){eq:c->c->Bool}(f:∀ x y,eq x y=true↔x=y):∀(l:List c) (p:c),(p::l).Pairwise (λa b=>ltOf cf b a=false)->Asc cf (p::P9 eq p l)
 | [],p,_=>by simp[P9,Asc]
 |y::l,p,n=>by
  obtain⟨k,m⟩:=List.pairwise_cons.1 n
  have d:=l0f h f l y m
  unfold P9
  cases hc:eq y p with
  |true=>rw[(f _ _).1 hc]at d ⊢;exact d
  |false =>
   show Asc cf (p::y::P9 eq y l)
   have j:cf p y<0:=by
    have:=k y mS
    simp only[ltOf,decide_eq_false_iff_not]at this
    have a:=h.anti p y
    rcases Int.lt_or_le (cf p y) 0 with i|i
    ·exact i
    ·have e:=h.eq p y (by omega)
     have:=(f y p).2 e.symm
     rw[hc]at this;cases this
   refine List.pairwise_cons.2 ⟨λz g=>?_,d⟩
   rcases List.mem_cons.1 g with rfl|g
   ·exact j
   ·exact h.trans _ _ _ j ((List.pairwise_cons.1 d).1 z g)
theorem m0f{a:Type}{eq:a->a->Bool}(b:∀ x y,eq x y=true↔x=y)(x:a):∀(l:List a) (p:a),x∈p::P9 eq p l↔x∈p::l
 | [],p=>by simp[P9]
 |y::l,p=>by
  have c:=m0f b x l y
  unfold P9
  cases hc:eq y p with
  |true =>
   have e:=(b _ _).1 hc
   subst e
   simp only[cond_true,List.mem_cons]at *
   rw[c];simp
  |false=>simp only[cond_false,List.mem_cons]at *;rw[c]
def T0a{a:Type}(cf:a->a->Int)(eq:a->a->Bool)(l:List a):List a:=N02 eq (Z08 cf l)
theorem w0h{a:Type}{cf:a->a->Int}(h:b9 cf){eq:a->a->Bool}(b:∀ x y,eq x y=true↔x=y)(l:List a):Asc cf (T0a cf eq l):=by
 have:=c08 h.cmp.swo l
 unfold T0a N02
 cases hs:Z08 cf l with
 |nil=>exact .nil
 |cons x m=>rw[hs]at this;exact l0f h b m x this
theorem K08{a:Type}{cf:a->a->Int}{eq:a->a->Bool}(b:∀ x y,eq x y=true↔x=y)(x:a)(l:List a):x∈T0a cf eq l↔x∈l:=by
 rw[←(J08 cf l).mem_iff]
 unfold T0a N02
 cases Z08 cf l with
 |nil=>rfl
 |cons y m=>exact m0f b x m y
def S8{a:Type}(cf:a->a->Int)(x:a):List a->List a
 | []=>[x]
 |y::l=>if cf x y<0 then x::y::l else if cf x y=0 then y::l else y::S8 cf x l
theorem R03{a:Type}{cf:a->a->Int}(h:b9 cf)(x z:a):∀ l,z∈S8 cf x l↔z=x∨z∈l
 | []=>by simp[S8]
 |y::l=>by
  have b:=R03 h x z l
  unfold S8
  split
  ·simp
  ·split
   ·rename_i e;rw[h.eq _ _ e];simp
   ·simp only[List.mem_cons,b];constructor<;>(rintro(e|e|e)<;>simp[e])
theorem n0f{c:Type}{cf:c->c->Int}(h:b9 cf)(x:c):∀ l,Asc cf l->Asc cf (S8 cf x l)
 | [],_=>by simp[S8,Asc]
 |y::l,b=>by
  obtain⟨d,f⟩:=List.pairwise_cons.1 b
  unfold S8
  split
  ·rename_i e
   refine List.pairwise_cons.2 ⟨λz a=>?_,b⟩
   rcases List.mem_cons.1 a with rfl|a
   ·exact e
   ·exact h.trans _ _ _ e (d z a)
  ·split
   ·exact b
   ·refine List.pairwise_cons.2 ⟨λz a=>?_,n0f h x l f⟩
    rcases(R03 h x z l).1 a with rfl|a
    ·have:=h.anti z y;omega
    ·exact d z a
def i5{a:Type}(cf:a->a->Int):List a->List a->List a
 |l,[]=>l
 |l,x::r=>i5 cf (S8 cf x l) r
theorem V04{b:Type}{cf:b->b->Int}(h:b9 cf):∀(r l:List b),Asc cf l->Asc cf (i5 cf l r)
 | [],_,a=>a
 |x::r,l,a=>V04 h r _ (n0f h x l a)
theorem R6{c:Type}{cf:c->c->Int}(h:b9 cf)(z:c):∀(r l:List c),z∈i5 cf l r↔z∈l∨z∈r
 | [],l=>by simp[i5]
 |x::r,l=>by
  rw[i5,R6 h z r,R03 h]
  simp only[List.mem_cons]
  by_cases a:z=x<;>by_cases b:z∈l<;>simp[a,b]
theorem B0q{a:Type}{cf:a->a->Int}(h:b9 cf){eq:a->a->Bool}(b:∀ x y,eq x y=true↔x=y)(l r:List a)(c:∀ x,x∈l↔x∈r):T0a cf eq l=i5 cf [] r :=
 T09 h (w0h h b l) (V04 h r [] .nil) λx=>by rw[K08 b,R6 h,c];simp
end Go.H
