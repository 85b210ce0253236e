/- Plain laws: comparisons that order, strictly ordered lists, and what a sort without doubles is. -/
import Derived.Test.YtkjhghloldgioaaGreatH34
import Derived.Test.YtkjhghloldgioaaGreatH33
open Go.Sort Go.Proofs
namespace Go.H
set_option linter.unusedVariables false
theorem Y8.cmp{α:Type}{cf:α->α->Int}(h:Y8 cf):Cmp cf:=by
 refine⟨⟨λx=>?_,λx y z h1 h2=>?_,λx y z h1 h2=>?_⟩,λx y h1 h2=>?_⟩
 ·simp[ltOf,h.refl]
 ·simp only[ltOf,decide_eq_true_eq]at *;exact h.trans x y z h1 h2
 ·simp only[ltOf,decide_eq_false_iff_not]at *
  intro h3
  have a1:=h.anti x y
  rcases Int.lt_or_le (cf y x) 0 with h4|h4
  ·exact h2 (h.trans y x z h4 h3)
  ·have:cf x y=0:=by omega
   rw[h.eq _ _ this]at h3
   exact h2 h3
 ·simp only[ltOf,decide_eq_false_iff_not]at *
  have a1:=h.anti x y
  exact h.eq x y (by omega)
def z9{α:Type}(eq:α->α->Bool):α->List α->List α
 |_,[]=>[]
 |p,y::l=>bif eq y p then z9 eq y l else y::z9 eq y l
def O01{α:Type}(eq:α->α->Bool):List α->List α
 | []=>[]
 |x::l=>x::z9 eq x l
def Asc{α:Type}(cf:α->α->Int)(l:List α):Prop:=l.Pairwise λa b=>cf a b<0
theorem j0b{α:Type}{cf:α->α->Int}(h:Y8 cf){l1 l2:List α}(h1:Asc cf l1)(h2:Asc cf l2)(hm:∀ x,x∈l1↔x∈l2):l1=l2:=by
 have nd:∀ {l:List α},Asc cf l->l.Nodup:=λh'=>h'.imp λ{a b} hab e=>by rw[e,h.refl]at hab;omega
 refine f02 (R:=λa b=>cf a b<0) (λx y e1 e2=>?_) ((List.perm_ext_iff_of_nodup (nd h1) (nd h2)).2 hm) h1 h2
 have:=h.anti x y
 omega
theorem k07{α:Type}(eq:α->α->Bool):∀(l:List α) (p:α),(z9 eq p l).Sublist l
 | [],_ => .slnil
 |y::l,p=>by
  unfold z9
  cases eq y p
  ·exact(k07 eq l y).cons_cons y
  ·exact(k07 eq l y).cons y
theorem k0b{α:Type}{cf:α->α->Int}(h:Y8 cf){eq:α->α->Bool}(he:∀ x y,eq x y=true↔x=y):∀(l:List α) (p:α),(p::l).Pairwise (λa b=>ltOf cf b a=false)->Asc cf (p::z9 eq p l)
 | [],p,_=>by simp[z9,Asc]
 |y::l,p,hs=>by
  obtain⟨h1,h2⟩:=List.pairwise_cons.1 hs
  have ih:=k0b h he l y h2
  unfold z9
  cases hc:eq y p with
  |true=>rw[(he _ _).1 hc]at ih ⊢;exact ih
  |false =>
   show Asc cf (p::y::z9 eq y l)
   have hyp:cf p y<0:=by
    have:=h1 y mS
    simp only[ltOf,decide_eq_false_iff_not]at this
    have a:=h.anti p y
    rcases Int.lt_or_le (cf p y) 0 with h3|h3
    ·exact h3
    ·have e:=h.eq p y (by omega)
     have:=(he y p).2 e.symm
     rw[hc]at this;cases this
   refine List.pairwise_cons.2 ⟨λz hz=>?_,ih⟩
   rcases List.mem_cons.1 hz with rfl|hz
   ·exact hyp
   ·exact h.trans _ _ _ hyp ((List.pairwise_cons.1 ih).1 z hz)
theorem l0b{α:Type}{eq:α->α->Bool}(he:∀ x y,eq x y=true↔x=y)(x:α):∀(l:List α) (p:α),x∈p::z9 eq p l↔x∈p::l
 | [],p=>by simp[z9]
 |y::l,p=>by
  have ih:=l0b he x l y
  unfold z9
  cases hc:eq y p with
  |true =>
   have e:=(he _ _).1 hc
   subst e
   simp only[cond_true,List.mem_cons]at *
   rw[ih];simp
  |false=>simp only[cond_false,List.mem_cons]at *;rw[ih]
def M0f{α:Type}(cf:α->α->Int)(eq:α->α->Bool)(l:List α):List α:=O01 eq (o04 cf l)
theorem U0j{α:Type}{cf:α->α->Int}(h:Y8 cf){eq:α->α->Bool}(he:∀ x y,eq x y=true↔x=y)(l:List α):Asc cf (M0f cf eq l):=by
 have:=C03 h.cmp.swo l
 unfold M0f O01
 cases hs:o04 cf l with
 |nil=>exact .nil
 |cons x m=>rw[hs]at this;exact k0b h he m x this
theorem V0j{α:Type}{cf:α->α->Int}{eq:α->α->Bool}(he:∀ x y,eq x y=true↔x=y)(x:α)(l:List α):x∈M0f cf eq l↔x∈l:=by
 rw[←(N02 cf l).mem_iff]
 unfold M0f O01
 cases o04 cf l with
 |nil=>rfl
 |cons y m=>exact l0b he x m y
def N00{α:Type}(cf:α->α->Int)(x:α):List α->List α
 | []=>[x]
 |y::l=>if cf x y<0 then x::y::l else if cf x y=0 then y::l else y::N00 cf x l
theorem Q05{α:Type}{cf:α->α->Int}(h:Y8 cf)(x z:α):∀ l,z∈N00 cf x l↔z=x∨z∈l
 | []=>by simp[N00]
 |y::l=>by
  have ih:=Q05 h x z l
  unfold N00
  split
  ·simp
  ·split
   ·rename_i e;rw[h.eq _ _ e];simp
   ·simp only[List.mem_cons,ih];constructor<;>(rintro(e|e|e)<;>simp[e])
theorem N0f{α:Type}{cf:α->α->Int}(h:Y8 cf)(x:α):∀ l,Asc cf l->Asc cf (N00 cf x l)
 | [],_=>by simp[N00,Asc]
 |y::l,hl=>by
  obtain⟨h1,h2⟩:=List.pairwise_cons.1 hl
  unfold N00
  split
  ·rename_i hxy
   refine List.pairwise_cons.2 ⟨λz hz=>?_,hl⟩
   rcases List.mem_cons.1 hz with rfl|hz
   ·exact hxy
   ·exact h.trans _ _ _ hxy (h1 z hz)
  ·split
   ·exact hl
   ·refine List.pairwise_cons.2 ⟨λz hz=>?_,N0f h x l h2⟩
    rcases(Q05 h x z l).1 hz with rfl|hz
    ·have:=h.anti z y;omega
    ·exact h1 z hz
def a6{α:Type}(cf:α->α->Int):List α->List α->List α
 |l,[]=>l
 |l,x::r=>a6 cf (N00 cf x l) r
theorem i03{α:Type}{cf:α->α->Int}(h:Y8 cf):∀(r l:List α),Asc cf l->Asc cf (a6 cf l r)
 | [],_,hl=>hl
 |x::r,l,hl=>i03 h r _ (N0f h x l hl)
theorem Q9{α:Type}{cf:α->α->Int}(h:Y8 cf)(z:α):∀(r l:List α),z∈a6 cf l r↔z∈l∨z∈r
 | [],l=>by simp[a6]
 |x::r,l=>by
  rw[a6,Q9 h z r,Q05 h]
  simp only[List.mem_cons]
  by_cases a:z=x<;>by_cases b:z∈l<;>simp[a,b]
theorem O0f{α:Type}{cf:α->α->Int}(h:Y8 cf){eq:α->α->Bool}(he:∀ x y,eq x y=true↔x=y)(l r:List α)(hm:∀ x,x∈l↔x∈r):M0f cf eq l=a6 cf [] r :=
 j0b h (U0j h he l) (i03 h r [] .nil) λx=>by rw[V0j he,Q9 h,hm];simp
end Go.H
