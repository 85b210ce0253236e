/- Plain laws: comparisons that order, strictly ordered lists, and what a sort without doubles is. -/
import Derived.Test.YtkjhghloldgioaaGreatH34
import Derived.Test.YtkjhghloldgioaaGreatH33
open Go.Sort Go.Proofs
namespace Go.H
set_option linter.unusedVariables false
theorem e00.cmp{α:Type}{cf:α->α->Int}(h:e00 cf):Cmp cf:=by
 refine⟨⟨λx=>?_,λx y z h1 h2=>?_,λx y z h1 h2=>?_⟩,λx y h1 h2=>?_⟩
 ·simp[ltOf,h.refl]
 ·simp only[ltOf,decide_eq_true_eq]at *;exact h.trans x y z h1 h2
 ·simp only[ltOf,decide_eq_false_iff_not]at *
  intro h3
  have a1:=h.anti x y
  rcases Int.lt_or_le (cf y x) 0 with h4|h4
  ·exact h2 (h.trans y x z h4 h3)
  ·have:cf x y=0:=by omega
   rw[h.eq _ _ this]at h3
   exact h2 h3
 ·simp only[ltOf,decide_eq_false_iff_not]at *
  have a1:=h.anti x y
  exact h.eq x y (by omega)
def B00{α:Type}(eq:α->α->Bool):α->List α->List α
 |_,[]=>[]
 |p,y::l=>bif eq y p then B00 eq y l else y::B00 eq y l
def Z02{α:Type}(eq:α->α->Bool):List α->List α
 | []=>[]
 |x::l=>x::B00 eq x l
def Asc{α:Type}(cf:α->α->Int)(l:List α):Prop:=l.Pairwise λa b=>cf a b<0
theorem N0d{α:Type}{cf:α->α->Int}(h:e00 cf){l1 l2:List α}(h1:Asc cf l1)(h2:Asc cf l2)(hm:∀ x,x∈l1↔x∈l2):l1=l2:=by
 have nd:∀ {l:List α},Asc cf l->l.Nodup:=λh'=>h'.imp λ{a b} hab e=>by rw[e,h.refl]at hab;omega
 refine n03 (R:=λa b=>cf a b<0) (λx y e1 e2=>?_) ((List.perm_ext_iff_of_nodup (nd h1) (nd h2)).2 hm) h1 h2
 have:=h.anti x y
 omega
theorem b09{α:Type}(eq:α->α->Bool):∀(l:List α) (p:α),(B00 eq p l).Sublist l
 | [],_ => .slnil
 |y::l,p=>by
  unfold B00
  cases eq y p
  ·exact(b09 eq l y).cons_cons y
  ·exact(b09 eq l y).cons y
theorem O0d{α:Type}{cf:α->α->Int}(h:e00 cf){eq:α->α->Bool}(he:∀ x y,eq x y=true↔x=y):∀(l:List α) (p:α),(p::l).Pairwise (λa b=>ltOf cf b a=false)->Asc cf (p::B00 eq p l)
 | [],p,_=>by simp[B00,Asc]
 |y::l,p,hs=>by
  obtain⟨h1,h2⟩:=List.pairwise_cons.1 hs
  have ih:=O0d h he l y h2
  unfold B00
  cases hc:eq y p with
  |true=>rw[(he _ _).1 hc]at ih ⊢;exact ih
  |false =>
   show Asc cf (p::y::B00 eq y l)
   have hyp:cf p y<0:=by
    have:=h1 y mS
    simp only[ltOf,decide_eq_false_iff_not]at this
    have a:=h.anti p y
    rcases Int.lt_or_le (cf p y) 0 with h3|h3
    ·exact h3
    ·have e:=h.eq p y (by omega)
     have:=(he y p).2 e.symm
     rw[hc]at this;cases this
   refine List.pairwise_cons.2 ⟨λz hz=>?_,ih⟩
   rcases List.mem_cons.1 hz with rfl|hz
   ·exact hyp
   ·exact h.trans _ _ _ hyp ((List.pairwise_cons.1 ih).1 z hz)
theorem P0d{α:Type}{eq:α->α->Bool}(he:∀ x y,eq x y=true↔x=y)(x:α):∀(l:List α) (p:α),x∈p::B00 eq p l↔x∈p::l
 | [],p=>by simp[B00]
 |y::l,p=>by
  have ih:=P0d he x l y
  unfold B00
  cases hc:eq y p with
  |true =>
   have e:=(he _ _).1 hc
   subst e
   simp only[cond_true,List.mem_cons]at *
   rw[ih];simp
  |false=>simp only[cond_false,List.mem_cons]at *;rw[ih]
def R0i{α:Type}(cf:α->α->Int)(eq:α->α->Bool)(l:List α):List α:=Z02 eq (M05 cf l)
theorem e0n{α:Type}{cf:α->α->Int}(h:e00 cf){eq:α->α->Bool}(he:∀ x y,eq x y=true↔x=y)(l:List α):Asc cf (R0i cf eq l):=by
 have:=e05 h.cmp.swo l
 unfold R0i Z02
 cases hs:M05 cf l with
 |nil=>exact .nil
 |cons x m=>rw[hs]at this;exact O0d h he m x this
theorem f0n{α:Type}{cf:α->α->Int}{eq:α->α->Bool}(he:∀ x y,eq x y=true↔x=y)(x:α)(l:List α):x∈R0i cf eq l↔x∈l:=by
 rw[←(Z03 cf l).mem_iff]
 unfold R0i Z02
 cases M05 cf l with
 |nil=>rfl
 |cons y m=>exact P0d he x m y
def X00{α:Type}(cf:α->α->Int)(x:α):List α->List α
 | []=>[x]
 |y::l=>if cf x y<0 then x::y::l else if cf x y=0 then y::l else y::X00 cf x l
theorem p07{α:Type}{cf:α->α->Int}(h:e00 cf)(x z:α):∀ l,z∈X00 cf x l↔z=x∨z∈l
 | []=>by simp[X00]
 |y::l=>by
  have ih:=p07 h x z l
  unfold X00
  split
  ·simp
  ·split
   ·rename_i e;rw[h.eq _ _ e];simp
   ·simp only[List.mem_cons,ih];constructor<;>(rintro(e|e|e)<;>simp[e])
theorem S0i{α:Type}{cf:α->α->Int}(h:e00 cf)(x:α):∀ l,Asc cf l->Asc cf (X00 cf x l)
 | [],_=>by simp[X00,Asc]
 |y::l,hl=>by
  obtain⟨h1,h2⟩:=List.pairwise_cons.1 hl
  unfold X00
  split
  ·rename_i hxy
   refine List.pairwise_cons.2 ⟨λz hz=>?_,hl⟩
   rcases List.mem_cons.1 hz with rfl|hz
   ·exact hxy
   ·exact h.trans _ _ _ hxy (h1 z hz)
  ·split
   ·exact hl
   ·refine List.pairwise_cons.2 ⟨λz hz=>?_,S0i h x l h2⟩
    rcases(p07 h x z l).1 hz with rfl|hz
    ·have:=h.anti z y;omega
    ·exact h1 z hz
def J7{α:Type}(cf:α->α->Int):List α->List α->List α
 |l,[]=>l
 |l,x::r=>J7 cf (X00 cf x l) r
theorem q06{α:Type}{cf:α->α->Int}(h:e00 cf):∀(r l:List α),Asc cf l->Asc cf (J7 cf l r)
 | [],_,hl=>hl
 |x::r,l,hl=>q06 h r _ (S0i h x l hl)
theorem Y00{α:Type}{cf:α->α->Int}(h:e00 cf)(z:α):∀(r l:List α),z∈J7 cf l r↔z∈l∨z∈r
 | [],l=>by simp[J7]
 |x::r,l=>by
  rw[J7,Y00 h z r,p07 h]
  simp only[List.mem_cons]
  by_cases a:z=x<;>by_cases b:z∈l<;>simp[a,b]
theorem T0i{α:Type}{cf:α->α->Int}(h:e00 cf){eq:α->α->Bool}(he:∀ x y,eq x y=true↔x=y)(l r:List α)(hm:∀ x,x∈l↔x∈r):R0i cf eq l=J7 cf [] r :=
 N0d h (e0n h he l) (q06 h r [] .nil) λx=>by rw[f0n he,Y00 h,hm];simp
end Go.H
