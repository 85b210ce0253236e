/- Plain laws: comparisons that order, strictly ordered lists, and what a sort without doubles is. -/
import Derived.Test.YtcakocbgbelmeaaGreatH34
import Derived.Test.YtcakocbgbelmeaaGreatH33
open Go.Sort Go.Proofs
namespace Go.H
set_option linter.unusedVariables false
theorem V9.cmp{α:Type}{cf:α→α→Int}(h:V9 cf):Cmp cf:=by
 refine⟨⟨fun x=>?_,fun x y z h1 h2=>?_,fun x y z h1 h2=>?_⟩,fun x y h1 h2=>?_⟩
 ·simp[ltOf,h.refl]
 ·simp only[ltOf,decide_eq_true_eq]at *;exact h.trans x y z h1 h2
 ·simp only[ltOf,decide_eq_false_iff_not]at *
  intro h3
  have a1:=h.anti x y
  rcases Int.lt_or_le (cf y x) 0 with h4|h4
  ·exact h2 (h.trans y x z h4 h3)
  ·have:cf x y=0:=by omega
   rw[h.eq _ _ this]at h3
   exact h2 h3
 ·simp only[ltOf,decide_eq_false_iff_not]at *
  have a1:=h.anti x y
  exact h.eq x y (by omega)
def A00{α:Type}(eq:α→α→Bool):α→List α→List α
 |_,[]=>[]
 |p,y::l=>bif eq y p then A00 eq y l else y::A00 eq y l
def k03{α:Type}(eq:α→α→Bool):List α→List α
 | []=>[]
 |x::l=>x::A00 eq x l
def Asc{α:Type}(cf:α→α→Int)(l:List α):Prop:=l.Pairwise fun a b=>cf a b<0
theorem t09{α:Type}{cf:α→α→Int}(h:V9 cf){l1 l2:List α}(h1:Asc cf l1)(h2:Asc cf l2)(hm:∀ x,x∈l1↔x∈l2):l1=l2:=by
 have nd:∀ {l:List α},Asc cf l→l.Nodup:=fun h'=>h'.imp fun {a b} hab e=>by rw[e,h.refl]at hab;omega
 refine B03 (R:=fun a b=>cf a b<0) (fun x y e1 e2=>?_) ((List.perm_ext_iff_of_nodup (nd h1) (nd h2)).2 hm) h1 h2
 have:=h.anti x y
 omega
theorem u09{α:Type}(eq:α→α→Bool):∀(l:List α) (p:α),(A00 eq p l).Sublist l
 | [],_ => .slnil
 |y::l,p=>by
  unfold A00
  cases eq y p
  ·exact(u09 eq l y).cons_cons y
  ·exact(u09 eq l y).cons y
theorem c0e{α:Type}{cf:α→α→Int}(h:V9 cf){eq:α→α→Bool}(he:∀ x y,eq x y=true↔x=y):∀(l:List α) (p:α),(p::l).Pairwise (fun a b=>ltOf cf b a=false)→Asc cf (p::A00 eq p l)
 | [],p,_=>by simp[A00,Asc]
 |y::l,p,hs=>by
  obtain⟨h1,h2⟩:=List.pairwise_cons.1 hs
  have ih:=c0e h he l y h2
  unfold A00
  cases hc:eq y p with
  |true=>rw[(he _ _).1 hc]at ih ⊢;exact ih
  |false =>
   show Asc cf (p::y::A00 eq y l)
   have hyp:cf p y<0:=by
    have:=h1 y mS
    simp only[ltOf,decide_eq_false_iff_not]at this
    have a:=h.anti p y
    rcases Int.lt_or_le (cf p y) 0 with h3|h3
    ·exact h3
    ·have e:=h.eq p y (by omega)
     have:=(he y p).2 e.symm
     rw[hc]at this;cases this
   refine List.pairwise_cons.2 ⟨fun z hz=>?_,ih⟩
   rcases List.mem_cons.1 hz with rfl|hz
   ·exact hyp
   ·exact h.trans _ _ _ hyp ((List.pairwise_cons.1 ih).1 z hz)
theorem d0e{α:Type}{eq:α→α→Bool}(he:∀ x y,eq x y=true↔x=y)(x:α):∀(l:List α) (p:α),x∈p::A00 eq p l↔x∈p::l
 | [],p=>by simp[A00]
 |y::l,p=>by
  have ih:=d0e he x l y
  unfold A00
  cases hc:eq y p with
  |true =>
   have e:=(he _ _).1 hc
   subst e
   simp only[cond_true,List.mem_cons]at *
   rw[ih];simp
  |false=>simp only[cond_false,List.mem_cons]at *;rw[ih]
def Z0i{α:Type}(cf:α→α→Int)(eq:α→α→Bool)(l:List α):List α:=k03 eq (b06 cf l)
theorem L0m{α:Type}{cf:α→α→Int}(h:V9 cf){eq:α→α→Bool}(he:∀ x y,eq x y=true↔x=y)(l:List α):Asc cf (Z0i cf eq l):=by
 have:=n05 h.cmp.swo l
 unfold Z0i k03
 cases hs:b06 cf l with
 |nil=>exact .nil
 |cons x m=>rw[hs]at this;exact c0e h he m x this
theorem M0m{α:Type}{cf:α→α→Int}{eq:α→α→Bool}(he:∀ x y,eq x y=true↔x=y)(x:α)(l:List α):x∈Z0i cf eq l↔x∈l:=by
 rw[←(r04 cf l).mem_iff]
 unfold Z0i k03
 cases b06 cf l with
 |nil=>rfl
 |cons y m=>exact d0e he x m y
def k00{α:Type}(cf:α→α→Int)(x:α):List α→List α
 | []=>[x]
 |y::l=>if cf x y<0 then x::y::l else if cf x y=0 then y::l else y::k00 cf x l
theorem D07{α:Type}{cf:α→α→Int}(h:V9 cf)(x z:α):∀ l,z∈k00 cf x l↔z=x∨z∈l
 | []=>by simp[k00]
 |y::l=>by
  have ih:=D07 h x z l
  unfold k00
  split
  ·simp
  ·split
   ·rename_i e;rw[h.eq _ _ e];simp
   ·simp only[List.mem_cons,ih];constructor<;>(rintro(e|e|e)<;>simp[e])
theorem a0j{α:Type}{cf:α→α→Int}(h:V9 cf)(x:α):∀ l,Asc cf l→Asc cf (k00 cf x l)
 | [],_=>by simp[k00,Asc]
 |y::l,hl=>by
  obtain⟨h1,h2⟩:=List.pairwise_cons.1 hl
  unfold k00
  split
  ·rename_i hxy
   refine List.pairwise_cons.2 ⟨fun z hz=>?_,hl⟩
   rcases List.mem_cons.1 hz with rfl|hz
   ·exact hxy
   ·exact h.trans _ _ _ hxy (h1 z hz)
  ·split
   ·exact hl
   ·refine List.pairwise_cons.2 ⟨fun z hz=>?_,a0j h x l h2⟩
    rcases(D07 h x z l).1 hz with rfl|hz
    ·have:=h.anti z y;omega
    ·exact h1 z hz
def o5{α:Type}(cf:α→α→Int):List α→List α→List α
 |l,[]=>l
 |l,x::r=>o5 cf (k00 cf x l) r
theorem A02{α:Type}{cf:α→α→Int}(h:V9 cf):∀(r l:List α),Asc cf l→Asc cf (o5 cf l r)
 | [],_,hl=>hl
 |x::r,l,hl=>A02 h r _ (a0j h x l hl)
theorem j9{α:Type}{cf:α→α→Int}(h:V9 cf)(z:α):∀(r l:List α),z∈o5 cf l r↔z∈l∨z∈r
 | [],l=>by simp[o5]
 |x::r,l=>by
  rw[o5,j9 h z r,D07 h]
  simp only[List.mem_cons]
  by_cases a:z=x<;>by_cases b:z∈l<;>simp[a,b]
theorem b0j{α:Type}{cf:α→α→Int}(h:V9 cf){eq:α→α→Bool}(he:∀ x y,eq x y=true↔x=y)(l r:List α)(hm:∀ x,x∈l↔x∈r):Z0i cf eq l=o5 cf [] r :=
 t09 h (L0m h he l) (A02 h r [] .nil) fun x=>by rw[M0m he,j9 h,hm];simp
end Go.H
