/- Plain laws: comparisons that order, strictly ordered lists, and what a sort without doubles is. -/
import Derived.Test.YtcakocbgbelmeaaGreatH34
import Derived.Test.YtcakocbgbelmeaaGreatH33
open Go.Sort Go.Proofs
namespace Go.H
set_option linter.unusedVariables false
theorem Q8.cmp {α:Type} {cf:α→α→Int} (h:Q8 cf):Cmp cf:=by
 refine⟨⟨fun x=>?_,fun x y z h1 h2=>?_,fun x y z h1 h2=>?_⟩,fun x y h1 h2=>?_⟩
 ·simp[ltOf,h.refl]
 ·simp only[ltOf,decide_eq_true_eq]at *;exact h.trans x y z h1 h2
 ·simp only[ltOf,decide_eq_false_iff_not]at *
  intro h3
  have a1:=h.anti x y
  rcases Int.lt_or_le (cf y x) 0 with h4|h4
  ·exact h2 (h.trans y x z h4 h3)
  ·have:cf x y=0:=by omega
   rw[h.eq _ _ this]at h3
   exact h2 h3
 ·simp only[ltOf,decide_eq_false_iff_not]at *
  have a1:=h.anti x y
  exact h.eq x y (by omega)
def I9 {α:Type} (eq:α→α→Bool):α→List α→List α
 |_,[]=>[]
 |p,y::l=>bif eq y p then I9 eq y l else y::I9 eq y l
def b00 {α:Type} (eq:α→α→Bool):List α→List α
 | []=>[]
 |x::l=>x::I9 eq x l
def Asc {α:Type} (cf:α→α→Int) (l:List α):Prop:=l.Pairwise fun a b=>cf a b<0
theorem s09 {α:Type} {cf:α→α→Int} (h:Q8 cf) {l1 l2:List α} (h1:Asc cf l1) (h2:Asc cf l2) (hm:∀ x,x∈l1↔x∈l2):l1=l2:=by
 have nd:∀ {l:List α},Asc cf l→l.Nodup:=fun h'=>h'.imp fun {a b} hab e=>by rw[e,h.refl]at hab;omega
 refine b02 (R:=fun a b=>cf a b<0) (fun x y e1 e2=>?_) ((List.perm_ext_iff_of_nodup (nd h1) (nd h2)).2 hm) h1 h2
 have:=h.anti x y
 omega
theorem A06 {α:Type} (eq:α→α→Bool):∀(l:List α) (p:α),(I9 eq p l).Sublist l
 | [],_ => .slnil
 |y::l,p=>by
  unfold I9
  cases eq y p
  ·exact(A06 eq l y).cons_cons y
  ·exact(A06 eq l y).cons y
theorem O0e {α:Type} {cf:α→α→Int} (h:Q8 cf) {eq:α→α→Bool} (he:∀ x y,eq x y=true↔x=y):∀(l:List α) (p:α),(p::l).Pairwise (fun a b=>ltOf cf b a=false)→Asc cf (p::I9 eq p l)
 | [],p,_=>by simp[I9,Asc]
 |y::l,p,hs=>by
  obtain⟨h1,h2⟩:=List.pairwise_cons.1 hs
  have ih:=O0e h he l y h2
  unfold I9
  cases hc:eq y p with
  |true=>rw[(he _ _).1 hc]at ih ⊢;exact ih
  |false =>
   show Asc cf (p::y::I9 eq y l)
   have hyp:cf p y<0:=by
    have:=h1 y (List.mem_cons_self ..)
    simp only[ltOf,decide_eq_false_iff_not]at this
    have a:=h.anti p y
    rcases Int.lt_or_le (cf p y) 0 with h3|h3
    ·exact h3
    ·have e:=h.eq p y (by omega)
     have:=(he y p).2 e.symm
     rw[hc]at this;cases this
   refine List.pairwise_cons.2 ⟨fun z hz=>?_,ih⟩
   rcases List.mem_cons.1 hz with rfl|hz
   ·exact hyp
   ·exact h.trans _ _ _ hyp ((List.pairwise_cons.1 ih).1 z hz)
theorem P0e {α:Type} {eq:α→α→Bool} (he:∀ x y,eq x y=true↔x=y) (x:α):∀(l:List α) (p:α),x∈p::I9 eq p l↔x∈p::l
 | [],p=>by simp[I9]
 |y::l,p=>by
  have ih:=P0e he x l y
  unfold I9
  cases hc:eq y p with
  |true =>
   have e:=(he _ _).1 hc
   subst e
   simp only[cond_true,List.mem_cons]at *
   rw[ih];simp
  |false=>simp only[cond_false,List.mem_cons]at *;rw[ih]
def b0d {α:Type} (cf:α→α→Int) (eq:α→α→Bool) (l:List α):List α:=b00 eq (w02 cf l)
theorem s0n {α:Type} {cf:α→α→Int} (h:Q8 cf) {eq:α→α→Bool} (he:∀ x y,eq x y=true↔x=y) (l:List α):Asc cf (b0d cf eq l):=by
 have:=y03 h.cmp.swo l
 unfold b0d b00
 cases hs:w02 cf l with
 |nil=>exact .nil
 |cons x m=>rw[hs]at this;exact O0e h he m x this
theorem I0g {α:Type} {cf:α→α→Int} {eq:α→α→Bool} (he:∀ x y,eq x y=true↔x=y) (x:α) (l:List α):x∈b0d cf eq l↔x∈l:=by
 rw[←(q02 cf l).mem_iff]
 unfold b0d b00
 cases w02 cf l with
 |nil=>rfl
 |cons y m=>exact P0e he x m y
def n9 {α:Type} (cf:α→α→Int) (x:α):List α→List α
 | []=>[x]
 |y::l=>if cf x y<0 then x::y::l else if cf x y=0 then y::l else y::n9 cf x l
theorem x04 {α:Type} {cf:α→α→Int} (h:Q8 cf) (x z:α):∀ l,z∈n9 cf x l↔z=x∨z∈l
 | []=>by simp[n9]
 |y::l=>by
  have ih:=x04 h x z l
  unfold n9
  split
  ·simp
  ·split
   ·rename_i e;rw[h.eq _ _ e];simp
   ·simp only[List.mem_cons,ih];constructor <;> (rintro(e|e|e) <;> simp[e])
theorem Q0e {α:Type} {cf:α→α→Int} (h:Q8 cf) (x:α):∀ l,Asc cf l→Asc cf (n9 cf x l)
 | [],_=>by simp[n9,Asc]
 |y::l,hl=>by
  obtain⟨h1,h2⟩:=List.pairwise_cons.1 hl
  unfold n9
  split
  ·rename_i hxy
   refine List.pairwise_cons.2 ⟨fun z hz=>?_,hl⟩
   rcases List.mem_cons.1 hz with rfl|hz
   ·exact hxy
   ·exact h.trans _ _ _ hxy (h1 z hz)
  ·split
   ·exact hl
   ·refine List.pairwise_cons.2 ⟨fun z hz=>?_,Q0e h x l h2⟩
    rcases(x04 h x z l).1 hz with rfl|hz
    ·have:=h.anti z y;omega
    ·exact h1 z hz
def F5 {α:Type} (cf:α→α→Int):List α→List α→List α
 |l,[]=>l
 |l,x::r=>F5 cf (n9 cf x l) r
theorem f03 {α:Type} {cf:α→α→Int} (h:Q8 cf):∀(r l:List α),Asc cf l→Asc cf (F5 cf l r)
 | [],_,hl=>hl
 |x::r,l,hl=>f03 h r _ (Q0e h x l hl)
theorem L00 {α:Type} {cf:α→α→Int} (h:Q8 cf) (z:α):∀(r l:List α),z∈F5 cf l r↔z∈l∨z∈r
 | [],l=>by simp[F5]
 |x::r,l=>by
  rw[F5,L00 h z r,x04 h]
  simp only[List.mem_cons]
  by_cases a:z=x <;> by_cases b:z∈l <;> simp[a,b]
theorem R0e {α:Type} {cf:α→α→Int} (h:Q8 cf) {eq:α→α→Bool} (he:∀ x y,eq x y=true↔x=y) (l r:List α) (hm:∀ x,x∈l↔x∈r):b0d cf eq l=F5 cf [] r :=
 s09 h (s0n h he l) (f03 h r [] .nil) fun x=>by rw[I0g he,L00 h,hm];simp
end Go.H
