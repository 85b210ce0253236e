/- Plain laws: comparisons that order, strictly ordered lists, and what a sort without doubles is. -/
import Derived.Test.YtkjhghloldgioaaGreatH34
import Derived.Test.YtkjhghloldgioaaGreatH33
open Go.Sort Go.Proofs
namespace Go.H
set_option linter.unusedVariables false
theorem q00.cmp{f:Type}{b:f->f->Int}(h:q00 b):Cmp b:=by
 refine⟨⟨λx=>?_,λx y z c a=>?_,λx y z c a=>?_⟩,λx y c a=>?_⟩
 ·simp[ltOf,h.refl]
 ·simp only[ltOf,decide_eq_true_eq]at *;exact h.trans x y z c a
 ·simp only[ltOf,decide_eq_false_iff_not]at *
  intro d
  have g:=h.anti x y
  rcases Int.lt_or_le (b y x) 0 with e|e
  ·exact a (h.trans y x z e d)
  ·have:b x y=0:=by omega
   rw[h.eq _ _ this]at d
   exact a d
 ·simp only[ltOf,decide_eq_false_iff_not]at *
  have g:=h.anti x y
  exact h.eq x y (by omega)
def Q00{a:Type}(eq:a->a->Bool):a->List a->List a
 |_,[]=>[]
 |p,y::l=>bif eq y p then Q00 eq y l else y::Q00 eq y l
def h03{a:Type}(eq:a->a->Bool):List a->List a
 | []=>[]
 |x::l=>x::Q00 eq x l
def Asc{c:Type}(d:c->c->Int)(l:List c):Prop:=l.Pairwise λa b=>d a b<0
theorem f0e{d:Type}{c:d->d->Int}(h:q00 c){f g:List d}(i:Asc c f)(j:Asc c g)(o:∀ x,x∈f↔x∈g):f=g:=by
 have k:∀ {l:List d},Asc c l->l.Nodup:=λm=>m.imp λ{a b} n e=>by rw[e,h.refl]at n;omega
 refine w03 (R:=λa b=>c a b<0) (λx y p q=>?_) ((List.perm_ext_iff_of_nodup (k i) (k j)).2 o) i j
 have:=h.anti x y
 omega
theorem w09{a:Type}(eq:a->a->Bool):∀(l:List a) (p:a),(Q00 eq p l).Sublist l
 | [],_ => .slnil
 |y::l,p=>by
  unfold Q00
  cases eq y p
  ·exact(w09 eq l y).cons_cons y
  ·exact(w09 eq l y).cons y
theorem g0e{d:Type}{c:d->d->Int}(h:q00 c){eq:d->d->Bool}(g:∀ x y,eq x y=true↔x=y):∀(l:List d) (p:d),(p::l).Pairwise (λa b=>ltOf c b a=false)->Asc c (p::Q00 eq p l)
 | [],p,_=>by simp[Q00,Asc]
 |y::l,p,o=>by
  obtain⟨m,n⟩:=List.pairwise_cons.1 o
  have f:=g0e h g l y n
  unfold Q00
  cases hc:eq y p with
  |true=>rw[(g _ _).1 hc]at f ⊢;exact f
  |false =>
   show Asc c (p::y::Q00 eq y l)
   have k:c p y<0:=by
    have:=m y mS
    simp only[ltOf,decide_eq_false_iff_not]at this
    have a:=h.anti p y
    rcases Int.lt_or_le (c p y) 0 with j|j
    ·exact j
    ·have e:=h.eq p y (by omega)
     have:=(g y p).2 e.symm
     rw[hc]at this;cases this
   refine List.pairwise_cons.2 ⟨λz i=>?_,f⟩
   rcases List.mem_cons.1 i with rfl|i
   ·exact k
   ·exact h.trans _ _ _ k ((List.pairwise_cons.1 f).1 z i)
theorem h0e{a:Type}{eq:a->a->Bool}(b:∀ x y,eq x y=true↔x=y)(x:a):∀(l:List a) (p:a),x∈p::Q00 eq p l↔x∈p::l
 | [],p=>by simp[Q00]
 |y::l,p=>by
  have c:=h0e b x l y
  unfold Q00
  cases hc:eq y p with
  |true =>
   have e:=(b _ _).1 hc
   subst e
   simp only[cond_true,List.mem_cons]at *
   rw[c];simp
  |false=>simp only[cond_false,List.mem_cons]at *;rw[c]
def J0j{a:Type}(b:a->a->Int)(eq:a->a->Bool)(l:List a):List a:=h03 eq (Y05 b l)
theorem o0o{a:Type}{b:a->a->Int}(h:q00 b){eq:a->a->Bool}(c:∀ x y,eq x y=true↔x=y)(l:List a):Asc b (J0j b eq l):=by
 have:=o05 h.cmp.swo l
 unfold J0j h03
 cases hs:Y05 b l with
 |nil=>exact .nil
 |cons x m=>rw[hs]at this;exact g0e h c m x this
theorem p0o{a:Type}{b:a->a->Int}{eq:a->a->Bool}(c:∀ x y,eq x y=true↔x=y)(x:a)(l:List a):x∈J0j b eq l↔x∈l:=by
 rw[←(i04 b l).mem_iff]
 unfold J0j h03
 cases Y05 b l with
 |nil=>rfl
 |cons y m=>exact h0e c x m y
def H01{a:Type}(b:a->a->Int)(x:a):List a->List a
 | []=>[x]
 |y::l=>if b x y<0 then x::y::l else if b x y=0 then y::l else y::H01 b x l
theorem J07{a:Type}{b:a->a->Int}(h:q00 b)(x z:a):∀ l,z∈H01 b x l↔z=x∨z∈l
 | []=>by simp[H01]
 |y::l=>by
  have c:=J07 h x z l
  unfold H01
  split
  ·simp
  ·split
   ·rename_i e;rw[h.eq _ _ e];simp
   ·simp only[List.mem_cons,c];constructor<;>(rintro(e|e|e)<;>simp[e])
theorem K0j{d:Type}{b:d->d->Int}(h:q00 b)(x:d):∀ l,Asc b l->Asc b (H01 b x l)
 | [],_=>by simp[H01,Asc]
 |y::l,c=>by
  obtain⟨e,g⟩:=List.pairwise_cons.1 c
  unfold H01
  split
  ·rename_i f
   refine List.pairwise_cons.2 ⟨λz a=>?_,c⟩
   rcases List.mem_cons.1 a with rfl|a
   ·exact f
   ·exact h.trans _ _ _ f (e z a)
  ·split
   ·exact c
   ·refine List.pairwise_cons.2 ⟨λz a=>?_,K0j h x l g⟩
    rcases(J07 h x z l).1 a with rfl|a
    ·have:=h.anti z y;omega
    ·exact e z a
def F6{a:Type}(b:a->a->Int):List a->List a->List a
 |l,[]=>l
 |l,x::r=>F6 b (H01 b x l) r
theorem E06{c:Type}{a:c->c->Int}(h:q00 a):∀(r l:List c),Asc a l->Asc a (F6 a l r)
 | [],_,b=>b
 |x::r,l,b=>E06 h r _ (K0j h x l b)
theorem z9{c:Type}{d:c->c->Int}(h:q00 d)(z:c):∀(r l:List c),z∈F6 d l r↔z∈l∨z∈r
 | [],l=>by simp[F6]
 |x::r,l=>by
  rw[F6,z9 h z r,J07 h]
  simp only[List.mem_cons]
  by_cases a:z=x<;>by_cases b:z∈l<;>simp[a,b]
theorem L0j{a:Type}{b:a->a->Int}(h:q00 b){eq:a->a->Bool}(c:∀ x y,eq x y=true↔x=y)(l r:List a)(d:∀ x,x∈l↔x∈r):J0j b eq l=F6 b [] r :=
 f0e h (o0o h c l) (E06 h r [] .nil) λx=>by rw[p0o c,z9 h,d];simp
end Go.H
