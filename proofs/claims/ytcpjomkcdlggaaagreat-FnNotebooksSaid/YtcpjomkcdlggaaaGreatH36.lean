/- Plain laws: comparisons that order, strictly ordered lists, and what a sort without doubles is. -/
import Derived.Test.YtcpjomkcdlggaaaGreatH34
import Derived.Test.YtcpjomkcdlggaaaGreatH33
open Go.Sort Go.Proofs
namespace Go.H
set_option linter.all false
theorem I02.cmp{f:Type}{b:f->f->Int}(h:I02 b):Cmp b:=by
 refine⟨⟨λx=>?_,λx y z c a=>?_,λx y z c a=>?_⟩,λx y c a=>?_⟩
 ·simp[ltOf,h.refl]
 ·simp only[ltOf,decide_eq_true_eq]at *;exact h.trans x y z c a
 ·simp only[ltOf,decide_eq_false_iff_not]at *
  intro d
  have g:=h.anti x y
  rcases Int.lt_or_le (b y x) 0 with e|e
  ·exact a (h.trans y x z e d)
  ·have:b x y=0:=by omega
   rw[h.eq _ _ this]at d
   exact a d
 ·simp only[ltOf,decide_eq_false_iff_not]at *
  have g:=h.anti x y
  exact h.eq x y (by omega)
def q03{a:Type}(eq:a->a->Bool):a->List a->List a
 |_,[]=>[]
 |p,y::l=>bif eq y p then q03 eq y l else y::q03 eq y l
def z07{a:Type}(eq:a->a->Bool):List a->List a
 | []=>[]
 |x::l=>x::q03 eq x l
def Asc{c:Type}(d:c->c->Int)(l:List c):Prop:=l.Pairwise λa b=>d a b<0
theorem D0e{d:Type}{c:d->d->Int}(h:I02 c){f g:List d}(i:Asc c f)(j:Asc c g)(o:∀ x,x∈f↔x∈g):f=g:=by
 have k:∀ {l:List d},Asc c l->l.Nodup:=λh'=>h'.imp λ{a b} m e=>by rw[e,h.refl]at m;omega
 refine n07 (R:=λa b=>c a b<0) (λx y p q=>?_) ((List.perm_ext_iff_of_nodup (k i) (k j)).2 o) i j
 have:=h.anti x y
 omega
theorem E0e{a:Type}(eq:a->a->Bool):∀(l:List a) (p:a),(q03 eq p l).Sublist l
 | [],_ => .slnil
 |y::l,p=>by
  unfold q03
  cases eq y p
  ·exact(E0e eq l y).cons_cons y
  ·exact(E0e eq l y).cons y
theorem J0j{d:Type}{c:d->d->Int}(h:I02 c){eq:d->d->Bool}(g:∀ x y,eq x y=true↔x=y):∀(l:List d) (p:d),(p::l).Pairwise (λa b=>ltOf c b a=false)->Asc c (p::q03 eq p l)
 | [],p,_=>by simp[q03,Asc]
 |y::l,p,q=>by
  obtain⟨m,o⟩:=List.pairwise_cons.1 q
  have f:=J0j h g l y o
  unfold q03
  cases hc:eq y p with
  |true=>rw[(g _ _).1 hc]at f ⊢;exact f
  |false =>
   show Asc c (p::y::q03 eq y l)
   have k:c p y<0:=by
    have:=m y mS
    simp only[ltOf,decide_eq_false_iff_not]at this
    have a:=h.anti p y
    rcases Int.lt_or_le (c p y) 0 with j|j
    ·exact j
    ·have e:=h.eq p y (by omega)
     have:=(g y p).2 e.symm
     rw[hc]at this;cases this
   refine List.pairwise_cons.2 ⟨λz i=>?_,f⟩
   rcases List.mem_cons.1 i with rfl|i
   ·exact k
   ·exact h.trans _ _ _ k ((List.pairwise_cons.1 f).1 z i)
theorem K0j{a:Type}{eq:a->a->Bool}(b:∀ x y,eq x y=true↔x=y)(x:a):∀(l:List a) (p:a),x∈p::q03 eq p l↔x∈p::l
 | [],p=>by simp[q03]
 |y::l,p=>by
  have c:=K0j b x l y
  unfold q03
  cases hc:eq y p with
  |true =>
   have e:=(b _ _).1 hc
   subst e
   simp only[cond_true,List.mem_cons]at *
   rw[c];simp
  |false=>simp only[cond_false,List.mem_cons]at *;rw[c]
def b0p{a:Type}(b:a->a->Int)(eq:a->a->Bool)(l:List a):List a:=z07 eq (Z0a b l)
theorem H0t{a:Type}{b:a->a->Int}(h:I02 b){eq:a->a->Bool}(c:∀ x y,eq x y=true↔x=y)(l:List a):Asc b (b0p b eq l):=by
 have:=k09 h.cmp.swo l
 unfold b0p z07
 cases hs:Z0a b l with
 |nil=>exact .nil
 |cons x m=>rw[hs]at this;exact J0j h c m x this
theorem I0t{a:Type}{b:a->a->Int}{eq:a->a->Bool}(c:∀ x y,eq x y=true↔x=y)(x:a)(l:List a):x∈b0p b eq l↔x∈l:=by
 rw[←(j08 b l).mem_iff]
 unfold b0p z07
 cases Z0a b l with
 |nil=>rfl
 |cons y m=>exact K0j c x m y
def p02{a:Type}(b:a->a->Int)(x:a):List a->List a
 | []=>[x]
 |y::l=>if b x y<0 then x::y::l else if b x y=0 then y::l else y::p02 b x l
theorem o0c{a:Type}{b:a->a->Int}(h:I02 b)(x z:a):∀ l,z∈p02 b x l↔z=x∨z∈l
 | []=>by simp[p02]
 |y::l=>by
  have c:=o0c h x z l
  unfold p02
  split
  ·simp
  ·split
   ·rename_i e;rw[h.eq _ _ e];simp
   ·simp only[List.mem_cons,c];constructor<;>(rintro(e|e|e)<;>simp[e])
theorem c0p{d:Type}{b:d->d->Int}(h:I02 b)(x:d):∀ l,Asc b l->Asc b (p02 b x l)
 | [],_=>by simp[p02,Asc]
 |y::l,c=>by
  obtain⟨e,g⟩:=List.pairwise_cons.1 c
  unfold p02
  split
  ·rename_i f
   refine List.pairwise_cons.2 ⟨λz a=>?_,c⟩
   rcases List.mem_cons.1 a with rfl|a
   ·exact f
   ·exact h.trans _ _ _ f (e z a)
  ·split
   ·exact c
   ·refine List.pairwise_cons.2 ⟨λz a=>?_,c0p h x l g⟩
    rcases(o0c h x z l).1 a with rfl|a
    ·have:=h.anti z y;omega
    ·exact e z a
def V4{a:Type}(b:a->a->Int):List a->List a->List a
 |l,[]=>l
 |l,x::r=>V4 b (p02 b x l) r
theorem H04{c:Type}{a:c->c->Int}(h:I02 a):∀(r l:List c),Asc a l->Asc a (V4 a l r)
 | [],_,b=>b
 |x::r,l,b=>H04 h r _ (c0p h x l b)
theorem J01{c:Type}{d:c->c->Int}(h:I02 d)(z:c):∀(r l:List c),z∈V4 d l r↔z∈l∨z∈r
 | [],l=>by simp[V4]
 |x::r,l=>by
  rw[V4,J01 h z r,o0c h]
  simp only[List.mem_cons]
  by_cases a:z=x<;>by_cases b:z∈l<;>simp[a,b]
theorem d0p{a:Type}{b:a->a->Int}(h:I02 b){eq:a->a->Bool}(c:∀ x y,eq x y=true↔x=y)(l r:List a)(d:∀ x,x∈l↔x∈r):b0p b eq l=V4 b [] r :=
 D0e h (H0t h c l) (H04 h r [] .nil) λx=>by rw[I0t c,J01 h,d];simp
end Go.H
