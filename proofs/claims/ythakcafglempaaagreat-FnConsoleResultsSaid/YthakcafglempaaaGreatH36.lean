/- Plain laws: comparisons that order, strictly ordered lists, and what a sort without doubles is. -/
import Derived.Test.YthakcafglempaaaGreatH34
import Derived.Test.YthakcafglempaaaGreatH33
open Go.Sort Go.Proofs
namespace Go.H
set_option linter.all false
theorem o02.cmp{f:Type}{b:f->f->Int}(h:o02 b):Cmp b:=by
 refine⟨⟨λx=>?_,λx y z c a=>?_,λx y z c a=>?_⟩,λx y c a=>?_⟩;·simp[ltOf,h.refl]
 ·simp only[ltOf,decide_eq_true_eq]at *;exact h.trans x y z c a
 ·simp only[ltOf,decide_eq_false_iff_not]at *;intro d;have g:=h.anti x y;rcases Int.lt_or_le (b y x) 0 with e|e;·exact a (h.trans y x z e d)
  have:b x y=0:=oM;rw[h.eq _ _ this]at d;exact a d
 simp only[ltOf,decide_eq_false_iff_not]at *;have g:=h.anti x y;exact h.eq x y oM
def V02{a:Type}(eq:a->a->Bool):a->List a->List a
 |_,[]=>[]
 |p,y::l=>bif eq y p then V02 eq y l else y::V02 eq y l
def g07{a:Type}(eq:a->a->Bool):List a->List a
 | []=>[]
 |x::l=>x::V02 eq x l
def Asc{c:Type}(d:c->c->Int)(l:List c):Prop:=l.Pairwise λa b=>d a b<0
theorem M0a{d:Type}{c:d->d->Int}(h:o02 c){f g:List d}(i:Asc c f)(j:Asc c g)(n:∀ x,x∈f↔x∈g):f=g:=by
 have k:∀ {l:List d},Asc c l->l.Nodup:=λh'=>h'.imp λ{a b} m e=>by rw[e,h.refl]at m;omega
 refine W06 (R:=λa b=>c a b<0) (λx y o p=>?_) ((List.perm_ext_iff_of_nodup (k i) (k j)).2 n) i j;have:=h.anti x y;omega
theorem i0e{a:Type}(eq:a->a->Bool):∀(l:List a) (p:a),(V02 eq p l).Sublist l
 | [],_ => .slnil
 |y::l,p=>by
  unfold V02;cases eq y p;·exact(i0e eq l y).cons_cons y
  exact(i0e eq l y).cons y
theorem l0j{d:Type}{c:d->d->Int}(h:o02 c){eq:d->d->Bool}(g:∀ x y,eq x y=true↔x=y):∀(l:List d) (p:d),(p::l).Pairwise (λa b=>ltOf c b a=false)->Asc c (p::V02 eq p l)
 | [],p,_=>by simp[V02,Asc]
 |y::l,p,o=>by
  obtain⟨m,n⟩:=List.pairwise_cons.1 o;have f:=l0j h g l y n;unfold V02;cases hc:eq y p
  ·show Asc c (p::y::V02 eq y l);have k:c p y<0:=by
    have:=m y mS;simp only[ltOf,decide_eq_false_iff_not]at this;have a:=h.anti p y;rcases Int.lt_or_le (c p y) 0 with j|j;·exact j
    have e:=h.eq p y oM;have:=(g y p).2 e.symm;rw[hc]at this;cases this
   refine List.pairwise_cons.2 ⟨λz i=>?_,f⟩;rcases List.mem_cons.1 i with rfl|i;·exact k
   exact h.trans _ _ _ k ((List.pairwise_cons.1 f).1 z i)
  rw[(g _ _).1 hc]at f ⊢;exact f
theorem m0j{a:Type}{eq:a->a->Bool}(b:∀ x y,eq x y=true↔x=y)(x:a):∀(l:List a) (p:a),x∈p::V02 eq p l↔x∈p::l
 | [],p=>by simp[V02]
 |y::l,p=>by
  have c:=m0j b x l y;unfold V02;cases hc:eq y p;·simp only[cond_false,List.mem_cons]at *;rw[c]
  have e:=(b _ _).1 hc;subst e;simp only[cond_true,List.mem_cons]at *;rw[c];simp
def a0p{a:Type}(b:a->a->Int)(eq:a->a->Bool)(l:List a):List a:=g07 eq (L0a b l)
theorem Z0t{a:Type}{b:a->a->Int}(h:o02 b){eq:a->a->Bool}(c:∀ x y,eq x y=true↔x=y)(l:List a):Asc b (a0p b eq l):=by
 have:=g09 h.cmp.swo l;unfold a0p g07;cases hs:L0a b l with
 |nil=>exact .nil
 |cons x m=>rw[hs]at this;exact l0j h c m x this
theorem a0u{a:Type}{b:a->a->Int}{eq:a->a->Bool}(c:∀ x y,eq x y=true↔x=y)(x:a)(l:List a):x∈a0p b eq l↔x∈l:=by
 rw[←(b08 b l).mem_iff];unfold a0p g07;cases L0a b l with
 |nil=>rfl
 |cons y m=>exact m0j c x m y
def a02{a:Type}(b:a->a->Int)(x:a):List a->List a
 | []=>[x]
 |y::l=>if b x y<0 then x::y::l else if b x y=0 then y::l else y::a02 b x l
theorem R0b{a:Type}{b:a->a->Int}(h:o02 b)(x z:a):∀ l,z∈a02 b x l↔z=x∨z∈l
 | []=>by simp[a02]
 |y::l=>by
  have c:=R0b h x z l;unfold a02;split;·simp
  split;·rename_i e;rw[h.eq _ _ e];simp
  simp only[List.mem_cons,c];constructor<;>(rintro(e|e|e)<;>simp[e])
theorem b0p{d:Type}{b:d->d->Int}(h:o02 b)(x:d):∀ l,Asc b l->Asc b (a02 b x l)
 | [],_=>by simp[a02,Asc]
 |y::l,c=>by
  obtain⟨e,g⟩:=List.pairwise_cons.1 c;unfold a02;split
  ·rename_i f;refine List.pairwise_cons.2 ⟨λz a=>?_,c⟩;rcases List.mem_cons.1 a with rfl|a;·exact f
   exact h.trans _ _ _ f (e z a)
  split;·exact c
  refine List.pairwise_cons.2 ⟨λz a=>?_,b0p h x l g⟩;rcases(R0b h x z l).1 a with rfl|a;·have:=h.anti z y;omega
  exact e z a
def L4{a:Type}(b:a->a->Int):List a->List a->List a
 |l,[]=>l
 |l,x::r=>L4 b (a02 b x l) r
theorem I02{c:Type}{a:c->c->Int}(h:o02 a):∀(r l:List c),Asc a l->Asc a (L4 a l r)
 | [],_,b=>b
 |x::r,l,b=>I02 h r _ (b0p h x l b)
theorem C5{c:Type}{d:c->c->Int}(h:o02 d)(z:c):∀(r l:List c),z∈L4 d l r↔z∈l∨z∈r
 | [],l=>by simp[L4]
 |x::r,l=>by rw[L4,C5 h z r,R0b h];simp only[List.mem_cons];by_cases a:z=x<;>by_cases b:z∈l<;>simp[a,b]
theorem c0p{a:Type}{b:a->a->Int}(h:o02 b){eq:a->a->Bool}(c:∀ x y,eq x y=true↔x=y)(l r:List a)(d:∀ x,x∈l↔x∈r):a0p b eq l=L4 b [] r :=
 M0a h (Z0t h c l) (I02 h r [] .nil) λx=>by rw[a0u c,C5 h,d];simp
end Go.H
