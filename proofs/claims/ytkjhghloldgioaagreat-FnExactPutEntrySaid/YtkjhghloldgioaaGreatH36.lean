/- Plain laws: comparisons that order, strictly ordered lists, and what a sort without doubles is. -/
import Derived.Test.YtkjhghloldgioaaGreatH34
import Derived.Test.YtkjhghloldgioaaGreatH33
open Go.Sort Go.Proofs
namespace Go.H
set_option linter.unusedVariables false
theorem Z6.cmp{g:Type}{c:g->g->Int}(h:Z6 c):Cmp c:=by
 refine⟨⟨λx=>?_,λx a z d b=>?_,λx a z d b=>?_⟩,λx a d b=>?_⟩
 ·simp[ltOf,h.refl]
 ·simp only[ltOf,decide_eq_true_eq]at *;exact h.trans x a z d b
 ·simp only[ltOf,decide_eq_false_iff_not]at *
  intro e
  have i:=h.anti x a
  rcases Int.lt_or_le (c a x) 0 with f|f
  ·exact b (h.trans a x z f e)
  ·have:c x a=0:=by omega
   rw[h.eq _ _ this]at e
   exact b e
 ·simp only[ltOf,decide_eq_false_iff_not]at *
  have i:=h.anti x a
  exact h.eq x a (by omega)
def i7{a:Type}(eq:a->a->Bool):a->List a->List a
 |_,[]=>[]
 |p,b::l=>bif eq b p then i7 eq b l else b::i7 eq b l
def p9{a:Type}(eq:a->a->Bool):List a->List a
 | []=>[]
 |x::l=>x::i7 eq x l
def Asc{c:Type}(d:c->c->Int)(l:List c):Prop:=l.Pairwise λa b=>d a b<0
theorem j0c{d:Type}{c:d->d->Int}(h:Z6 c){f g:List d}(i:Asc c f)(j:Asc c g)(o:∀ x,x∈f↔x∈g):f=g:=by
 have k:∀ {l:List d},Asc c l->l.Nodup:=λm=>m.imp λ{a b} n e=>by rw[e,h.refl]at n;omega
 refine H9 (R:=λa b=>c a b<0) (λx p q s=>?_) ((List.perm_ext_iff_of_nodup (k i) (k j)).2 o) i j
 have:=h.anti x p
 omega
theorem c04{b:Type}(eq:b->b->Bool):∀(l:List b) (p:b),(i7 eq p l).Sublist l
 | [],_ => .slnil
 |a::l,p=>by
  unfold i7
  cases eq a p
  ·exact(c04 eq l a).cons_cons a
  ·exact(c04 eq l a).cons a
theorem B07{f:Type}{d:f->f->Int}(h:Z6 d){eq:f->f->Bool}(i:∀ x c,eq x c=true↔x=c):∀(l:List f) (p:f),(p::l).Pairwise (λa b=>ltOf d b a=false)->Asc d (p::i7 eq p l)
 | [],p,_=>by simp[i7,Asc]
 |c::l,p,q=>by
  obtain⟨n,o⟩:=List.pairwise_cons.1 q
  have g:=B07 h i l c o
  unfold i7
  cases hc:eq c p with
  |true=>rw[(i _ _).1 hc]at g ⊢;exact g
  |false =>
   show Asc d (p::c::i7 eq c l)
   have m:d p c<0:=by
    have:=n c mS
    simp only[ltOf,decide_eq_false_iff_not]at this
    have a:=h.anti p c
    rcases Int.lt_or_le (d p c) 0 with k|k
    ·exact k
    ·have e:=h.eq p c (by omega)
     have:=(i c p).2 e.symm
     rw[hc]at this;cases this
   refine List.pairwise_cons.2 ⟨λz j=>?_,g⟩
   rcases List.mem_cons.1 j with rfl|j
   ·exact m
   ·exact h.trans _ _ _ m ((List.pairwise_cons.1 g).1 z j)
theorem C07{b:Type}{eq:b->b->Bool}(c:∀ x a,eq x a=true↔x=a)(x:b):∀(l:List b) (p:b),x∈p::i7 eq p l↔x∈p::l
 | [],p=>by simp[i7]
 |a::l,p=>by
  have d:=C07 c x l a
  unfold i7
  cases hc:eq a p with
  |true =>
   have e:=(c _ _).1 hc
   subst e
   simp only[cond_true,List.mem_cons]at *
   rw[d];simp
  |false=>simp only[cond_false,List.mem_cons]at *;rw[d]
def h0b{a:Type}(b:a->a->Int)(eq:a->a->Bool)(l:List a):List a:=p9 eq (D01 b l)
theorem r0e{a:Type}{b:a->a->Int}(h:Z6 b){eq:a->a->Bool}(d:∀ x c,eq x c=true↔x=c)(l:List a):Asc b (h0b b eq l):=by
 have:=X00 h.cmp.swo l
 unfold h0b p9
 cases hs:D01 b l with
 |nil=>exact .nil
 |cons x m=>rw[hs]at this;exact B07 h d m x this
theorem s0e{a:Type}{c:a->a->Int}{eq:a->a->Bool}(d:∀ x b,eq x b=true↔x=b)(x:a)(l:List a):x∈h0b c eq l↔x∈l:=by
 rw[←(j00 c l).mem_iff]
 unfold h0b p9
 cases D01 c l with
 |nil=>rfl
 |cons b m=>exact C07 d x m b
def J8{a:Type}(b:a->a->Int)(x:a):List a->List a
 | []=>[x]
 |y::l=>if b x y<0 then x::y::l else if b x y=0 then y::l else y::J8 b x l
theorem P02{a:Type}{b:a->a->Int}(h:Z6 b)(x z:a):∀ l,z∈J8 b x l↔z=x∨z∈l
 | []=>by simp[J8]
 |y::l=>by
  have c:=P02 h x z l
  unfold J8
  split
  ·simp
  ·split
   ·rename_i e;rw[h.eq _ _ e];simp
   ·simp only[List.mem_cons,c];constructor<;>(rintro(e|e|e)<;>simp[e])
theorem i0b{d:Type}{b:d->d->Int}(h:Z6 b)(x:d):∀ l,Asc b l->Asc b (J8 b x l)
 | [],_=>by simp[J8,Asc]
 |i::l,c=>by
  obtain⟨e,g⟩:=List.pairwise_cons.1 c
  unfold J8
  split
  ·rename_i f
   refine List.pairwise_cons.2 ⟨λz a=>?_,c⟩
   rcases List.mem_cons.1 a with rfl|a
   ·exact f
   ·exact h.trans _ _ _ f (e z a)
  ·split
   ·exact c
   ·refine List.pairwise_cons.2 ⟨λz a=>?_,i0b h x l g⟩
    rcases(P02 h x z l).1 a with rfl|a
    ·have:=h.anti z i;omega
    ·exact e z a
def K8{a:Type}(b:a->a->Int):List a->List a->List a
 |l,[]=>l
 |l,x::r=>K8 b (J8 b x l) r
theorem D07{c:Type}{a:c->c->Int}(h:Z6 a):∀(r l:List c),Asc a l->Asc a (K8 a l r)
 | [],_,b=>b
 |x::r,l,b=>D07 h r _ (i0b h x l b)
theorem b02{c:Type}{d:c->c->Int}(h:Z6 d)(z:c):∀(r l:List c),z∈K8 d l r↔z∈l∨z∈r
 | [],l=>by simp[K8]
 |x::r,l=>by
  rw[K8,b02 h z r,P02 h]
  simp only[List.mem_cons]
  by_cases a:z=x<;>by_cases b:z∈l<;>simp[a,b]
theorem j0b{a:Type}{b:a->a->Int}(h:Z6 b){eq:a->a->Bool}(c:∀ x d,eq x d=true↔x=d)(l r:List a)(e:∀ x,x∈l↔x∈r):h0b b eq l=K8 b [] r :=
 j0c h (r0e h c l) (D07 h r [] .nil) λx=>by rw[s0e c,b02 h,e];simp
end Go.H
