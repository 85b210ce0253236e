/- Plain laws: comparisons that order, strictly ordered lists, and what a sort without doubles is. -/
import Derived.Test.YtohcdjhocpakkaaGreatH34
import Derived.Test.YtohcdjhocpakkaaGreatH33
open Go.Sort Go.Proofs
namespace Go.H
set_option linter.unusedVariables false
theorem K8.cmp{i:Type}{c:i->i->Int}(h:K8 c):Cmp c:=by
 refine⟨⟨λx=>?_,λx a z d b=>?_,λx a z d b=>?_⟩,λx a d b=>?_⟩
 ·simp[ltOf,h.refl]
 ·simp only[ltOf,decide_eq_true_eq]at *;exact h.trans x a z d b
 ·simp only[ltOf,decide_eq_false_iff_not]at *
  intro f
  have j:=h.anti x a
  rcases Int.lt_or_le (c a x) 0 with g|g
  ·exact b (h.trans a x z g f)
  ·have:c x a=0:=by omega
   rw[h.eq _ _ this]at f
   exact b f
 ·simp only[ltOf,decide_eq_false_iff_not]at *
  have j:=h.anti x a
  exact h.eq x a (by omega)
def I00{a:Type}(eq:a->a->Bool):a->List a->List a
 |_,[]=>[]
 |p,b::l=>bif eq b p then I00 eq b l else b::I00 eq b l
def k03{a:Type}(eq:a->a->Bool):List a->List a
 | []=>[]
 |x::l=>x::I00 eq x l
def Asc{c:Type}(d:c->c->Int)(l:List c):Prop:=l.Pairwise λa b=>d a b<0
theorem k0e{d:Type}{c:d->d->Int}(h:K8 c){l1 f:List d}(g:Asc c l1)(i:Asc c f)(n:∀ x,x∈l1↔x∈f):l1=f:=by
 have j:∀ {l:List d},Asc c l->l.Nodup:=λk=>k.imp λ{a b} m e=>by rw[e,h.refl]at m;omega
 refine E03 (R:=λa b=>c a b<0) (λx o p q=>?_) ((List.perm_ext_iff_of_nodup (j g) (j i)).2 n) g i
 have:=h.anti x o
 omega
theorem x09{b:Type}(eq:b->b->Bool):∀(l:List b) (p:b),(I00 eq p l).Sublist l
 | [],_ => .slnil
 |a::l,p=>by
  unfold I00
  cases eq a p
  ·exact(x09 eq l a).cons_cons a
  ·exact(x09 eq l a).cons a
theorem l0e{f:Type}{d:f->f->Int}(h:K8 d){eq:f->f->Bool}(i:∀ x c,eq x c=true↔x=c):∀(l:List f) (p:f),(p::l).Pairwise (λa b=>ltOf d b a=false)->Asc d (p::I00 eq p l)
 | [],p,_=>by simp[I00,Asc]
 |c::l,p,q=>by
  obtain⟨n,o⟩:=List.pairwise_cons.1 q
  have g:=l0e h i l c o
  unfold I00
  cases hc:eq c p with
  |true=>rw[(i _ _).1 hc]at g ⊢;exact g
  |false =>
   show Asc d (p::c::I00 eq c l)
   have m:d p c<0:=by
    have:=n c mS
    simp only[ltOf,decide_eq_false_iff_not]at this
    have a:=h.anti p c
    rcases Int.lt_or_le (d p c) 0 with k|k
    ·exact k
    ·have e:=h.eq p c (by omega)
     have:=(i c p).2 e.symm
     rw[hc]at this;cases this
   refine List.pairwise_cons.2 ⟨λz j=>?_,g⟩
   rcases List.mem_cons.1 j with rfl|j
   ·exact m
   ·exact h.trans _ _ _ m ((List.pairwise_cons.1 g).1 z j)
theorem m0e{b:Type}{eq:b->b->Bool}(c:∀ x a,eq x a=true↔x=a)(x:b):∀(l:List b) (p:b),x∈p::I00 eq p l↔x∈p::l
 | [],p=>by simp[I00]
 |a::l,p=>by
  have d:=m0e c x l a
  unfold I00
  cases hc:eq a p with
  |true =>
   have e:=(c _ _).1 hc
   subst e
   simp only[cond_true,List.mem_cons]at *
   rw[d];simp
  |false=>simp only[cond_false,List.mem_cons]at *;rw[d]
def x0j{a:Type}(b:a->a->Int)(eq:a->a->Bool)(l:List a):List a:=k03 eq (f06 b l)
theorem K0n{a:Type}{b:a->a->Int}(h:K8 b){eq:a->a->Bool}(d:∀ x c,eq x c=true↔x=c)(l:List a):Asc b (x0j b eq l):=by
 have:=r05 h.cmp.swo l
 unfold x0j k03
 cases hs:f06 b l with
 |nil=>exact .nil
 |cons x m=>rw[hs]at this;exact l0e h d m x this
theorem L0n{a:Type}{c:a->a->Int}{eq:a->a->Bool}(d:∀ x b,eq x b=true↔x=b)(x:a)(l:List a):x∈x0j c eq l↔x∈l:=by
 rw[←(v04 c l).mem_iff]
 unfold x0j k03
 cases f06 c l with
 |nil=>rfl
 |cons b m=>exact m0e d x m b
def H01{a:Type}(b:a->a->Int)(x:a):List a->List a
 | []=>[x]
 |y::l=>if b x y<0 then x::y::l else if b x y=0 then y::l else y::H01 b x l
theorem R07{a:Type}{b:a->a->Int}(h:K8 b)(x z:a):∀ l,z∈H01 b x l↔z=x∨z∈l
 | []=>by simp[H01]
 |y::l=>by
  have c:=R07 h x z l
  unfold H01
  split
  ·simp
  ·split
   ·rename_i e;rw[h.eq _ _ e];simp
   ·simp only[List.mem_cons,c];constructor<;>(rintro(e|e|e)<;>simp[e])
theorem y0j{d:Type}{b:d->d->Int}(h:K8 b)(x:d):∀ l,Asc b l->Asc b (H01 b x l)
 | [],_=>by simp[H01,Asc]
 |j::l,c=>by
  obtain⟨f,i⟩:=List.pairwise_cons.1 c
  unfold H01
  split
  ·rename_i g
   refine List.pairwise_cons.2 ⟨λz a=>?_,c⟩
   rcases List.mem_cons.1 a with rfl|a
   ·exact g
   ·exact h.trans _ _ _ g (f z a)
  ·split
   ·exact c
   ·refine List.pairwise_cons.2 ⟨λz a=>?_,y0j h x l i⟩
    rcases(R07 h x z l).1 a with rfl|a
    ·have:=h.anti z j;omega
    ·exact f z a
def K6{a:Type}(b:a->a->Int):List a->List a->List a
 |l,[]=>l
 |l,x::r=>K6 b (H01 b x l) r
theorem N01{c:Type}{a:c->c->Int}(h:K8 a):∀(r l:List c),Asc a l->Asc a (K6 a l r)
 | [],_,b=>b
 |x::r,l,b=>N01 h r _ (y0j h x l b)
theorem D4{c:Type}{d:c->c->Int}(h:K8 d)(z:c):∀(r l:List c),z∈K6 d l r↔z∈l∨z∈r
 | [],l=>by simp[K6]
 |x::r,l=>by
  rw[K6,D4 h z r,R07 h]
  simp only[List.mem_cons]
  by_cases a:z=x<;>by_cases b:z∈l<;>simp[a,b]
theorem z0j{a:Type}{b:a->a->Int}(h:K8 b){eq:a->a->Bool}(c:∀ x d,eq x d=true↔x=d)(l r:List a)(f:∀ x,x∈l↔x∈r):x0j b eq l=K6 b [] r :=
 k0e h (K0n h c l) (N01 h r [] .nil) λx=>by rw[L0n c,D4 h,f];simp
end Go.H
