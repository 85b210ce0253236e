/- Plain laws: comparisons that order, strictly ordered lists, and what a sort without doubles is. -/
import Derived.Test.YtmgikbbmpnbbjaaGreatH34
import Derived.Test.YtmgikbbmpnbbjaaGreatH33
open Go.Sort Go.Proofs
namespace Go.H
set_option linter.unusedVariables false
theorem W00.cmp{f:Type}{b:f->f->Int}(h:W00 b):Cmp b:=by
 refine⟨⟨λx=>?_,λx y z c a=>?_,λx y z c a=>?_⟩,λx y c a=>?_⟩
 ·simp[ltOf,h.refl]
 ·simp only[ltOf,decide_eq_true_eq]at *;exact h.trans x y z c a
 ·simp only[ltOf,decide_eq_false_iff_not]at *
  intro d
  have g:=h.anti x y
  rcases Int.lt_or_le (b y x) 0 with e|e
  ·exact a (h.trans y x z e d)
  ·have:b x y=0:=by omega
   rw[h.eq _ _ this]at d
   exact a d
 ·simp only[ltOf,decide_eq_false_iff_not]at *
  have g:=h.anti x y
  exact h.eq x y (by omega)
def w01{a:Type}(eq:a->a->Bool):a->List a->List a
 |_,[]=>[]
 |p,y::l=>bif eq y p then w01 eq y l else y::w01 eq y l
def g04{a:Type}(eq:a->a->Bool):List a->List a
 | []=>[]
 |x::l=>x::w01 eq x l
def Asc{c:Type}(d:c->c->Int)(l:List c):Prop:=l.Pairwise λa b=>d a b<0
theorem i08{d:Type}{c:d->d->Int}(h:W00 c){f g:List d}(i:Asc c f)(j:Asc c g)(n:∀ x,x∈f↔x∈g):f=g:=by
 have k:∀ {l:List d},Asc c l->l.Nodup:=λh'=>h'.imp λ{a b} m e=>by rw[e,h.refl]at m;omega
 refine A04 (R:=λa b=>c a b<0) (λx y o p=>?_) ((List.perm_ext_iff_of_nodup (k i) (k j)).2 n) i j
 have:=h.anti x y
 omega
theorem e0b{a:Type}(eq:a->a->Bool):∀(l:List a) (p:a),(w01 eq p l).Sublist l
 | [],_ => .slnil
 |y::l,p=>by
  unfold w01
  cases eq y p
  ·exact(e0b eq l y).cons_cons y
  ·exact(e0b eq l y).cons y
theorem q0g{d:Type}{c:d->d->Int}(h:W00 c){eq:d->d->Bool}(g:∀ x y,eq x y=true↔x=y):∀(l:List d) (p:d),(p::l).Pairwise (λa b=>ltOf c b a=false)->Asc c (p::w01 eq p l)
 | [],p,_=>by simp[w01,Asc]
 |y::l,p,o=>by
  obtain⟨m,n⟩:=List.pairwise_cons.1 o
  have f:=q0g h g l y n
  unfold w01
  cases hc:eq y p with
  |true=>rw[(g _ _).1 hc]at f ⊢;exact f
  |false =>
   show Asc c (p::y::w01 eq y l)
   have k:c p y<0:=by
    have:=m y mS
    simp only[ltOf,decide_eq_false_iff_not]at this
    have a:=h.anti p y
    rcases Int.lt_or_le (c p y) 0 with j|j
    ·exact j
    ·have e:=h.eq p y (by omega)
     have:=(g y p).2 e.symm
     rw[hc]at this;cases this
   refine List.pairwise_cons.2 ⟨λz i=>?_,f⟩
   rcases List.mem_cons.1 i with rfl|i
   ·exact k
   ·exact h.trans _ _ _ k ((List.pairwise_cons.1 f).1 z i)
theorem r0g{a:Type}{eq:a->a->Bool}(b:∀ x y,eq x y=true↔x=y)(x:a):∀(l:List a) (p:a),x∈p::w01 eq p l↔x∈p::l
 | [],p=>by simp[w01]
 |y::l,p=>by
  have c:=r0g b x l y
  unfold w01
  cases hc:eq y p with
  |true =>
   have e:=(b _ _).1 hc
   subst e
   simp only[cond_true,List.mem_cons]at *
   rw[c];simp
  |false=>simp only[cond_false,List.mem_cons]at *;rw[c]
def C0l{a:Type}(b:a->a->Int)(eq:a->a->Bool)(l:List a):List a:=g04 eq (A07 b l)
theorem f0q{a:Type}{b:a->a->Int}(h:W00 b){eq:a->a->Bool}(c:∀ x y,eq x y=true↔x=y)(l:List a):Asc b (C0l b eq l):=by
 have:=F06 h.cmp.swo l
 unfold C0l g04
 cases hs:A07 b l with
 |nil=>exact .nil
 |cons x m=>rw[hs]at this;exact q0g h c m x this
theorem g0q{a:Type}{b:a->a->Int}{eq:a->a->Bool}(c:∀ x y,eq x y=true↔x=y)(x:a)(l:List a):x∈C0l b eq l↔x∈l:=by
 rw[←(z05 b l).mem_iff]
 unfold C0l g04
 cases A07 b l with
 |nil=>rfl
 |cons y m=>exact r0g c x m y
def X00{a:Type}(b:a->a->Int)(x:a):List a->List a
 | []=>[x]
 |y::l=>if b x y<0 then x::y::l else if b x y=0 then y::l else y::X00 b x l
theorem Q04{a:Type}{b:a->a->Int}(h:W00 b)(x z:a):∀ l,z∈X00 b x l↔z=x∨z∈l
 | []=>by simp[X00]
 |y::l=>by
  have c:=Q04 h x z l
  unfold X00
  split
  ·simp
  ·split
   ·rename_i e;rw[h.eq _ _ e];simp
   ·simp only[List.mem_cons,c];constructor<;>(rintro(e|e|e)<;>simp[e])
theorem o0c{d:Type}{b:d->d->Int}(h:W00 b)(x:d):∀ l,Asc b l->Asc b (X00 b x l)
 | [],_=>by simp[X00,Asc]
 |y::l,c=>by
  obtain⟨e,g⟩:=List.pairwise_cons.1 c
  unfold X00
  split
  ·rename_i f
   refine List.pairwise_cons.2 ⟨λz a=>?_,c⟩
   rcases List.mem_cons.1 a with rfl|a
   ·exact f
   ·exact h.trans _ _ _ f (e z a)
  ·split
   ·exact c
   ·refine List.pairwise_cons.2 ⟨λz a=>?_,o0c h x l g⟩
    rcases(Q04 h x z l).1 a with rfl|a
    ·have:=h.anti z y;omega
    ·exact e z a
def o6{a:Type}(b:a->a->Int):List a->List a->List a
 |l,[]=>l
 |l,x::r=>o6 b (X00 b x l) r
theorem l03{c:Type}{a:c->c->Int}(h:W00 a):∀(r l:List c),Asc a l->Asc a (o6 a l r)
 | [],_,b=>b
 |x::r,l,b=>l03 h r _ (o0c h x l b)
theorem W5{c:Type}{d:c->c->Int}(h:W00 d)(z:c):∀(r l:List c),z∈o6 d l r↔z∈l∨z∈r
 | [],l=>by simp[o6]
 |x::r,l=>by
  rw[o6,W5 h z r,Q04 h]
  simp only[List.mem_cons]
  by_cases a:z=x<;>by_cases b:z∈l<;>simp[a,b]
theorem D0l{a:Type}{b:a->a->Int}(h:W00 b){eq:a->a->Bool}(c:∀ x y,eq x y=true↔x=y)(l r:List a)(d:∀ x,x∈l↔x∈r):C0l b eq l=o6 b [] r :=
 i08 h (f0q h c l) (l03 h r [] .nil) λx=>by rw[g0q c,W5 h,d];simp
end Go.H
