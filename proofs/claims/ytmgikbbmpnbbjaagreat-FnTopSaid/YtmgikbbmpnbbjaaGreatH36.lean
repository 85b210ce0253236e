/- Plain laws: comparisons that order, strictly ordered lists, and what a sort without doubles is. -/
import Derived.Test.YtmgikbbmpnbbjaaGreatH34
import Derived.Test.YtmgikbbmpnbbjaaGreatH33
open Go.Sort Go.Proofs
namespace Go.H
set_option linter.unusedVariables false
theorem v00.cmp{f:Type}{b:f->f->Int}(h:v00 b):Cmp b:=by
 refine⟨⟨λx=>?_,λx y z c a=>?_,λx y z c a=>?_⟩,λx y c a=>?_⟩
 ·simp[ltOf,h.refl]
 ·simp only[ltOf,decide_eq_true_eq]at *;exact h.trans x y z c a
 ·simp only[ltOf,decide_eq_false_iff_not]at *
  intro d
  have g:=h.anti x y
  rcases Int.lt_or_le (b y x) 0 with e|e
  ·exact a (h.trans y x z e d)
  ·have:b x y=0:=by omega
   rw[h.eq _ _ this]at d
   exact a d
 ·simp only[ltOf,decide_eq_false_iff_not]at *
  have g:=h.anti x y
  exact h.eq x y (by omega)
def S00{a:Type}(eq:a->a->Bool):a->List a->List a
 |_,[]=>[]
 |p,y::l=>bif eq y p then S00 eq y l else y::S00 eq y l
def X03{a:Type}(eq:a->a->Bool):List a->List a
 | []=>[]
 |x::l=>x::S00 eq x l
def Asc{c:Type}(d:c->c->Int)(l:List c):Prop:=l.Pairwise λa b=>d a b<0
theorem G07{d:Type}{c:d->d->Int}(h:v00 c){f g:List d}(i:Asc c f)(j:Asc c g)(n:∀ x,x∈f↔x∈g):f=g:=by
 have k:∀ {l:List d},Asc c l->l.Nodup:=λh'=>h'.imp λ{a b} m e=>by rw[e,h.refl]at m;omega
 refine q04 (R:=λa b=>c a b<0) (λx y o p=>?_) ((List.perm_ext_iff_of_nodup (k i) (k j)).2 n) i j
 have:=h.anti x y
 omega
theorem v0a{a:Type}(eq:a->a->Bool):∀(l:List a) (p:a),(S00 eq p l).Sublist l
 | [],_ => .slnil
 |y::l,p=>by
  unfold S00
  cases eq y p
  ·exact(v0a eq l y).cons_cons y
  ·exact(v0a eq l y).cons y
theorem Y0e{d:Type}{c:d->d->Int}(h:v00 c){eq:d->d->Bool}(g:∀ x y,eq x y=true↔x=y):∀(l:List d) (p:d),(p::l).Pairwise (λa b=>ltOf c b a=false)->Asc c (p::S00 eq p l)
 | [],p,_=>by simp[S00,Asc]
 |y::l,p,o=>by
  obtain⟨m,n⟩:=List.pairwise_cons.1 o
  have f:=Y0e h g l y n
  unfold S00
  cases hc:eq y p with
  |true=>rw[(g _ _).1 hc]at f ⊢;exact f
  |false =>
   show Asc c (p::y::S00 eq y l)
   have k:c p y<0:=by
    have:=m y mS
    simp only[ltOf,decide_eq_false_iff_not]at this
    have a:=h.anti p y
    rcases Int.lt_or_le (c p y) 0 with j|j
    ·exact j
    ·have e:=h.eq p y (by omega)
     have:=(g y p).2 e.symm
     rw[hc]at this;cases this
   refine List.pairwise_cons.2 ⟨λz i=>?_,f⟩
   rcases List.mem_cons.1 i with rfl|i
   ·exact k
   ·exact h.trans _ _ _ k ((List.pairwise_cons.1 f).1 z i)
theorem Z0e{a:Type}{eq:a->a->Bool}(b:∀ x y,eq x y=true↔x=y)(x:a):∀(l:List a) (p:a),x∈p::S00 eq p l↔x∈p::l
 | [],p=>by simp[S00]
 |y::l,p=>by
  have c:=Z0e b x l y
  unfold S00
  cases hc:eq y p with
  |true =>
   have e:=(b _ _).1 hc
   subst e
   simp only[cond_true,List.mem_cons]at *
   rw[c];simp
  |false=>simp only[cond_false,List.mem_cons]at *;rw[c]
def E0k{a:Type}(b:a->a->Int)(eq:a->a->Bool)(l:List a):List a:=X03 eq (X06 b l)
theorem l0p{a:Type}{b:a->a->Int}(h:v00 b){eq:a->a->Bool}(c:∀ x y,eq x y=true↔x=y)(l:List a):Asc b (E0k b eq l):=by
 have:=h06 h.cmp.swo l
 unfold E0k X03
 cases hs:X06 b l with
 |nil=>exact .nil
 |cons x m=>rw[hs]at this;exact Y0e h c m x this
theorem m0p{a:Type}{b:a->a->Int}{eq:a->a->Bool}(c:∀ x y,eq x y=true↔x=y)(x:a)(l:List a):x∈E0k b eq l↔x∈l:=by
 rw[←(e05 b l).mem_iff]
 unfold E0k X03
 cases X06 b l with
 |nil=>rfl
 |cons y m=>exact Z0e c x m y
def w01{a:Type}(b:a->a->Int)(x:a):List a->List a
 | []=>[x]
 |y::l=>if b x y<0 then x::y::l else if b x y=0 then y::l else y::w01 b x l
theorem F08{a:Type}{b:a->a->Int}(h:v00 b)(x z:a):∀ l,z∈w01 b x l↔z=x∨z∈l
 | []=>by simp[w01]
 |y::l=>by
  have c:=F08 h x z l
  unfold w01
  split
  ·simp
  ·split
   ·rename_i e;rw[h.eq _ _ e];simp
   ·simp only[List.mem_cons,c];constructor<;>(rintro(e|e|e)<;>simp[e])
theorem F0k{d:Type}{b:d->d->Int}(h:v00 b)(x:d):∀ l,Asc b l->Asc b (w01 b x l)
 | [],_=>by simp[w01,Asc]
 |y::l,c=>by
  obtain⟨e,g⟩:=List.pairwise_cons.1 c
  unfold w01
  split
  ·rename_i f
   refine List.pairwise_cons.2 ⟨λz a=>?_,c⟩
   rcases List.mem_cons.1 a with rfl|a
   ·exact f
   ·exact h.trans _ _ _ f (e z a)
  ·split
   ·exact c
   ·refine List.pairwise_cons.2 ⟨λz a=>?_,F0k h x l g⟩
    rcases(F08 h x z l).1 a with rfl|a
    ·have:=h.anti z y;omega
    ·exact e z a
def K5{a:Type}(b:a->a->Int):List a->List a->List a
 |l,[]=>l
 |l,x::r=>K5 b (w01 b x l) r
theorem I00{c:Type}{a:c->c->Int}(h:v00 a):∀(r l:List c),Asc a l->Asc a (K5 a l r)
 | [],_,b=>b
 |x::r,l,b=>I00 h r _ (F0k h x l b)
theorem C4{c:Type}{d:c->c->Int}(h:v00 d)(z:c):∀(r l:List c),z∈K5 d l r↔z∈l∨z∈r
 | [],l=>by simp[K5]
 |x::r,l=>by
  rw[K5,C4 h z r,F08 h]
  simp only[List.mem_cons]
  by_cases a:z=x<;>by_cases b:z∈l<;>simp[a,b]
theorem G0k{a:Type}{b:a->a->Int}(h:v00 b){eq:a->a->Bool}(c:∀ x y,eq x y=true↔x=y)(l r:List a)(d:∀ x,x∈l↔x∈r):E0k b eq l=K5 b [] r :=
 G07 h (l0p h c l) (I00 h r [] .nil) λx=>by rw[m0p c,C4 h,d];simp
end Go.H
