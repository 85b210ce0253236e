/- Plain laws: comparisons that order, strictly ordered lists, and what a sort without doubles is. -/
import Derived.Test.YtkjhghloldgioaaGreatH34
import Derived.Test.YtkjhghloldgioaaGreatH33
open Go.Sort Go.Proofs
namespace Go.H
set_option linter.unusedVariables false
theorem g00.cmp{f:Type}{b:f->f->Int}(h:g00 b):Cmp b:=by
 refine⟨⟨λx=>?_,λx y z c a=>?_,λx y z c a=>?_⟩,λx y c a=>?_⟩
 ·simp[ltOf,h.refl]
 ·simp only[ltOf,decide_eq_true_eq]at *;exact h.trans x y z c a
 ·simp only[ltOf,decide_eq_false_iff_not]at *
  intro d
  have g:=h.anti x y
  rcases Int.lt_or_le (b y x) 0 with e|e
  ·exact a (h.trans y x z e d)
  ·have:b x y=0:=by omega
   rw[h.eq _ _ this]at d
   exact a d
 ·simp only[ltOf,decide_eq_false_iff_not]at *
  have g:=h.anti x y
  exact h.eq x y (by omega)
def L00{a:Type}(eq:a->a->Bool):a->List a->List a
 |_,[]=>[]
 |p,y::l=>bif eq y p then L00 eq y l else y::L00 eq y l
def D03{a:Type}(eq:a->a->Bool):List a->List a
 | []=>[]
 |x::l=>x::L00 eq x l
def Asc{c:Type}(d:c->c->Int)(l:List c):Prop:=l.Pairwise λa b=>d a b<0
theorem I09{d:Type}{c:d->d->Int}(h:g00 c){f g:List d}(i:Asc c f)(j:Asc c g)(o:∀ x,x∈f↔x∈g):f=g:=by
 have k:∀ {l:List d},Asc c l->l.Nodup:=λm=>m.imp λ{a b} n e=>by rw[e,h.refl]at n;omega
 refine S03 (R:=λa b=>c a b<0) (λx y p q=>?_) ((List.perm_ext_iff_of_nodup (k i) (k j)).2 o) i j
 have:=h.anti x y
 omega
theorem J09{a:Type}(eq:a->a->Bool):∀(l:List a) (p:a),(L00 eq p l).Sublist l
 | [],_ => .slnil
 |y::l,p=>by
  unfold L00
  cases eq y p
  ·exact(J09 eq l y).cons_cons y
  ·exact(J09 eq l y).cons y
theorem u0e{d:Type}{c:d->d->Int}(h:g00 c){eq:d->d->Bool}(g:∀ x y,eq x y=true↔x=y):∀(l:List d) (p:d),(p::l).Pairwise (λa b=>ltOf c b a=false)->Asc c (p::L00 eq p l)
 | [],p,_=>by simp[L00,Asc]
 |y::l,p,o=>by
  obtain⟨m,n⟩:=List.pairwise_cons.1 o
  have f:=u0e h g l y n
  unfold L00
  cases hc:eq y p with
  |true=>rw[(g _ _).1 hc]at f ⊢;exact f
  |false =>
   show Asc c (p::y::L00 eq y l)
   have k:c p y<0:=by
    have:=m y mS
    simp only[ltOf,decide_eq_false_iff_not]at this
    have a:=h.anti p y
    rcases Int.lt_or_le (c p y) 0 with j|j
    ·exact j
    ·have e:=h.eq p y (by omega)
     have:=(g y p).2 e.symm
     rw[hc]at this;cases this
   refine List.pairwise_cons.2 ⟨λz i=>?_,f⟩
   rcases List.mem_cons.1 i with rfl|i
   ·exact k
   ·exact h.trans _ _ _ k ((List.pairwise_cons.1 f).1 z i)
theorem v0e{a:Type}{eq:a->a->Bool}(b:∀ x y,eq x y=true↔x=y)(x:a):∀(l:List a) (p:a),x∈p::L00 eq p l↔x∈p::l
 | [],p=>by simp[L00]
 |y::l,p=>by
  have c:=v0e b x l y
  unfold L00
  cases hc:eq y p with
  |true =>
   have e:=(b _ _).1 hc
   subst e
   simp only[cond_true,List.mem_cons]at *
   rw[c];simp
  |false=>simp only[cond_false,List.mem_cons]at *;rw[c]
def v0j{a:Type}(b:a->a->Int)(eq:a->a->Bool)(l:List a):List a:=D03 eq (q06 b l)
theorem n0n{a:Type}{b:a->a->Int}(h:g00 b){eq:a->a->Bool}(c:∀ x y,eq x y=true↔x=y)(l:List a):Asc b (v0j b eq l):=by
 have:=D05 h.cmp.swo l
 unfold v0j D03
 cases hs:q06 b l with
 |nil=>exact .nil
 |cons x m=>rw[hs]at this;exact u0e h c m x this
theorem o0n{a:Type}{b:a->a->Int}{eq:a->a->Bool}(c:∀ x y,eq x y=true↔x=y)(x:a)(l:List a):x∈v0j b eq l↔x∈l:=by
 rw[←(F04 b l).mem_iff]
 unfold v0j D03
 cases q06 b l with
 |nil=>rfl
 |cons y m=>exact v0e c x m y
def t00{a:Type}(b:a->a->Int)(x:a):List a->List a
 | []=>[x]
 |y::l=>if b x y<0 then x::y::l else if b x y=0 then y::l else y::t00 b x l
theorem U07{a:Type}{b:a->a->Int}(h:g00 b)(x z:a):∀ l,z∈t00 b x l↔z=x∨z∈l
 | []=>by simp[t00]
 |y::l=>by
  have c:=U07 h x z l
  unfold t00
  split
  ·simp
  ·split
   ·rename_i e;rw[h.eq _ _ e];simp
   ·simp only[List.mem_cons,c];constructor<;>(rintro(e|e|e)<;>simp[e])
theorem w0j{d:Type}{b:d->d->Int}(h:g00 b)(x:d):∀ l,Asc b l->Asc b (t00 b x l)
 | [],_=>by simp[t00,Asc]
 |y::l,c=>by
  obtain⟨e,g⟩:=List.pairwise_cons.1 c
  unfold t00
  split
  ·rename_i f
   refine List.pairwise_cons.2 ⟨λz a=>?_,c⟩
   rcases List.mem_cons.1 a with rfl|a
   ·exact f
   ·exact h.trans _ _ _ f (e z a)
  ·split
   ·exact c
   ·refine List.pairwise_cons.2 ⟨λz a=>?_,w0j h x l g⟩
    rcases(U07 h x z l).1 a with rfl|a
    ·have:=h.anti z y;omega
    ·exact e z a
def w5{a:Type}(b:a->a->Int):List a->List a->List a
 |l,[]=>l
 |l,x::r=>w5 b (t00 b x l) r
theorem R02{c:Type}{a:c->c->Int}(h:g00 a):∀(r l:List c),Asc a l->Asc a (w5 a l r)
 | [],_,b=>b
 |x::r,l,b=>R02 h r _ (w0j h x l b)
theorem w9{c:Type}{d:c->c->Int}(h:g00 d)(z:c):∀(r l:List c),z∈w5 d l r↔z∈l∨z∈r
 | [],l=>by simp[w5]
 |x::r,l=>by
  rw[w5,w9 h z r,U07 h]
  simp only[List.mem_cons]
  by_cases a:z=x<;>by_cases b:z∈l<;>simp[a,b]
theorem x0j{a:Type}{b:a->a->Int}(h:g00 b){eq:a->a->Bool}(c:∀ x y,eq x y=true↔x=y)(l r:List a)(d:∀ x,x∈l↔x∈r):v0j b eq l=w5 b [] r :=
 I09 h (n0n h c l) (R02 h r [] .nil) λx=>by rw[o0n c,w9 h,d];simp
end Go.H
