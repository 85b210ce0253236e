/- Plain laws: comparisons that order, strictly ordered lists, and what a sort without doubles is. -/
import Derived.Test.YtmgikbbmpnbbjaaGreatH34
import Derived.Test.YtmgikbbmpnbbjaaGreatH33
open Go.Sort Go.Proofs
namespace Go.H
set_option linter.unusedVariables false
theorem R00.cmp{f:Type}{b:f->f->Int}(h:R00 b):Cmp b:=by
 refine⟨⟨λx=>?_,λx y z c a=>?_,λx y z c a=>?_⟩,λx y c a=>?_⟩
 ·simp[ltOf,h.refl]
 ·simp only[ltOf,decide_eq_true_eq]at *;exact h.trans x y z c a
 ·simp only[ltOf,decide_eq_false_iff_not]at *
  intro d
  have g:=h.anti x y
  rcases Int.lt_or_le (b y x) 0 with e|e
  ·exact a (h.trans y x z e d)
  ·have:b x y=0:=by omega
   rw[h.eq _ _ this]at d
   exact a d
 ·simp only[ltOf,decide_eq_false_iff_not]at *
  have g:=h.anti x y
  exact h.eq x y (by omega)
def C01{a:Type}(eq:a->a->Bool):a->List a->List a
 |_,[]=>[]
 |p,y::l=>bif eq y p then C01 eq y l else y::C01 eq y l
def k04{a:Type}(eq:a->a->Bool):List a->List a
 | []=>[]
 |x::l=>x::C01 eq x l
def Asc{c:Type}(d:c->c->Int)(l:List c):Prop:=l.Pairwise λa b=>d a b<0
theorem T07{d:Type}{c:d->d->Int}(h:R00 c){f g:List d}(i:Asc c f)(j:Asc c g)(n:∀ x,x∈f↔x∈g):f=g:=by
 have k:∀ {l:List d},Asc c l->l.Nodup:=λh'=>h'.imp λ{a b} m e=>by rw[e,h.refl]at m;omega
 refine C04 (R:=λa b=>c a b<0) (λx y o p=>?_) ((List.perm_ext_iff_of_nodup (k i) (k j)).2 n) i j
 have:=h.anti x y
 omega
theorem K0a{a:Type}(eq:a->a->Bool):∀(l:List a) (p:a),(C01 eq p l).Sublist l
 | [],_ => .slnil
 |y::l,p=>by
  unfold C01
  cases eq y p
  ·exact(K0a eq l y).cons_cons y
  ·exact(K0a eq l y).cons y
theorem p0f{d:Type}{c:d->d->Int}(h:R00 c){eq:d->d->Bool}(g:∀ x y,eq x y=true↔x=y):∀(l:List d) (p:d),(p::l).Pairwise (λa b=>ltOf c b a=false)->Asc c (p::C01 eq p l)
 | [],p,_=>by simp[C01,Asc]
 |y::l,p,o=>by
  obtain⟨m,n⟩:=List.pairwise_cons.1 o
  have f:=p0f h g l y n
  unfold C01
  cases hc:eq y p with
  |true=>rw[(g _ _).1 hc]at f ⊢;exact f
  |false =>
   show Asc c (p::y::C01 eq y l)
   have k:c p y<0:=by
    have:=m y mS
    simp only[ltOf,decide_eq_false_iff_not]at this
    have a:=h.anti p y
    rcases Int.lt_or_le (c p y) 0 with j|j
    ·exact j
    ·have e:=h.eq p y (by omega)
     have:=(g y p).2 e.symm
     rw[hc]at this;cases this
   refine List.pairwise_cons.2 ⟨λz i=>?_,f⟩
   rcases List.mem_cons.1 i with rfl|i
   ·exact k
   ·exact h.trans _ _ _ k ((List.pairwise_cons.1 f).1 z i)
theorem q0f{a:Type}{eq:a->a->Bool}(b:∀ x y,eq x y=true↔x=y)(x:a):∀(l:List a) (p:a),x∈p::C01 eq p l↔x∈p::l
 | [],p=>by simp[C01]
 |y::l,p=>by
  have c:=q0f b x l y
  unfold C01
  cases hc:eq y p with
  |true =>
   have e:=(b _ _).1 hc
   subst e
   simp only[cond_true,List.mem_cons]at *
   rw[c];simp
  |false=>simp only[cond_false,List.mem_cons]at *;rw[c]
def t0k{a:Type}(b:a->a->Int)(eq:a->a->Bool)(l:List a):List a:=k04 eq (h07 b l)
theorem C0o{a:Type}{b:a->a->Int}(h:R00 b){eq:a->a->Bool}(c:∀ x y,eq x y=true↔x=y)(l:List a):Asc b (t0k b eq l):=by
 have:=A06 h.cmp.swo l
 unfold t0k k04
 cases hs:h07 b l with
 |nil=>exact .nil
 |cons x m=>rw[hs]at this;exact p0f h c m x this
theorem D0o{a:Type}{b:a->a->Int}{eq:a->a->Bool}(c:∀ x y,eq x y=true↔x=y)(x:a)(l:List a):x∈t0k b eq l↔x∈l:=by
 rw[←(A05 b l).mem_iff]
 unfold t0k k04
 cases h07 b l with
 |nil=>rfl
 |cons y m=>exact q0f c x m y
def x00{a:Type}(b:a->a->Int)(x:a):List a->List a
 | []=>[x]
 |y::l=>if b x y<0 then x::y::l else if b x y=0 then y::l else y::x00 b x l
theorem N04{a:Type}{b:a->a->Int}(h:R00 b)(x z:a):∀ l,z∈x00 b x l↔z=x∨z∈l
 | []=>by simp[x00]
 |y::l=>by
  have c:=N04 h x z l
  unfold x00
  split
  ·simp
  ·split
   ·rename_i e;rw[h.eq _ _ e];simp
   ·simp only[List.mem_cons,c];constructor<;>(rintro(e|e|e)<;>simp[e])
theorem T08{d:Type}{b:d->d->Int}(h:R00 b)(x:d):∀ l,Asc b l->Asc b (x00 b x l)
 | [],_=>by simp[x00,Asc]
 |y::l,c=>by
  obtain⟨e,g⟩:=List.pairwise_cons.1 c
  unfold x00
  split
  ·rename_i f
   refine List.pairwise_cons.2 ⟨λz a=>?_,c⟩
   rcases List.mem_cons.1 a with rfl|a
   ·exact f
   ·exact h.trans _ _ _ f (e z a)
  ·split
   ·exact c
   ·refine List.pairwise_cons.2 ⟨λz a=>?_,T08 h x l g⟩
    rcases(N04 h x z l).1 a with rfl|a
    ·have:=h.anti z y;omega
    ·exact e z a
def l7{a:Type}(b:a->a->Int):List a->List a->List a
 |l,[]=>l
 |l,x::r=>l7 b (x00 b x l) r
theorem A03{c:Type}{a:c->c->Int}(h:R00 a):∀(r l:List c),Asc a l->Asc a (l7 a l r)
 | [],_,b=>b
 |x::r,l,b=>A03 h r _ (T08 h x l b)
theorem o9{c:Type}{d:c->c->Int}(h:R00 d)(z:c):∀(r l:List c),z∈l7 d l r↔z∈l∨z∈r
 | [],l=>by simp[l7]
 |x::r,l=>by
  rw[l7,o9 h z r,N04 h]
  simp only[List.mem_cons]
  by_cases a:z=x<;>by_cases b:z∈l<;>simp[a,b]
theorem u0k{a:Type}{b:a->a->Int}(h:R00 b){eq:a->a->Bool}(c:∀ x y,eq x y=true↔x=y)(l r:List a)(d:∀ x,x∈l↔x∈r):t0k b eq l=l7 b [] r :=
 T07 h (C0o h c l) (A03 h r [] .nil) λx=>by rw[D0o c,o9 h,d];simp
end Go.H
