/- Plain laws: comparisons that order, strictly ordered lists, and what a sort without doubles is. -/
import Derived.Test.YthkpbcnhdhfifaaGreatH34
import Derived.Test.YthkpbcnhdhfifaaGreatH33
open Go.Sort Go.Proofs
namespace Go.H
set_option linter.all false
theorem Y02.cmp{f:Type}{b:f->f->Int}(h:Y02 b):Cmp b:=by
 refine⟨⟨λx=>?_,λx y z c a=>?_,λx y z c a=>?_⟩,λx y c a=>?_⟩;·simp[ltOf,h.refl]
 ·simp only[ltOf,decide_eq_true_eq]at *;exact h.trans x y z c a
 ·simp only[ltOf,decide_eq_false_iff_not]at *;intro d;have g:=h.anti x y;rcases Int.lt_or_le (b y x) 0 with e|e;·exact a (h.trans y x z e d)
  have:b x y=0:=oM;rw[h.eq _ _ this]at d;exact a d
 simp only[ltOf,decide_eq_false_iff_not]at *;have g:=h.anti x y;exact h.eq x y oM
def G03{a:Type}(eq:a->a->Bool):a->List a->List a
 |_,[]=>[]
 |p,y::l=>bif eq y p then G03 eq y l else y::G03 eq y l
def V07{a:Type}(eq:a->a->Bool):List a->List a
 | []=>[]
 |x::l=>x::G03 eq x l
def Asc{c:Type}(d:c->c->Int)(l:List c):Prop:=l.Pairwise λa b=>d a b<0
theorem C0b{d:Type}{c:d->d->Int}(h:Y02 c){f g:List d}(i:Asc c f)(j:Asc c g)(n:∀ x,x∈f↔x∈g):f=g:=by
 have k:∀ {l:List d},Asc c l->l.Nodup:=λh'=>h'.imp λ{a b} m e=>by rw[e,h.refl]at m;omega
 refine I07 (R:=λa b=>c a b<0) (λx y o p=>?_) ((List.perm_ext_iff_of_nodup (k i) (k j)).2 n) i j;have:=h.anti x y;omega
theorem s0f{a:Type}(eq:a->a->Bool):∀(l:List a) (p:a),(G03 eq p l).Sublist l
 | [],_ => .slnil
 |y::l,p=>by
  unfold G03;cases eq y p;·exact(s0f eq l y).cons_cons y
  exact(s0f eq l y).cons y
theorem v0k{d:Type}{c:d->d->Int}(h:Y02 c){eq:d->d->Bool}(g:∀ x y,eq x y=true↔x=y):∀(l:List d) (p:d),(p::l).Pairwise (λa b=>ltOf c b a=false)->Asc c (p::G03 eq p l)
 | [],p,_=>by simp[G03,Asc]
 |y::l,p,o=>by
  obtain⟨m,n⟩:=List.pairwise_cons.1 o;have f:=v0k h g l y n;unfold G03;cases hc:eq y p
  ·show Asc c (p::y::G03 eq y l);have k:c p y<0:=by
    have:=m y mS;simp only[ltOf,decide_eq_false_iff_not]at this;have a:=h.anti p y;rcases Int.lt_or_le (c p y) 0 with j|j;·exact j
    have e:=h.eq p y oM;have:=(g y p).2 e.symm;rw[hc]at this;cases this
   refine List.pairwise_cons.2 ⟨λz i=>?_,f⟩;rcases List.mem_cons.1 i with rfl|i;·exact k
   exact h.trans _ _ _ k ((List.pairwise_cons.1 f).1 z i)
  rw[(g _ _).1 hc]at f ⊢;exact f
theorem w0k{a:Type}{eq:a->a->Bool}(b:∀ x y,eq x y=true↔x=y)(x:a):∀(l:List a) (p:a),x∈p::G03 eq p l↔x∈p::l
 | [],p=>by simp[G03]
 |y::l,p=>by
  have c:=w0k b x l y;unfold G03;cases hc:eq y p;·simp only[cond_false,List.mem_cons]at *;rw[c]
  have e:=(b _ _).1 hc;subst e;simp only[cond_true,List.mem_cons]at *;rw[c];simp
def w0q{a:Type}(b:a->a->Int)(eq:a->a->Bool)(l:List a):List a:=V07 eq (B0b b l)
theorem B0v{a:Type}{b:a->a->Int}(h:Y02 b){eq:a->a->Bool}(c:∀ x y,eq x y=true↔x=y)(l:List a):Asc b (w0q b eq l):=by
 have:=I09 h.cmp.swo l;unfold w0q V07;cases hs:B0b b l with
 |nil=>exact .nil
 |cons x m=>rw[hs]at this;exact v0k h c m x this
theorem C0v{a:Type}{b:a->a->Int}{eq:a->a->Bool}(c:∀ x y,eq x y=true↔x=y)(x:a)(l:List a):x∈w0q b eq l↔x∈l:=by
 rw[←(J08 b l).mem_iff];unfold w0q V07;cases B0b b l with
 |nil=>rfl
 |cons y m=>exact w0k c x m y
def D02{a:Type}(b:a->a->Int)(x:a):List a->List a
 | []=>[x]
 |y::l=>if b x y<0 then x::y::l else if b x y=0 then y::l else y::D02 b x l
theorem O0c{a:Type}{b:a->a->Int}(h:Y02 b)(x z:a):∀ l,z∈D02 b x l↔z=x∨z∈l
 | []=>by simp[D02]
 |y::l=>by
  have c:=O0c h x z l;unfold D02;split;·simp
  split;·rename_i e;rw[h.eq _ _ e];simp
  simp only[List.mem_cons,c];constructor<;>(rintro(e|e|e)<;>simp[e])
theorem x0q{d:Type}{b:d->d->Int}(h:Y02 b)(x:d):∀ l,Asc b l->Asc b (D02 b x l)
 | [],_=>by simp[D02,Asc]
 |y::l,c=>by
  obtain⟨e,g⟩:=List.pairwise_cons.1 c;unfold D02;split
  ·rename_i f;refine List.pairwise_cons.2 ⟨λz a=>?_,c⟩;rcases List.mem_cons.1 a with rfl|a;·exact f
   exact h.trans _ _ _ f (e z a)
  split;·exact c
  refine List.pairwise_cons.2 ⟨λz a=>?_,x0q h x l g⟩;rcases(O0c h x z l).1 a with rfl|a;·have:=h.anti z y;omega
  exact e z a
def H4{a:Type}(b:a->a->Int):List a->List a->List a
 |l,[]=>l
 |l,x::r=>H4 b (D02 b x l) r
theorem s03{c:Type}{a:c->c->Int}(h:Y02 a):∀(r l:List c),Asc a l->Asc a (H4 a l r)
 | [],_,b=>b
 |x::r,l,b=>s03 h r _ (x0q h x l b)
theorem O4{c:Type}{d:c->c->Int}(h:Y02 d)(z:c):∀(r l:List c),z∈H4 d l r↔z∈l∨z∈r
 | [],l=>by simp[H4]
 |x::r,l=>by rw[H4,O4 h z r,O0c h];simp only[List.mem_cons];by_cases a:z=x<;>by_cases b:z∈l<;>simp[a,b]
theorem y0q{a:Type}{b:a->a->Int}(h:Y02 b){eq:a->a->Bool}(c:∀ x y,eq x y=true↔x=y)(l r:List a)(d:∀ x,x∈l↔x∈r):w0q b eq l=H4 b [] r :=
 C0b h (B0v h c l) (s03 h r [] .nil) λx=>by rw[C0v c,O4 h,d];simp
end Go.H
