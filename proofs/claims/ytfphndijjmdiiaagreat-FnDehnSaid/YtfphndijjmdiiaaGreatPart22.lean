/- Texts of the claim, joined: Plain laws: Dehn's algorithm on products of few conjugates o and others. -/
import Derived.Test.YtfphndijjmdiiaaGreatPart21
import Derived.Test.YtfphndijjmdiiaaGreatPart18
import Derived.Test.YtfphndijjmdiiaaGreatPart20
import Derived.Test.YtfphndijjmdiiaaGreatPart17
import Derived.Test.YtfphndijjmdiiaaGreatH36
namespace Go.Proofs.YtfphndijjmdiiaaGreat
open Go.H
set_option linter.unusedVariables false
set_option linter.unusedSimpArgs false
set_option maxRecDepth 20000
theorem I0l(x y:Int)(a b:List Int):cpl (x::a) (y::b)=bif decide (x=y)then cpl a b+1 else 0:=rfl
theorem d0i{a e:List Int}(h:Red (e.reverse++a)=true):t7 a e=e.reverse++a:=by
 have b:=t06 _ h
 rw[List.reverse_append,List.reverse_reverse,b00,t06 a ((o0e _ _).1 h).2.1]at b
 exact b
theorem D0t:∀(e d:List Int),Lw d->Lw e->Red d=true->Red e.reverse=true->t7 d e=(e.drop (cpl (d.map λx => -x) e)).reverse++d.drop (cpl (d.map λx => -x) e)
 | [],d,_,_,_,_=>by
  have:cpl (d.map λx => -x) []=0:=by have:=(B03 (d.map λx => -x) []).2;simpa using this
  rw[this];rfl
 |x::e,[],l,j,_,h=>by
  show t7 [] (x::e)=(x::e).reverse ++ []
  exact d0i (by rw[List.append_nil];exact h)
 |x::e,m::d,l,j,o,h=>by
  have f:=l m mS
  have v:=j x mS
  have u:Lw d:=λy n=>l y (mC _ n)
  have t:Lw e:=λy n=>j y (mC _ n)
  by_cases c:x = -m
  ·have p:h02 m x=true:=(k03 f.1 f.2).2 c
   have q:C4 (m::d) x=d:=by
    unfold C4
    simp only[p,cond_true,if_true]
   have g:cpl ((m::d).map λx => -x) (x::e)=cpl (d.map λx => -x) e+1:=by
    show cpl (-m::d.map λx => -x) (x::e)=_
    rw[I0l,decide_eq_true c.symm,cond_true]
   rw[g]
   show t7 (C4 (m::d) x) e=_
   rw[q,D0t e d u t (a0g o) (by rw[List.reverse_cons]at h;exact((o0e _ _).1 h).1)]
   rfl
  ·have g:cpl ((m::d).map λx => -x) (x::e)=0:=by
    show cpl (-m::d.map λx => -x) (x::e)=_
    unfold cpl
    rw[decide_eq_false (λk=>c k.symm),cond_false]
   rw[g]
   refine d0i ((o0e _ _).2 ⟨h,o,λa b i s=>?_⟩)
   rw[List.reverse_cons,List.getLast?_append]at i
   simp only[List.getLast?_singleton,Option.some_or,Option.some.injEq]at i
   obtain rfl:=oJ s
   subst i
   exact Bool.eq_false_iff.2 λh=>c ((k03 f.1 f.2).1 h)
theorem s0r{w:List Int}(h:rd w=w):Red w.reverse=true/\t7 [] w=w.reverse:=by
 have a:=W03 w [] rfl
 have b:t7 [] w=w.reverse:=by
  rw[←List.reverse_reverse (t7 [] w)]
  show(rd w).reverse=_
  rw[h]
 rw[b]at a
 exact⟨a,b⟩
theorem V0s{c e:List Int}(b:Lw c)(i:Lw e)(k:rd c=c)(l:rd e=e):rd (c++e)=c.take (c.length-cpl (inv c) e)++e.drop (cpl (inv c) e):=by
 obtain⟨f,g⟩:=s0r k
 have h:=(s0r l).1
 have a:=D0t e c.reverse (λx j=>b x (List.mem_reverse.1 j)) i f h
 have d:(c.reverse.map λx => -x)=inv c:=by
  rw[A0j b]
  unfold neW
  rw[List.map_reverse]
 rw[d]at a
 unfold rd
 rw[b00,g,a,List.reverse_append,List.reverse_reverse,List.reverse_drop,List.reverse_reverse,List.length_reverse]
theorem l0o:∀(a d y:List Int) (n:Nat),cpl a d<n->n<=d.length->cpl a (d.take n++y)=cpl a d
 | [],d,y,n,_,_=>by
  have e:=(B03 [] (d.take n++y)).1
  have f:=(B03 [] d).1
  simp only[List.length_nil]at e f
  omega
 |x::a,[],y,n,h,b=>by
  simp only[List.length_nil]at b
  omega
 |x::a,z::d,y,0,h,b=>by omega
 |x::a,z::d,y,n+1,h,b=>by
  show cpl (x::a) (z::(d.take n++y))=_
  unfold cpl at h ⊢
  by_cases c:x=z
  ·rw[decide_eq_true c,cond_true]at h ⊢
   rw[l0o a d y n (by omega) (by simpa using b)]
   rw[cond_true]
  ·rw[decide_eq_false c];rfl
def pl(L:Nat)(c:List Int):Nat:=(c.length-L) / 2
structure Cj (set:List (List Int)) (L H:Nat) (c:List Int):Prop where
 lw:Lw c
 rd:rd c=c
 len:c.length=2*pl L c+L
 s:(c.drop (pl L c)).take L∈set
 eq:c=c.take (pl L c)++(c.drop (pl L c)).take L++inv (c.take (pl L c))
 no:∀ k,k<pl L c->∀ t∈set,t.take H≠(c.drop k).take H
 one:∀ t∈set,t.take H=((c.drop (pl L c)).take L).take H->t=(c.drop (pl L c)).take L
def k0u(set:List (List Int))(L H:Nat)(c:List Int):Bool :=
 (c.all λx=>decide (x≠0)&&(decide (-3<=x)&&decide (x<=3)))&&(decide (rd c=c)&&(decide (c.length=2*pl L c+L)&&(decide ((c.drop (pl L c)).take L∈set)&&(decide (c=c.take (pl L c)++(c.drop (pl L c)).take L++inv (c.take (pl L c))) &&
  ((List.range (pl L c)).all (λk=>set.all λt => !decide (t.take H=(c.drop k).take H))&&set.all λt => !decide (t.take H=((c.drop (pl L c)).take L).take H) || decide (t=(c.drop (pl L c)).take L))))))
theorem W0s{set:List (List Int)}{L H:Nat}{c:List Int}(h:k0u set L H c=true):Cj set L H c:=by
 unfold k0u at h
 simp only[Bool.and_eq_true,decide_eq_true_eq]at h
 obtain⟨b,d,f,g,i,j,l⟩:=h
 refine⟨λx n=>?_,d,f,g,i,λk m t a e=>?_,λt a e=>?_⟩
 ·have:=List.all_eq_true.1 b x n
  simp only[Bool.and_eq_true,decide_eq_true_eq]at this
  exact⟨⟨⟨by omega,by omega⟩,by omega⟩,this.1⟩
 ·have:=List.all_eq_true.1 (List.all_eq_true.1 j k (List.mem_range.2 m)) t a
  rw[decide_eq_true e]at this
  cases this
 ·have:=List.all_eq_true.1 l t a
  rw[decide_eq_true e]at this
  simpa using this
def Pr2(L H:Nat)(c d:List Int):Prop:=d≠inv c->cpl (inv c) d<pl L d+H/\cpl (inv c) d+H<=pl L c+L
def Chn:List (List Int)->Prop
 |c::d::r=>d≠inv c/\Chn (d::r)
 |_=>True
theorem Chn.tail{c:List Int}{t:List (List Int)}(h:Chn (c::t)):Chn t:=by
 cases t with
 |nil=>exact trivial
 |cons d r=>exact h.2
theorem W0m{a b:List Int}(h:Eqv a b):rd a=rd b:=by
 unfold rd
 rw[h.e [] rfl Lw.nil]
theorem U0c{a b:List Int}(c:Lw a)(d:Lw b):rd (a++rd b)=rd (a++b):=W0m ((Eqv.refl c).app (a0o d))
section
variable {set:List (List Int)} {L H:Nat} {C:List (List Int)} (hH:H<=L) (h1:∀ c∈C,Cj set L H c) (h2:∀ c∈C,∀ d∈C,Pr2 L H c d)
include hH h1 h2
theorem V0c:∀(t:List (List Int)) (c:List Int),(∀ d∈c::t,d∈C)->Chn (c::t)->∃ y,rd (c::t).flatten=c.take (pl L c+H)++y
 | [],c,a,_=>by
  have:=(h1 c (a c mS)).rd
  refine⟨c.drop (pl L c+H),?_⟩
  rw[List.flatten_cons,List.flatten_nil,List.append_nil,this,List.take_append_drop]
 |d::t,c,a,i=>by
  have h:=a c mS
  have j:=a d (mC _ mS)
  have b:=h1 c h
  have n:=h1 d j
  obtain⟨y,m⟩:=V0c t d (λx f=>a x (mC _ f)) i.tail
  have g:Lw (d::t).flatten:=s04 λx f=>(h1 x (a x (mC _ f))).lw
  obtain⟨o,s⟩:=h2 c h d j i.1
  have p:=n.len
  have q:=b.len
  have k:cpl (inv c) (rd (d::t).flatten)=cpl (inv c) d:=by
   rw[m]
   exact l0o _ _ _ _ o (by omega)
  have e:=V0s b.lw g.rd b.rd (i07 _)
  rw[k,U0c b.lw g]at e
  have l:c.take (c.length-cpl (inv c) d)=c.take (pl L c+H)++(c.take (c.length-cpl (inv c) d)).drop (pl L c+H):=by
   have:=List.take_append_drop (pl L c+H) (c.take (c.length-cpl (inv c) d))
   rw[List.take_take,show min (pl L c+H) (c.length-cpl (inv c) d)=pl L c+H by omega]at this
   exact this.symm
  rw[l,List.append_assoc]at e
  exact⟨_,e⟩
end
theorem q0g{set:List (List Int)}{x:List Int}:∀ {d k:Nat} {y:List Int},i9 set x d k=some y->∃ i,(k<=i/\i<k+d)/\Q05 x i set=some y/\∀ j,k<=j->j<i->Q05 x j set=none
 |0,k,y,h=>by cases h
 |d+1,k,y,h=>by
  unfold i9 at h
  cases hh:Q05 x k set with
  |some z =>
   rw[hh]at h
   obtain rfl:=oJ h
   exact⟨k,⟨Nat.le_refl _,by omega⟩,hh,λj b a=>by omega⟩
  |none =>
   rw[hh]at h
   obtain⟨i,g,e,f⟩:=q0g h
   refine⟨i,⟨by omega,by omega⟩,e,λj b a=>?_⟩
   by_cases c:j=k
   ·rw[c];exact hh
   ·exact f j (by omega) a
theorem e0i{c y:List Int}{n i m:Nat}(h:i+m<=n)(a:n<=c.length):((c.take n++y).drop i).take m=(c.drop i).take m:=by
 rw[List.drop_append_of_le_length (by rw[List.length_take];omega),List.take_append_of_le_length (by rw[List.length_drop,List.length_take];omega),List.drop_take,List.take_take,show min m (n-i)=m by omega]
theorem t0r{a b:List Int}{n:Nat}(h:n<=cpl a b):a.take n=b.take n:=by
 have:=congrArg (List.take n) (n0g a b)
 rwa [List.take_take,List.take_take,show min n (cpl a b)=n by omega]at this
theorem l0u{a b:List Int}{n:Nat}(h:a.take n=b.take n)(d:n<=a.length):n<=cpl a b:=by
 have c:=x06 (a.take n) (a.drop n) (b.drop n)
 rw[List.take_append_drop,h,List.take_append_drop,←h,List.length_take]at c
 omega
theorem f0i{set:List (List Int)}{L H:Nat}(ae:H<=L)(af:L<2*H)(ag:2*H<=L+2)(D:∀ e∈set,e.length=L){c f x y:List Int}(k:Cj set L H c)(j:Lw f)(E:x=rd (c++f))(m:x=c.take (pl L c+H)++y):
  i9 set x x.length 0≠none/\∀ z,i9 set x x.length 0=some z->z=rd f:=by
 have ak:=k.len
 have al:pl L c+H<=x.length:=by rw[m,List.length_append,List.length_take];omega
 have X:(x.drop (pl L c)).take H=((c.drop (pl L c)).take L).take H:=by
  rw[m,e0i (by omega) (by omega),List.take_take,show min H L=H by omega]
 have ah:H<=cpl (x.drop (pl L c)) ((c.drop (pl L c)).take L):=l0u X (by rw[List.length_drop];omega)
 have an:=D _ k.s
 refine⟨λC=>?_,λz Y=>?_⟩
 ·have:=R0c C (pl L c) (Nat.zero_le _) (by omega) _ k.s
  omega
 ·obtain⟨i,ai,S,T⟩:=q0g Y
  obtain⟨e,w,ad,U⟩:=S0c S
  have am:=D e w
  have aj:i<=pl L c:=by
   by_cases d:i<=pl L c
   ·exact d
   ·have:=Q0c (T (pl L c) (Nat.zero_le _) (by omega)) _ k.s
    omega
  have p:=t0r (a:=x.drop i) (b:=e) (n:=H) (by omega)
  rw[m,e0i (by omega) (by omega)]at p
  have V:i=pl L c:=by
   by_cases d:i=pl L c
   ·exact d
   ·exact absurd p.symm (k.no i (by omega) e w)
  subst V
  have es:e=(c.drop (pl L c)).take L:=k.one e w (by rw[←p,List.take_take,show min H L=H by omega])
  have W:x.take (pl L c)=c.take (pl L c):=by
   rw[m,List.take_append_of_le_length (by rw[List.length_take];omega),List.take_take,show min (pl L c) (pl L c+H)=pl L c by omega]
  have v:=k.eq
  have o:=k.lw
  have h:Lw e:=by rw[es];exact(o.drop _).take _
  rw[←es]at v
  have ab:Lw x:=by rw[E];exact(o.app j).rd
  have l:=z0j x (pl L c) e
  rw[U]
  unfold B05
  rw[W]at l ⊢
  generalize C:cpl (x.drop (pl L c)) e=n at l ⊢
  have A:Lw (x.drop (pl L c+n)):=ab.drop _
  generalize x.drop (pl L c+n)=B at l A ⊢
  have g:Lw (c.take (pl L c)):=o.take _
  generalize c.take (pl L c)=u at v l g ⊢
  have G:Lw (e.take n):=h.take _
  have Z:Lw (e.drop n):=h.drop _
  have R:inv e=inv (e.drop n)++inv (e.take n):=by
   have:=r0b (e.take n) (e.drop n)
   rwa [List.take_append_drop]at this
  have F:Eqv x (c++f):=by rw[E];exact a0o (o.app j)
  rw[l,v]at F
  have aa:Lw (u++inv e++inv u):=(g.app h.inv).app g.inv
  have ac:=(Eqv.refl aa).app F
  have I:=(Eqv.refl (g.app h.inv)).app ((n0b g).app (Eqv.refl (G.app A)))
  have J:=(Eqv.refl (g.app Z.inv)).app ((n0b G).app (Eqv.refl A))
  have K:Eqv (u++inv e++inv u++(u++e.take n++B)) (u++inv (e.drop n)++B):=by
   have q:u++inv e++inv u++(u++e.take n++B)=u++inv e++(inv u++u++(e.take n++B)):=by simp
   have t:u++inv e++([]++(e.take n++B))=u++inv (e.drop n)++(inv (e.take n)++e.take n++B):=by rw[R];simp
   rw[q]
   refine I.trans ?_
   rw[t]
   simpa using J
  have M:=(Eqv.refl (g.app h.inv)).app ((n0b g).app (Eqv.refl (h.app (g.inv.app j))))
  have N:=(Eqv.refl g).app ((n0b h).app (Eqv.refl (g.inv.app j)))
  have O:=(m0b g).app (Eqv.refl j)
  have P:Eqv (u++inv e++inv u++(u++e++inv u++f)) f:=by
   have q:u++inv e++inv u++(u++e++inv u++f)=u++inv e++(inv u++u++(e++(inv u++f))):=by simp
   have t:u++inv e++([]++(e++(inv u++f)))=u++(inv e++e++(inv u++f)):=by simp
   have Q:u++([]++(inv u++f))=u++inv u++f:=by simp
   rw[q]
   refine M.trans ?_
   rw[t]
   refine N.trans ?_
   rw[Q]
   simpa using O
  exact W0m (K.symm.trans (ac.trans P))
theorem J0l{C:List (List Int)}(i:∀ c∈C,Lw c):∀(cs:List (List Int)),(∀ c∈cs,c∈C)->∃ ds,(∀ c∈ds,c∈C)/\Chn ds/\rd ds.flatten=rd cs.flatten
 | [],_=>⟨[],(λc j=>by cases j),trivial,rfl⟩
 |c::cs,h=>by
  have n:∀ d∈cs,d∈C:=λd b=>h d (mC _ b)
  have j:=h c mS
  obtain⟨ds,a,g,f⟩:=J0l i cs n
  have m:=i c j
  have q:Lw cs.flatten:=s04 λd b=>i d (n d b)
  have l:∀ es:List (List Int),(∀ d∈es,d∈C)->rd es.flatten=rd cs.flatten->rd (c::es).flatten=rd (c::cs).flatten:=λes p e=>by
   rw[List.flatten_cons,List.flatten_cons,←U0c m (s04 λd b=>i d (p d b)),e,U0c m q]
  match ds,a,g,f with
  | [],a,g,f=>exact⟨[c],(λd b=>by rw[List.mem_singleton.1 b];exact j),trivial,l [] a f⟩
  |d::r,a,g,f =>
   by_cases e:d=inv c
   ·have o:∀ x∈r,x∈C:=λx k=>a x (mC _ k)
    refine⟨r,o,g.tail,?_⟩
    rw[←l (d::r) a f,List.flatten_cons,List.flatten_cons,e]
    have s:Lw r.flatten:=s04 λx k=>i x (o x k)
    have:=(m0b m).app (Eqv.refl s)
    rw[List.append_assoc]at this
    exact(W0m this).symm
   ·exact⟨c::d::r,(λx k=>(List.mem_cons.1 k).elim (λe=>by rw[e];exact j) (a x)),⟨e,g⟩,l (d::r) a f⟩
theorem y0p{p:l0}{L H:Nat}(g:H<=L)(k:L<2*H)(l:2*H<=L+2)(m:∀ B∈O0 p,B.length=L){C:List (List Int)}(b:∀ c∈C,Cj (O0 p) L H c)(j:∀ c∈C,∀ d∈C,Pr2 L H c d)
  {cs:List (List Int)} (q:∀ c∈cs,c∈C) {w:List Int} (v:rd w=rd cs.flatten) (s:w.length<500):(Q4 p w).1 = []:=by
 refine o0g (Good:=λx=>∃ ds:List (List Int),(∀ c∈ds,c∈C)/\Chn ds/\x=rd ds.flatten) (λx i u=>?_) (λx y i h=>?_) ?_ s
 ·obtain⟨ds,a,e,rfl⟩:=i
  cases ds with
  |nil=>rfl
  |cons c t =>
   obtain⟨y,h⟩:=V0c g b j t c a e
   exact absurd u (f0i g k l m (b c (a c mS)) (s04 λd f=>(b d (a d (mC _ f))).lw) (by rw[List.flatten_cons]) h).1
 ·obtain⟨ds,a,e,rfl⟩:=i
  cases ds with
  |nil=>cases h
  |cons c t =>
   obtain⟨z,A⟩:=V0c g b j t c a e
   exact⟨t,(λd f=>a d (mC _ f)),e.tail,(f0i g k l m (b c (a c mS)) (s04 λd f=>(b d (a d (mC _ f))).lw) (by rw[List.flatten_cons]) A).2 y h⟩
 ·obtain⟨ds,a,e,n⟩:=J0l (λc o=>(b c o).lw) cs q
  exact⟨ds,a,e,by rw[v,n]⟩
set_option maxRecDepth 100000
def X0s(a:Int)(l:List (List Int)):List (List Int):=l.filterMap λw=>match w with
 |x::r=>if x=a then some r else none
 | []=>none
def u0r(b:List Int):Nat->List (List Int)->Bool
 |0,l=>Nat.ble l.length 1
 |n+1,l=>Nat.ble l.length 1 || (l.all (λw=>match w with|x::_=>decide (x∈b) | []=>false)&&b.all λa=>u0r b n (X0s a l))
theorem K0l{l:List (List Int)}(h:l.length<=1){R:List Int->List Int->Prop}:l.Pairwise R:=by
 match l,h with
 | [],_=>exact .nil
 | [a],_=>exact List.pairwise_singleton _ _
theorem L0l{i:List Int}{n:Nat}:∀(l:List (List Int)),(∀ w∈l,∃ x r,w=x::r/\x∈i)->(∀ a∈i,(X0s a l).Pairwise λe d=>cpl e d<n)->l.Pairwise λe d=>cpl e d<n+1
 | [],_,_ => .nil
 |w::l,f,h=>by
  have o:=L0l l (λv k=>f v (mC _ k)) λa j=>by
   have:=h a j
   unfold X0s at this ⊢
   rw[List.filterMap_cons]at this
   split at this
   ·exact this
   ·exact(List.pairwise_cons.1 this).2
  refine List.pairwise_cons.2 ⟨λd g=>?_,o⟩
  obtain⟨x,r,rfl,m⟩:=f w mS
  obtain⟨y,t,rfl,p⟩:=f d (mC _ g)
  rw[I0l]
  by_cases c:x=y
  ·rw[decide_eq_true c,cond_true]
   have b:=h x m
   unfold X0s at b
   rw[List.filterMap_cons]at b
   simp only[if_true]at b
   have:=(List.pairwise_cons.1 b).1 t (List.mem_filterMap.2 ⟨y::t,g,by simp[c]⟩)
   omega
  ·rw[decide_eq_false c,cond_false];omega
theorem m0o{f:List Int}:∀(n:Nat) (l:List (List Int)),u0r f n l=true->l.Pairwise λe d=>cpl e d<n
 |0,l,h=>K0l (by unfold u0r at h;exact Nat.le_of_ble_eq_true h)
 |n+1,l,h=>by
  unfold u0r at h
  rw[Bool.or_eq_true]at h
  rcases h with h|h
  ·exact K0l (Nat.le_of_ble_eq_true h)
  ·rw[Bool.and_eq_true]at h
   refine L0l l (λw c=>?_) λa b=>m0o n _ (List.all_eq_true.1 h.2 a b)
   have:=List.all_eq_true.1 h.1 w c
   match w,this with
   |x::r,this=>exact⟨x,r,rfl,of_decide_eq_true this⟩
theorem r0g{R:List Int->List Int->Prop}(m:∀ a b,R a b->R b a):∀ {l:List (List Int)},l.Pairwise R->∀ a∈l,∀ b∈l,a≠b->R a b
 | [],_,a,d,_,_,_=>by cases d
 |x::l,h,a,d,b,j,k=>by
  obtain⟨g,n⟩:=List.pairwise_cons.1 h
  rcases List.mem_cons.1 d with f|i
  ·rcases List.mem_cons.1 j with c|e
   ·exact absurd (f.trans c.symm) k
   ·rw[f];exact g b e
  ·rcases List.mem_cons.1 j with c|e
   ·rw[c];exact m _ _ (g a i)
   ·exact r0g m n a i b e k
def R0:List Int:=[1,1,2,1,2,2,1,-2,-2,-1,2,-1,-1,-2]
def R1:List Int:=[1,2,3,-1,-2,-3,1,1,2,2,3,3]
def L6:List Int:=[1,-1,2,-2,3,-3]
def wUp(d:List Int):List (List Int):=([[]]++(d.map λa=>[a])++(d.flatMap λa=>d.map λb=>[a,b])++(d.flatMap λa=>d.flatMap λb=>d.map λc=>[a,b,c])).filter λw=>Red w.reverse
def cjs(R:List Int)(a:List Int):List (List Int):=(wUp a).flatMap λu=>[j03 R u,j03 (inv R) u]
def Y0s(R:List Int)(a:List Int)(H n:Nat):Bool :=
 (cjs R a).all (k0u (y00 [R]) R.length H)&&(u0r a n (cjs R a)&&((wUp a).all (λu=>decide (inv (j03 R u)=j03 (inv R) u)&&decide (inv (j03 (inv R) u)=j03 R u))&&(y00 [R]).all λb=>decide (b.length=R.length)))
theorem m0u:Y0s R0 L4 8 7=true:=by decide +kernel
theorem n0u:Y0s R1 L6 7 6=true:=by decide +kernel
theorem n0o{i w:List Int}(h:w.length<=3)(e:∀ x∈w,x∈i)(k:Red w.reverse=true):w∈wUp i:=by
 unfold wUp
 refine List.mem_filter.2 ⟨?_,k⟩
 match w,h,e with
 | [],_,_=>simp
 | [a],_,e=>simp[e a]
 | [a,b],_,e =>
  have f:=e a (by simp)
  have g:=e b (by simp)
  simp[f,g]
 | [a,b,c],_,e =>
  have f:=e a (by simp)
  have g:=e b (by simp)
  have j:=e c (by simp)
  exact List.mem_append.2 (.inr (List.mem_flatMap.2 ⟨a,f,List.mem_flatMap.2 ⟨b,g,List.mem_map.2 ⟨c,j,rfl⟩⟩⟩))
 |a::b::c::d::r,h,_=>simp at h
theorem M0l{R g:List Int}{H n:Nat}(o:Y0s R g H n=true)(N:n<=H)(O:n+H<=R.length+1)(v:H<=R.length)(x:R.length<2*H)(y:2*H<=R.length+2){r:Int}(F:O1 (r,[R])=true){cs:List (List Int)}(z:∀ c∈cs,∃ u∈wUp g,c=j03 R u∨c=j03 (inv R) u)
  {w:List Int} (I:rd w=rd cs.flatten) (D:w.length<500):(Q4 (r,[R]) w).1 = []:=by
 unfold Y0s at o
 simp only[Bool.and_eq_true]at o
 obtain⟨J,K,L,M⟩:=o
 have j:=F0b F
 have C:∀ c∈cjs R g,Cj (O0 (r,[R])) R.length H c:=λc f=>by
  have k:=W0s (List.all_eq_true.1 J c f)
  exact⟨k.lw,k.rd,k.len,(j _).2 k.s,k.eq,λi m t p=>k.no i m t ((j t).1 p),λt p=>k.one t ((j t).1 p)⟩
 have m:∀ c∈cjs R g,inv c∈cjs R g:=λc f=>by
  obtain⟨u,l,f⟩:=List.mem_flatMap.1 f
  have:=List.all_eq_true.1 L u l
  simp only[Bool.and_eq_true,decide_eq_true_eq]at this
  simp only[List.mem_cons,List.not_mem_nil,or_false]at f
  refine List.mem_flatMap.2 ⟨u,l,?_⟩
  rcases f with rfl|rfl
  ·rw[this.1];simp
  ·rw[this.2];simp
 have A:=m0o n _ K
 refine y0p v x y (λq G=>of_decide_eq_true (List.all_eq_true.1 M q ((j q).1 G))) C (λc f d B E=>?_) (cs:=cs) (λc f=>?_) I D
 ·have:=r0g (λa b h=>by rw[d05];exact h) A (inv c) (m c f) d B λe=>E e.symm
  omega
 ·obtain⟨u,l,h⟩:=z c f
  refine List.mem_flatMap.2 ⟨u,l,?_⟩
  rcases h with rfl|rfl<;>simp
def T7(u:List Int)(s:Int):List Int:=bif decide (s<0)then inv u else u
theorem j07(u:List Int)(s:Int):(T7 u s).length=u.length:=by
 unfold T7
 cases decide (s<0)<;>simp[C9]
theorem O0l{u:List Int}(s:Int)(h:P3 u):P3 (T7 u s):=by
 unfold T7
 cases decide (s<0)
 ·exact h
 ·exact c04 u
theorem H0t{rel:List (List Int)}{i:Int}{u:List Int}(h:inR 0 ((rel.length:Int)-1) i=true)(a:rel[i.toNat]?=some u):gi rel i=some u:=by
 simp only[inR,Bool.and_eq_true,decide_eq_true_eq]at h
 unfold gi
 rw[if_pos h.1]
 exact a
theorem E0j{rel:List (List Int)}{i:Int}(h:inR 0 ((rel.length:Int)-1) i=true):∃ u,rel[i.toNat]?=some u:=by
 simp only[inR,Bool.and_eq_true,decide_eq_true_eq]at h
 exact⟨_,List.getElem?_eq_getElem (by omega)⟩
theorem W0c{rel:List (List Int)}{g:List Int}{i a:Int}{r:List i00}{u:List Int}(h:inR 0 ((rel.length:Int)-1) i=true)(b:rel[i.toNat]?=some u):C7 rel ((g,i,a)::r)=j03 (T7 u a) g::C7 rel r:=by
 simp only[C7,h,b];rfl
theorem c0a{rel:List (List Int)}{g:List Int}{i a:Int}{r:List i00}(h:inR 0 ((rel.length:Int)-1) i=false):C7 rel ((g,i,a)::r)=C7 rel r:=by
 simp only[C7,h]
theorem I0t{n:Nat}(h:n<=6):IntKind.i64.wrap (((n:Nat):Int)-1)=(n:Int)-1:=w64 (by omega) (by omega)
theorem i02(r:Int)(rel:List (List Int))(j:O1 (r,rel)=true)(s:Y2 rel)(ts:List i00)(v:∀ t∈ts,P3 t.1/\t.1.length<=1048576)(A:ts.length<=140737488355328):
  ∀(d k fuel:Nat) (a:List Int),k+d=(ts.take 20).length->d<fuel->Red a=true->P3 a->a.length<=2097176*k ->
  N4 ts r rel fuel a.reverse (k:Int)=some (H0c a (C7 rel ((ts.take 20).drop k))).reverse
 |d,k,0,a,z,hf,f,h,y=>by omega
 |0,k,fuel+1,a,z,hf,f,h,y=>by
  have E:(ts.take 20).length=min 20 ts.length:=List.length_take
  rw[N4.eq_2,M1 (by omega)]
  have e:(bif decide ((k:Int)<((ts.length:Nat):Int))then decide ((k:Int)<20)else false)=false:=by
   by_cases c:k<ts.length
   ·rw[show decide ((k:Int)<((ts.length:Nat):Int))=true by simpa using c]
    simp;omega
   ·rw[show decide ((k:Int)<((ts.length:Nat):Int))=false by simp;omega]
    rfl
  simp only[e,Z3,oB,cond_false,Bool.false_eq_true,if_false,C7,H0c]
 |d+1,k,fuel+1,a,z,hf,f,h,y=>by
  have E:(ts.take 20).length=min 20 ts.length:=List.length_take
  have p:k<ts.length:=by omega
  have n:=w5 p
  have C:(ts.take 20)[k]?=some ts[k]:=by rw[List.getElem?_take];rw[if_pos (by omega)];exact n
  have l:=v _ (List.mem_of_getElem? n)
  generalize ts[k]=t at n C l
  obtain⟨g,i,b⟩:=t
  simp only at l
  have e:(bif decide ((k:Int)<((ts.length:Nat):Int))then decide ((k:Int)<20)else false)=true:=by
   rw[show decide ((k:Int)<((ts.length:Nat):Int))=true by simpa using p]
   simp;omega
  have B:=g0g j
  simp only at B
  rw[V1 C,N4.eq_2]
  simp only[e,I2,oB,cond_true,if_true,d4 (r,rel) (by simp only;omega) s,j,E3 n,A03,I0t B,Z2 p (by omega:ts.length<=9223372036854775807)]
  cases hin:inR 0 ((rel.length:Int)-1) i with
  |false =>
   simp only[Bool.false_eq_true,if_false]
   rw[c0a hin]
   exact i02 r rel j s ts v A d (k+1) fuel a (by omega) (by omega) f h (by omega)
  |true =>
   obtain⟨u,w⟩:=E0j hin
   obtain⟨F,I⟩:=S08 j (i:=i.toNat) w
   have m:=O0l b F
   have D:=j07 u b
   have x:=G0s m l.1
   have G:=r0l (T7 u b) g
   have o:C2 a.reverse (j03 (T7 u b) g)=some (t7 a (j03 (T7 u b) g)).reverse:=by
    rw[D8 _ _ (R08 h) x (by simp only[List.length_reverse];omega),b00,t06 a f]
   have H:=q01 (j03 (T7 u b) g) a
   have next:=i02 r rel j s ts v A d (k+1) fuel (t7 a (j03 (T7 u b) g)) (by omega) (by omega) (W03 _ _ f) (k0b _ _ h x) (by omega)
   rw[W0c hin w]
   simp only[if_true,H0t hin w,oB,H0c]
   rw[←next]
   by_cases hneg:b<0
   ·have q:T7 u b=inv u:=by unfold T7;simp[hneg]
    rw[q]at o m D ⊢
    rw[if_pos (by simpa using hneg),Q00 u (by omega),oB,i04 _ _ m l.1 (by omega),oB,o,oB]
   ·have q:T7 u b=u:=by unfold T7;simp[hneg]
    rw[q]at o m D ⊢
    rw[if_neg (by simpa using hneg),i04 _ _ m l.1 (by omega),oB,o,oB]
theorem r07(x:l0)(ts:C01)(b:x.2.length<=140737488355328)(a:Y2 x.2)(d:∀ t∈ts,P3 t.1/\t.1.length<=1048576)(c:ts.length<=140737488355328):K9 x ts=some (B3 x ts):=by
 obtain⟨r,rel⟩:=x
 unfold K9 B3
 simp only at b a ⊢
 cases hp:O1 (r,rel)with
 |true =>
  have h:=i02 r rel hp a ts d c (ts.take 20).length 0 W0 [] (by omega) (by rw[List.length_take];unfold W0;omega) rfl X0n (by simp)
  rw[show((0:Nat):Int)=0 from rfl,List.drop_zero,List.reverse_nil]at h
  rw[h]
  rfl
 |false =>
  rw[show W0=(W0-1)+1 from rfl,N4.eq_2]
  simp only[d4 (r,rel) b a,hp]
  cases (bif decide ((0:Int)<((ts.length:Nat):Int))then decide ((0:Int)<20)else false)<;>rfl
theorem j02(r:Int)(rel:List (List Int))(b:O1 (r,rel)=true)(ts:List i00)(f:∀ t∈ts,P3 t.1/\t.1.length<=1048576)(o:ts.length<=20):
  ∀(d k fuel:Nat) (acc:List (List Int)),k+d=ts.length->d<fuel->acc.length<=k ->
  A5 ts rel fuel (k:Int) acc=some (acc++C7 rel (ts.drop k))
 |d,k,0,acc,m,hf,j=>by omega
 |0,k,fuel+1,acc,m,hf,j=>by
  rw[A5.eq_2,if_neg (by simp;omega),M1 (by omega)]
  simp[C7]
 |d+1,k,fuel+1,acc,m,hf,j=>by
  have n:k<ts.length:=by omega
  have c:=w5 n
  have q:=f _ (List.mem_of_getElem? c)
  generalize ts[k]=t at c q
  obtain⟨g,i,a⟩:=t
  simp only at q
  have p:=g0g b
  simp only at p
  rw[V1 c,A5.eq_2,if_pos (by simp;omega),E3 c,oB]
  simp only[U0a,oB,I0t p,Z2 n (by omega:ts.length<=9223372036854775807)]
  cases hin:inR 0 ((rel.length:Int)-1) i with
  |false =>
   simp only[Bool.not_false,if_true]
   rw[c0a hin]
   exact j02 r rel b ts f o d (k+1) fuel acc (by omega) (by omega) (by omega)
  |true =>
   obtain⟨u,h⟩:=E0j hin
   obtain⟨v,w⟩:=S08 b (i:=i.toNat) h
   have s:=j07 u a
   have next:=j02 r rel b ts f o d (k+1) fuel (acc ++ [j03 (T7 u a) g]) (by omega) (by omega) (by simp only[List.length_append,List.length_singleton];omega)
   rw[W0c hin h]
   simp only[Bool.not_true,Bool.false_eq_true,if_false,H0t hin h,oB]
   rw[List.append_cons,←next]
   have l:∀ z:List Int,(grd ((acc.length + [z].length)*24<=140737488355328))=some ():=λz=>S0 (by simp only[List.length_singleton];omega)
   by_cases hneg:a<0
   ·have e:T7 u a=inv u:=by unfold T7;simp[hneg]
    rw[e]at s ⊢
    rw[if_pos (by simpa using hneg),d02 u (by omega),oB,j04 _ _ (by omega),oB,l,oB]
   ·have e:T7 u a=u:=by unfold T7;simp[hneg]
    rw[e]at s ⊢
    rw[if_neg (by simpa using hneg),j04 _ _ (by omega),oB,l,oB]
theorem s0g(rel:List (List Int)):∀ ts:List i00,(C7 rel ts).length<=ts.length
 | []=>by simp[C7]
 |t::r=>by
  have:=s0g rel r
  simp only[C7]
  split<;>simp only[List.length_cons]<;>omega
def T0d:List i00->Nat
 | []=>0
 |t::r=>t.1.length+T0d r
theorem t0g{x:l0}(a:O1 x=true):∀ ts:List i00,u06 (C7 x.2 ts)<=24*ts.length+2*T0d ts
 | []=>by simp[C7,u06]
 |t::r=>by
  have:=t0g a r
  obtain⟨g,i,c⟩:=t
  cases hin:inR 0 ((x.2.length:Int)-1) i with
  |true =>
   obtain⟨u,b⟩:=E0j hin
   have d:=S08 a b
   have e:=r0l (T7 u c) g
   have f:=j07 u c
   rw[W0c hin b]
   simp only[u06,T0d,List.length_cons]
   omega
  |false =>
   rw[c0a hin]
   simp only[T0d,List.length_cons]
   omega
theorem h0i:∀(ts:List i00) (k:Nat),T0d (ts.take k)<=T0d ts
 | [],k=>by simp[T0d]
 |t::r,0=>by simp[T0d]
 |t::r,k+1=>by have:=h0i r k;simp only[List.take_succ_cons,T0d];omega
theorem U0d(x:l0)(ts:C01)(d:x.2.length<=140737488355328)(g:Y2 x.2)(i:∀ t∈ts,P3 t.1/\t.1.length<=1048576)(m:ts.length<=140737488355328)(l:T0d ts<=1048576):P00 x ts=some (B3 x ts):=by
 have f:=t00 x d g
 obtain⟨r,rel⟩:=x
 unfold P00 B3
 simp only[f,oB]
 cases hp:O1 (r,rel)with
 |false=>rfl
 |true =>
  have b:X02 ts 0 (if(20:Int)<((ts.length:Nat):Int)then 20 else((ts.length:Nat):Int))=some (ts.take 20):=by
   unfold X02
   by_cases c:20<ts.length
   ·rw[if_pos (by omega:(20:Int)<((ts.length:Nat):Int)),if_pos (by omega)]
    rfl
   ·rw[if_neg (by omega : ¬ (20:Int)<((ts.length:Nat):Int)),if_pos (by omega),Int.toNat_natCast,List.take_length,List.take_of_length_le (by omega)]
    rfl
  have e:(ts.take 20).length<=20:=by rw[List.length_take];omega
  have h:=j02 r rel hp (ts.take 20) (λt h=>i t (List.mem_of_mem_take h)) e (ts.take 20).length 0 W0 [] (by omega) (by unfold W0;omega) (by simp)
  rw[show((0:Nat):Int)=0 from rfl,List.drop_zero,List.nil_append]at h
  have a:=t0g hp (ts.take 20)
  have j:=h0i ts 20
  have k:=s0g rel (ts.take 20)
  simp only[Bool.not_true,Bool.false_eq_true,if_false,b,oB,cond_true]
  rw[h,oB,H03 _ (by omega) (by simp only at a;omega)]
  rfl
theorem F0j{bs:List Int}{q:Int×Int}(f:okQ bs q){b most:Int}(h0:0<b)(e:b<=256)(k:0<=most)(l:most<=200):Drw bs (X00 bs q b most) λw=>e02 b w/\(w.length:Int)<=most/\Red w.reverse=true:=by
 unfold X00
 rw[w64 (x:=most+1) (by omega) (by omega)]
 refine(e01 f (by omega) (by omega)).bind λx j i g => .grd ⟨by omega,by omega⟩ ?_
 obtain⟨d,rfl⟩:=Int.eq_ofNat_of_zero_le i.1
 refine(y0r h0 e d W0 [] j (by unfold W0;omega) (by simp;omega) (λz a=>nomatch a) g).bind λw n c h=>?_
 have m:w.length<=d:=by have:=c.2;simpa using this
 show Drw bs ((T1 w).bind _) _
 rw[B8 w (c.1.all e) (by omega),oB]
 refine⟨_,_,rfl,⟨λz a=>D0j w [] (λz a=>nomatch a) c.1 z (by simpa using a),?_,?_⟩,h⟩
 ·have:=q01 w []
  simp at this ⊢;omega
 ·rw[List.reverse_reverse];exact W03 w [] rfl
theorem e02.lw{r:Int}(b:r<=256){w:List Int}(h:e02 r w):Lw w:=λx a=>by
 have:=h x a
 exact⟨⟨⟨by omega,by omega⟩,by omega⟩,this.1⟩
def KP(rel:List (List Int)):Prop:=rel∈KN∨(rel.length<=3/\∀ w∈rel,w∈W4)
theorem pw1:([1,2,3,4,5,6,7].all λk:Nat=>decide (E2 [1] (k:Int)=some (List.replicate k 1)))=true:=by decide +kernel
theorem pw2:([1,2,3].all λk:Nat=>decide (E2 [2] (k:Int)=some (List.replicate k 2)))=true:=by decide +kernel
theorem pw3:([1,2,3,4].all λk:Nat=>decide (E2 [1,2] (k:Int)=some ((List.replicate k [1,2]).flatten)))=true:=by decide +kernel
theorem cm1:decide (J00 [1] [2]=some [1,2,-1,-2])=true:=by decide +kernel
theorem G0j{k:Nat}(h:1<=k)(a:k<=7):E2 [1] (k:Int)=some (List.replicate k 1):=of_decide_eq_true (List.all_eq_true.1 pw1 k (by simp only[List.mem_cons,List.not_mem_nil];omega))
theorem Z0m{k:Nat}(h:1<=k)(a:k<=3):E2 [2] (k:Int)=some (List.replicate k 2):=of_decide_eq_true (List.all_eq_true.1 pw2 k (by simp only[List.mem_cons,List.not_mem_nil];omega))
theorem D0r{k:Nat}(h:1<=k)(a:k<=4):E2 [1,2] (k:Int)=some ((List.replicate k [1,2]).flatten):=of_decide_eq_true (List.all_eq_true.1 pw3 k (by simp only[List.mem_cons,List.not_mem_nil];omega))
theorem E0r{P:Int->Prop}:∀(n:Nat) (w:List Int),(∀ x∈w,P x)->∀ x∈(ccA n w).1,P x
 |0,w,h,x,a=>h x a
 |n+1,w,h,x,a=>by
  unfold ccA at a
  split at a
  ·refine E0r n _ (λy b=>h y ?_) x a
   exact List.mem_of_mem_tail (List.dropLast_subset _ b)
  ·exact h x a
theorem q0u{w:List Int}(h:e02 2 w)(k:w.length<=4)(h0:0<w.length):w∈W4:=by
 have f:∀ x∈w,x∈L4:=λx m=>by
  have:=h x m
  simp only[L4,List.mem_cons,List.not_mem_nil]
  omega
 unfold W4
 match w,k,h0,f with
 | [a],_,_,f =>
  have g:=f a (by simp)
  exact List.mem_append.2 (.inl (List.mem_append.2 (.inl (List.mem_append.2 (.inl (List.mem_map.2 ⟨a,g,rfl⟩))))))
 | [a,b],_,_,f =>
  have g:=f a (by simp)
  have i:=f b (by simp)
  exact List.mem_append.2 (.inl (List.mem_append.2 (.inl (List.mem_append.2 (.inr (List.mem_flatMap.2 ⟨a,g,List.mem_map.2 ⟨b,i,rfl⟩⟩))))))
 | [a,b,c],_,_,f =>
  have g:=f a (by simp)
  have i:=f b (by simp)
  have j:=f c (by simp)
  exact List.mem_append.2 (.inl (List.mem_append.2 (.inr (List.mem_flatMap.2 ⟨a,g,List.mem_flatMap.2 ⟨b,i,List.mem_map.2 ⟨c,j,rfl⟩⟩⟩))))
 | [a,b,c,d],_,_,f =>
  have g:=f a (by simp)
  have i:=f b (by simp)
  have j:=f c (by simp)
  have l:=f d (by simp)
  exact List.mem_append.2 (.inr (List.mem_flatMap.2 ⟨a,g,List.mem_flatMap.2 ⟨b,i,List.mem_flatMap.2 ⟨c,j,List.mem_map.2 ⟨d,l,rfl⟩⟩⟩⟩))
 |a::b::c::d::e::r,k,_,_=>simp at k
theorem H0j{bs:List Int}:∀(d fuel:Nat) (acc:List (List Int)) (q:Int×Int),d<fuel->d+acc.length<=3->(∀ w∈acc,w∈W4)->okQ bs q ->
  Drw bs (p6 bs fuel (d:Int) acc q) λl=>l.length<=3/\∀ w∈l,w∈W4
 |d,0,acc,q,hf,_,_,_=>by omega
 |0,fuel+1,acc,q,hf,k,b,c=>by
  rw[p6.eq_2,if_neg (by simp)]
  exact⟨_,_,rfl,⟨by omega,b⟩,c⟩
 |d+1,fuel+1,acc,q,hf,k,b,c=>by
  rw[p6.eq_2,if_pos (by simp only[decide_eq_true_eq];omega)]
  refine(F0j c (by decide) (by decide) (by decide) (by decide)).bind λx h f g=>?_
  have p:x.length<=4:=by have:=f.2.1;omega
  have e:=C0r (r:=2) (by decide) (w:=x) f.1 (by omega)
  simp only[e,oB]
  split
  ·rename_i m
   simp only[decide_eq_true_eq]at m
   refine .grd (by simp only[List.length_singleton];omega) ?_
   rw[Z0s d (by omega)]
   refine H0j d fuel (acc ++ [(p0u x).1]) h (by omega) (by simp;omega) (λz a=>?_) g
   rcases List.mem_append.1 a with a|a
   ·exact b z a
   ·rw[List.mem_singleton.1 a]
    refine q0u (λy o=>E0r (P:=λy=>y≠0 /\ -2<=y/\y<=2) _ _ (λu n=>?_) y o) ?_ (by omega)
    ·exact D0j (P:=λy=>y≠0 /\ -2<=y/\y<=2) x [] (λz a=>nomatch a) f.1 u (List.mem_reverse.1 n)
    ·have i:=p0o (t7 [] x).length (t7 [] x).reverse
     have j:=q01 x []
     simp only[List.length_reverse,List.length_nil]at i j
     show(ccA (t7 [] x).length (t7 [] x).reverse).1.length<=4
     omega
  ·rw[Z0s d (by omega)]
   exact H0j d fuel acc h (by omega) (by omega) b g
theorem b0v{k:Nat}(h:1<=k)(a:k<=7):[List.replicate k 1]∈KN :=
 List.mem_append.2 (.inl (List.mem_append.2 (.inl (List.mem_append.2 (.inl (List.mem_append.2 (.inl (List.mem_map.2 ⟨k,by simp only[List.mem_cons,List.not_mem_nil];omega,rfl⟩))))))))
theorem q0v{k:Nat}(h:1<=k)(a:k<=4):[[1,1],[2,2],(List.replicate k [1,2]).flatten]∈KN :=
 List.mem_append.2 (.inl (List.mem_append.2 (.inl (List.mem_append.2 (.inl (List.mem_append.2 (.inr (List.mem_map.2 ⟨k,by simp only[List.mem_cons,List.not_mem_nil];omega,rfl⟩))))))))
theorem r0v{k:Nat}(h:2<=k)(a:k<=3):[[1,1],[2,2,2],(List.replicate k [1,2]).flatten]∈KN :=
 List.mem_append.2 (.inl (List.mem_append.2 (.inl (List.mem_append.2 (.inr (List.mem_map.2 ⟨k,by simp only[List.mem_cons,List.not_mem_nil];omega,rfl⟩))))))
theorem s0v{i j:Nat}(h:1<=i)(a:i<=3)(b:1<=j)(c:j<=3):[[1,2,-1,-2],List.replicate i 1,List.replicate j 2]∈KN :=
 List.mem_append.2 (.inl (List.mem_append.2 (.inr (List.mem_flatMap.2 ⟨i,by simp only[List.mem_cons,List.not_mem_nil];omega,List.mem_map.2 ⟨j,by simp only[List.mem_cons,List.not_mem_nil];omega,rfl⟩⟩))))
theorem X0c{y:Int}{a b:Nat}(h0:0<=y)(c:y<(b:Int)):∃ k:Nat,(a:Int)+y=(k:Int)/\a<=k/\k<a+b:=⟨a+y.toNat,by omega,by omega,by omega⟩
theorem a0t{bs:List Int}{q:Int×Int}(E:okQ bs q):Drw bs (t01 bs q) λp=>KP p.2:=by
 have o:=G0j (k:=2) (by decide) (by decide)
 have u:=Z0m (k:=2) (by decide) (by decide)
 have t:=Z0m (k:=3) (by decide) (by decide)
 have o:E2 [1] 2=some [1,1]:=o
 have u:E2 [2] 2=some [2,2]:=u
 have t:E2 [2] 3=some [2,2,2]:=t
 unfold t01
 refine(e01 E (by decide) (by decide)).bind λx J I h => .grd ⟨by omega,by omega⟩ ?_
 simp only
 split
 ·refine(e01 h (by decide) (by decide)).bind λy m c g => .grd ⟨by omega,by omega⟩ ?_
  rw[w64 (by omega) (by omega)]
  obtain⟨k,e,f,n⟩:=X0c (a:=1) (b:=6) c.1 c.2
  rw[show(1:Int)+y=(k:Int) from e,G0j f (by omega),oB]
  exact⟨_,_,rfl,.inl (b0v f (by omega)),g⟩
 split
 ·rw[o,oB,u,oB]
  refine(e01 h (by decide) (by decide)).bind λy m c g => .grd ⟨by omega,by omega⟩ ?_
  rw[w64 (by omega) (by omega)]
  obtain⟨k,e,f,n⟩:=X0c (a:=1) (b:=4) c.1 c.2
  rw[show(1:Int)+y=(k:Int) from e,D0r f (by omega),oB]
  exact⟨_,_,rfl,.inl (q0v f (by omega)),g⟩
 split
 ·rw[o,oB,t,oB]
  refine(e01 h (by decide) (by decide)).bind λy m c g => .grd ⟨by omega,by omega⟩ ?_
  rw[w64 (by omega) (by omega)]
  obtain⟨k,e,f,n⟩:=X0c (a:=2) (b:=2) c.1 c.2
  rw[show(2:Int)+y=(k:Int) from e,D0r (by omega) (by omega),oB]
  exact⟨_,_,rfl,.inl (r0v f (by omega)),g⟩
 split
 ·rw[of_decide_eq_true cm1,oB]
  refine(e01 h (by decide) (by decide)).bind λy m c g => .grd ⟨by omega,by omega⟩ ?_
  rw[w64 (by omega) (by omega)]
  obtain⟨i,e,f,n⟩:=X0c (a:=1) (b:=3) c.1 c.2
  rw[show(1:Int)+y=(i:Int) from e,G0j f (by omega),oB]
  refine(e01 g (by decide) (by decide)).bind λz G A s => .grd ⟨by omega,by omega⟩ ?_
  rw[w64 (by omega) (by omega)]
  obtain⟨j,B,v,H⟩:=X0c (a:=1) (b:=3) A.1 A.2
  rw[show(1:Int)+z=(j:Int) from B,Z0m v (by omega),oB]
  exact⟨_,_,rfl,.inl (s0v f (by omega) v (by omega)),s⟩
 split
 ·exact⟨_,_,rfl,.inl (List.mem_append.2 (.inr (List.mem_singleton.2 rfl))),h⟩
 ·refine(e01 h (by decide) (by decide)).bind λy m c g => .grd ⟨by omega,by omega⟩ ?_
  rw[w64 (by omega) (by omega)]
  obtain⟨d,e,f,n⟩:=X0c (a:=1) (b:=3) c.1 c.2
  rw[show(1:Int)+y=(d:Int) from e]
  have C:=H0j (bs:=bs) d W0 [] m (by unfold W0;omega) (by simp;omega) (λw F=>by cases F) g
  exact C.bind λl G D s=>⟨_,_,rfl,.inr D,s⟩
def SP(p:l0):Prop:=(p=(2,[R0])∨p=(3,[R1])∨KP p.2∨[]∈p.2)/\(p.2.length<=11/\z0r p.2)
theorem F0r:(KN.all λrel=>decide (rel.length<=10)&&rel.all λw=>decide (w.length<=200)&&w.all λx=>decide (-9<=x)&&decide (x<=9))=true:=by decide +kernel
theorem G0r:(W4.all λw=>decide (w.length<=200)&&w.all λx=>decide (-9<=x)&&decide (x<=9))=true:=by decide +kernel
theorem b0t{w:List Int}(h:(decide (w.length<=200)&&w.all λx=>decide (-9<=x)&&decide (x<=9))=true):P3 w/\w.length<=200:=by
 simp only[Bool.and_eq_true,decide_eq_true_eq]at h
 refine⟨λx a=>?_,h.1⟩
 have:=List.all_eq_true.1 h.2 x a
 simp only[Bool.and_eq_true,decide_eq_true_eq]at this
 exact⟨by omega,by omega⟩
theorem KP.small{rel:List (List Int)}(h:KP rel):rel.length<=10/\z0r rel:=by
 rcases h with h|h
 ·have:=List.all_eq_true.1 F0r rel h
  simp only[Bool.and_eq_true (decide _),decide_eq_true_eq]at this
  exact⟨this.1,λw a=>b0t (List.all_eq_true.1 this.2 w a)⟩
 ·exact⟨by omega,λw a=>b0t (List.all_eq_true.1 G0r w (h.2 w a))⟩
theorem r0u{bs:List Int}{q:Int×Int}(e:okQ bs q):Drw bs (r02 bs q) SP:=by
 unfold r02
 refine(a0t e).bind λp j c f=>?_
 obtain⟨r,l⟩:=p
 have b:=KP.small c
 refine(e01 f (by decide) (by decide)).bind λx k a d => .grd ⟨by omega,by omega⟩ ?_
 simp only at b ⊢
 split
 ·exact(e01 d (by decide) (by decide)).bind λy m i g => .grd ⟨by omega,by omega⟩ ⟨_,_,rfl,⟨.inr (.inr (.inl c)),by simp only;omega,b.2⟩,g⟩
 ·split
  ·refine .grd (by simp;omega) ⟨_,_,rfl,⟨.inr (.inr (.inr (by simp))),by simp;omega,λx a=>?_⟩,d⟩
   rcases List.mem_append.1 a with a|a
   ·exact b.2 x a
   ·rw[List.mem_singleton.1 a];exact⟨(λz h=>by cases h),by simp⟩
  ·exact⟨_,_,rfl,⟨.inr (.inr (.inl c)),by simp only;omega,b.2⟩,d⟩
theorem a0n{bs:List Int}{q:Int×Int}(f:okQ bs q):Drw bs (p8 bs q) SP:=by
 unfold p8
 refine(e01 f (by decide) (by decide)).bind λx j i a => .grd ⟨by omega,by omega⟩ ?_
 simp only
 split
 ·refine⟨_,_,rfl,⟨.inl rfl,by simp,λw b=>?_⟩,a⟩
  rw[List.mem_singleton.1 b]
  exact b0t (by decide)
 split
 ·refine⟨_,_,rfl,⟨.inr (.inl rfl),by simp,λw b=>?_⟩,a⟩
  rw[List.mem_singleton.1 b]
  exact b0t (by decide)
 split
 ·have e:=G0j (k:=7) (by decide) (by decide)
  have e:E2 [1] 7=some (List.replicate 7 1):=e
  rw[e,oB]
  have c:KP [List.replicate 7 1] := .inl (b0v (by decide) (by decide))
  have h:=c.small
  exact⟨_,_,rfl,⟨.inr (.inr (.inl c)),by simp,h.2⟩,a⟩
 ·refine(r0u a).bind λp l d g=>?_
  exact⟨_,_,rfl,d,g⟩
theorem SP.sh{p:l0}(h:SP p):p.2.length<=140737488355328/\Y2 p.2:=⟨by have:=h.2.1;omega,λw a=>by have:=(h.2.2 w a).2;omega⟩
def rkI(r:Int):Int:=if(if 3<r then 3 else r)>1 then(if 3<r then 3 else r)else 1
theorem d0a(r:Int):0<rkI r/\rkI r<=256/\(1<=r->r<=3->rkI r=r):=by
 unfold rkI
 split<;>split<;>omega
def V0d(r:Int)(t:i00):Prop:=e02 (rkI r) t.1/\t.1.length<=3/\Red t.1.reverse=true
theorem q0o{bs:List Int}{r:Int}{rel:List (List Int)}(o:rel.length<=11):∀(d fuel:Nat) (acc:List i00) (q:Int×Int),d<fuel->d+acc.length<=3->(∀ t∈acc,V0d r t)->okQ bs q ->
  Drw bs (M5 bs r rel fuel (d:Int) acc q) λl=>l.length<=3/\∀ t∈l,V0d r t
 |d,0,acc,q,hf,_,_,_=>by omega
 |0,fuel+1,acc,q,hf,j,e,f=>by
  rw[M5.eq_2,if_neg (by simp)]
  exact⟨_,_,rfl,⟨by omega,e⟩,f⟩
 |d+1,fuel+1,acc,q,hf,j,e,f=>by
  rw[M5.eq_2,if_pos (by simp only[decide_eq_true_eq];omega)]
  refine(F0j f (d0a r).1 (d0a r).2.1 (by decide) (by decide)).bind λu s g k=>?_
  simp only
  refine(e01 k (by split<;>omega) (by split<;>omega)).bind λx v p m => .grd (by
   have:x<256:=by have:=p.2;split at this<;>omega
   exact⟨by omega,by omega⟩) ?_
  refine(Y0m m (by decide) (by decide)).bind λb i _ n=>?_
  have h:∀ c:Int,Drw bs ((grd ((acc.length+([(u,x,c)]:List i00).length)*40<=140737488355328)).bind λ_=>M5 bs r rel fuel (IntKind.i64.wrap (((d+1:Nat):Int)-1)) (acc ++ [(u,x,c)]) i) λl=>l.length<=3/\∀ t∈l,V0d r t:=λc =>
   .grd (by simp only[List.length_singleton];omega) (by
    rw[Z0s d (by omega)]
    refine q0o o d fuel (acc ++ [(u,x,c)]) i (by omega) (by simp;omega) (λt a=>?_) n
    rcases List.mem_append.1 a with a|a
    ·exact e t a
    ·rw[List.mem_singleton.1 a]
     exact⟨g.1,by have:=g.2.1;simp only;omega,g.2.2⟩)
  show Drw bs (if b=true then _ else _) _
  cases b
  ·rw[if_neg (by simp)];exact h 1
  ·rw[if_pos rfl];exact h (-1)
theorem r0o{bs:List Int}{q:Int×Int}(c:okQ bs q){p:l0}(b:SP p):Drw bs (n00 bs q p) λl=>l.length<=3/\∀ t∈l,V0d p.1 t:=by
 obtain⟨r,rel⟩:=p
 unfold n00
 simp only
 refine(e01 c (by decide) (by decide)).bind λx i h e => .grd ⟨by omega,by omega⟩ ?_
 obtain⟨d,rfl⟩:=Int.eq_ofNat_of_zero_le h.1
 exact(q0o b.2.1 d W0 [] i (by unfold W0;omega) (by simp;omega) (λt g=>by cases g) e).bind λl j a f=>⟨_,_,rfl,a,f⟩
theorem V0d.lw{r:Int}{t:i00}(h:V0d r t):Lw t.1:=h.1.lw (d0a r).2.1
theorem s0o{r:Int}{ts:List i00}(h:∀ t∈ts,V0d r t):∀ t∈ts,P3 t.1/\t.1.length<=1048576:=λt a=>⟨λx b=>(((h t a).lw x b).1).1,by have:=(h t a).2.1;omega⟩
theorem t0o:∀ {ts:List i00} {r:Int},(∀ t∈ts,V0d r t)->T0d ts<=6*ts.length
 | [],_,_=>Nat.le_refl _
 |t::ts,r,h=>by
  have b:=(h t mS).2.1
  have c:=t0o λx a=>h x (mC _ a)
  simp only[T0d,List.length_cons]
  omega
theorem c0t{bs:List Int}(d:bs.length<=1048576):∃ p ts,l9 bs=some (p,ts)/\SP p/\ts.length<=3/\∀ t∈ts,V0d p.1 t:=by
 obtain⟨q,e,f⟩:=v0r d
 obtain⟨p,j,b,a,g⟩:=a0n f
 obtain⟨ts,k,c,h,i⟩:=r0o g a
 refine⟨p,ts,?_,a,h⟩
 unfold l9
 simp only[e,b,c,oB]
theorem u0g(p:l0){ts:List i00}(z:ts.length<=3)(i:∀ t∈ts,V0d p.1 t):(B3 p ts).length<=100/\P3 (B3 p ts):=by
 unfold B3
 cases hp:O1 p with
 |false=>exact⟨Nat.zero_le _,λx d=>by cases d⟩
 |true =>
  rw[cond_true,List.take_of_length_le (by omega),e05]
  have o:=(q0b hp).1
  have n:∀ c∈C7 p.2 ts,c.length<=30/\P3 c:=λc m=>by
   obtain⟨t,b,u,e,f⟩:=W01 m
   have g:=o u e
   have y:=(i t b).2.1
   have q:=(s0o i t b).1
   have j:∀ v:List Int,v.length<=24->P3 v->(j03 v t.1).length<=30/\P3 (j03 v t.1):=λv A l=>by
    have k:=q01 (inv t.1++v++t.1) []
    have w:=C9 t.1
    simp only[List.length_append,List.length_nil]at k
    unfold j03
    rw[List.length_reverse]
    exact⟨by omega,R08 (k0b _ [] X0n (L9 (L9 (c04 _) l) q))⟩
   rcases f with rfl|rfl
   ·exact j u g.2 g.1
   ·exact j (inv u) (by rw[C9];exact g.2) (c04 u)
  have hf:∀ a:List (List Int),(∀ c∈a,c.length<=30/\P3 c)->a.flatten.length<=30*a.length/\P3 a.flatten:=by
   intro a
   induction a with
   |nil=>intro _;exact⟨Nat.le_refl _,λx d=>by cases d⟩
   |cons c a s =>
    intro h
    have b:=h c mS
    have e:=s λx d=>h x (mC _ d)
    rw[List.flatten_cons,List.length_append,List.length_cons]
    exact⟨by omega,L9 b.2 e.2⟩
  have b:=hf _ n
  have e:=p0g (rel:=p.2) ts
  have f:=q01 (C7 p.2 ts).flatten []
  simp only[List.length_nil]at f
  rw[List.length_reverse]
  exact⟨by omega,R08 (k0b _ [] X0n b.2)⟩
theorem d0t{bs:List Int}(o:bs.length<=1048576):∃ p v,E8 bs=some (p,v)/\SP p/\P3 v/\v.length<=1000:=by
 obtain⟨q,e,s⟩:=v0r o
 obtain⟨p,F,h,a,t⟩:=a0n s
 obtain⟨ts,G,i,g,w⟩:=r0o t a
 have j:=r07 p ts a.sh.1 a.sh.2 (s0o g.2) (by omega)
 have f:=u0g p g.1 g.2
 obtain⟨b,B,k,_,y⟩:=Y0m w (n:=3) (by decide) (by decide)
 obtain⟨u,C,d,l,D⟩:=F0j y (d0a p.1).1 (d0a p.1).2.1 (most:=4) (by decide) (by decide)
 have m:P3 u:=λx A=>((l.1.lw (d0a p.1).2.1 x A).1).1
 have E:u.length<=4:=by have:=l.2.1;omega
 have d:X00 bs B (if(if 3<p.1 then 3 else p.1)>1 then(if 3<p.1 then 3 else p.1)else 1) 4=some (u,C):=d
 by_cases c:b=true
 ·have z:=e04 (B3 p ts++u)
  rw[List.length_append]at z
  refine⟨p,rd (B3 p ts++u),?_,a,Y0h (L9 f.2 m),by omega⟩
  unfold E8 X01
  simp only[e,h,i,j,k,d,oB,if_pos c,D8 _ _ f.2 m (by omega)]
  rfl
 ·refine⟨p,B3 p ts,?_,a,f.2,by omega⟩
  unfold E8 X01
  simp only[e,h,i,j,k,oB,if_neg c]
theorem e0t{bs:List Int}(b:bs.length<=1048576):∃ p,U7 bs=some p/\SP p:=by
 obtain⟨q,e,d⟩:=v0r b
 obtain⟨p,g,a,c,f⟩:=a0n d
 refine⟨p,?_,c⟩
 unfold U7
 simp only[e,a,oB]
structure Iso (t c:j0) (P:Int->Int) (n:Nat):Prop where
 rank:c.1=t.1
 nt:t.2.1=(n:Int)
 nc:c.2.1=(n:Int)
 ft:K0 t=true
 fc:K0 c=true
 rng:∀ x:Int,0<=x->x<(n:Int)->0<=P x/\P x<(n:Int)
 inj:∀ x y:Int,0<=x->x<(n:Int)->0<=y->y<(n:Int)->P x=P y->x=y
 mem:∀ e',e'∈c.2.2↔∃ e∈t.2.2,e'=(P e.1,e.2.1,P e.2.2)
theorem Iso.inE{t c:j0}{P:Int->Int}{n:Nat}(a:Iso t c P n){e:Q0}(b:e∈t.2.2):(0<=e.1/\e.1<(n:Int))/\(0<=e.2.2/\e.2.2<(n:Int)):=by
 have:=(D2 a.ft).1 e b
 rw[a.nt]at this
 exact⟨this.1,this.2.1⟩
theorem Iso.comp{a b c:j0}{P Q:Int->Int}{n:Nat}(d:Iso a b P n)(u:Iso b c Q n):Iso a c (λx=>Q (P x)) n where
 rank:=by rw[u.rank,d.rank]
 nt:=d.nt
 nc:=u.nc
 ft:=d.ft
 fc:=u.fc
 rng:=λx h0 g=>u.rng _ (d.rng x h0 g).1 (d.rng x h0 g).2
 inj:=λx y h0 g i j h=>d.inj x y h0 g i j (u.inj _ _ (d.rng x h0 g).1 (d.rng x h0 g).2 (d.rng y i j).1 (d.rng y i j).2 h)
 mem:=λl=>by
  rw[u.mem]
  constructor
  ·rintro⟨e,k,rfl⟩
   obtain⟨f,hf,rfl⟩:=(d.mem e).1 k
   exact⟨f,hf,rfl⟩
  ·rintro⟨f,hf,rfl⟩
   exact⟨_,(d.mem _).2 ⟨f,hf,rfl⟩,rfl⟩
theorem Iso.next{t c:j0}{P:Int->Int}{n:Nat}(d:Iso t c P n)(v x:Int)(h0:0<=v)(k:v<(n:Int)):
  (Y0 t v x = -1/\Y0 c (P v) x = -1)∨((0<=Y0 t v x/\Y0 t v x<(n:Int))/\Y0 c (P v) x=P (Y0 t v x)):=by
 rcases b01 t v x with⟨h,o⟩|h
 ·left
  refine⟨h,?_⟩
  rcases b01 c (P v) x with⟨i,q⟩|i
  ·exact i
  ·exfalso
   obtain⟨m,p,j⟩:=M3.1 i
   obtain⟨e,f,rfl⟩:=(d.mem m).1 p
   have g:=d.inE f
   have:∃ y,y∈O01 v x t.2.2:=by
    rcases j with⟨a,b,c,_⟩|⟨a,b,c,_⟩
    ·exact⟨_,M3.2 ⟨e,f,.inl ⟨a,b,d.inj _ _ g.1.1 g.1.2 h0 k c,rfl⟩⟩⟩
    ·exact⟨_,M3.2 ⟨e,f,.inr ⟨a,b,d.inj _ _ g.2.1 g.2.2 h0 k c,rfl⟩⟩⟩
   obtain⟨y,l⟩:=this
   rw[o]at l;cases l
 ·right
  generalize Y0 t v x=y at h
  obtain⟨e,f,j⟩:=M3.1 h
  have g:=d.inE f
  rcases j with⟨a,b,c,rfl⟩|⟨a,b,c,rfl⟩
  ·exact⟨g.2,G03 d.fc (M3.2 ⟨_,(d.mem _).2 ⟨e,f,rfl⟩,.inl ⟨a,b,by show P e.1=P v;rw[c],rfl⟩⟩)⟩
  ·exact⟨g.1,G03 d.fc (M3.2 ⟨_,(d.mem _).2 ⟨e,f,rfl⟩,.inr ⟨a,b,by show P e.2.2=P v;rw[c],rfl⟩⟩)⟩
theorem Iso.perm{t c:j0}{P:Int->Int}{n:Nat}(d:Iso t c P n):c.2.2.Perm (t.2.2.map λe=>(P e.1,e.2.1,P e.2.2)):=by
 have k:=D0c (q06 (T5 d.ft))
 have l:=D0c (q06 (T5 d.fc))
 have p:(t.2.2.map λe=>((P e.1,e.2.1,P e.2.2):Q0)).Nodup:=by
  rw[List.Nodup,List.pairwise_map]
  refine List.Pairwise.imp_of_mem (λ{a b} m o h e=>h ?_) k
  have i:=d.inE m
  have j:=d.inE o
  simp only[Prod.mk.injEq]at e
  have f:=d.inj _ _ i.1.1 i.1.2 j.1.1 j.1.2 e.1
  have g:=d.inj _ _ i.2.1 i.2.2 j.2.1 j.2.2 e.2.2
  obtain⟨s,u,v⟩:=a
  obtain⟨w,x,f2⟩:=b
  simp only at f g e
  rw[f,g,e.2.1]
 refine(List.perm_ext_iff_of_nodup l p).2 λq=>?_
 rw[d.mem,List.mem_map]
 exact⟨λ⟨e,f,g⟩=>⟨e,f,g.symm⟩,λ⟨e,f,g⟩=>⟨e,f,g.symm⟩⟩
theorem Iso.len{t c:j0}{P:Int->Int}{n:Nat}(s:Iso t c P n):c.2.2.length=t.2.2.length:=by
 rw[s.perm.length_eq,List.length_map]
theorem Iso.rch{t c:j0}{P:Int->Int}{n:Nat}(d:Iso t c P n){a x:Int}(h:Rch t.2.2 a x):Rch c.2.2 (P a) (P x) :=
 Rch.sub (P:=λx=>Rch c.2.2 (P a) (P x)) .base (λe b=>Rch.closed (P e.1,e.2.1,P e.2.2) ((d.mem _).2 ⟨e,b,rfl⟩)) h
theorem Iso.onto{t c:j0}{P:Int->Int}{n:Nat}(g:Iso t c P n){y:Int}(h0:0<=y)(j:y<(n:Int)):∃ x:Int,(0<=x/\x<(n:Int))/\P x=y:=by
 let L:List Int:=(List.range n).map λi:Nat=>P (i:Int)
 have p:L.Nodup:=by
  rw[List.Nodup,List.pairwise_map]
  refine List.Pairwise.imp_of_mem (λ{a b} l m h e=>h ?_) List.nodup_range
  have:=g.inj _ _ (by omega) (by have:=List.mem_range.1 l;omega) (by omega) (by have:=List.mem_range.1 m;omega) e
  omega
 have q:inV n L:=λz d=>by
  obtain⟨i,f,rfl⟩:=List.mem_map.1 d
  have:=List.mem_range.1 f
  exact g.rng _ (by omega) (by omega)
 have s:y∈L:=by
  refine Classical.byContradiction λo=>?_
  have k:=c07 n (y::L) (List.nodup_cons.2 ⟨o,p⟩) λz d=>by
   rcases List.mem_cons.1 d with rfl|d
   ·exact⟨h0,j⟩
   ·exact q z d
  simp[L]at k
  omega
 obtain⟨i,f,e⟩:=List.mem_map.1 s
 have:=List.mem_range.1 f
 exact⟨_,⟨by omega,by omega⟩,e⟩
theorem Rch.tr{es:List Q0}{a b c:Int}(h:Rch es a b)(k:Rch es b c):Rch es a c:=Rch.sub (P:=λx=>Rch es a x) h Rch.closed k
structure Hom (x t:j0) (g:Int->Int):Prop where
 rng:∀ v,0<=v->v<x.2.1->0<=g v/\g v<t.2.1
 step:∀ v l,0<=v->v<x.2.1->0<=Y0 x v l->Y0 t (g v) l=g (Y0 x v l)
structure Emb (c t:j0) (E:Int->Int):Prop where
 fc:K0 c=true
 hom:Hom c t E
 inj:∀ x y,0<=x->x<c.2.1->0<=y->y<c.2.1->E x=E y->x=y
 full:∀ x y l,0<=x->x<c.2.1->0<=y->y<c.2.1->Y0 t (E x) l=E y->Y0 c x l=y
theorem f05{g:j0}(hf:K0 g=true){v l:Int}(h:0<=Y0 g v l):Y0 g v l<g.2.1:=by
 rcases L08 (D2 hf).1 v l with e|e<;>omega
theorem Emb.comp{a b c:j0}{E j:Int->Int}(e:Emb a b E)(d:Emb b c j):Emb a c (λx=>j (E x)) where
 fc:=e.fc
 hom:=⟨λv h0 f=>d.hom.rng _ (e.hom.rng v h0 f).1 (e.hom.rng v h0 f).2,λv l h0 f h=>by
  have m:=e.hom.step v l h0 f h
  have k:=e.hom.rng v h0 f
  have n:=e.hom.rng _ h (f05 e.fc h)
  show Y0 c (j (E v)) l=j (E (Y0 a v l))
  rw[d.hom.step _ l k.1 k.2 (by rw[m];exact n.1),m]⟩
 inj:=λx y h0 f g i h=>e.inj x y h0 f g i (d.inj _ _ (e.hom.rng x h0 f).1 (e.hom.rng x h0 f).2 (e.hom.rng y g i).1 (e.hom.rng y g i).2 h)
 full:=λx y l h0 f g i h=>e.full x y l h0 f g i (d.full _ _ l (e.hom.rng x h0 f).1 (e.hom.rng x h0 f).2 (e.hom.rng y g i).1 (e.hom.rng y g i).2 h)
theorem H0r{g:j0}{a v l:Int}(h:0<=Y0 g v l):Rch g.2.2 a v↔Rch g.2.2 a (Y0 g v l):=by
 obtain⟨_,e,f,_,i⟩:=U02 h
 have b:=Rch.closed (v:=a) e f
 rcases i with⟨_,_,c,d⟩|⟨_,_,c,d⟩
 ·rw[c,d]at b;exact b
 ·rw[c,d]at b;exact b.symm
theorem Hom.rch{x t:j0}{g:Int->Int}(m:Hom x t g)(hf:K0 x=true){a b:Int}(h:Rch x.2.2 a b):Rch t.2.2 (g a) (g b):=by
 refine Rch.sub (P:=λz=>Rch t.2.2 (g a) (g z)) .base (λe f=>?_) h
 have c:=(D2 hf).1 e f
 have i:=(T02 hf f).1
 have d:=m.step e.1 e.2.1 c.1.1 c.1.2 (by rw[i];exact c.2.1.1)
 rw[i]at d
 have:=H0r (g:=t) (a:=g a) (v:=g e.1) (l:=e.2.1) (by rw[d];exact(m.rng _ c.2.1.1 c.2.1.2).1)
 rw[d]at this;exact this
theorem Hom.comp{a b c:j0}{g k:Int->Int}(e:Hom a b g)(d:Hom b c k)(hf:K0 a=true):Hom a c (λx=>k (g x)) where
 rng:=λv h0 f=>d.rng _ (e.rng v h0 f).1 (e.rng v h0 f).2
 step:=λv l h0 f h=>by
  have j:=e.step v l h0 f h
  have i:=e.rng v h0 f
  have m:=e.rng _ h (f05 hf h)
  show Y0 c (k (g v)) l=k (g (Y0 a v l))
  rw[d.step _ l i.1 i.2 (by rw[j];exact m.1),j]
theorem Hom.lift{x c t:j0}{g E:Int->Int}(m:Hom x t g)(hf:K0 x=true)(e:Emb c t E)(h:∀ v,0<=v->v<x.2.1->∃ w,(0<=w/\w<c.2.1)/\E w=g v):∃ f,Hom x c f/\∀ v,0<=v->v<x.2.1->E (f v)=g v:=by
 have n:∀ v:Int,∃ w:Int,0<=v->v<x.2.1->(0<=w/\w<c.2.1)/\E w=g v:=λv=>by
  by_cases k:0<=v/\v<x.2.1
  ·obtain⟨w,p⟩:=h v k.1 k.2
   exact⟨w,λ_ _=>p⟩
  ·exact⟨0,λh0 d=>absurd ⟨h0,d⟩ k⟩
 let f:Int->Int:=λv=>Classical.choose (n v)
 have i:∀ v,0<=v->v<x.2.1->(0<=f v/\f v<c.2.1)/\E (f v)=g v:=λv=>Classical.choose_spec (n v)
 refine⟨f,⟨λv h0 d=>(i v h0 d).1,λv l h0 d j=>?_⟩,λv h0 d=>(i v h0 d).2⟩
 have o:=f05 hf j
 have a:=i v h0 d
 have b:=i _ j o
 exact e.full _ _ l a.1.1 a.1.2 b.1.1 b.1.2 (by rw[a.2,b.2];exact m.step v l h0 d j)
theorem q0e{o:List Int}{i:Nat}{v:Int}(h:o[i]?=some v):getI o (i:Int)=v:=by
 unfold getI
 simp[List.getD_eq_getElem?_getD,h]
theorem I0r(P:List Int):∀(es:List Q0) (a:Q0),a∈es->0<=getI P a.1->0<=getI P a.2.2->((getI P a.1,a.2.1,getI P a.2.2):Q0)∈pE P es
 |b::r,a,h,c,d=>by
  unfold pE
  rcases List.mem_cons.1 h with rfl|h
  ·rw[decide_eq_true c,decide_eq_true d]
   exact mS
  ·have e:=I0r P r a h c d
   cases decide (0<=getI P b.1)&&decide (0<=getI P b.2.2)
   ·exact e
   ·exact mC _ e
theorem v0g{t:j0}{o:List Int}{a:Q0}:a∈(F00 t o).2.2↔∃ e∈t.2.2,a=(getI (plc t.2.1.toNat o) e.1,e.2.1,getI (plc t.2.1.toNat o) e.2.2)/\0<=getI (plc t.2.1.toNat o) e.1/\0<=getI (plc t.2.1.toNat o) e.2.2:=by
 show a∈i5 P0 [] _↔_
 rw[R6 O5]
 constructor
 ·rintro(h|h)
  ·cases h
  ·exact T0f _ _ a h
 ·rintro⟨e,d,rfl,b,c⟩
  exact .inr (I0r _ _ e d b c)
theorem u0o{n:Nat}{o:List Int}(b:inV n o)(d:o.Nodup){x:Int}(e:0<=x)(h:0<=getI (plc n o) x):getI o (getI (plc n o) x)=x:=by
 have j:=(M08 b e).2
 have g:(getI (plc n o) x).toNat<o.length:=by omega
 have a:=w5 g
 generalize k:o[(getI (plc n o) x).toNat]=v at a
 have i:=C0c b d a
 have f:=g0b b d e (b v (List.mem_of_getElem? a)).1 h (by omega)
 have c:=q0e a
 rw[show(((getI (plc n o) x).toNat:Nat):Int)=getI (plc n o) x by omega]at c
 rw[c,f]
theorem J0r{o:List Int}{x:Int}(h0:0<=x)(b:x<(o.length:Int)):o[x.toNat]?=some (getI o x):=by
 have a:=w5 (xs:=o) (k:=x.toNat) (by omega)
 have:=q0e a
 rw[show((x.toNat:Nat):Int)=x by omega]at this
 rw[this];exact a
theorem Q0l{t:j0}(hf:K0 t=true){o:List Int}(q:o.Nodup)(n:inV t.2.1.toNat o)(F:1<=o.length)(G:o.length<=40):Emb (F00 t o) t (getI o):=by
 have w:=U03 hf n q F G
 obtain⟨K,M,N,O⟩:=D2 hf
 have m:∀ x:Int,0<=x->x<(o.length:Int)->(0<=getI o x/\getI o x<t.2.1)/\getI (plc t.2.1.toNat o) (getI o x)=x:=λx a b=>by
  have A:=J0r a b
  have:=n _ (List.mem_of_getElem? A)
  exact⟨by omega,by rw[C0c n q A];omega⟩
 refine⟨w,⟨λv a b=>(m v a b).1,λv l a b h=>?_⟩,λx y a b c d h=>?_,λx y l a b c d h=>?_⟩
 ·obtain⟨_,L,H,_,s⟩:=U02 h
  obtain⟨e,k,rfl,I,J⟩:=v0g.1 H
  have C:=K e k
  have B:=T02 hf k
  have D:=u0o n q C.1.1 I
  have E:=u0o n q C.2.1.1 J
  rcases s with⟨_,j,f,i⟩|⟨_,j,f,i⟩
  ·simp only at j f i
   rw[←i,E,←f,D,←j];exact B.1
  ·simp only at j f i
   rw[←i,D,←f,E,show l = -e.2.1 by omega];exact B.2
 ·rw[←(m x a b).2,h,(m y c d).2]
 ·have u:=m x a b
  have p:=m y c d
  obtain⟨_,e,k,_,s⟩:=U02 (g:=t) (v:=getI o x) (x:=l) (by rw[h];exact p.1.1)
  rw[h]at s
  rcases s with⟨_,j,f,i⟩|⟨_,j,f,i⟩
  ·have z:((x,e.2.1,y):Q0)∈(F00 t o).2.2:=v0g.2 ⟨e,k,by rw[f,i,u.2,p.2],by rw[f,u.2];exact a,by rw[i,p.2];exact c⟩
   have:=(T02 w z).1
   simp only at this
   rw[←j];exact this
  ·have z:((y,e.2.1,x):Q0)∈(F00 t o).2.2:=v0g.2 ⟨e,k,by rw[f,i,u.2,p.2],by rw[i,p.2];exact c,by rw[f,u.2];exact a⟩
   have:=(T02 w z).2
   simp only at this
   rw[show l = -e.2.1 by omega];exact this
structure c0v (x:j0) (p:Int):Prop where
 fx:K0 x=true
 pr:0<=p/\p<x.2.1
 two:∀ v,0<=v->v<x.2.1->v≠p->∀ z,∃ l,l≠z/\0<=Y0 x v l
 con:∀ v,0<=v->v<x.2.1->Rch x.2.2 p v
def K0d(c t:j0)(E:Int->Int):Prop:=∀(x:j0) (p:Int) (g:Int->Int),c0v x p->Hom x t g->(∃ w,(0<=w/\w<c.2.1)/\E w=g p)->∀ v,0<=v->v<x.2.1->∃ w,(0<=w/\w<c.2.1)/\E w=g v
theorem K0d.comp{a b c:j0}{E h:Int->Int}(e:Emb a b E)(d:Emb b c h)(A:K0d a b E)(B:K0d b c h):K0d a c (λx=>h (E x)):=by
 rintro x p g f n ⟨w,j,s⟩
 have i:=e.hom.rng w j.1 j.2
 obtain⟨k,o,m⟩:=n.lift f.fx d (B x p g f n ⟨E w,i,s⟩)
 have q:=o.rng p f.pr.1 f.pr.2
 have t:E w=k p:=d.inj _ _ i.1 i.2 q.1 q.2 (by rw[m p f.pr.1 f.pr.2];exact s)
 intro v h0 l
 obtain⟨u,y,z⟩:=A x p k f o ⟨w,j,t⟩ v h0 l
 exact⟨u,y,by show h (E u)=g v;rw[z];exact m v h0 l⟩
theorem e0a{c t:j0}{E:Int->Int}(h:∀ v,0<=v->v<t.2.1->∃ w,(0<=w/\w<c.2.1)/\E w=v):K0d c t E:=λx p g d b _ v h0 a=>h _ (b.rng v h0 a).1 (b.rng v h0 a).2
theorem G0b{v:Int}:∀ {es:List Q0} {e:Q0},e∈es->a0b v e<=Y02 v es
 |x::r,e,h=>by
  simp only[Y02]
  rcases List.mem_cons.1 h with a|a
  ·rw[a];omega
  ·have:=G0b (v:=v) a;omega
theorem j0i{v:Int}:∀ {es:List Q0} {e d:Q0},e∈es->d∈es->e≠d->a0b v e+a0b v d<=Y02 v es
 |x::r,e,d,h,k,c=>by
  simp only[Y02]
  rcases List.mem_cons.1 h with b|b
  ·rcases List.mem_cons.1 k with a|a
   ·exact absurd (b.trans a.symm) c
   ·have:=G0b (v:=v) a;rw[b];omega
  ·rcases List.mem_cons.1 k with a|a
   ·have:=G0b (v:=v) b;rw[a];omega
   ·have:=j0i (v:=v) b a c;omega
theorem f0t{g:j0}(hf:K0 g=true){v:Int}(h:∀ z,∃ l,l≠z/\0<=Y0 g v l):2<=Y02 v g.2.2:=by
 obtain⟨l,_,t⟩:=h 0
 obtain⟨k,n,s⟩:=h l
 obtain⟨_,e,j,w,m⟩:=U02 t
 obtain⟨_,d,q,u,o⟩:=U02 s
 by_cases c:e=d
 ·subst c
  have:=G0b (v:=v) j
  have i:e.1=v/\e.2.2=v:=by
   rcases m with⟨_,a,b,_⟩|⟨_,a,b,_⟩<;>rcases o with⟨_,p,f,_⟩|⟨_,p,f,_⟩
   ·exact absurd (by omega) n
   ·exact⟨b,f⟩
   ·exact⟨f,b⟩
   ·exact absurd (by omega) n
  unfold a0b at this
  rw[if_pos i.1,if_pos i.2]at this
  omega
 ·have:=j0i (v:=v) j q c
  have x:1<=a0b v e:=by
   unfold a0b
   rcases m with⟨_,_,b,_⟩|⟨_,_,b,_⟩
   ·rw[if_pos b];omega
   ·rw[if_pos b];omega
  have i:1<=a0b v d:=by
   unfold a0b
   rcases o with⟨_,_,b,_⟩|⟨_,_,b,_⟩
   ·rw[if_pos b];omega
   ·rw[if_pos b];omega
  omega
theorem Hom.two{x t:j0}{g:Int->Int}(m:Hom x t g)(hf:K0 x=true){v:Int}(h0:0<=v)(b:v<x.2.1)(h:∀ z,∃ l,l≠z/\0<=Y0 x v l):∀ z,∃ l,l≠z/\0<=Y0 t (g v) l:=λz=>by
 obtain⟨l,c,a⟩:=h z
 exact⟨l,c,by rw[m.step v l h0 b a];exact(m.rng _ a (f05 hf a)).1⟩
theorem b0n(g:Nat):∀(d k:Nat),(g:Int) ∉ wo g d k
 |0,k,h=>nomatch h
 |d+1,k,h=>by
  unfold wo at h
  by_cases c:k=g
  ·rw[if_pos c]at h;exact b0n g d (k+1) h
  ·rw[if_neg c]at h
   rcases List.mem_cons.1 h with h|h
   ·omega
   ·exact b0n g d (k+1) h
theorem J0t{a:Nat->Bool}:∀(d v k:Nat),lf a d v=some k->a k=true
 |0,v,k,h=>by cases h
 |d+1,v,k,h=>by
  unfold lf at h
  cases hb:a v with
  |true=>rw[hb]at h;cases h;exact hb
  |false=>rw[hb]at h;exact J0t d (v+1) k h
theorem R0l:∀(d:Nat) {h:j0},K0 h=true->(∀ w,0<=w->w<(H00 d h).2.1->Rch (H00 d h).2.2 0 w)->∃ E,Emb (H00 d h) h E/\E 0=0/\K0d (H00 d h) h E
 |0,h,hf,o=>⟨id,⟨hf,⟨λv a b=>⟨a,b⟩,λv l a b k=>rfl⟩,λx y _ _ _ _ e=>e,λx y l _ _ _ _ e=>e⟩,rfl,e0a λv a b=>⟨v,⟨a,b⟩,rfl⟩⟩
 |d+1,h,hf,o=>by
  unfold H00 at o ⊢
  cases e:G00 h with
  |none=>exact⟨id,⟨hf,⟨λv a b=>⟨a,b⟩,λv l a b k=>rfl⟩,λx y _ _ _ _ e=>e,λx y l _ _ _ _ e=>e⟩,rfl,e0a λv a b=>⟨v,⟨a,b⟩,rfl⟩⟩
  |some k =>
   rw[e]at o
   obtain⟨ab,ac,ad,ae⟩:=D2 hf
   obtain⟨s1,s2,N,O⟩:=s06 (T5 hf) e
   have aa:=h0b e
   have q:=J0t _ _ _ e
   have K:=b05 k h.2.1.toNat 0
   have B:=Q0l hf K s1 N O
   have U:=U03 hf s1 K N O
   simp only at o ⊢
   obtain⟨E,A,D,P⟩:=R0l d U o
   have M:getI (wo k h.2.1.toNat 0) 0=0:=by
    obtain⟨m,R⟩:∃ m,h.2.1.toNat=m+1:=⟨h.2.1.toNat-1,by omega⟩
    rw[R,wo,if_neg (by omega)];rfl
   have G:=A.comp B
   refine⟨_,G,by rw[D];exact M,?_⟩
   rintro x p g f z ⟨w,s,C⟩
   have t:=A.hom.rng w s.1 s.2
   have V:Rch h.2.2 0 (g p):=by
    have:=G.hom.rch A.fc (o w s.1 s.2)
    rw[D,M]at this
    rw[←C];exact this
   have S:∀ u,0<=u->u<(F00 h (wo k h.2.1.toNat 0)).2.1->getI (wo k h.2.1.toNat 0) u≠(k:Int):=λu Y Z c=>by
    have:=List.mem_of_getElem? (J0r Y Z)
    rw[c]at this
    exact b0n k _ _ this
   have T:∀ v,0<=v->v<x.2.1->g v≠(k:Int):=λv j n c=>by
    by_cases cp:v=p
    ·rw[cp,←C]at c
     exact S _ t.1 t.2 c
    ·unfold l0j at q
     simp only[Bool.or_eq_true,decide_eq_true_eq,Bool.not_eq_true',decide_eq_false_iff_not]at q
     rcases q with q|q
     ·have:=f0t hf (z.two f.fx j n (f.two v j n cp))
      rw[c]at this;omega
     ·refine q ((b07 _ _ _).2 ?_)
      rw[←c]
      exact Rch.tr V (z.rch f.fx (f.con v j n))
   obtain⟨F,H,I⟩:=z.lift f.fx B λv j n=>by
    have o:=z.rng v j n
    have:=I0j k h.2.1.toNat 0 (g v).toNat (Nat.zero_le _) (by omega) (λc=>T v j n (by omega))
    rw[show(((g v).toNat:Nat):Int)=g v by omega]at this
    obtain⟨i,J⟩:=List.getElem?_of_mem this
    refine⟨(i:Int),⟨by omega,?_⟩,q0e J⟩
    show(i:Int)<(((wo k h.2.1.toNat 0).length:Nat):Int)
    have:=(List.getElem?_eq_some_iff.1 J).1
    omega
   have L:=H.rng p f.pr.1 f.pr.2
   have Q:E w=F p:=B.inj _ _ t.1 t.2 L.1 L.2 (by rw[I p f.pr.1 f.pr.2];exact C)
   intro v j n
   obtain⟨u,W,X⟩:=P x p F f H ⟨w,s,Q⟩ v j n
   exact⟨u,W,by show getI _ (E u)=g v;rw[X];exact I v j n⟩
theorem K0r{h:j0}(hf:K0 h=true):∃ E,Emb (T01 h) h E/\E 0=0/\K0d (T01 h) h E:=by
 have p:=T5 hf
 obtain⟨A,B,C,D⟩:=D2 hf
 have d:=h03 40 hf
 have k:=e07 40 p (by omega)
 obtain⟨u,x,y,z⟩:=D2 d
 have a:=n06 d
 have o:∀ w,0<=w->w<(H00 40 h).2.1->w∈S5 (H00 40 h):=λw h0 b=>B0c d k h0 b
 have q:∀ w,0<=w->w<(H00 40 h).2.1->Rch (H00 40 h).2.2 0 w:=λw h0 b=>by
  by_cases c:w=0
  ·rw[c];exact .base
  ·have:=j0b k w.toNat (by omega) (by omega)
   unfold l0j at this
   simp only[Bool.or_eq_false_iff,Bool.not_eq_false',decide_eq_true_eq]at this
   have g:=this.2
   rw[show((w.toNat:Nat):Int)=w by omega]at g
   exact(b07 _ _ _).1 g
 obtain⟨E,e,l,m⟩:=R0l 40 hf q
 have f:=Q0l d a.1.1 a.1.2 a.2 (Nat.le_trans (c07 _ _ a.1.1 a.1.2) (by omega))
 have s:getI (S5 (H00 40 h)) 0=0:=by
  obtain⟨t,n⟩:=f07 (H00 40 h)
  rw[n];rfl
 refine⟨_,f.comp e,by rw[s];exact l,K0d.comp f e (e0a λv h0 b=>?_) m⟩
 obtain⟨i,j⟩:=List.getElem?_of_mem (o v h0 b)
 refine⟨(i:Int),⟨by omega,?_⟩,q0e j⟩
 show(i:Int)<(((S5 (H00 40 h)).length:Nat):Int)
 have:=(List.getElem?_eq_some_iff.1 j).1
 omega
structure y06 (x t:j0) (g:Int->Int):Prop where
 rng:∀ v,0<=v->v<x.2.1->0<=g v/\g v<t.2.1
 edge:∀ e∈x.2.2,((g e.1,e.2.1,g e.2.2):Q0)∈t.2.2
theorem y06.hom{x t:j0}{g:Int->Int}(m:y06 x t g)(k:K0 t=true):Hom x t g where
 rng:=m.rng
 step:=λv l h0 n h=>by
  obtain⟨_,e,i,_,j⟩:=U02 h
  have f:=T02 k (m.edge e i)
  simp only at f
  rcases j with⟨a,b,c,d⟩|⟨a,b,c,d⟩
  ·rw[←d,←c,←b];exact f.1
  ·rw[←d,←c,show l = -e.2.1 by omega];exact f.2
theorem y06.comp{a b c:j0}{g k:Int->Int}(e:y06 a b g)(d:y06 b c k):y06 a c (λx=>k (g x)) where
 rng:=λv h0 f=>d.rng _ (e.rng v h0 f).1 (e.rng v h0 f).2
 edge:=λz h=>d.edge _ (e.edge z h)
theorem z0p{a b:Q0}{f:Z8}(h:f∈p06 a b):a.2.1=b.2.1/\((a.1=b.1/\((f.1=a.2.2/\f.2=b.2.2)∨(f.1=b.2.2/\f.2=a.2.2)))∨(a.2.2=b.2.2/\((f.1=a.1/\f.2=b.1)∨(f.1=b.1/\f.2=a.1)))):=by
 unfold p06 at h
 by_cases c:a.2.1=b.2.1
 ·refine⟨c,?_⟩
  simp only[c,decide_true,cond_true,List.mem_append]at h
  rcases h with h|h
  ·by_cases d:a.1=b.1
   ·simp only[d,decide_true,cond_true,List.mem_singleton]at h
    subst h
    refine .inl ⟨d,?_⟩
    simp only
    split<;>split<;>omega
   ·simp[d]at h
  ·by_cases d:a.2.2=b.2.2
   ·simp only[d,decide_true,cond_true,List.mem_singleton]at h
    subst h
    refine .inr ⟨d,?_⟩
    simp only
    split<;>split<;>omega
   ·simp[d]at h
 ·simp[c]at h
theorem k0i{a:Q0}{f:Z8}:∀ {l:List Q0},f∈Q02 a l->∃ b∈l,f∈p06 a b
 | [],h=>by simp[Q02]at h
 |b::r,h=>by
  rcases List.mem_append.1 (show f∈p06 a b++Q02 a r from h)with h|h
  ·exact⟨b,mS,h⟩
  ·obtain⟨c,d,hf⟩:=k0i h
   exact⟨c,mC _ d,hf⟩
theorem l0i{f:Z8}:∀ {l:List Q0},f∈W9 l->∃ a∈l,∃ b∈l,f∈p06 a b
 | [],h=>by simp[W9]at h
 |a::r,h=>by
  rcases List.mem_append.1 (show f∈Q02 a r++W9 r from h)with h|h
  ·obtain⟨b,d,hf⟩:=k0i h
   exact⟨a,mS,b,mC _ d,hf⟩
  ·obtain⟨c,e,b,d,hf⟩:=l0i h
   exact⟨c,mC _ e,b,mC _ d,hf⟩
theorem g0t{x t:j0}{g:Int->Int}(m:y06 x t g)(k:K0 t=true){f:Z8}(hf:f∈W9 x.2.2):g f.1=g f.2:=by
 obtain⟨a,l,b,n,h⟩:=l0i hf
 obtain⟨j,c⟩:=z0p h
 have d:=T02 k (m.edge a l)
 have e:=T02 k (m.edge b n)
 simp only at d e
 rcases c with⟨c,i⟩|⟨c,i⟩
 ·have:g a.2.2=g b.2.2:=by rw[←d.1,←e.1,j,c]
  rcases i with⟨p,q⟩|⟨p,q⟩
  ·rw[p,q,this]
  ·rw[p,q,this]
 ·have:g a.1=g b.1:=by rw[←d.2,←e.2,j,c]
  rcases i with⟨p,q⟩|⟨p,q⟩
  ·rw[p,q,this]
  ·rw[p,q,this]
structure Fol (x y:j0) (q:Int->Int):Prop where
 hom:y06 x y q
 base:q 0=0
 onto:∀ u,0<=u->u<y.2.1->∃ v,(0<=v/\v<x.2.1)/\q v=u
 uni:∀(t:j0) (g:Int->Int),K0 t=true->y06 x t g->∃ g',y06 y t g'/\∀ v,0<=v->v<x.2.1->g' (q v)=g v
theorem Fol.refl(x:j0):Fol x x id :=
 ⟨⟨λv h0 a=>⟨h0,a⟩,λe b=>b⟩,rfl,λu h0 a=>⟨u,⟨h0,a⟩,rfl⟩,λt g _ m=>⟨g,m,λ_ _ _=>rfl⟩⟩
theorem Fol.comp{x y z:j0}{q p:Int->Int}(a:Fol x y q)(b:Fol y z p):Fol x z (λv=>p (q v)) where
 hom:=a.hom.comp b.hom
 base:=by rw[a.base,b.base]
 onto:=λu h0 c=>by
  obtain⟨v,f,e⟩:=b.onto u h0 c
  obtain⟨w,n,h⟩:=a.onto v f.1 f.2
  exact⟨w,n,by rw[h,e]⟩
 uni:=λt g d m=>by
  obtain⟨k,o,i⟩:=a.uni t g d m
  obtain⟨l,s,j⟩:=b.uni t k d o
  exact⟨l,s,λv h0 c=>by rw[j _ (a.hom.rng v h0 c).1 (a.hom.rng v h0 c).2,i v h0 c]⟩
theorem A0p{x:j0}{f:Z8}(l:F1 x=true)(hf:f∈W9 x.2.2):Fol x (z05 x f) (mvV f):=by
 obtain⟨n,f2,f3⟩:=Y04 l f hf
 refine⟨⟨λv h0 a=>?_,λe b=>(R6 O5 _ _ _).2 (.inr (List.mem_map.2 ⟨e,b,rfl⟩))⟩,?_,λu h0 a=>?_,λt g k m=>?_⟩
 ·show 0<=mvV f v/\mvV f v<x.2.1-1
  unfold mvV
  split
  ·omega
  ·split<;>omega
 ·unfold mvV
  rw[if_neg (by omega),if_neg (by omega)]
 ·have a:u<x.2.1-1:=a
  by_cases c:u<f.2
  ·refine⟨u,⟨h0,by omega⟩,?_⟩
   unfold mvV
   rw[if_neg (by omega),if_neg (by omega)]
  ·refine⟨u+1,⟨by omega,by omega⟩,?_⟩
   unfold mvV
   rw[if_neg (by omega),if_pos (by omega)]
   omega
 ·have b:=g0t m k hf
  have i:∀ v,(if mvV f v<f.2 then g (mvV f v)else g (mvV f v+1))=g v:=λv=>by
   unfold mvV
   by_cases c1:v=f.2
   ·rw[if_pos c1,if_pos f2,c1,b]
   ·rw[if_neg c1]
    by_cases c2:v>f.2
    ·rw[if_pos c2,if_neg (by omega),show v-1+1=v by omega]
    ·rw[if_neg c2,if_pos (by omega)]
  refine⟨λu=>if u<f.2 then g u else g (u+1),⟨λu h0 a=>?_,λe b=>?_⟩,λv _ _=>i v⟩
  ·have a:u<x.2.1-1:=a
   show 0<=(if u<f.2 then g u else g (u+1))/\(if u<f.2 then g u else g (u+1))<t.2.1
   split
   ·exact m.rng u h0 (by omega)
   ·exact m.rng (u+1) (by omega) (by omega)
  ·rcases(R6 O5 _ _ _).1 b with h|h
   ·cases h
   ·obtain⟨d,j,rfl⟩:=List.mem_map.1 h
    have:=m.edge d j
    show(((if mvV f d.1<f.2 then g (mvV f d.1)else g (mvV f d.1+1)),d.2.1,(if mvV f d.2.2<f.2 then g (mvV f d.2.2)else g (mvV f d.2.2+1))):Q0)∈t.2.2
    rw[i,i];exact this
theorem m0i:∀(n:Nat) {g:j0},F1 g=true->∃ q,Fol g (Z04 n g).1 q
 |0,g,h=>⟨id,Fol.refl g⟩
 |n+1,g,h=>by
  unfold Z04
  cases e:W9 g.2.2 with
  |nil=>exact⟨id,Fol.refl g⟩
  |cons f r =>
   have a:f∈W9 g.2.2:=by rw[e];exact mS
   obtain⟨q,b⟩:=m0i n (A05 h (Y04 h f a))
   exact⟨_,(A0p h a).comp b⟩
theorem L0d{g:j0}(h:F1 g=true):∃ q,Fol g (I6 g).1 q:=by
 obtain⟨q,a⟩:=m0i 40 h
 refine⟨q,?_⟩
 unfold I6
 rw[h];exact a
def Rd(x:j0):Int->List Int->Int->Prop
 |u,[],v=>u=v
 |u,l::w,v=>∃ z,stp u l z∈x.2.2/\Rd x z w v
theorem r0e(g:Int->Int)(u l z:Int):((g (stp u l z).1,(stp u l z).2.1,g (stp u l z).2.2):Q0)=stp (g u) l (g z):=by
 unfold stp;split<;>rfl
theorem Rd.map{x t:j0}{g:Int->Int}(m:y06 x t g):∀ {w:List Int} {u v:Int},Rd x u w v->Rd t (g u) w (g v)
 | [],u,v,h=>congrArg g h
 |l::w,u,v,⟨z,a,h⟩=>⟨g z,by rw[←r0e];exact m.edge _ a,Rd.map m h⟩
theorem L0r{t:j0}(d:K0 t=true){u l z:Int}(h:stp u l z∈t.2.2):Y0 t u l=z/\0<=z:=by
 have a:=T02 d h
 have b:=(D2 d).1 _ h
 unfold stp at a b
 by_cases c:l<0
 ·rw[if_pos c]at a b
  simp only at a b
  rw[show -(-l)=l by omega]at a
  exact⟨a.2,b.1.1⟩
 ·rw[if_neg c]at a b
  exact⟨a.1,b.2.1.1⟩
theorem Rd.rdw{t:j0}(a:K0 t=true):∀ {w:List Int} {u v:Int},Rd t u w v->rdw t u w=some v
 | [],u,v,h=>congrArg some h
 |l::w,u,v,⟨z,c,h⟩=>by
  have b:=L0r a c
  unfold Go.Proofs.YtfphndijjmdiiaaGreat.rdw
  rw[b.1,if_neg (by omega)]
  exact Rd.rdw a h
theorem Rd.of{t:j0}:∀ {w:List Int} {u v:Int},Go.Proofs.YtfphndijjmdiiaaGreat.rdw t u w=some v->Rd t u w v
 | [],u,v,h=>oJ h
 |l::w,u,v,h=>by
  unfold Go.Proofs.YtfphndijjmdiiaaGreat.rdw at h
  by_cases c:Y0 t u l<0
  ·rw[if_pos c]at h;cases h
  ·rw[if_neg c]at h
   obtain⟨_,e,b,a,_⟩:=U02 (g:=t) (v:=u) (x:=l) (by omega)
   exact⟨_,by rw[←a];exact b,Rd.of h⟩
theorem Rd.mono{x y:j0}(h:∀ e∈x.2.2,e∈y.2.2):∀ {w:List Int} {u v:Int},Rd x u w v->Rd y u w v
 | [],u,v,k=>k
 |l::w,u,v,⟨z,a,k⟩=>⟨z,h _ a,Rd.mono h k⟩
theorem s0e{g:j0}{u v:Int}{w:List Int}(h:(A2 g u w v).2=true):w≠[]/\(A2 g u w v).1=(g.1,g.2.1+((w.length-1:Nat):Int),i5 P0 g.2.2 (S01 v w u g.2.1)):=by
 unfold A2 at h ⊢
 cases hc:(!w.isEmpty&&decide (g.2.1+(w.length:Int)-1<=40)&&decide (g.2.2.length+w.length<=120))with
 |false=>rw[hc]at h;cases h
 |true =>
  simp only[Bool.and_eq_true,decide_eq_true_eq,Bool.not_eq_true',List.isEmpty_eq_false_iff]at hc
  exact⟨hc.1.1,rfl⟩
theorem w0g{x:j0}(v:Int):∀(w:List Int) (u n:Int),w≠[]->(∀ e∈S01 v w u n,e∈x.2.2)->Rd x u w v
 | [],u,n,h,_=>absurd rfl h
 | [l],u,n,_,h=>⟨v,h _ mS,rfl⟩
 |l::y::r,u,n,_,h=>⟨n,h _ mS,w0g v (y::r) n (n+1) (λe=>by cases e) λe a=>h e (mC _ a)⟩
theorem s0u{t:j0}{u l:Int}(h:0<=Y0 t u l):stp u l (Y0 t u l)∈t.2.2:=by
 obtain⟨_,e,b,a,_⟩:=U02 h
 rw[←a];exact b
theorem S0l{t:j0}(o:K0 t=true)(v:Int):∀(w:List Int) (u n:Int) (G:Int->Int),w≠[]->u<n->v<n->rdw t (G u) w=some (G v) ->
  ∃ f:Int->Int,(∀ z,z<n->f z=G z)/\(∀ e∈S01 v w u n,((f e.1,e.2.1,f e.2.2):Q0)∈t.2.2)/\∀ z,n<=z->z<n+((w.length-1:Nat):Int)->0<=f z/\f z<t.2.1
 | [],u,n,G,h,_,_,_=>absurd rfl h
 | [l],u,n,G,_,x,A,h=>by
  refine⟨G,λz _=>rfl,λe g=>?_,λz h0 m=>?_⟩
  ·obtain rfl:e=stp u l v:=by simpa [S01] using g
   obtain⟨z,j,p⟩:=Rd.of h
   obtain rfl:z=G v:=p
   rw[r0e];exact j
  ·simp at m;omega
 |l::y::r,u,n,G,_,x,A,h=>by
  obtain⟨z,j,p⟩:=Rd.of h
  have i:=(D2 o).1 _ j
  have B:0<=z/\z<t.2.1:=by
   unfold stp at i
   by_cases c:l<0
   ·rw[if_pos c]at i;exact i.1
   ·rw[if_neg c]at i;exact i.2.1
  obtain⟨f,a,b,c⟩:=S0l o v (y::r) n (n+1) (λk=>if k=n then z else G k) (λe=>by cases e) (by omega) (by omega) (by
   show rdw t (if n=n then z else G n) (y::r)=some (if v=n then z else G v)
   rw[if_pos rfl,if_neg (by omega)]
   exact Rd.rdw o p)
  have q:f n=z:=by rw[a n (by omega)];exact if_pos rfl
  have s:∀ k,k<n->f k=G k:=λk C=>by rw[a k (by omega)];exact if_neg (by omega)
  refine⟨f,s,λe g=>?_,λk h0 m=>?_⟩
  ·rcases List.mem_cons.1 (show e∈stp u l n::S01 v (y::r) n (n+1) from g)with rfl|g
   ·rw[r0e,q,s u x];exact j
   ·exact b e g
  ·by_cases d:k=n
   ·rw[d,q];exact B
   ·refine c k (by omega) ?_
    simp only[List.length_cons]at m ⊢
    omega
theorem Y0c{x:j0}{u v:Int}{w:List Int}(h:(A2 x u w v).2=true):y06 x (A2 x u w v).1 id:=by
 obtain⟨a,b⟩:=s0e h
 rw[b]
 exact⟨λz h0 a=>⟨h0,by show z<x.2.1+_;omega⟩,λe c=>(R6 O5 _ _ _).2 (.inl c)⟩
theorem h0t{x:j0}{u v:Int}{w:List Int}(h:(A2 x u w v).2=true):Rd (A2 x u w v).1 u w v:=by
 obtain⟨a,b⟩:=s0e h
 rw[b]
 exact w0g v w u x.2.1 a λe c=>(R6 O5 _ _ _).2 (.inr c)
theorem M0r{x t:j0}{u v:Int}{w:List Int}(s:F1 x=true)(p:u<x.2.1)(q:v<x.2.1)(h:(A2 x u w v).2=true)(o:K0 t=true){g:Int->Int}(m:y06 x t g)(n:rdw t (g u) w=some (g v)):
  ∃ j,y06 (A2 x u w v).1 t j/\∀ z,z<x.2.1->j z=g z:=by
 obtain⟨i,l⟩:=s0e h
 obtain⟨G,a,b,c⟩:=S0l o v w u x.2.1 g i p q n
 refine⟨G,?_,a⟩
 rw[l]
 refine⟨λz h0 i=>?_,λe f=>?_⟩
 ·have i:z<x.2.1+((w.length-1:Nat):Int):=i
  by_cases d:z<x.2.1
  ·rw[a z d];exact m.rng z h0 d
  ·exact c z (by omega) i
 ·rcases(R6 O5 _ _ _).1 f with f|f
  ·have k:=(i4 s).1 e f
   rw[a _ k.1.2,a _ k.2.1.2]
   exact m.edge e f
  ·exact b e f
theorem n0i:∀(d:List (List Int)) (g:j0),y06 g (p02 d g) id
 | [],g=>⟨λv h0 b=>⟨h0,b⟩,λe c=>c⟩
 |w::r,g=>by
  have a:=n0i r (A2 g 0 w 0).1
  cases h:(A2 g 0 w 0).2 with
  |true=>exact(Y0c h).comp a
  |false =>
   have e:(A2 g 0 w 0).1=g:=by
    unfold A2 at h ⊢
    cases hc:(!w.isEmpty&&decide (g.2.1+(w.length:Int)-1<=40)&&decide (g.2.2.length+w.length<=120))with
    |false=>rfl
    |true=>rw[hc]at h;cases h
   rw[e]at a
   show y06 g (p02 r (A2 g 0 w 0).1) id
   rw[e];exact a
theorem v0o:∀(d:List (List Int)) (g:j0),0<=g.2.1->g.2.1+(tot d:Int)<=40->g.2.2.length+tot d<=120->∀ w∈d,Rd (p02 d g) 0 w 0
 | [],g,h0,f,i,w,b=>by cases b
 |a::r,g,h0,f,i,w,b=>by
  have j:tot (a::r)=a.length+tot r:=rfl
  rw[j]at f i
  rcases List.mem_cons.1 b with rfl|b
  ·by_cases c:w = []
   ·rw[c];exact rfl
   ·have l:0<w.length:=List.length_pos_iff.2 c
    have h:(A2 g 0 w 0).2=true:=by
     unfold A2
     rw[show(!w.isEmpty&&decide (g.2.1+(w.length:Int)-1<=40)&&decide (g.2.2.length+w.length<=120))=true by
      simp only[Bool.and_eq_true,decide_eq_true_eq,Bool.not_eq_true',List.isEmpty_eq_false_iff]
      exact⟨⟨c,by omega⟩,by omega⟩]
     rfl
    exact(h0t h).mono (n0i r (A2 g 0 w 0).1).edge
  ·have k:(A2 g 0 a 0).1.2.1<=g.2.1+a.length/\(A2 g 0 a 0).1.2.2.length<=g.2.2.length+a.length/\0<=(A2 g 0 a 0).1.2.1:=by
    cases h:(A2 g 0 a 0).2 with
    |true =>
     rw[(s0e h).2]
     have:=P02 (S01 0 a 0 g.2.1) g.2.2
     have:=N08 0 a 0 g.2.1
     exact⟨by show g.2.1+_<=_;omega,by simp only;omega,by show 0<=g.2.1+_;omega⟩
    |false =>
     have e:(A2 g 0 a 0).1=g:=by
      unfold A2 at h ⊢
      cases hc:(!a.isEmpty&&decide (g.2.1+(a.length:Int)-1<=40)&&decide (g.2.2.length+a.length<=120))with
      |false=>rfl
      |true=>rw[hc]at h;cases h
     rw[e];omega
   exact v0o r (A2 g 0 a 0).1 (by omega) (by omega) (by omega) w b
theorem B0p{r:Int}{a:List (List Int)}(h:U3 r a=true):tot a<40:=by
 simp only[U3,Bool.and_eq_true,decide_eq_true_eq]at h
 exact h.2
theorem C0p{r:Int}{a:List (List Int)}(h:U3 r a=true):∀ w∈a,Rd (p02 a (r,1,[])) 0 w 0:=by
 have:=B0p h
 exact v0o a (r,1,[]) (by simp) (by simp only;omega) (by simp only[List.length_nil];omega)
def Cmp(t:j0):Prop:=∀ v,0<=v->v<t.2.1->∀ l,l≠0 -> -t.1<=l->l<=t.1->0<=Y0 t v l
theorem o0i{g:j0}{v:Int}:∀ {b:List Int},a05 g v b = []->∀ x∈b,0<=Y0 g v x
 | [],_,x,a=>by cases a
 |y::b,h,x,a=>by
  unfold a05 at h
  obtain⟨d,e⟩:=List.append_eq_nil_iff.1 h
  rcases List.mem_cons.1 a with rfl|a
  ·by_cases c:Y0 g v x<0
   ·rw[decide_eq_true c]at d;cases d
   ·omega
  ·exact o0i e x a
theorem p0i{g:j0}:∀ {d k:Nat},j08 g d k = []->∀ v:Nat,k<=v->v<k+d->∀ x∈U9 g.1.toNat 1,0<=Y0 g (v:Int) x
 |0,k,_,v,f,i,x,e=>by omega
 |d+1,k,h,v,f,i,x,e=>by
  unfold j08 at h
  obtain⟨a,b⟩:=List.append_eq_nil_iff.1 h
  by_cases c:v=k
  ·subst c;exact o0i a x e
  ·exact p0i b v (by omega) (by omega) x e
theorem N0r{r l:Int}(h0:l≠0)(a : -r<=l)(b:l<=r):l∈U9 r.toNat 1:=by
 by_cases c:0<l
 ·have:=(c05 r.toNat 1 l.toNat (by omega) (by omega)).1
  rwa [show((l.toNat:Nat):Int)=l by omega]at this
 ·have:=(c05 r.toNat 1 (-l).toNat (by omega) (by omega)).2
  rwa [show -(((-l).toNat:Nat):Int)=l by omega]at this
theorem M0d{g:j0}(h:K7 g = []):Cmp g:=λv h0 d l c a b=>by
 have:=p0i h v.toNat (Nat.zero_le _) (by omega) l (N0r c a b)
 rwa [show((v.toNat:Nat):Int)=v by omega]at this
theorem J0j{g:j0}(h:k07 g=true):Cmp g:=by
 unfold k07 at h
 simp only[Bool.and_eq_true,decide_eq_true_eq]at h
 exact M0d (List.length_eq_zero_iff.1 (by have:=h.2;omega))
theorem K0j(g:j0):(T01 g).1=g.1:=by
 have h:∀(d:Nat) (g:j0),(H00 d g).1=g.1:=by
  intro d
  induction d with
  |zero=>intro g;rfl
  |succ d a =>
   intro g
   unfold H00
   cases G00 g with
   |none=>rfl
   |some k=>exact a _
 exact h 40 g
theorem x0g{c x:j0}{E:Int->Int}(b:Emb c x E)(m:c.1=x.1)(f:K0 x=true)(e:Cmp c):∀ {w:List Int} {v z:Int},0<=v->v<c.2.1->rdw x (E v) w=some z->∃ u,(0<=u/\u<c.2.1)/\rdw c v w=some u/\E u=z
 | [],v,z,h0,a,h=>⟨v,⟨h0,a⟩,rfl,oJ h⟩
 |l::w,v,z,h0,a,h=>by
  unfold rdw at h
  by_cases c1:Y0 x (E v) l<0
  ·rw[if_pos c1]at h;cases h
  ·rw[if_neg c1]at h
   obtain⟨p,q,A,B⟩:=D2 f
   have k:=q0l p q.1 (show 0<=Y0 x (E v) l by omega)
   obtain⟨j,s,t,y⟩:=r06 _ _ _ k
   have d:=e v h0 a l (by omega) (by omega) (by omega)
   have n:=b.hom.step v l h0 a d
   rw[n]at h
   obtain⟨u,o,g,i⟩:=x0g b m f e d (f05 b.fc d) h
   refine⟨u,o,?_,i⟩
   unfold rdw
   rw[if_neg (by omega)]
   exact g
def B09(g:j0):Prop:=∀ v,Rch g.2.2 0 v->∀ x∈U9 g.1.toNat 1,∃ z,z∈O01 v x g.2.2
theorem Z0c{g:j0}(b:inG g)(h0:0<g.2.1){v:Int}(h:Rch g.2.2 0 v):0<=v/\v<g.2.1:=by
 have:=Rch.sub (es:=g.2.2) (v:=0) (P:=λv=>v=0∨(0<=v/\v<g.2.1)) (.inl rfl) (λe a=>⟨λ_ => .inr (b e a).2.1,λ_ => .inr (b e a).1⟩) h
 rcases this with rfl|h
 ·exact⟨iR _,h0⟩
 ·exact h
theorem T0l{es:List Q0}{v x z:Int}(h:Rch es 0 v)(c:z∈O01 v x es):Rch es 0 z:=by
 obtain⟨e,a,b⟩:=M3.1 c
 rcases b with⟨_,_,rfl,rfl⟩|⟨_,_,rfl,rfl⟩
 ·exact(Rch.closed e a).1 h
 ·exact(Rch.closed e a).2 h
theorem c0n{P:List Int}{a:Q0}:∀ {es:List Q0},a∈pE P es↔∃ e∈es,(0<=getI P e.1/\0<=getI P e.2.2)/\a=(getI P e.1,e.2.1,getI P e.2.2)
 | []=>by simp[pE]
 |e::r=>by
  unfold pE
  by_cases c:0<=getI P e.1/\0<=getI P e.2.2
  ·rw[decide_eq_true c.1,decide_eq_true c.2]
   simp only[Bool.and_self,cond_true,List.mem_cons,c0n (es:=r),exists_eq_or_imp]
   constructor
   ·rintro(h|h)
    ·exact .inl ⟨c,h⟩
    ·exact .inr h
   ·rintro(h|h)
    ·exact .inl h.2
    ·exact .inr h
  ·have:(decide (0<=getI P e.1)&&decide (0<=getI P e.2.2))=false:=by
    by_cases c1:0<=getI P e.1
    ·rw[decide_eq_true c1,decide_eq_false λh=>c ⟨c1,h⟩];rfl
    ·rw[decide_eq_false c1];rfl
   rw[this]
   simp only[cond_false,List.mem_cons,c0n (es:=r),exists_eq_or_imp]
   constructor
   ·exact .inr
   ·rintro(h|h)
    ·exact absurd h.1 c
    ·exact h
theorem q0i{g:j0}(p:inG g)(h0:0<g.2.1){o:List Int}(s:inV g.2.1.toNat o)(n:o.Nodup)(K:∃ t,o=0::t)(F:∀ v,Rch g.2.2 0 v->v∈o)(hf:B09 g):B09 (F00 g o):=by
 obtain⟨t,rfl⟩:=K
 have E:getI (plc g.2.1.toNat (0::t)) 0=0:=C0c s n (i:=0) rfl
 have l:∀ v,Rch g.2.2 0 v->0<=getI (plc g.2.1.toNat (0::t)) v:=λv c=>by
  obtain⟨i,H⟩:=List.getElem?_of_mem (F v c)
  rw[C0c s n H];omega
 have q:∀ f,f∈(F00 g (0::t)).2.2↔∃ e∈g.2.2,(0<=getI (plc g.2.1.toNat (0::t)) e.1/\0<=getI (plc g.2.1.toNat (0::t)) e.2.2)/\f=(getI (plc g.2.1.toNat (0::t)) e.1,e.2.1,getI (plc g.2.1.toNat (0::t)) e.2.2):=λf=>by
  show f∈i5 P0 [] (pE _ g.2.2)↔_
  rw[R6 O5,←c0n]
  simp
 have A:=λ{x y:Int} w J m k=>g0b (x:=x) (y:=y) s n w J m k
 generalize getI (plc g.2.1.toNat (0::t))=P at *
 have back:∀ d,Rch (F00 g (0::t)).2.2 0 d->∃ v,Rch g.2.2 0 v/\d=P v:=λd h=>by
  refine Rch.sub (P:=λd=>∃ v,Rch g.2.2 0 v/\d=P v) ⟨0,.base,E.symm⟩ (λf G=>?_) h
  obtain⟨e,j,⟨L,M⟩,rfl⟩:=(q f).1 G
  have B:=p e j
  constructor
  ·rintro⟨v,c,k⟩
   have u:=Z0c p h0 c
   have:=A B.1.1 u.1 L k
   rw[←this]at c
   exact⟨e.2.2,(Rch.closed e j).1 c,rfl⟩
  ·rintro⟨v,c,k⟩
   have u:=Z0c p h0 c
   have:=A B.2.1.1 u.1 M k
   rw[←this]at c
   exact⟨e.1,(Rch.closed e j).2 c,rfl⟩
 intro d I x w
 obtain⟨v,c,rfl⟩:=back d I
 obtain⟨z,D⟩:=hf v c x w
 have C:=T0l c D
 refine⟨P z,M3.2 ?_⟩
 obtain⟨e,j,m⟩:=M3.1 D
 rcases m with⟨a,b,rfl,rfl⟩|⟨a,b,rfl,rfl⟩
 ·exact⟨(P e.1,e.2.1,P e.2.2),(q _).2 ⟨e,j,⟨l _ c,l _ C⟩,rfl⟩,.inl ⟨a,b,rfl,rfl⟩⟩
 ·exact⟨(P e.1,e.2.1,P e.2.2),(q _).2 ⟨e,j,⟨l _ C,l _ c⟩,rfl⟩,.inr ⟨a,b,rfl,rfl⟩⟩
def d0n(v:Int):List Q0->Nat
 | []=>0
 |e::r=>(if e.1=v then 1 else 0)+d0n v r
def e0n(v:Int):List Q0->Nat
 | []=>0
 |e::r=>(if e.2.2=v then 1 else 0)+e0n v r
theorem y0g(v:Int):∀ es,Y02 v es=d0n v es+e0n v es
 | []=>rfl
 |e::r=>by
  have:=y0g v r
  simp only[Y02,a0b,d0n,e0n]
  omega
theorem U0l{v:Int}:∀ {es:List Q0} {e:Q0},e∈es->e.1=v->1<=d0n v es
 |x::r,e,h,a=>by
  rcases List.mem_cons.1 h with rfl|h
  ·simp only[d0n,if_pos a];omega
  ·have:=U0l h a;simp only[d0n];omega
theorem V0l{v:Int}:∀ {es:List Q0} {e:Q0},e∈es->e.2.2=v->1<=e0n v es
 |x::r,e,h,a=>by
  rcases List.mem_cons.1 h with rfl|h
  ·simp only[e0n,if_pos a];omega
  ·have:=V0l h a;simp only[e0n];omega
theorem O0r{g:j0}(n:1<=g.1)(hf:B09 g){v:Int}(f:Rch g.2.2 0 v):2<=Y02 v g.2.2:=by
 have b:=c05 g.1.toNat 1 1 (Nat.le_refl _) (by omega)
 obtain⟨z,m⟩:=hf v f 1 b.1
 obtain⟨y,l⟩:=hf v f (-1) b.2
 obtain⟨e,k,h⟩:=M3.1 m
 obtain⟨d,j,i⟩:=M3.1 l
 rw[y0g]
 have s1:1<=d0n v g.2.2:=by
  rcases h with⟨_,_,c,_⟩|⟨a,_,_,_⟩
  ·exact U0l k c
  ·omega
 have s2:1<=e0n v g.2.2:=by
  rcases i with⟨a,_,_,_⟩|⟨_,_,c,_⟩
  ·omega
  ·exact V0l j c
 omega
theorem W0l{a:Nat->Bool}:∀ {d v k:Nat},lf a d v=some k->a k=true
 |0,v,k,h=>nomatch h
 |d+1,v,k,h=>by
  unfold lf at h
  cases hb:a v with
  |true=>rw[hb]at h;simp only[cond_true,Option.some.injEq]at h;rw[←h];exact hb
  |false=>rw[hb]at h;exact W0l h
theorem i0t(k d:Nat)(a:1<=k):∃ t,wo k (d+1) 0=0::t:=by
 unfold wo
 rw[if_neg (by omega)]
 exact⟨_,rfl⟩
theorem z0g:∀(d:Nat) {g:j0},K0 g=true->B09 g->B09 (H00 d g)
 |0,g,h,hf=>hf
 |d+1,g,h,hf=>by
  unfold H00
  cases e:G00 g with
  |none=>exact hf
  |some k =>
   obtain⟨i,u,w,x⟩:=D2 h
   obtain⟨f,s,j,l⟩:=s06 (T5 h) e
   have m:=h0b e
   refine z0g d (U03 h f (b05 _ _ _) j l) (q0i i (by omega) f (b05 _ _ _) ?_ (λv b=>?_) hf)
   ·obtain⟨n,p⟩:∃ n,g.2.1.toNat=n+1:=⟨g.2.1.toNat-1,by omega⟩
    rw[p]
    exact i0t k n m.1
   ·have t:=Z0c i (by omega) b
    have:=I0j k g.2.1.toNat 0 v.toNat (by omega) (by omega) (λc=>by
     have a:=W0l e
     have o:(k:Int)=v:=by omega
     unfold l0j at a
     rw[o,Bool.or_eq_true]at a
     rcases a with a|a
     ·have:=O0r (by omega) hf b
      simp only[decide_eq_true_eq]at a
      omega
     ·have q:v∈H0m g.2.2:=(b07 _ _ _).2 b
      rw[decide_eq_true q]at a
      cases a)
    rwa [show((v.toNat:Nat):Int)=v by omega]at this
theorem D0p{g:j0}(h:K0 g=true)(hf:B09 g):B09 (T01 g):=by
 have a:=h03 40 h
 have d:G00 (H00 40 g)=none:=by
  obtain⟨b,f,i,j⟩:=D2 h
  exact e07 40 (T5 h) (by omega)
 obtain⟨b,f,i,j⟩:=D2 a
 obtain⟨c,k⟩:=n06 a
 show B09 (F00 (H00 40 g) (S5 (H00 40 g)))
 refine q0i b (by omega) c.2 c.1 (f07 _) (λv e=>?_) (z0g 40 h hf)
 have:=Z0c b (by omega) e
 exact B0c a d this.1 this.2
theorem A0g{g:j0}{v:Int}:∀(a:List Int),(∀ x∈a,0<=Y0 g v x)->a05 g v a = []
 | [],_=>rfl
 |x::a,h=>by
  unfold a05
  have:=h x mS
  rw[decide_eq_false (show ¬ Y0 g v x<0 by omega),A0g a λy b=>h y (mC _ b)]
  rfl
theorem B0g{g:j0}:∀(d k:Nat),(∀ v:Nat,k<=v->v<k+d->∀ x∈U9 g.1.toNat 1,0<=Y0 g (v:Int) x)->j08 g d k = []
 |0,k,h=>rfl
 |d+1,k,h=>by
  unfold j08
  rw[A0g _ (h k (Nat.le_refl _) (by omega)),B0g d (k+1) λv a b=>h v (by omega) (by omega)]
  rfl
theorem P0r{g:j0}(h:K0 g=true)(hf:B09 g):k07 (T01 g)=true:=by
 have a:=S0h h
 have b:=A0d a
 have f:=D0p h hf
 obtain⟨l,o,p,q⟩:=D2 b
 have i:G00 (T01 g)=none:=by
  unfold u00 at a
  simp only[Bool.and_eq_true,Option.isNone_iff_eq_none]at a
  exact a.2.1
 have j:K7 (T01 g) = []:=by
  unfold K7
  refine B0g _ 0 λv m n x k=>?_
  have d:Rch (T01 g).2.2 0 (v:Int):=by
   by_cases c:v=0
   ·subst c;exact .base
   ·have:=j0b i v (by omega) (by omega)
    unfold l0j at this
    simp only[Bool.or_eq_false_iff,Bool.not_eq_false',decide_eq_true_eq]at this
    exact(b07 _ _ _).1 this.2
  obtain⟨z,e⟩:=f _ d x k
  rw[G03 b e]
  exact(Z0c l (by omega) (T0l d e)).1
 unfold k07
 rw[a,j]
 rfl
def Lps(t:j0)(a:List (List Int)):Prop:=∀ v,0<=v->v<t.2.1->∀ w∈a,rdw t v w=some v
structure f0a (p:l0) (f x:j0):Prop where
 up:∃ q,y06 f x q/\q 0=0
 uni:∀(t:j0) (g:Int->Int),K0 t=true->t.1=p.1->Cmp t->Lps t p.2->y06 f t g->∃ g',y06 x t g'/\g' 0=g 0
theorem w0o{p:l0}{f x y:j0}{q:Int->Int}(m:f0a p f x)(h:Fol x y q)(h0:0<x.2.1):f0a p f y:=by
 obtain⟨⟨a,l,n⟩,w⟩:=m
 refine⟨⟨_,l.comp h.hom,by show q (a 0)=0;rw[n,h.base]⟩,λt g b v o u s=>?_⟩
 obtain⟨c,e,i⟩:=w t g b v o u s
 obtain⟨d,j,k⟩:=h.uni t c b e
 refine⟨d,j,?_⟩
 have:=k 0 (iR _) h0
 rw[h.base]at this
 rw[this,i]
theorem Q0r{g:j0}(hf:K0 g=true)(h:Cmp g):B09 g:=λv c x d=>by
 obtain⟨e,m,n,o⟩:=D2 hf
 have b:=Z0c e (by omega) c
 obtain⟨j,i,k,l⟩:=r06 _ _ _ d
 have f:=h v b.1 b.2 x (by omega) (by omega) (by omega)
 rcases b01 g v x with⟨a,_⟩|a
 ·omega
 ·exact⟨_,a⟩
theorem r0i{g:j0}{v:Int}:∀ {l:List (List Int)} {k:Nat},Q0f g v l k=none->∀ w∈l,rdw g v w=some v
 | [],_,_,w,a=>by cases a
 |r::l,k,h,w,a=>by
  unfold Q0f at h
  cases hb:W0q g v r with
  |true=>rw[hb]at h;cases h
  |false =>
   rw[hb]at h
   rcases List.mem_cons.1 a with rfl|a
   ·unfold W0q at hb
    refine(F0c g _ _ _).2 ?_
    have b:=w0f g w v
    cases hc:decide ((N00 g v w).2<w.length)with
    |true=>rw[hc]at hb;cases hb
    |false =>
     rw[hc]at hb
     simp only[cond_false,Bool.not_eq_false',decide_eq_true_eq]at hb
     simp only[decide_eq_false_iff_not]at hc
     exact⟨by omega,hb⟩
   ·exact r0i h w a
theorem s0i{g:j0}{b:List (List Int)}:∀ {d k:Nat},x07 g b d k=none->∀ v:Nat,k<=v->v<k+d->∀ w∈b,rdw g (v:Int) w=some (v:Int)
 |0,k,_,v,e,f,w,a=>by omega
 |d+1,k,h,v,e,f,w,a=>by
  unfold x07 at h
  cases hr:Q0f g (k:Int) b 0 with
  |some j=>rw[hr]at h;cases h
  |none =>
   rw[hr]at h
   by_cases c:v=k
   ·subst c;exact r0i hr w a
   ·exact s0i h v (by omega) (by omega) w a
theorem j0t{g:j0}{a:List (List Int)}(h:x07 g a g.2.1.toNat 0=none):Lps g a:=λv h0 c w b=>by
 have:=s0i h v.toNat (Nat.zero_le _) (by omega) w b
 rwa [show((v.toNat:Nat):Int)=v by omega]at this
theorem R0r{p:l0}{f g:j0}(n:(J2 p g).2.2=true)(h:(J2 p g).2.1=true)(m:f0a p f g):f0a p f (J2 p g).1:=by
 obtain⟨L,hf,M⟩:=P08 n
 obtain⟨W,Z,aa,ab⟩:=D2 hf
 have J:=T5 hf
 have U:=R02 L
 unfold J2 at h n ⊢
 rw[L,hf,decide_eq_true M]at h n ⊢
 simp only[Bool.and_self,cond_true]at h n ⊢
 cases hh:x07 g p.2 g.2.1.toNat 0 with
 |some q =>
  obtain⟨v,i⟩:=q
  rw[hh]at h n
  have X:=x0c hh
  simp only at h n ⊢
  unfold L0h at h n ⊢
  cases y:p.2[i]? with
  |none=>rw[y]at h;cases h
  |some w =>
   rw[y]at h
   simp only at h ⊢
   have N:=List.mem_of_getElem? y
   cases ha:(A2 g (v:Int) w (v:Int)).2 with
   |false=>rw[ha]at h;cases h
   |true =>
    rw[cond_true]
    have j:0<=(v:Int)/\(v:Int)<g.2.1:=by omega
    have V:L3 g.1 w=true:=by rw[←M];exact U w N
    have S:=L05 J j j V
    obtain⟨k,G⟩:=L0d S
    have T:=(Y0c ha).rng 0 (iR _) (by omega)
    refine w0o (x:=(A2 g (v:Int) w (v:Int)).1) ⟨?_,λt e B I C D u=>?_⟩ G T.2
    ·obtain⟨a,l,s⟩:=m.up
     exact⟨_,l.comp (Y0c ha),s⟩
    ·obtain⟨a,l,s⟩:=m.uni t e B I C D u
     have A:=l.rng _ j.1 j.2
     obtain⟨b,O,P⟩:=M0r J j.2 j.2 ha B l (D _ A.1 A.2 w N)
     exact⟨b,O,by rw[P 0 (by omega),s]⟩
 |none =>
  rw[hh]at h n
  simp only at h n ⊢
  unfold M0h at h n ⊢
  cases hm:K7 g with
  |nil=>rw[hm]at h;cases h
  |cons e r =>
   rw[hm]at h
   simp only at h ⊢
   have E:=k08 hf (e:=e) (by rw[hm];exact mS)
   cases j:(A3 g).2 with
   |false=>rw[j]at h;cases h
   |true =>
    rw[j]at h
    simp only[cond_true]at h ⊢
    have R:A3 g=((g.1,g.2.1+1,g.2.2),true):=by
     unfold A3 at j ⊢
     cases o:decide (g.2.1<40)with
     |false=>rw[o]at j;cases j
     |true=>rfl
    rw[R]at h ⊢
    cases u:(n9 ((g.1,g.2.1+1,g.2.2),true).1 (stp e.1 e.2.1 g.2.1)).2 with
    |false=>rw[u]at h;cases h
    |true =>
     rw[cond_true]
     have Q:(n9 ((g.1,g.2.1+1,g.2.2),true).1 (stp e.1 e.2.1 g.2.1)).1=(g.1,g.2.1+1,S8 P0 (stp e.1 e.2.1 g.2.1) g.2.2):=by
      unfold n9 at u ⊢
      simp only at u ⊢
      cases o:(decide (g.2.2.length<120) && !decide (stp e.1 e.2.1 g.2.1∈g.2.2))with
      |false=>rw[o]at u;cases u
      |true=>rfl
     rw[Q]
     have K:∀ d,d∈S8 P0 (stp e.1 e.2.1 g.2.1) g.2.2↔d=stp e.1 e.2.1 g.2.1∨d∈g.2.2:=λd=>R03 O5 _ _ _
     refine⟨?_,λt k B I C D G=>?_⟩
     ·obtain⟨a,l,s⟩:=m.up
      exact⟨a,⟨λv h0 h=>by
       have:=l.rng v h0 h
       exact⟨this.1,by show a v<g.2.1+1;omega⟩,λd o=>(K _).2 (.inr (l.edge d o))⟩,s⟩
     ·obtain⟨a,l,s⟩:=m.uni t k B I C D G
      have A:=l.rng _ E.1.1 E.1.2
      have H:=C (a e.1) A.1 A.2 e.2.1 E.2.1 (by omega) (by omega)
      have F:∀ z,z<g.2.1->(if z=g.2.1 then Y0 t (a e.1) e.2.1 else a z)=a z:=λz Y=>if_neg (by omega)
      refine⟨λz=>if z=g.2.1 then Y0 t (a e.1) e.2.1 else a z,⟨λz h0 h=>?_,λd o=>?_⟩,(F 0 (by omega)).trans s⟩
      ·have h:z<g.2.1+1:=h
       show 0<=(if z=g.2.1 then Y0 t (a e.1) e.2.1 else a z)/\(if z=g.2.1 then Y0 t (a e.1) e.2.1 else a z)<t.2.1
       by_cases c:z=g.2.1
       ·rw[if_pos c];exact⟨H,f05 B H⟩
       ·rw[if_neg c];exact l.rng z h0 (by omega)
      ·rcases(K d).1 o with rfl|o
       ·show(((λz=>if z=g.2.1 then Y0 t (a e.1) e.2.1 else a z) (stp e.1 e.2.1 g.2.1).1,(stp e.1 e.2.1 g.2.1).2.1,(λz=>if z=g.2.1 then Y0 t (a e.1) e.2.1 else a z) (stp e.1 e.2.1 g.2.1).2.2):Q0)∈t.2.2
        rw[r0e (λz=>if z=g.2.1 then Y0 t (a e.1) e.2.1 else a z)]
        simp only[if_true,F e.1 E.1.2]
        exact s0u H
       ·have y:=W d o
        simp only[F _ y.1.2,F _ y.2.1.2]
        exact l.edge d o
theorem t0i{p:l0}{f:j0}:∀(d:Nat) {g:j0},f0a p f g->(m08 p d g).2=true->∃ z,f0a p f z/\K0 z=true/\z.1=p.1/\Cmp z/\Lps z p.2/\m08 p d g=(T01 z,true)
 |0,g,m,h=>by cases h
 |d+1,g,m,h=>by
  unfold m08 at h ⊢
  cases h2:(J2 p g).2.2 with
  |false=>rw[h2]at h;cases h
  |true =>
   rw[h2]at h
   cases h1:(J2 p g).2.1 with
   |true =>
    rw[h1]at h
    exact t0i d (R0r h2 h1 m) h
   |false =>
    obtain⟨b,hf,a⟩:=P08 h2
    refine⟨g,m,hf,a.symm,?_,?_,rfl⟩
    all_goals
     unfold J2 at h1 h2
     rw[b,hf,decide_eq_true a]at h1 h2
     simp only[Bool.and_self,cond_true]at h1 h2
     cases hh:x07 g p.2 g.2.1.toNat 0 with
     |some q =>
      obtain⟨v,i⟩:=q
      rw[hh]at h1 h2
      simp only at h1 h2
      unfold L0h at h1 h2
      cases hi:p.2[i]? with
      |none=>rw[hi]at h2;cases h2
      |some w =>
       rw[hi]at h1 h2
       simp only at h1 h2
       cases ha:(A2 g (v:Int) w (v:Int)).2 with
       |false=>rw[ha]at h2;cases h2
       |true=>rw[ha]at h1;cases h1
     |none =>
      rw[hh]at h1 h2
      simp only at h1 h2
      first
      |exact j0t hh
      |unfold M0h at h1 h2
       cases hm:K7 g with
       |nil=>exact M0d hm
       |cons e r =>
        rw[hm]at h1 h2
        simp only at h1 h2
        cases hv:(A3 g).2 with
        |false=>rw[hv]at h2;cases h2
        |true =>
         rw[hv]at h1 h2
         simp only[cond_true]at h1 h2
         cases he:(n9 (A3 g).1 (stp e.1 e.2.1 g.2.1)).2 with
         |false=>rw[he]at h2;cases h2
         |true=>rw[he]at h1;cases h1
theorem C0g{p:l0}{b:List (List Int)}(h:(M6 p b).2=true):k07 (M6 p b).1=true/\(M6 p b).1.1=p.1/\Lps (M6 p b).1 p.2/\(∀ w∈b,rdw (M6 p b).1 0 w=some 0) /\
  ∀(t:j0) (g:Int->Int),K0 t=true->t.1=p.1->Cmp t->Lps t p.2->y06 (p02 b (p.1,1,[])) t g->g 0=0->∃ f,Mor (M6 p b).1 t f:=by
 unfold M6 at h ⊢
 cases hp:O1 p&&U3 p.1 b with
 |false=>rw[hp]at h;cases h
 |true =>
  rw[hp]at h
  rw[cond_true]at h ⊢
  simp only[Bool.and_eq_true]at hp
  obtain⟨O,T,i⟩:=z0c hp.2
  have B:=l08 b (A0c O) i
  obtain⟨U,V,W,X⟩:=i4 B
  obtain⟨q,N⟩:=L0d B
  have R:f0a p (p02 b (p.1,1,[])) (I6 (p02 b (p.1,1,[]))).1:=w0o ⟨⟨id,(Fol.refl _).hom,rfl⟩,λt g _ _ _ _ m=>⟨g,m,rfl⟩⟩ N (by omega)
  obtain⟨z,m,hf,Q,H,L,e⟩:=t0i 300 R h
  rw[e]
  obtain⟨E,c,j,_⟩:=K0r hf
  have A:=P0r hf (Q0r hf H)
  have y:=J0j A
  have x:=K0j z
  have S:=D2 c.fc
  refine⟨A,by rw[x,Q],λv h0 k w i=>?_,λw i=>?_,λt g G P I M K J=>?_⟩
  ·have D:=c.hom.rng v h0 k
   obtain⟨u,d,l,n⟩:=x0g c x hf y h0 k (L _ D.1 D.2 w i)
   rw[l,c.inj u v d.1 d.2 h0 k n]
  ·obtain⟨a,o,s⟩:=m.up
   have F:=((C0p hp.2 w i).map o).rdw hf
   rw[s]at F
   have h0:(0:Int)<(T01 z).2.1:=by omega
   obtain⟨u,d,l,n⟩:=x0g c x hf y (iR _) h0 (by rw[j];exact F)
   rw[l,c.inj u 0 d.1 d.2 (iR _) h0 (by rw[n,j])]
  ·obtain⟨a,o,s⟩:=m.uni t g G P I M K
   have C:=c.hom.comp (o.hom G) c.fc
   exact⟨_,⟨by show a (E 0)=0;rw[j,s,J],C.rng,C.step⟩⟩
theorem L0j{rel:List (List Int)}{x:List Int}:x∈y00 rel↔∃ r∈rel,x∈b09 r∨x∈b09 (inv r):=by
 induction rel with
 |nil=>simp[y00]
 |cons r l d =>
  simp only[y00,List.mem_append,d,List.mem_cons]
  constructor
  ·rintro(h|⟨c,b,a⟩)
   ·exact⟨r,.inl rfl,h⟩
   ·exact⟨c,.inr b,a⟩
  ·rintro⟨c,rfl|b,a⟩
   ·exact .inl a
   ·exact .inr ⟨c,b,a⟩
theorem S0r(rel:List (List Int)):H0l rel=true↔∀ x∈y00 rel,∀ y∈y00 rel,x≠y->six x y:=by
 unfold H0l
 rw[y0j]
 have c:=λx=>K08 (cf:=J1) (eq:=eqW) t0b x (y00 rel)
 constructor
 ·intro h x n y o m
  have p:∀ l:List (List Int),l.Pairwise six->∀ a∈l,∀ b∈l,a≠b->six a b:=λl j=>r0g (λa b k=>(o0r a b).1 k) j
  exact p _ h x ((c x).2 n) y ((c y).2 o) m
 ·intro h
  have g:=w0h d08 t0b (y00 rel)
  refine List.Pairwise.imp_of_mem (λ{a b} d f i=>h a ((c a).1 d) b ((c b).1 f) λe=>?_) g
  rw[e,d08.refl]at i
  omega
theorem x0o{rel rel':List (List Int)}(h:H0l rel=true)(e:∀ w∈rel',w∈rel):H0l rel'=true:=by
 rw[S0r]at h ⊢
 have b:∀ x,x∈y00 rel'->x∈y00 rel:=λx a=>by
  obtain⟨r,c,d⟩:=L0j.1 a
  exact L0j.2 ⟨r,e r c,d⟩
 exact λx a y f=>h x (b x a) y (b y f)
theorem H0b:∀ {c:List (List Int)},U09 c=true->∀ w∈c,U09 [w]=true
 | [],_,w,b=>by cases b
 |a::r,h,w,b=>by
  simp only[U09,Bool.and_eq_true]at h ⊢
  rcases List.mem_cons.1 b with rfl|b
  ·exact⟨h.1,trivial⟩
  ·have:=H0b h.2 w b
   simpa only[U09,Bool.and_eq_true] using this
theorem u0i{p:l0}(h:A01 p=true):O1 p=true/\H0l p.2=true:=by
 unfold A01 at h
 rw[Bool.and_eq_true]at h
 refine⟨h.1,?_⟩
 have a:=h.2
 unfold O0 at a
 rw[h.1]at a
 exact a
theorem E0p{p:l0}(D:SP p)(h:A01 p=true):p=(2,[R0])∨p=(3,[R1])∨G0l p.2=true:=by
 obtain⟨l,q⟩:=u0i h
 have t:U09 p.2=true:=by
  unfold O1 at l
  rw[Bool.and_eq_true]at l
  exact l.2
 rcases D.1 with e|e|s|C
 ·exact .inl e
 ·exact .inr (.inl e)
 ·refine .inr (.inr ?_)
  rcases s with s|⟨m,E⟩
  ·have:=List.all_eq_true.1 X0u p.2 s
   rw[q]at this
   simpa using this
  ·have g:∀ w∈p.2,w∈Z1:=λw n=>by
    have f:=List.all_eq_true.1 V0u w (E w n)
    have i:=x0o q (rel':=[w]) λv o=>by rw[List.mem_singleton.1 o];exact n
    have k:=H0b t w n
    have A:Red w.reverse=true:=by
     have:=o0l (R02 l w n)
     have B:=W03 w [] rfl
     rwa [←List.reverse_reverse (t7 [] w),this]at B
    rw[i,k,A]at f
    simpa using f
   have j:∀ u∈p.2,∀ v∈p.2,cc u v=true:=λu y v o=>by
    have f:=List.all_eq_true.1 (List.all_eq_true.1 W0u u (g u y)) v (g v o)
    have i:=x0o q (rel':=[u,v]) λx z=>by
     simp only[List.mem_cons,List.not_mem_nil,or_false]at z
     rcases z with rfl|rfl
     ·exact y
     ·exact o
    rw[i]at f
    simpa using f
   generalize p.2=rel at m g j
   match rel,m,g,j with
   | [],_,_,_=>decide
   | [u],_,g,_ =>
    have f:=List.all_eq_true.1 C0j u (g u (by simp))
    rw[Bool.and_eq_true]at f
    exact f.1
   | [u,v],_,g,j =>
    have f:=List.all_eq_true.1 C0j u (g u (by simp))
    rw[Bool.and_eq_true]at f
    have i:=List.all_eq_true.1 f.2 v (g v (by simp))
    rw[j u (by simp) v (by simp)]at i
    simp only[Bool.not_true,Bool.false_or,Bool.and_eq_true]at i
    exact i.1
   | [u,v,w],_,g,j =>
    have f:=List.all_eq_true.1 C0j u (g u (by simp))
    rw[Bool.and_eq_true]at f
    have i:=List.all_eq_true.1 f.2 v (g v (by simp))
    rw[j u (by simp) v (by simp)]at i
    simp only[Bool.not_true,Bool.false_or,Bool.and_eq_true]at i
    have k:=List.all_eq_true.1 i.2 w (g w (by simp))
    rw[j u (by simp) w (by simp),j v (by simp) w (by simp)]at k
    simpa using k
   |a::b::c::d::r,m,_,_=>simp at m
 ·have:=H0b t [] C
  exact absurd this (by decide)
theorem I0b{r:Int}{rel:List (List Int)}(a:O1 (r,rel)=true){ts:List i00}(b:ts.length<=3):B3 (r,rel) ts=rd (C7 rel ts).flatten:=by
 unfold B3
 rw[a,cond_true,List.take_of_length_le (by omega),e05];rfl
theorem t0u{r:Int}{rel:List (List Int)}(a:O1 (r,rel)=true):∀ u∈rel,Lw u/\u≠[]:=λu b=>by
 obtain⟨_,d⟩:=O08 (R02 a u b)
 refine⟨λx h=>⟨(d x h).1,(d x h).2.1⟩,λc=>?_⟩
 have e:U09 rel=true:=by
  unfold O1 at a
  rw[Bool.and_eq_true]at a
  exact a.2
 have:=H0b e u b
 rw[c]at this
 exact absurd this (by decide)
theorem u0u{w:List Int}(h:e02 2 w):∀ x∈w,x∈L4:=λx a=>by
 have:=h x a
 simp only[L4,List.mem_cons,List.not_mem_nil]
 omega
theorem v0u{w:List Int}(h:e02 3 w):∀ x∈w,x∈L6:=λx a=>by
 have:=h x a
 simp only[L6,List.mem_cons,List.not_mem_nil]
 omega
theorem k0t{p:l0}(s:SP p)(h:A01 p=true){ts:List i00}(g:ts.length<=3)(i:∀ t∈ts,V0d p.1 t):(Q4 p (B3 p ts)).1 = []:=by
 have a:=(u0i h).1
 have w:=(u0g p g i).1
 rcases E0p s h with rfl|rfl|v
 ·refine M0l m0u (by decide) (by decide) (by decide) (by decide) (by decide) a (cs:=C7 [R0] ts) (λc f=>?_) ?_ (by omega)
  ·obtain⟨t,b,u,d,e⟩:=W01 f
   obtain rfl:=List.mem_singleton.1 d
   have k:=i t b
   exact⟨t.1,n0o k.2.1 (u0u k.1) k.2.2,e⟩
  ·rw[I0b a g,i07]
 ·refine M0l n0u (by decide) (by decide) (by decide) (by decide) (by decide) a (cs:=C7 [R1] ts) (λc f=>?_) ?_ (by omega)
  ·obtain⟨t,b,u,d,e⟩:=W01 f
   obtain rfl:=List.mem_singleton.1 d
   have k:=i t b
   exact⟨t.1,n0o k.2.1 (v0u k.1) k.2.2,e⟩
  ·rw[I0b a g,i07]
 ·obtain⟨r,rel⟩:=p
  have l:=t0u a
  have q:Lw (B3 (r,rel) ts):=by
   rw[I0b a g]
   refine Lw.rd (s04 λc f=>?_)
   obtain⟨t,b,u,d,e⟩:=W01 f
   have m:=(l u d).1
   have j:=(i t b).lw
   rcases e with rfl|rfl
   ·exact T08 m j
   ·exact T08 m.inv j
  refine r0r v a q (by omega) λπ o n=>?_
  have:=x0p l (ts:=ts) (λt k=>(i t k).lw) o n
  rw[e05]at this
  rw[I0b a g]
  exact this
theorem z06{g:j0}(hf:K0 g=true)(c:Cmp g):∀(w:List Int) (v:Int),0<=v->v<g.2.1->e02 g.1 w->∃ u,rdw g v w=some u/\0<=u/\u<g.2.1
 | [],v,h0,a,_=>⟨v,rfl,h0,a⟩
 |l::w,v,h0,a,f=>by
  have b:=f l mS
  have d:=c v h0 a l b.1 b.2.1 b.2.2
  obtain⟨u,e,h⟩:=z06 hf c w _ d (f05 hf d) λx i=>f x (mC _ i)
  refine⟨u,?_,h⟩
  unfold rdw
  rw[if_neg (by omega)];exact e
theorem e02.inv{r:Int}(b:r<=256){w:List Int}(h:e02 r w):e02 r (inv w):=λx a=>by
 rw[A0j (h.lw b)]at a
 unfold neW at a
 obtain⟨y,c,rfl⟩:=List.mem_map.1 (List.mem_reverse.1 a)
 have:=h y c
 omega
theorem e02.sub{r:Int}{a w:List Int}(h:e02 r w)(b:∀ x∈a,x∈w):e02 r a:=λx c=>h x (b x c)
def Bk(g:j0)(s:List Int):Prop:=∀ v,0<=v->v<g.2.1->rdw g v s=some v
theorem T0r{g:j0}(hf:K0 g=true){a:List Int}(c:Lw a)(h:Bk g a):Bk g (inv a):=λv h0 b=>l0b hf a v v c.nm h0 (h v h0 b)
theorem U0r{g:j0}(hf:K0 g=true)(l:Cmp g){a:List Int}(m:e02 g.1 a)(h:Bk g a)(k:Nat):Bk g (I01 a k):=λv h0 j=>by
 have o:=(D2 hf).2.1
 have d:e02 g.1 (a.take k):=m.sub λx n=>List.mem_of_mem_take n
 have i:=d.lw (by omega)
 obtain⟨z,e,f⟩:=z06 hf l (inv (a.take k)) v h0 j (d.inv (by omega))
 have b:=l0b hf (inv (a.take k)) v z i.inv.nm h0 e
 rw[t0j i.nm]at b
 have c:=h z f.1 f.2
 rw[←List.take_append_drop k a,c01,b,oB]at c
 unfold I01
 rw[c01]
 rw[c,oB]
 exact b
theorem y0o{p:l0}(a:O1 p=true):∀ u∈p.2,e02 p.1 u:=λu b x c=>((O08 (R02 a u b)).2 x c).2
theorem z0o{r:Int}{b:List Int}(h:e02 r b)(k:Nat):e02 r (I01 b k):=h.sub λx a=>by
 unfold I01 at a
 rcases List.mem_append.1 a with a|a
 ·exact List.mem_of_mem_drop a
 ·exact List.mem_of_mem_take a
theorem w0u{p:l0}{g:j0}(c:O1 p=true)(m:g.1=p.1)(hf:K0 g=true)(d:Cmp g)(l:Lps g p.2):∀ b∈O0 p,Bk g b/\e02 g.1 b:=λb n=>by
 obtain⟨r,rel⟩:=p
 have o:=(D2 hf).2.1
 obtain⟨u,f,h⟩:=L0j.1 ((F0b c b).1 n)
 have a:e02 g.1 u:=by rw[m];exact y0o c u f
 have i:Bk g u:=λv h0 j=>l v h0 j u f
 rcases h with h|h
 ·obtain⟨k,_,rfl⟩:=List.mem_map.1 h
  exact⟨U0r hf d a i k,z0o a k⟩
 ·obtain⟨k,_,rfl⟩:=List.mem_map.1 h
  have e:=a.inv (by omega)
  exact⟨U0r hf d e (T0r hf (a.lw (by omega)) i) k,z0o e k⟩
theorem A0o{g:j0}(hf:K0 g=true)(i:Cmp g){r u:List Int}(h:Bk g r)(j:e02 g.1 r)(a:e02 g.1 u):rdw g 0 (j03 r u)=some 0:=by
 obtain⟨k,l,m,n⟩:=D2 hf
 have d:=a.lw (by omega)
 obtain⟨v,e,c⟩:=z06 hf i (inv u) 0 (iR _) (by omega) (a.inv (by omega))
 have b:=l0b hf (inv u) 0 v d.inv.nm (iR _) e
 rw[t0j d.nm]at b
 have f:rdw g 0 (inv u++r++u)=some 0:=by
  rw[c01,c01,e,oB,h v c.1 c.2,oB,b]
 exact r0j hf (L9 (L9 (c04 _) (j.all (by omega))) (a.all (by omega))) f
theorem B0o{g:j0}:∀ {a:List (List Int)},(∀ c∈a,rdw g 0 c=some 0)->rdw g 0 a.flatten=some 0
 | [],_=>rfl
 |c::a,h=>by
  rw[List.flatten_cons,c01,h c mS,oB]
  exact B0o λx b=>h x (mC _ b)
theorem M0j{p:l0}{ts:List i00}(z:ts.length<=3)(B:∀ t∈ts,V0d p.1 t)(h:(c6 p (B3 p ts)).2=true):(c6 p (B3 p ts)).1=true:=by
 unfold c6 at h ⊢
 cases hE:(M6 p []).2&&L3 p.1 (B3 p ts)with
 |false=>rw[hE]at h;cases h
 |true =>
  rw[cond_true]
  rw[Bool.and_eq_true]at hE
  obtain⟨k,e,s,C,_⟩:=C0g hE.1
  have hf:=i0i (P0l k)
  have m:=J0j k
  have l:O1 p=true:=by
   have b:=hE.1
   unfold M6 at b
   cases a:O1 p&&U3 p.1 []with
   |false=>rw[a]at b;cases b
   |true=>rw[Bool.and_eq_true]at a;exact a.1
  have D:=(D2 hf).2.1
  refine(Q08 _ _).2 ?_
  obtain⟨r,rel⟩:=p
  have A:=(d0a r).2.2 (by simp only at e;omega) (by simp only at e;omega)
  rw[I0b l z]
  have n:∀ c∈C7 rel ts,rdw (M6 (r,rel) []).1 0 c=some 0/\P3 c:=λc d=>by
   obtain⟨t,f,u,b,w⟩:=W01 d
   have i:e02 (M6 (r,rel) []).1.1 u:=by rw[e];exact y0o l u b
   have o:Bk (M6 (r,rel) []).1 u:=λv h0 f=>s v h0 f u b
   have g:e02 (M6 (r,rel) []).1.1 t.1:=by
    have:=(B t f).1
    rw[e]
    show e02 r t.1
    have this:e02 (rkI r) t.1:=this
    rwa [A]at this
   have j:=i.lw (by omega)
   have q:=g.lw (by omega)
   rcases w with rfl|rfl
   ·exact⟨A0o hf m o i g,λx a=>((T08 j q) x a).1.1⟩
   ·exact⟨A0o hf m (T0r hf j o) (i.inv (by omega)) g,λx a=>((T08 j.inv q) x a).1.1⟩
  have y:P3 (C7 rel ts).flatten:=λx a=>by
   obtain⟨c,d,a⟩:=List.mem_flatten.1 a
   exact(n c d).2 x a
  exact r0j hf y (B0o λc d=>(n c d).1)
theorem l0t{p:l0}{v y:List Int}(d:c5 p v=(y,true))(t:L3 p.1 (rd v)=true)(c:L3 p.1 y=true):c6 p (rd v)=c6 p y:=by
 unfold c6
 rw[t,c]
 cases hE:(M6 p []).2 with
 |false=>rfl
 |true =>
  simp only[Bool.and_self,cond_true]
  obtain⟨k,l,C,N,_⟩:=C0g hE
  have hf:=i0i (P0l k)
  have f:=J0j k
  obtain⟨R,S,T,U⟩:=D2 hf
  have I:O1 p=true:=by
   have c:=hE
   unfold M6 at c
   cases a:O1 p&&U3 p.1 []with
   |false=>rw[a]at c;cases c
   |true=>rw[Bool.and_eq_true]at a;exact a.1
  unfold c5 at d
  cases hd:i9 (O0 p) (rd v) (rd v).length 0 with
  |none=>rw[hd]at d;cases d
  |some z =>
   rw[hd]at d
   obtain rfl:=(Prod.mk.inj d).1
   obtain⟨i,O,b,J,P,rfl⟩:=x04 hd
   obtain⟨D,m⟩:=w0u I l hf f C b J
   have a:e02 (M6 p []).1.1 (rd v):=λx a=>by rw[l];exact((O08 t).2 x a).2
   have A:=m.lw (by omega)
   have w:=z0j (rd v) i b
   obtain⟨u,e,Q⟩:=z06 hf f (rd v) 0 (iR _) (by omega) a
   have L:rdw (M6 p []).1 0 (B05 (rd v) i b)=some u:=by
    have h:∃ n,n=cpl ((rd v).drop i) b:=⟨_,rfl⟩
    obtain⟨n,h⟩:=h
    unfold B05
    rw[←h]at w ⊢
    have H:e02 (M6 p []).1.1 ((rd v).take i):=a.sub λx a=>List.mem_of_mem_take a
    rw[w,c01,c01]at e
    obtain⟨j,o,g⟩:=z06 hf f ((rd v).take i) 0 (iR _) (by omega) H
    rw[o,oB]at e
    obtain⟨M,q,K⟩:=z06 hf f (b.take n) j g.1 g.2 (m.sub λx a=>List.mem_of_mem_take a)
    rw[q,oB]at e
    have s:=D j g.1 g.2
    rw[←List.take_append_drop n b,c01,q,oB]at s
    have E:=l0b hf (b.drop n) M j (A.drop n).nm K.1 s
    rw[c01,c01,o,oB,E,oB]
    exact e
   have G:P3 (B05 (rd v) i b):=by
    have B:=a.lw (by omega)
    exact λx a=>((((B.take i).app (A.drop _).inv).app (B.drop _)) x a).1.1
   have F:rdw (M6 p []).1 0 (rd (B05 (rd v) i b))=some u:=r0j hf G L
   have:v05 (M6 p []).1 (rd v)=v05 (M6 p []).1 (rd (B05 (rd v) i b)):=by
    rw[Bool.eq_iff_iff,Q08,Q08,e,F]
   rw[this]
def shF:List (List Int)->Int->Int
 | [],n=>n
 |w::r,n=>shF r (if n=0∨(w.length:Int)<n then(w.length:Int)else n)
theorem X0l(w:List Int)(r:List (List Int))(n:Int):shF (w::r) n=shF r (if n=0∨(w.length:Int)<n then(w.length:Int)else n):=rfl
def U08(p:l0):Int:=bif O1 p then shF p.2 0 else 0
theorem V0r:∀(l:List (List Int)) (n:Int),0<=n->n<=1000->(∀ w∈l,w.length<=1000)->0<=shF l n/\shF l n<=1000
 | [],n,h0,a,_=>⟨h0,a⟩
 |w::r,n,h0,a,b=>by
  have:=b w mS
  unfold shF
  refine V0r r _ ?_ ?_ λv c=>b v (mC _ c)
  ·split<;>omega
  ·split<;>omega
theorem d0v{w:List Int}{n:Int}:(bif decide (n=0)then true else decide (((w.length:Nat):Int)<n))=decide (n=0∨(w.length:Int)<n):=by
 by_cases c:n=0
 ·rw[decide_eq_true c,decide_eq_true (show n=0∨(w.length:Int)<n from .inl c)];rfl
 ·rw[decide_eq_false c,cond_false]
  exact decide_eq_decide.2 ⟨.inr,λh=>h.elim (λe=>absurd e c) id⟩
theorem Y0l(rel:List (List Int))(g:rel.length<=1000):∀(d k fuel:Nat) (n:Int),k+d=rel.length->d<fuel->J3 rel fuel n (k:Int)=some (shF (rel.drop k) n)
 |d,k,0,n,b,hf=>by omega
 |0,k,fuel+1,n,b,hf=>by
  rw[J3.eq_2,if_neg (by simp only[decide_eq_true_eq];omega),M1 (by omega)];rfl
 |d+1,k,fuel+1,n,b,hf=>by
  have e:k<rel.length:=by omega
  have a:=w5 e
  generalize rel[k]=w at a
  have f:=λm=>Y0l rel g d (k+1) fuel m (by omega) (by omega)
  rw[J3.eq_2,if_pos (by simp only[decide_eq_true_eq];omega),E3 a,oB,Z2 e (by omega),f,f,V1 a,d0v,X0l]
  by_cases c:n=0∨(w.length:Int)<n
  ·rw[decide_eq_true c,if_pos rfl,if_pos c]
  ·rw[decide_eq_false c,if_neg (by simp),if_neg c]
theorem Z0l(p:l0)(e:W2 p=some true)(i:p.2.length<=1000):∀(d k fuel:Nat) (n:Int),k+d=p.2.length->d<fuel->N2 p.2 p.1 fuel n (k:Int)=some (shF (p.2.drop k) n)
 |d,k,0,n,f,hf=>by omega
 |0,k,fuel+1,n,f,hf=>by
  rw[N2.eq_2,decide_eq_false (by omega),Z3,oB,cond_false,if_neg (by simp),M1 (by omega)];rfl
 |d+1,k,fuel+1,n,f,hf=>by
  have a:k<p.2.length:=by omega
  have b:=w5 a
  generalize p.2[k]=w at b
  have g:=λm=>Z0l p e i d (k+1) fuel m (by omega) (by omega)
  rw[N2.eq_2,decide_eq_true (by omega),I2,show(p.1,p.2)=p from rfl,e,oB,cond_true,if_pos rfl,E3 b,V1 b,X0l]
  by_cases c0:n=0
  ·simp only[decide_eq_true c0,Bool.not_true,Z3,oB,cond_true,if_true,Z2 a (show p.2.length<=9223372036854775807 by omega),g]
   rw[if_pos (.inl c0)]
  ·simp only[decide_eq_false c0,Bool.not_false,I2,oB,cond_false,Z2 a (show p.2.length<=9223372036854775807 by omega),g]
   by_cases c:(w.length:Int)<n
   ·rw[if_pos (by simpa using c),if_pos (.inr c)]
   ·rw[if_neg (by simpa using c),if_neg (λh=>h.elim c0 c)]
theorem a0m(p:l0)(b:SP p):r8 p=some (U08 p):=by
 have c:=t00 p b.sh.1 b.sh.2
 have d:=b.2.1
 have a:=Y0l p.2 (by omega) p.2.length 0 W0 0 (by omega) (N1 (by omega))
 obtain⟨r,rel⟩:=p
 have a:J3 rel W0 0 0=some (shF rel 0):=a
 unfold r8 U08
 simp only[c,oB]
 cases O1 (r,rel)with
 |false=>rfl
 |true=>simp only[Bool.not_true,Bool.false_eq_true,if_false,a,oB,cond_true]
theorem b0m(p:l0)(c:SP p):N6 p=some (U08 p):=by
 have b:=d4 p c.sh.1 c.sh.2
 have d:=c.2.1
 unfold U08
 cases hP:O1 p with
 |true =>
  rw[hP]at b
  have a:=Z0l p b (by omega) p.2.length 0 W0 0 (by omega) (N1 (by omega))
  obtain⟨r,rel⟩:=p
  have a:N2 rel r W0 0 0=some (shF rel 0):=a
  unfold N6
  simp only[a,oB,cond_true]
 |false =>
  rw[hP]at b
  obtain⟨r,rel⟩:=p
  have a:N2 rel r W0 0 0=some 0:=by
   have:W0=(W0-1)+1:=rfl
   rw[this,N2.eq_2]
   cases decide ((0:Int)<((rel.length:Nat):Int))with
   |true=>rw[I2,b];rfl
   |false=>rw[Z3];rfl
  unfold N6
  simp only[a,oB,cond_false]
theorem W0r(p:l0)(a:SP p):H0 (U08 p):=by
 unfold U08
 cases O1 p with
 |false=>exact⟨by rw[cond_false];omega,by rw[cond_false];omega⟩
 |true =>
  have:=V0r p.2 0 (by omega) (by omega) λw b=>by have:=(a.2.2 w b).2;omega
  exact⟨by rw[cond_true];omega,by rw[cond_true];omega⟩
theorem c0m{set:List (List Int)}:∀(d:Nat) (x:List Int) (n:Int),0<=n->n+d<=500->0<=(match t03 set d x n with | .inl z=>z | .inr u=>(u,500)).2/\(match t03 set d x n with | .inl z=>z | .inr u=>(u,500)).2<=500
 |0,x,n,_,_=>⟨by show(0:Int)<=500;omega,iR _⟩
 |d+1,x,n,h0,a=>by
  unfold t03
  cases hh:i9 set x x.length 0 with
  |none=>exact⟨h0,by show n<=500;omega⟩
  |some y=>exact c0m d y (n+1) (by omega) (by omega)
theorem F0p(p:l0)(w:List Int):H0 (Q4 p w).2:=by
 have a:=c0m (set:=O0 p) 500 (rd w) 0 (by omega) (by omega)
 unfold Q4
 cases hh:t03 (O0 p) 500 (rd w) 0 with
 |inl z=>rw[hh]at a;exact⟨by simp only at a ⊢;omega,by simp only at a ⊢;omega⟩
 |inr u=>exact⟨by show _<=(500:Int);omega,by show(500:Int)<=_;omega⟩
theorem m0t(p:l0):H0 (S00 p):=by
 have d:=q02 p
 have h:upI (O0 p) 0<=24:=(x0j 24 _ 0).2 ⟨Nat.zero_le _,List.pairwise_of_forall_mem_list λa c b e=>Nat.le_trans (B03 a b).1 (d.1 a c).2⟩
 unfold S00
 exact⟨by omega,by omega⟩
theorem C0o(l:List Int)(c:l.length<=2000000):∀(d k fuel:Nat),k+d=l.length->d<fuel->j7 l l fuel (k:Int)=some (.inr ())
 |d,k,0,a,hf=>by omega
 |0,k,fuel+1,a,hf=>by rw[j7.eq_2,if_neg (by simp only[decide_eq_true_eq];omega)]
 |d+1,k,fuel+1,a,hf=>by
  have b:k<l.length:=by omega
  rw[j7.eq_2,if_pos (by simp only[decide_eq_true_eq];omega)]
  simp only[E3 (w5 b),oB,Z2 b (show l.length<=9223372036854775807 by omega)]
  rw[if_neg (by simp)]
  exact C0o l c d (k+1) fuel (by omega) (by omega)
theorem t0e(l:List Int)(a:l.length<=2000000):I8 l l=some true:=by
 have h:=C0o l a l.length 0 W0 (by omega) (by unfold W0;omega)
 unfold I8
 rw[if_neg (by simp),show(0:Int)=((0:Nat):Int) from rfl,h];rfl
theorem D0o(l:List (List Int))(e:l.length<=2000000)(c:∀ w∈l,w.length<=2000000):∀(d k fuel:Nat),k+d=l.length->d<fuel->A6 l l fuel (k:Int)=some (.inr ())
 |d,k,0,b,hf=>by omega
 |0,k,fuel+1,b,hf=>by rw[A6.eq_2,if_neg (by simp only[decide_eq_true_eq];omega)]
 |d+1,k,fuel+1,b,hf=>by
  have a:k<l.length:=by omega
  rw[A6.eq_2,if_pos (by simp only[decide_eq_true_eq];omega)]
  simp only[E3 (w5 a),oB,t0e _ (c _ (List.getElem_mem a)),Z2 a (show l.length<=9223372036854775807 by omega)]
  rw[if_neg (by simp)]
  exact D0o l e c d (k+1) fuel (by omega) (by omega)
theorem n0t(l:List (List Int))(a:l.length<=2000000)(b:∀ w∈l,w.length<=2000000):T00 l l=some true:=by
 have h:=D0o l a b l.length 0 W0 (by omega) (by unfold W0;omega)
 unfold T00
 rw[if_neg (by simp),show(0:Int)=((0:Nat):Int) from rfl,h];rfl
theorem fd0{bs:List Int}(D:bs.length<=1048576):U00 bs=some (.inr ()):=by
 have z:C03 bs=some false:=by unfold C03;rw[decide_eq_false (by omega)]
 obtain⟨p,ts,A,a,l,b⟩:=c0t D
 have o:=U0d p ts a.sh.1 a.sh.2 (s0o b) (by omega) (by have:=t0o b;omega)
 have s:=r07 p ts a.sh.1 a.sh.2 (s0o b) (by omega)
 obtain⟨F,y⟩:=u0g p l b
 have t:=t0e (B3 p ts) (by omega)
 have e:=O0c p a.sh.1 a.sh.2 (B3 p ts) y (by omega)
 have f:=P0c p a.sh.1 a.sh.2 (B3 p ts) y (by omega)
 have i:=F0p p (B3 p ts)
 have m:=s0p p (B3 p ts)
 have j:=t0e (Q4 p (B3 p ts)).1 (by omega)
 have u:=Q0g p a.sh.1 a.sh.2
 have k:=R0g p a.sh.1 a.sh.2
 have q:=d4 p a.sh.1 a.sh.2
 have d:=M05 p (B3 p ts) a.sh.1 a.sh.2 (by omega)
 have g:A01 p=true->(Q4 p (B3 p ts)).1 = []:=λh=>k0t a h l b
 have n:=M0j (p:=p) l b
 generalize c6 p (B3 p ts)=tr at d n
 generalize A01 p=six at u k g
 generalize O1 p=ip at q
 generalize Q4 p (B3 p ts)=dr at e f i m j g
 generalize B3 p ts=w at o s t e f m d F
 obtain⟨v,G⟩:=dr
 obtain⟨E,x⟩:=tr
 obtain⟨r,rel⟩:=p
 simp only at e f i m j d g n
 unfold U00
 simp only[z,A,o,s,t,e,f,S0 i,j,u,k,q,d,oB,Bool.not_true,Bool.not_false,beq_self_eq_true,eq_self,decide_true,cond_false,cond_true,I2,Bool.false_eq_true,if_false]
 rw[decide_eq_false (show ¬ ((v.length:Nat):Int)>((w.length:Nat):Int) by omega)]
 simp only[cond_false,Bool.not_false,I2,k,oB]
 have B:(bif six then(!decide (((v.length:Nat):Int)=0))else false)=false:=by
  cases six with
  |false=>rfl
  |true=>rw[g rfl];rfl
 rw[B,if_neg (by simp)]
 have C:(bif x then(!E)else false)=false:=by
  cases x with
  |false=>rfl
  |true=>rw[n rfl];rfl
 by_cases c:((w.length:Nat):Int)<=24
 ·rw[decide_eq_true c,I2,oB,cond_true]
  cases ip with
  |false=>rfl
  |true=>rw[if_pos rfl,C,if_neg (by simp)]
 ·rw[decide_eq_false c,Z3,oB,cond_false,if_neg (by simp)]
theorem fd1{bs:List Int}(q:bs.length<=1048576):f02 bs=some (.inr ()):=by
 obtain⟨p,v,o,a,n,C⟩:=d0t q
 have j:=m0g p a.sh.1 a.sh.2 v (by omega)
 have k:=q08 p a.sh.1 a.sh.2 v n (by omega)
 have s:=e04 v
 have m:T1 v=some (rd v):=B8 v n (by omega)
 have c:(c5 p v).2=true->(c5 p v).1.length<(rd v).length:=λh=>by
  unfold c5 at h ⊢
  cases hd:i9 (O0 p) (rd v) (rd v).length 0 with
  |none=>rw[hd]at h;cases h
  |some y =>
   obtain⟨i,B,E,D,t,rfl⟩:=x04 hd
   exact T0c (rd v) (by omega) t
 have u:(c5 p v).1.length<=1000:=by
  cases h:(c5 p v).2 with
  |true=>have:=c h;omega
  |false =>
   unfold c5 at h ⊢
   cases hd:i9 (O0 p) (rd v) (rd v).length 0 with
   |none=>simp only;omega
   |some y=>rw[hd]at h;cases h
 have l:=t0e (c5 p v).1 (by omega)
 have d:=g03 p.1 (rd v) (by omega)
 have e:=g03 p.1 (c5 p v).1 (by omega)
 have f:=M05 p (rd v) a.sh.1 a.sh.2 (by omega)
 have g:=M05 p (c5 p v).1 a.sh.1 a.sh.2 (by omega)
 have b:(c5 p v).2=true->L3 p.1 (rd v)=true->L3 p.1 (c5 p v).1=true->c6 p (rd v)=c6 p (c5 p v).1:=λh w z=>l0t (p:=p) (v:=v) (by rw[←h]) w z
 generalize c6 p (rd v)=tr at f b
 generalize c6 p (c5 p v).1=tq at g b
 generalize L3 p.1 (rd v)=b1 at d b
 generalize L3 p.1 (c5 p v).1=b2 at e b
 generalize c5 p v=ds at j k l e g c u b
 generalize rd v=x at m d f c s
 obtain⟨y,one⟩:=ds
 obtain⟨F,A⟩:=tr
 obtain⟨G,H⟩:=tq
 obtain⟨r,rel⟩:=p
 simp only at j k l d e f g c b
 unfold f02
 simp only[o,j,k,l,oB,beq_self_eq_true,Bool.not_true,Bool.not_false,I2,cond_false,Bool.and_true]
 cases one with
 |false=>rfl
 |true =>
  have:=c rfl
  simp only[I2,m,oB,cond_true]
  rw[S0 (by omega),oB,decide_eq_false (by omega),if_neg (by simp),d,oB]
  cases b1 with
  |false=>rfl
  |true =>
   simp only[cond_true,I2,e,oB]
   cases b2 with
   |false=>rfl
   |true =>
    obtain⟨rfl,rfl⟩:=Prod.mk.inj (b rfl rfl rfl)
    simp only[if_true,f,g,oB,beq_self_eq_true,Bool.not_true]
    cases A<;>rfl
theorem o0t(bs:List Int):s02 bs=some true:=by
 rcases Nat.lt_or_ge 1048576 bs.length with b|b
 ·unfold s02 U00 C03
  rw[oB,if_pos (by simp only[decide_eq_true_eq];omega)]
  rfl
 obtain⟨p,l,a⟩:=e0t b
 have c:=g9 p a.sh.1 a.sh.2
 have d:=z00 p a.sh.1 a.sh.2
 have m:=q02 p
 have e:=n0t (O0 p) (by omega) λw n=>by have:=(m.1 w n).2;omega
 have f:=a0a p a.sh.1 a.sh.2
 have g:=b0a p a.sh.1 a.sh.2
 have h:=a0m p a
 have i:=b0m p a
 have j:=m0t p
 have k:=W0r p a
 unfold s02
 rw[fd0 b,oB,Z0,fd1 b,oB,Z0]
 simp only[l,c,d,e,f,g,h,i,oB,I2,S0 j,S0 k,cond_true,eq_self,decide_true]
end Go.Proofs.YtfphndijjmdiiaaGreat
