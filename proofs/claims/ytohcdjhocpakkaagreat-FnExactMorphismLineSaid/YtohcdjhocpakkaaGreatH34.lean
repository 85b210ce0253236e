/- Plain laws over the model: the library's sort, at a slice that lies in memory. -/
import Derived.Test.YtohcdjhocpakkaaGreatH35
import Derived.Sort.Grow
import Derived.Shelf.SlSortCmp.Whole1
open Go.Sort Go.Proofs Go.Shelf Go.Lib
namespace Go.H
set_option linter.unusedVariables false
set_option linter.unusedSimpArgs false
theorem T2.grown{h:Hp}{w a:World}(hv:Vis h w)(m:T2 h w h a):∃ q l,a=grow (w.drewN q) l:=by
 refine⟨a.drawn-w.drawn,a.heap.extract w.heap.size a.heap.size,?_⟩
 have k:∀ b,b<w.heap.size->a.heap[b]?=w.heap[b]?:=λb j=>by
  cases hc:h b with
  |none=>exact m.keep b j hc
  |some o=>rw[m.vis b o hc,hv b o hc]
 have p:a.heap=w.heap++a.heap.extract w.heap.size a.heap.size:=by
  refine Array.ext_getElem? λi=>?_
  rcases Nat.lt_or_ge i w.heap.size with c|c
  ·rw[Array.getElem?_append_left c,k i c]
  ·rw[Array.getElem?_append_right c,Array.getElem?_extract]
   have:=m.size
   by_cases hi2:i<a.heap.size
   ·rw[if_pos (by omega)]
    congr 1
    omega
   ·rw[if_neg (by omega),Array.getElem?_eq_none (by omega)]
 have n:=m.dn
 cases w
 cases a
 simp only[grow,Go.World.drewN]at *
 have d:=m.os
 have f:=m.tape
 have g:=m.output
 simp only at d f g
 subst d f g
 congr 1
 omega
theorem o0d{w:World}{g m b:Nat}{f:Array Value->Array Value}{os:Array Obj}(a:b<w.heap.size):
  (grow (mapBlock (Sort.ahead w m) g f) os).heap[b]?=if g=b then(w.heap[b]?).map (onCells f)else w.heap[b]?:=by
 show(w.heap.modify g (onCells f)++os)[b]?=_
 rw[Array.getElem?_append_left (by simpa using a),Array.getElem?_modify]
theorem e0r{w:World}{g m:Nat}{f:Array Value->Array Value}{os:Array Obj}:w.heap.size<=(grow (mapBlock (Sort.ahead w m) g f) os).heap.size:=by
 show w.heap.size<=(w.heap.modify g (onCells f)++os).size
 simp
theorem i0p{h:Hp}{w:World}{g m:Nat}{o:Obj}{f:Array Value->Array Value}{os:Array Obj}(i:h g=none)(hv:Vis (h.set g o) w):Vis h (grow (mapBlock (Sort.ahead w m) g f) os):=by
 intro b x a
 have d:b≠g:=λe=>by rw[e,i]at a;cases a
 have c:=hv b x (by rw[Hp.set_other _ _ d];exact a)
 have j:b<w.heap.size:=(Array.getElem?_eq_some_iff.1 c).1
 rw[o0d j,if_neg (Ne.symm d)]
 exact c
theorem u0j{h:Hp}{w:World}{g m:Nat}{cur:Array Value}{e:TypeId}{f:Array Value->Array Value}{os:Array Obj}(p:h g=none)(hv:Vis (h.set g (.cells cur e (0,0))) w):
  T2 (h.set g (.cells cur e (0,0))) w (h.set g (.cells (f cur) e (0,0))) (grow (mapBlock (Sort.ahead w m) g f) os):=by
 have j:w.heap[g]?=some (.cells cur e (0,0)):=hv g _ (Hp.set_same _ _ _)
 have q:g<w.heap.size:=(Array.getElem?_eq_some_iff.1 j).1
 have k:(grow (mapBlock (Sort.ahead w m) g f) os).heap[g]?=some (.cells (f cur) e (0,0)):=by
  rw[o0d q,if_pos rfl,j];rfl
 refine⟨rfl,rfl,rfl,e0r,λb d l=>?_,λb x i=>?_,λb d=>?_,λa n=>?_,Nat.le_add_right _ _⟩
 ·have s:b≠g:=λc=>by rw[c,Hp.set_same]at l;cases l
  rw[o0d d,if_neg (Ne.symm s)]
 ·by_cases c:b=g
  ·subst c;rw[Hp.set_same]at i;cases i;exact k
  ·rw[Hp.set_other _ _ c]at i
   exact i0p p hv b x i
 ·by_cases c:b=g
  ·subst c;exact .inl (by rw[Hp.set_same];simp)
  ·rw[Hp.set_other _ _ c]at d;exact .inl (by rw[Hp.set_other _ _ c];exact d)
 ·by_cases c:a.block=g
  ·rw[c02 (o := .cells (f cur) e (0,0)) (by rw[c];exact k),c02 (o := .cells cur e (0,0)) (by rw[c];exact j)];rfl
  ·exact i0b (by rw[o0d n,if_neg (Ne.symm c)])
theorem j0p{b c:Type}(f:b->c):∀ l:List b,(l.map λp=>[f p]).flatten=l.map f
 | []=>rfl
 |a::l=>by simp[j0p f l]
theorem c09{a:Type}[Inhabited a](enc:a->Value)(d:Array a)(c:Array Value)(h:d.size<=c.size):(putCells enc 0 d c).toList.take d.size=d.toList.map enc:=by
 apply List.ext_getElem?
 intro i
 rw[List.getElem?_take,Array.getElem?_toList,List.getElem?_map,Array.getElem?_toList]
 by_cases hi:i<d.size
 ·rw[if_pos hi]
  simp only[putCells,Array.getElem?_mapIdx,Array.getElem?_eq_getElem (show i<c.size by omega),Array.getElem?_eq_getElem hi,Option.map_some]
  rw[if_pos ⟨Nat.zero_le _,by omega⟩,Nat.sub_zero,getElem!_pos d i hi]
 ·rw[if_neg hi,Array.getElem?_eq_none (by omega)];rfl
theorem f0l{b:Type}[Inhabited b](enc:b->List Value)(k:Nat)(j:0<k)(c:∀ x,(enc x).length=k)(d:Array b):(flatK enc k d).toList=(d.toList.map enc).flatten:=by
 have i:∀ x∈d.toList.map enc,x.length=k:=λx o=>by obtain⟨q,_,rfl⟩:=List.mem_map.1 o;exact c q
 have m:(d.toList.map enc).flatten.length=d.size*k:=by
  have:∀ l:List b,(l.map enc).flatten.length=l.length*k:=λl=>by
   induction l with
   |nil=>simp
   |cons a l p=>simp only[List.map_cons,List.flatten_cons,List.length_append,p,c,List.length_cons,Nat.add_mul,Nat.one_mul,Nat.add_comm]
  simpa using this d.toList
 apply List.ext_getElem?
 intro t
 by_cases ht:t<d.size*k
 ·have h:t / k<d.size:=Nat.div_lt_of_lt_mul (by rwa [Nat.mul_comm]at ht)
  have n:=Nat.mod_lt t j
  have g:t % k<(enc d[t / k]).length:=by rw[c];exact n
  have f:=J03 (sz:=k) (d.toList.map enc) (t / k) (enc d[t / k]) i (by simp[h]) (t % k) _ (List.getElem?_eq_getElem g)
  rw[Nat.mul_comm,Nat.div_add_mod]at f
  rw[f,Array.getElem?_toList,Array.getElem?_eq_getElem (by simpa using ht)]
  have:=get_flatK enc k d t ht
  rw[getElem!_pos _ t (by simpa using ht)]at this
  rw[this,getElem!_pos d (t / k) h,getElem!_pos (enc d[t / k]) (t % k) g]
 ·rw[List.getElem?_eq_none (by simpa using ht),List.getElem?_eq_none (by rw[m];omega)]
theorem E03{i:Type}{R:i->i->Prop}(j:∀ x h,R x h->R h x->x=h):∀ {l1 d:List i},l1.Perm d->l1.Pairwise R->d.Pairwise R->l1=d
 | [],d,c,_,_=>(List.nil_perm.1 c).symm
 |a::l1,[],c,_,_=>absurd c.length_eq (by simp)
 |a::l1,b::d,c,k,l=>by
  have f:a∈b::d:=c.subset mS
  have g:b∈a::l1:=c.symm.subset mS
  have e:a=b:=by
   rcases List.mem_cons.1 f with e|f
   ·exact e
   ·rcases List.mem_cons.1 g with e|g
    ·exact e.symm
    ·exact j _ _ ((List.pairwise_cons.1 k).1 b g) ((List.pairwise_cons.1 l).1 a f)
  subst e
  rw[E03 j ((List.perm_cons a).1 c) (List.pairwise_cons.1 k).2 (List.pairwise_cons.1 l).2]
def v0j{a:Type}(b:a->a->Int)(x:a):List a->List a
 | []=>[x]
 |y::l=>bif ltOf b y x then y::v0j b x l else x::y::l
def f06{a:Type}(b:a->a->Int):List a->List a
 | []=>[]
 |x::l=>v0j b x (f06 b l)
theorem J0b{b:Type}(a:b->b->Int)(x:b):∀ l,(v0j a x l).Perm (x::l)
 | [] => .refl _
 |y::l=>by
  unfold v0j
  cases ltOf a y x
  ·exact .refl _
  ·exact((J0b a x l).cons y).trans (.swap ..)
theorem v04{b:Type}(a:b->b->Int):∀ l,(f06 a l).Perm l
 | [] => .refl _
 |x::l=>(J0b a x _).trans ((v04 a l).cons x)
theorem C0c{i:Type}{c:i->i->Int}(f:SWO (ltOf c))(x:i):∀ l:List i,l.Pairwise (λa b=>ltOf c b a=false)->(v0j c x l).Pairwise λa b=>ltOf c b a=false
 | [],_=>by simp[v0j]
 |g::l,h=>by
  obtain⟨j,k⟩:=List.pairwise_cons.1 h
  unfold v0j
  cases hc:ltOf c g x with
  |false =>
   show(x::g::l).Pairwise _
   refine List.pairwise_cons.2 ⟨λz d=>?_,h⟩
   rcases List.mem_cons.1 d with rfl|d
   ·exact hc
   ·exact f.ntrans _ _ _ (j z d) hc
  |true =>
   show(g::v0j c x l).Pairwise _
   refine List.pairwise_cons.2 ⟨λz d=>?_,C0c f x l k⟩
   rcases List.mem_cons.1 ((J0b c x l).subset d)with rfl|d
   ·cases hd:ltOf c z g with
    |false=>rfl
    |true=>have:=f.trans _ _ _ hc hd;rw[f.irrefl]at this;cases this
   ·exact j z d
theorem r05{d:Type}{c:d->d->Int}(f:SWO (ltOf c)):∀ l:List d,(f06 c l).Pairwise λa b=>ltOf c b a=false
 | [] => .nil
 |x::l=>C0c f x _ (r05 f l)
theorem v0s{c:Type}[Inhabited c]{lt:c->c->Bool}{d:Array c}(h:SortedIn lt 0 d.size d):d.toList.Pairwise λa b=>lt b a=false:=by
 rw[List.pairwise_iff_getElem]
 intro i j k m l
 have g:i<d.size:=by simpa using k
 have f:j<d.size:=by simpa using m
 have:=h i j (Nat.zero_le _) l f
 rwa [getElem!_pos d i g,getElem!_pos d j f]at this
theorem w0s{b:Type}[Inhabited b]{d a:Array b}(h:PermIn 0 d.size d a):a.size=d.size/\a.toList.Perm d.toList:=by
 refine⟨h.1,?_⟩
 have:=h.2.2
 rw[←h.1]at this
 have e:a.extract 0 a.size=a:=Array.extract_size
 have c:d.extract 0 a.size=d:=by rw[h.1];exact Array.extract_size
 rw[e,c]at this
 exact this
theorem i0t{b d:Type}{c:b->b->Int}(f:d->b)(h:SWO (ltOf c)):SWO (ltOf λx a=>c (f x) (f a)) :=
 ⟨λx=>h.irrefl (f x),λx a z=>h.trans (f x) (f a) (f z),λx a z=>h.ntrans (f x) (f a) (f z)⟩
structure Cmp {α:Type} (cf:α->α->Int):Prop where
 swo:SWO (ltOf cf)
 tot:∀ x y,ltOf cf x y=false->ltOf cf y x=false->x=y
section
variable {P:Program} {ρ:Ren} {ι α:Type} [Inhabited ι] {row:ι->List Value} {dat:ι->α} {cf:α->α->Int} {gf sz:Nat} {h h':Hp} {v:Value} {e:Nat} {l:List ι}
end
abbrev f0r{a:Type}(r:Rp a)(h:Hp):Type := {p:List Value×a // r.R h p.1 p.2}
theorem o0m{a:Type}{r:Rp a}{h:Hp}:∀ {vs:List (List Value)} {xs:List a},F2 (r.R h) vs xs->∃ l:List (f0r r h),(l.map λp=>p.1.1)=vs/\(l.map λp=>p.1.2)=xs
 | [],[],_=>⟨[],rfl,rfl⟩
 |v::vs,x::xs,hf=>by
  obtain⟨l,b,c⟩:=o0m hf.2
  exact⟨⟨(v,x),hf.1⟩::l,by simp[b],by simp[c]⟩
 | [],_::_,hf=>hf.elim
 |_::_,[],hf=>hf.elim
theorem p0m{a:Type}{r:Rp a}{h:Hp}:∀(l:List (f0r r h)),F2 (r.R h) (l.map λp=>p.1.1) (l.map λp=>p.1.2)
 | []=>trivial
 |p::l=>⟨p.2,p0m l⟩
section
variable {P:Program} {ρ:Ren} {α:Type} {cf:α->α->Int} {gf:Nat} {h h':Hp} {v:Value} {e:Nat} {vs:List (List Value)} {xs:List α}
end
end Go.H
