/- Plain laws over the model: the library's sort, at a slice that lies in memory. -/
import Derived.Test.YtcpjomkcdlggaaaGreatH35
import Derived.Sort.Grow
import Derived.Shelf.SlSortCmp.Whole1
open Go.Sort Go.Proofs Go.Shelf Go.Lib
namespace Go.H
set_option linter.all false
theorem Z2.grown{h:Hp}{w a:World}(k:Vis h w)(m:Z2 h w h a):∃ q l,a=grow (w.drewN q) l:=by
 refine⟨a.drawn-w.drawn,a.heap.extract w.heap.size a.heap.size,?_⟩
 have j:∀ b,b<w.heap.size->a.heap[b]?=w.heap[b]?:=λb g=>by
  cases hc:h b with
  |none=>exact m.keep b g hc
  |some o=>rw[m.vis b o hc,k b o hc]
 have s:a.heap=w.heap++a.heap.extract w.heap.size a.heap.size:=by
  refine Array.ext_getElem? λi=>?_
  rcases Nat.lt_or_ge i w.heap.size with c|c
  ·rw[Array.getElem?_append_left c,j i c]
  ·rw[Array.getElem?_append_right c,Array.getElem?_extract]
   have:=m.size
   by_cases hi2:i<a.heap.size
   ·rw[if_pos (by omega)]
    congr 1
    omega
   ·rw[if_neg (by omega),Array.getElem?_eq_none (by omega)]
 have p:=m.dn
 cases w
 cases a
 simp only[grow,Go.World.drewN]at *
 have d:=m.os
 have e:=m.tape
 have f:=m.output
 simp only at d e f
 subst d e f
 congr 1
 omega
theorem Z0i{w:World}{g m b:Nat}{f:Array Value->Array Value}{os:Array Obj}(a:b<w.heap.size):
  (grow (mapBlock (Sort.ahead w m) g f) os).heap[b]?=if g=b then(w.heap[b]?).map (onCells f)else w.heap[b]?:=by
 show(w.heap.modify g (onCells f)++os)[b]?=_
 rw[Array.getElem?_append_left (by simpa using a),Array.getElem?_modify]
theorem N0w{w:World}{g m:Nat}{f:Array Value->Array Value}{os:Array Obj}:w.heap.size<=(grow (mapBlock (Sort.ahead w m) g f) os).heap.size:=by
 show w.heap.size<=(w.heap.modify g (onCells f)++os).size
 simp
theorem Z0u{h:Hp}{w:World}{g m:Nat}{o:Obj}{f:Array Value->Array Value}{os:Array Obj}(i:h g=none)(k:Vis (h.set g o) w):Vis h (grow (mapBlock (Sort.ahead w m) g f) os):=by
 intro b x a
 have d:b≠g:=λe=>by rw[e,i]at a;cases a
 have c:=k b x (by rw[Hp.set_other _ _ d];exact a)
 have j:b<w.heap.size:=(Array.getElem?_eq_some_iff.1 c).1
 rw[Z0i j,if_neg (Ne.symm d)]
 exact c
theorem Z0o{h:Hp}{w:World}{g m:Nat}{cur:Array Value}{e:TypeId}{f:Array Value->Array Value}{os:Array Obj}(s:h g=none)(p:Vis (h.set g (.cells cur e (0,0))) w):
  Z2 (h.set g (.cells cur e (0,0))) w (h.set g (.cells (f cur) e (0,0))) (grow (mapBlock (Sort.ahead w m) g f) os):=by
 have j:w.heap[g]?=some (.cells cur e (0,0)):=p g _ (Hp.set_same _ _ _)
 have t:g<w.heap.size:=(Array.getElem?_eq_some_iff.1 j).1
 have k:(grow (mapBlock (Sort.ahead w m) g f) os).heap[g]?=some (.cells (f cur) e (0,0)):=by
  rw[Z0i t,if_pos rfl,j];rfl
 refine⟨rfl,rfl,rfl,N0w,λb d l=>?_,λb x i=>?_,λb d=>?_,λa q=>?_,Nat.le_add_right _ _⟩
 ·have u:b≠g:=λc=>by rw[c,Hp.set_same]at l;cases l
  rw[Z0i d,if_neg (Ne.symm u)]
 ·by_cases c:b=g
  ·subst c;rw[Hp.set_same]at i;cases i;exact k
  ·rw[Hp.set_other _ _ c]at i
   exact Z0u s p b x i
 ·by_cases c:b=g
  ·subst c;exact .inl (by rw[Hp.set_same];simp)
  ·rw[Hp.set_other _ _ c]at d;exact .inl (by rw[Hp.set_other _ _ c];exact d)
 ·by_cases c:a.block=g
  ·rw[Z04 (o := .cells (f cur) e (0,0)) (by rw[c];exact k),Z04 (o := .cells cur e (0,0)) (by rw[c];exact j)];rfl
  ·exact C0g (by rw[Z0i q,if_neg (Ne.symm c)])
theorem a0v{b c:Type}(f:b->c):∀ l:List b,(l.map λp=>[f p]).flatten=l.map f
 | []=>rfl
 |a::l=>by simp[a0v f l]
theorem d0e{a:Type}[Inhabited a](enc:a->Value)(d:Array a)(c:Array Value)(h:d.size<=c.size):(putCells enc 0 d c).toList.take d.size=d.toList.map enc:=by
 apply List.ext_getElem?
 intro i
 rw[List.getElem?_take,Array.getElem?_toList,List.getElem?_map,Array.getElem?_toList]
 by_cases hi:i<d.size
 ·rw[if_pos hi]
  simp only[putCells,Array.getElem?_mapIdx,Array.getElem?_eq_getElem (show i<c.size by omega),Array.getElem?_eq_getElem hi,Option.map_some]
  rw[if_pos ⟨Nat.zero_le _,by omega⟩,Nat.sub_zero,getElem!_pos d i hi]
 ·rw[if_neg hi,Array.getElem?_eq_none (by omega)];rfl
theorem P0q{b:Type}[Inhabited b](enc:b->List Value)(k:Nat)(i:0<k)(c:∀ x,(enc x).length=k)(d:Array b):(flatK enc k d).toList=(d.toList.map enc).flatten:=by
 have h:∀ x∈d.toList.map enc,x.length=k:=λx o=>by obtain⟨y,_,rfl⟩:=List.mem_map.1 o;exact c y
 have j:(d.toList.map enc).flatten.length=d.size*k:=by
  have:∀ l:List b,(l.map enc).flatten.length=l.length*k:=λl=>by
   induction l with
   |nil=>simp
   |cons a l p=>simp only[List.map_cons,List.flatten_cons,List.length_append,p,c,List.length_cons,Nat.add_mul,Nat.one_mul,Nat.add_comm]
  simpa using this d.toList
 apply List.ext_getElem?
 intro t
 by_cases ht:t<d.size*k
 ·have g:t / k<d.size:=Nat.div_lt_of_lt_mul (by rwa [Nat.mul_comm]at ht)
  have m:=Nat.mod_lt t i
  have f:t % k<(enc d[t / k]).length:=by rw[c];exact m
  have e:=t07 (sz:=k) (d.toList.map enc) (t / k) (enc d[t / k]) h (by simp[g]) (t % k) _ (List.getElem?_eq_getElem f)
  rw[Nat.mul_comm,Nat.div_add_mod]at e
  rw[e,Array.getElem?_toList,Array.getElem?_eq_getElem (by simpa using ht)]
  have:=get_flatK enc k d t ht
  rw[getElem!_pos _ t (by simpa using ht)]at this
  rw[this,getElem!_pos d (t / k) g,getElem!_pos (enc d[t / k]) (t % k) f]
 ·rw[List.getElem?_eq_none (by simpa using ht),List.getElem?_eq_none (by rw[j];omega)]
theorem n07{i:Type}{R:i->i->Prop}(j:∀ x y,R x y->R y x->x=y):∀ {d f:List i},d.Perm f->d.Pairwise R->f.Pairwise R->d=f
 | [],f,c,_,_=>(List.nil_perm.1 c).symm
 |a::d,[],c,_,_=>absurd c.length_eq (by simp)
 |a::d,b::f,c,k,l=>by
  have g:a∈b::f:=c.subset mS
  have h:b∈a::d:=c.symm.subset mS
  have e:a=b:=by
   rcases List.mem_cons.1 g with e|g
   ·exact e
   ·rcases List.mem_cons.1 h with e|h
    ·exact e.symm
    ·exact j _ _ ((List.pairwise_cons.1 k).1 b h) ((List.pairwise_cons.1 l).1 a g)
  subst e
  rw[n07 j ((List.perm_cons a).1 c) (List.pairwise_cons.1 k).2 (List.pairwise_cons.1 l).2]
def a0p{a:Type}(b:a->a->Int)(x:a):List a->List a
 | []=>[x]
 |y::l=>bif ltOf b y x then y::a0p b x l else x::y::l
def Z0a{a:Type}(b:a->a->Int):List a->List a
 | []=>[]
 |x::l=>a0p b x (Z0a b l)
theorem c0h{b:Type}(a:b->b->Int)(x:b):∀ l,(a0p a x l).Perm (x::l)
 | [] => .refl _
 |y::l=>by
  unfold a0p
  cases ltOf a y x
  ·exact .refl _
  ·exact((c0h a x l).cons y).trans (.swap ..)
theorem j08{b:Type}(a:b->b->Int):∀ l,(Z0a a l).Perm l
 | [] => .refl _
 |x::l=>(c0h a x _).trans ((j08 a l).cons x)
theorem Y0h{f:Type}{c:f->f->Int}(e:SWO (ltOf c))(x:f):∀ l:List f,l.Pairwise (λa b=>ltOf c b a=false)->(a0p c x l).Pairwise λa b=>ltOf c b a=false
 | [],_=>by simp[a0p]
 |y::l,h=>by
  obtain⟨g,i⟩:=List.pairwise_cons.1 h
  unfold a0p
  cases hc:ltOf c y x with
  |false =>
   show(x::y::l).Pairwise _
   refine List.pairwise_cons.2 ⟨λz d=>?_,h⟩
   rcases List.mem_cons.1 d with rfl|d
   ·exact hc
   ·exact e.ntrans _ _ _ (g z d) hc
  |true =>
   show(y::a0p c x l).Pairwise _
   refine List.pairwise_cons.2 ⟨λz d=>?_,Y0h e x l i⟩
   rcases List.mem_cons.1 ((c0h c x l).subset d)with rfl|d
   ·cases hd:ltOf c z y with
    |false=>rfl
    |true=>have:=e.trans _ _ _ hc hd;rw[e.irrefl]at this;cases this
   ·exact g z d
theorem k09{d:Type}{c:d->d->Int}(e:SWO (ltOf c)):∀ l:List d,(Z0a c l).Pairwise λa b=>ltOf c b a=false
 | [] => .nil
 |x::l=>Y0h e x _ (k09 e l)
theorem b0y{c:Type}[Inhabited c]{lt:c->c->Bool}{d:Array c}(h:SortedIn lt 0 d.size d):d.toList.Pairwise λa b=>lt b a=false:=by
 rw[List.pairwise_iff_getElem]
 intro i e j l k
 have g:i<d.size:=by simpa using j
 have f:e<d.size:=by simpa using l
 have:=h i e (Nat.zero_le _) k f
 rwa [getElem!_pos d i g,getElem!_pos d e f]at this
theorem c0y{b:Type}[Inhabited b]{d a:Array b}(h:PermIn 0 d.size d a):a.size=d.size/\a.toList.Perm d.toList:=by
 refine⟨h.1,?_⟩
 have:=h.2.2
 rw[←h.1]at this
 have e:a.extract 0 a.size=a:=Array.extract_size
 have c:d.extract 0 a.size=d:=by rw[h.1];exact Array.extract_size
 rw[e,c]at this
 exact this
theorem I0y{a c:Type}{b:a->a->Int}(f:c->a)(h:SWO (ltOf b)):SWO (ltOf λx y=>b (f x) (f y)) :=
 ⟨λx=>h.irrefl (f x),λx y z=>h.trans (f x) (f y) (f z),λx y z=>h.ntrans (f x) (f y) (f z)⟩
structure Cmp {α:Type} (cf:α->α->Int):Prop where
 swo:SWO (ltOf cf)
 tot:∀ x y,ltOf cf x y=false->ltOf cf y x=false->x=y
section
variable {P:Program} {ρ:Ren} {ι α:Type} [Inhabited ι] {row:ι->List Value} {dat:ι->α} {cf:α->α->Int} {gf sz:Nat} {h h':Hp} {v:Value} {e:Nat} {l:List ι}
end
abbrev O0w{a:Type}(r:Rp a)(h:Hp):Type := {p:List Value×a // r.R h p.1 p.2}
theorem h0s{a:Type}{r:Rp a}{h:Hp}:∀ {vs:LV} {xs:List a},F2 (r.R h) vs xs->∃ l:List (O0w r h),(l.map λp=>p.1.1)=vs/\(l.map λp=>p.1.2)=xs
 | [],[],_=>⟨[],rfl,rfl⟩
 |v::vs,x::xs,hf=>by
  obtain⟨l,b,c⟩:=h0s hf.2
  exact⟨⟨(v,x),hf.1⟩::l,by simp[b],by simp[c]⟩
 | [],_::_,hf=>hf.elim
 |_::_,[],hf=>hf.elim
theorem i0s{a:Type}{r:Rp a}{h:Hp}:∀(l:List (O0w r h)),F2 (r.R h) (l.map λp=>p.1.1) (l.map λp=>p.1.2)
 | []=>trivial
 |p::l=>⟨p.2,i0s l⟩
section
variable {P:Program} {ρ:Ren} {α:Type} {cf:α->α->Int} {gf:Nat} {h h':Hp} {v:Value} {e:Nat} {vs:LV} {xs:List α}
end
end Go.H
