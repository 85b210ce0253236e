/- Plain laws over the model: the library's sort, at a slice that lies in memory. -/
import Derived.Test.YthakcafglempaaaGreatH35
import Derived.Sort.Grow
import Derived.Shelf.SlSortCmp.Whole1
open Go.Sort Go.Proofs Go.Shelf Go.Lib
namespace Go.H
set_option linter.all false
theorem T2.grown{h:Hp}{w a:World}(k:Vis h w)(m:T2 h w h a):∃ q l,a=grow (w.drewN q) l:=by
 refine⟨a.drawn-w.drawn,a.heap.extract w.heap.size a.heap.size,?_⟩;have j:∀ b,b<w.heap.size->a.heap[b]?=w.heap[b]?:=λb g=>by
  cases hc:h b with
  |none=>exact m.keep b g hc
  |some o=>rw[m.vis b o hc,k b o hc]
 have p:a.heap=w.heap++a.heap.extract w.heap.size a.heap.size:=by
  refine Array.ext_getElem? λi=>?_;rcases Nat.lt_or_ge i w.heap.size with c|c;·rw[Array.getElem?_append_left c,j i c]
  rw[Array.getElem?_append_right c,Array.getElem?_extract];have:=m.size;by_cases hi2:i<a.heap.size;·rw[if_pos oM];congr 1;omega
  rw[if_neg oM,Array.getElem?_eq_none oM]
 have n:=m.dn;cases w;cases a;simp only[grow,Go.World.drewN]at *;have d:=m.os;have e:=m.tape;have f:=m.output;simp only at d e f;subst d e f;congr 1;omega
theorem x0i{w:World}{g m b:Nat}{f:Array Value->Array Value}{os:Array Obj}(a:b<w.heap.size): (grow (mapBlock (Sort.ahead w m) g f) os).heap[b]?=if g=b then(w.heap[b]?).map (onCells f)else w.heap[b]?:=by show(w.heap.modify g (onCells f)++os)[b]?=_;rw[Array.getElem?_append_left (by simpa using a),Array.getElem?_modify]
theorem w0x{w:World}{g m:Nat}{f:Array Value->Array Value}{os:Array Obj}:w.heap.size<=(grow (mapBlock (Sort.ahead w m) g f) os).heap.size:=by show w.heap.size<=(w.heap.modify g (onCells f)++os).size;simp
theorem z0v{h:Hp}{w:World}{g m:Nat}{o:Obj}{f:Array Value->Array Value}{os:Array Obj}(i:h g=none)(k:Vis (h.set g o) w):Vis h (grow (mapBlock (Sort.ahead w m) g f) os):=by
 intro b x a;have d:b≠g:=λe=>by rw[e,i]at a;cases a
 have c:=k b x (by rw[Hp.set_other _ _ d];exact a);have j:b<w.heap.size:=(Array.getElem?_eq_some_iff.1 c).1;rw[x0i j,if_neg (Ne.symm d)];exact c
theorem Y0o{h:Hp}{w:World}{g m:Nat}{cur:Array Value}{e:TypeId}{f:Array Value->Array Value}{os:Array Obj}(q:h g=none)(n:Vis (h.set g (.cells cur e (0,0))) w): T2 (h.set g (.cells cur e (0,0))) w (h.set g (.cells (f cur) e (0,0))) (grow (mapBlock (Sort.ahead w m) g f) os):=by
 have j:w.heap[g]?=some (.cells cur e (0,0)):=n g _ (Hp.set_same _ _ _);have s:g<w.heap.size:=(Array.getElem?_eq_some_iff.1 j).1;have k:(grow (mapBlock (Sort.ahead w m) g f) os).heap[g]?=some (.cells (f cur) e (0,0)):=by rw[x0i s,if_pos rfl,j];rfl
 refine⟨rfl,rfl,rfl,w0x,λb d l=>?_,λb x i=>?_,λb d=>?_,λa p=>?_,Nat.le_add_right _ _⟩
 ·have t:b≠g:=λc=>by rw[c,Hp.set_same]at l;cases l
  rw[x0i d,if_neg (Ne.symm t)]
 ·by_cases c:b=g;·subst c;rw[Hp.set_same]at i;cases i;exact k
  rw[Hp.set_other _ _ c]at i;exact z0v q n b x i
 ·by_cases c:b=g;·subst c;exact .inl (by rw[Hp.set_same];simp)
  rw[Hp.set_other _ _ c]at d;exact .inl (by rw[Hp.set_other _ _ c];exact d)
 by_cases c:a.block=g;·rw[G04 (o := .cells (f cur) e (0,0)) (by rw[c];exact k),G04 (o := .cells cur e (0,0)) (by rw[c];exact j)];rfl
 exact k0g (by rw[x0i p,if_neg (Ne.symm c)])
theorem A0v{b c:Type}(f:b->c):∀ l:List b,(l.map λp=>[f p]).flatten=l.map f
 | []=>rfl
 |a::l=>by simp[A0v f l]
theorem J0d{a:Type}[Inhabited a](enc:a->Value)(d:Array a)(c:Array Value)(h:d.size<=c.size):(putCells enc 0 d c).toList.take d.size=d.toList.map enc:=by
 apply List.ext_getElem?;intro i;rw[List.getElem?_take,Array.getElem?_toList,List.getElem?_map,Array.getElem?_toList];by_cases hi:i<d.size;·rw[if_pos hi];simp only[putCells,Array.getElem?_mapIdx,Array.getElem?_eq_getElem (show i<c.size by omega),Array.getElem?_eq_getElem hi,Option.map_some];rw[if_pos ⟨Nat.zero_le _,oM⟩,Nat.sub_zero,getElem!_pos d i hi]
 rw[if_neg hi,Array.getElem?_eq_none oM];rfl
theorem e0r{b:Type}[Inhabited b](enc:b->List Value)(k:Nat)(i:0<k)(c:∀ x,(enc x).length=k)(d:Array b):(flatK enc k d).toList=(d.toList.map enc).flatten:=by
 have h:∀ x∈d.toList.map enc,x.length=k:=λx n=>by obtain⟨y,_,rfl⟩:=List.mem_map.1 n;exact c y
 have j:(d.toList.map enc).flatten.length=d.size*k:=by
  have:∀ l:List b,(l.map enc).flatten.length=l.length*k:=λl=>by
   induction l with
   |nil=>simp
   |cons a l o=>simp only[List.map_cons,List.flatten_cons,List.length_append,o,c,List.length_cons,Nat.add_mul,Nat.one_mul,Nat.add_comm]
  simpa using this d.toList
 apply List.ext_getElem?;intro t;by_cases ht:t<d.size*k
 ·have g:t / k<d.size:=Nat.div_lt_of_lt_mul (by rwa [Nat.mul_comm]at ht);have m:=Nat.mod_lt t i;have f:t % k<(enc d[t / k]).length:=by rw[c];exact m
  have e:=b07 (sz:=k) (d.toList.map enc) (t / k) (enc d[t / k]) h (by simp[g]) (t % k) _ (List.getElem?_eq_getElem f);rw[Nat.mul_comm,Nat.div_add_mod]at e;rw[e,Array.getElem?_toList,Array.getElem?_eq_getElem (by simpa using ht)];have:=get_flatK enc k d t ht;rw[getElem!_pos _ t (by simpa using ht)]at this;rw[this,getElem!_pos d (t / k) g,getElem!_pos (enc d[t / k]) (t % k) f]
 rw[List.getElem?_eq_none (by simpa using ht),List.getElem?_eq_none (by rw[j];omega)]
theorem W06{i:Type}{R:i->i->Prop}(j:∀ x y,R x y->R y x->x=y):∀ {d f:List i},d.Perm f->d.Pairwise R->f.Pairwise R->d=f
 | [],f,c,_,_=>(List.nil_perm.1 c).symm
 |a::d,[],c,_,_=>absurd c.length_eq oS
 |a::d,b::f,c,k,l=>by
  have g:a∈b::f:=c.subset mS;have h:b∈a::d:=c.symm.subset mS;have e:a=b:=by
   rcases List.mem_cons.1 g with e|g;·exact e
   rcases List.mem_cons.1 h with e|h;·exact e.symm
   exact j _ _ ((List.pairwise_cons.1 k).1 b h) ((List.pairwise_cons.1 l).1 a g)
  subst e;rw[W06 j ((List.perm_cons a).1 c) (List.pairwise_cons.1 k).2 (List.pairwise_cons.1 l).2]
def Z0o{a:Type}(b:a->a->Int)(x:a):List a->List a
 | []=>[x]
 |y::l=>bif ltOf b y x then y::Z0o b x l else x::y::l
def L0a{a:Type}(b:a->a->Int):List a->List a
 | []=>[]
 |x::l=>Z0o b x (L0a b l)
theorem K0g{b:Type}(a:b->b->Int)(x:b):∀ l,(Z0o a x l).Perm (x::l)
 | [] => .refl _
 |y::l=>by
  unfold Z0o;cases ltOf a y x;·exact .refl _
  exact((K0g a x l).cons y).trans (.swap ..)
theorem b08{b:Type}(a:b->b->Int):∀ l,(L0a a l).Perm l
 | [] => .refl _
 |x::l=>(K0g a x _).trans ((b08 a l).cons x)
theorem A0h{f:Type}{c:f->f->Int}(e:SWO (ltOf c))(x:f):∀ l:List f,l.Pairwise (λa b=>ltOf c b a=false)->(Z0o c x l).Pairwise λa b=>ltOf c b a=false
 | [],_=>by simp[Z0o]
 |y::l,h=>by
  obtain⟨g,i⟩:=List.pairwise_cons.1 h;unfold Z0o;cases hc:ltOf c y x
  ·show(x::y::l).Pairwise _;refine List.pairwise_cons.2 ⟨λz d=>?_,h⟩;rcases List.mem_cons.1 d with rfl|d;·exact hc
   exact e.ntrans _ _ _ (g z d) hc
  show(y::Z0o c x l).Pairwise _;refine List.pairwise_cons.2 ⟨λz d=>?_,A0h e x l i⟩;rcases List.mem_cons.1 ((K0g c x l).subset d)with rfl|d
  ·cases hd:ltOf c z y;·rfl
   have:=e.trans _ _ _ hc hd;rw[e.irrefl]at this;cases this
  exact g z d
theorem g09{d:Type}{c:d->d->Int}(e:SWO (ltOf c)):∀ l:List d,(L0a c l).Pairwise λa b=>ltOf c b a=false
 | [] => .nil
 |x::l=>A0h e x _ (g09 e l)
theorem l0z{c:Type}[Inhabited c]{lt:c->c->Bool}{d:Array c}(h:SortedIn lt 0 d.size d):d.toList.Pairwise λa b=>lt b a=false:=by
 rw[List.pairwise_iff_getElem];intro i j g l k;have f:i<d.size:=by simpa using g
 have e:j<d.size:=by simpa using l
 have:=h i j (Nat.zero_le _) k e;rwa [getElem!_pos d i f,getElem!_pos d j e]at this
theorem m0z{b:Type}[Inhabited b]{d a:Array b}(h:PermIn 0 d.size d a):a.size=d.size/\a.toList.Perm d.toList:=by
 refine⟨h.1,?_⟩;have:=h.2.2;rw[←h.1]at this;have e:a.extract 0 a.size=a:=Array.extract_size;have c:d.extract 0 a.size=d:=by rw[h.1];exact Array.extract_size
 rw[e,c]at this;exact this
theorem V0z{a c:Type}{b:a->a->Int}(f:c->a)(h:SWO (ltOf b)):SWO (ltOf λx y=>b (f x) (f y)) :=
 ⟨λx=>h.irrefl (f x),λx y z=>h.trans (f x) (f y) (f z),λx y z=>h.ntrans (f x) (f y) (f z)⟩
structure Cmp {α:Type} (cf:α->α->Int):Prop where
 swo:SWO (ltOf cf)
 tot:∀ x y,ltOf cf x y=false->ltOf cf y x=false->x=y
section
variable {P:Program} {ρ:Ren} {ι α:Type} [Inhabited ι] {row:ι->List Value} {dat:ι->α} {cf:α->α->Int} {gf sz:Nat} {h h':Hp} {v:Value} {e:Nat} {l:List ι}
end
abbrev x0x{a:Type}(r:Rp a)(h:Hp):Type := {p:List Value×a // r.R h p.1 p.2}
theorem t0s{a:Type}{r:Rp a}{h:Hp}:∀ {vs:LV} {xs:List a},F2 (r.R h) vs xs->∃ l:List (x0x r h),(l.map λp=>p.1.1)=vs/\(l.map λp=>p.1.2)=xs
 | [],[],_=>⟨[],rfl,rfl⟩
 |v::vs,x::xs,hf=>by obtain⟨l,b,c⟩:=t0s hf.2;exact⟨⟨(v,x),hf.1⟩::l,by simp[b],by simp[c]⟩
 | [],_::_,hf=>hf.elim
 |_::_,[],hf=>hf.elim
theorem u0s{a:Type}{r:Rp a}{h:Hp}:∀(l:List (x0x r h)),F2 (r.R h) (l.map λp=>p.1.1) (l.map λp=>p.1.2)
 | []=>trivial
 |p::l=>⟨p.2,u0s l⟩
section
variable {P:Program} {ρ:Ren} {α:Type} {cf:α->α->Int} {gf:Nat} {h h':Hp} {v:Value} {e:Nat} {vs:LV} {xs:List α}
end
end Go.H
