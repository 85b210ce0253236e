/- Plain laws over the model: the library's sort, at a slice that lies in memory. -/
import Derived.Test.YtkjhghloldgioaaGreatH35
import Derived.Sort.Grow
import Derived.Shelf.SlSortCmp.Whole1
open Go.Sort Go.Proofs Go.Shelf Go.Lib
namespace Go.H
set_option linter.unusedVariables false
set_option linter.unusedSimpArgs false
theorem P2.grown{h:Hp}{w w':World}(hv:Vis h w)(m:P2 h w h w'):∃ q os',w'=grow (w.drewN q) os':=by
 refine⟨w'.drawn-w.drawn,w'.heap.extract w.heap.size w'.heap.size,?_⟩
 have hp:∀ b,b<w.heap.size->w'.heap[b]?=w.heap[b]?:=λb hb=>by
  cases hc:h b with
  |none=>exact m.keep b hb hc
  |some o=>rw[m.vis b o hc,hv b o hc]
 have hh:w'.heap=w.heap++w'.heap.extract w.heap.size w'.heap.size:=by
  refine Array.ext_getElem? λi=>?_
  rcases Nat.lt_or_ge i w.heap.size with hi|hi
  ·rw[Array.getElem?_append_left hi,hp i hi]
  ·rw[Array.getElem?_append_right hi,Array.getElem?_extract]
   have:=m.size
   by_cases hi2:i<w'.heap.size
   ·rw[if_pos (by omega)]
    congr 1
    omega
   ·rw[if_neg (by omega),Array.getElem?_eq_none (by omega)]
 have hd:=m.dn
 cases w
 cases w'
 simp only[grow,Go.World.drewN]at *
 have e1:=m.os
 have e2:=m.tape
 have e3:=m.output
 simp only at e1 e2 e3
 subst e1 e2 e3
 congr 1
 omega
theorem O0c{w:World}{g m b:Nat}{f:Array Value->Array Value}{os:Array Obj}(hlt:b<w.heap.size):
  (grow (mapBlock (Sort.ahead w m) g f) os).heap[b]?=if g=b then(w.heap[b]?).map (onCells f)else w.heap[b]?:=by
 show(w.heap.modify g (onCells f)++os)[b]?=_
 rw[Array.getElem?_append_left (by simpa using hlt),Array.getElem?_modify]
theorem v0q{w:World}{g m:Nat}{f:Array Value->Array Value}{os:Array Obj}:w.heap.size<=(grow (mapBlock (Sort.ahead w m) g f) os).heap.size:=by
 show w.heap.size<=(w.heap.modify g (onCells f)++os).size
 simp
theorem D0o{h:Hp}{w:World}{g m:Nat}{o:Obj}{f:Array Value->Array Value}{os:Array Obj}(hg:h g=none)(hv:Vis (h.set g o) w):Vis h (grow (mapBlock (Sort.ahead w m) g f) os):=by
 intro b x hb
 have hne:b≠g:=λe=>by rw[e,hg]at hb;cases hb
 have h1:=hv b x (by rw[Hp.set_other _ _ hne];exact hb)
 have hlt:b<w.heap.size:=(Array.getElem?_eq_some_iff.1 h1).1
 rw[O0c hlt,if_neg (Ne.symm hne)]
 exact h1
theorem P0i{h:Hp}{w:World}{g m:Nat}{cur:Array Value}{e:TypeId}{f:Array Value->Array Value}{os:Array Obj}(hg:h g=none)(hv:Vis (h.set g (.cells cur e (0,0))) w):
  P2 (h.set g (.cells cur e (0,0))) w (h.set g (.cells (f cur) e (0,0))) (grow (mapBlock (Sort.ahead w m) g f) os):=by
 have hw:w.heap[g]?=some (.cells cur e (0,0)):=hv g _ (Hp.set_same _ _ _)
 have hlt:g<w.heap.size:=(Array.getElem?_eq_some_iff.1 hw).1
 have hgg:(grow (mapBlock (Sort.ahead w m) g f) os).heap[g]?=some (.cells (f cur) e (0,0)):=by
  rw[O0c hlt,if_pos rfl,hw];rfl
 refine⟨rfl,rfl,rfl,v0q,λb hb hn=>?_,λb x hx=>?_,λb hb=>?_,λa ha=>?_,Nat.le_add_right _ _⟩
 ·have hne:b≠g:=λe'=>by rw[e',Hp.set_same]at hn;cases hn
  rw[O0c hb,if_neg (Ne.symm hne)]
 ·by_cases e':b=g
  ·subst e';rw[Hp.set_same]at hx;cases hx;exact hgg
  ·rw[Hp.set_other _ _ e']at hx
   exact D0o hg hv b x hx
 ·by_cases e':b=g
  ·subst e';exact .inl (by rw[Hp.set_same];simp)
  ·rw[Hp.set_other _ _ e']at hb;exact .inl (by rw[Hp.set_other _ _ e'];exact hb)
 ·by_cases e':a.block=g
  ·rw[W01 (o := .cells (f cur) e (0,0)) (by rw[e'];exact hgg),W01 (o := .cells cur e (0,0)) (by rw[e'];exact hw)];rfl
  ·exact D0a (by rw[O0c ha,if_neg (Ne.symm e')])
theorem E0o{α β:Type}(f:α->β):∀ l:List α,(l.map λp=>[f p]).flatten=l.map f
 | []=>rfl
 |a::l=>by simp[E0o f l]
theorem F08{α:Type}[Inhabited α](enc:α->Value)(d:Array α)(c:Array Value)(h:d.size<=c.size):(putCells enc 0 d c).toList.take d.size=d.toList.map enc:=by
 apply List.ext_getElem?
 intro i
 rw[List.getElem?_take,Array.getElem?_toList,List.getElem?_map,Array.getElem?_toList]
 by_cases hi:i<d.size
 ·rw[if_pos hi]
  simp only[putCells,Array.getElem?_mapIdx,Array.getElem?_eq_getElem (show i<c.size by omega),Array.getElem?_eq_getElem hi,Option.map_some]
  rw[if_pos ⟨Nat.zero_le _,by omega⟩,Nat.sub_zero,getElem!_pos d i hi]
 ·rw[if_neg hi,Array.getElem?_eq_none (by omega)];rfl
theorem y0k{α:Type}[Inhabited α](enc:α->List Value)(k:Nat)(hk0:0<k)(hk:∀ x,(enc x).length=k)(d:Array α):(flatK enc k d).toList=(d.toList.map enc).flatten:=by
 have hall:∀ x∈d.toList.map enc,x.length=k:=λx hx=>by obtain⟨y,_,rfl⟩:=List.mem_map.1 hx;exact hk y
 have hlen:(d.toList.map enc).flatten.length=d.size*k:=by
  have:∀ l:List α,(l.map enc).flatten.length=l.length*k:=λl=>by
   induction l with
   |nil=>simp
   |cons a l ih=>simp only[List.map_cons,List.flatten_cons,List.length_append,ih,hk,List.length_cons,Nat.add_mul,Nat.one_mul,Nat.add_comm]
  simpa using this d.toList
 apply List.ext_getElem?
 intro t
 by_cases ht:t<d.size*k
 ·have hq:t / k<d.size:=Nat.div_lt_of_lt_mul (by rwa [Nat.mul_comm]at ht)
  have hr:=Nat.mod_lt t hk0
  have hlk:t % k<(enc d[t / k]).length:=by rw[hk];exact hr
  have h1:=t03 (sz:=k) (d.toList.map enc) (t / k) (enc d[t / k]) hall (by simp[hq]) (t % k) _ (List.getElem?_eq_getElem hlk)
  rw[Nat.mul_comm,Nat.div_add_mod]at h1
  rw[h1,Array.getElem?_toList,Array.getElem?_eq_getElem (by simpa using ht)]
  have:=get_flatK enc k d t ht
  rw[getElem!_pos _ t (by simpa using ht)]at this
  rw[this,getElem!_pos d (t / k) hq,getElem!_pos (enc d[t / k]) (t % k) hlk]
 ·rw[List.getElem?_eq_none (by simpa using ht),List.getElem?_eq_none (by rw[hlen];omega)]
theorem n03{α:Type}{R:α->α->Prop}(anti:∀ x y,R x y->R y x->x=y):∀ {l1 l2:List α},l1.Perm l2->l1.Pairwise R->l2.Pairwise R->l1=l2
 | [],l2,hp,_,_=>(List.nil_perm.1 hp).symm
 |a::l1,[],hp,_,_=>absurd hp.length_eq (by simp)
 |a::l1,b::l2,hp,h1,h2=>by
  have ha:a∈b::l2:=hp.subset mS
  have hb:b∈a::l1:=hp.symm.subset mS
  have e:a=b:=by
   rcases List.mem_cons.1 ha with e|ha
   ·exact e
   ·rcases List.mem_cons.1 hb with e|hb
    ·exact e.symm
    ·exact anti _ _ ((List.pairwise_cons.1 h1).1 b hb) ((List.pairwise_cons.1 h2).1 a ha)
  subst e
  rw[n03 anti ((List.perm_cons a).1 hp) (List.pairwise_cons.1 h1).2 (List.pairwise_cons.1 h2).2]
def Q0i{α:Type}(cf:α->α->Int)(x:α):List α->List α
 | []=>[x]
 |y::l=>bif ltOf cf y x then y::Q0i cf x l else x::y::l
def M05{α:Type}(cf:α->α->Int):List α->List α
 | []=>[]
 |x::l=>Q0i cf x (M05 cf l)
theorem j0b{α:Type}(cf:α->α->Int)(x:α):∀ l,(Q0i cf x l).Perm (x::l)
 | [] => .refl _
 |y::l=>by
  unfold Q0i
  cases ltOf cf y x
  ·exact .refl _
  ·exact((j0b cf x l).cons y).trans (.swap ..)
theorem Z03{α:Type}(cf:α->α->Int):∀ l,(M05 cf l).Perm l
 | [] => .refl _
 |x::l=>(j0b cf x _).trans ((Z03 cf l).cons x)
theorem e0c{α:Type}{cf:α->α->Int}(hO:SWO (ltOf cf))(x:α):∀ l:List α,l.Pairwise (λa b=>ltOf cf b a=false)->(Q0i cf x l).Pairwise λa b=>ltOf cf b a=false
 | [],_=>by simp[Q0i]
 |y::l,h=>by
  obtain⟨h1,h2⟩:=List.pairwise_cons.1 h
  unfold Q0i
  cases hc:ltOf cf y x with
  |false =>
   show(x::y::l).Pairwise _
   refine List.pairwise_cons.2 ⟨λz hz=>?_,h⟩
   rcases List.mem_cons.1 hz with rfl|hz
   ·exact hc
   ·exact hO.ntrans _ _ _ (h1 z hz) hc
  |true =>
   show(y::Q0i cf x l).Pairwise _
   refine List.pairwise_cons.2 ⟨λz hz=>?_,e0c hO x l h2⟩
   rcases List.mem_cons.1 ((j0b cf x l).subset hz)with rfl|hz
   ·cases hd:ltOf cf z y with
    |false=>rfl
    |true=>have:=hO.trans _ _ _ hc hd;rw[hO.irrefl]at this;cases this
   ·exact h1 z hz
theorem e05{α:Type}{cf:α->α->Int}(hO:SWO (ltOf cf)):∀ l:List α,(M05 cf l).Pairwise λa b=>ltOf cf b a=false
 | [] => .nil
 |x::l=>e0c hO x _ (e05 hO l)
theorem H0r{α:Type}[Inhabited α]{lt:α->α->Bool}{d:Array α}(h:SortedIn lt 0 d.size d):d.toList.Pairwise λa b=>lt b a=false:=by
 rw[List.pairwise_iff_getElem]
 intro i j hi hj hij
 have h1:i<d.size:=by simpa using hi
 have h2:j<d.size:=by simpa using hj
 have:=h i j (Nat.zero_le _) hij h2
 rwa [getElem!_pos d i h1,getElem!_pos d j h2]at this
theorem I0r{α:Type}[Inhabited α]{d d':Array α}(h:PermIn 0 d.size d d'):d'.size=d.size/\d'.toList.Perm d.toList:=by
 refine⟨h.1,?_⟩
 have:=h.2.2
 rw[←h.1]at this
 have e:d'.extract 0 d'.size=d':=Array.extract_size
 have e2:d.extract 0 d'.size=d:=by rw[h.1];exact Array.extract_size
 rw[e,e2]at this
 exact this
theorem i0s{α β:Type}{cf:α->α->Int}(f:β->α)(h:SWO (ltOf cf)):SWO (ltOf λx y=>cf (f x) (f y)) :=
 ⟨λx=>h.irrefl (f x),λx y z=>h.trans (f x) (f y) (f z),λx y z=>h.ntrans (f x) (f y) (f z)⟩
structure Cmp {α:Type} (cf:α->α->Int):Prop where
 swo:SWO (ltOf cf)
 tot:∀ x y,ltOf cf x y=false->ltOf cf y x=false->x=y
section
variable {P:Program} {ρ:Ren} {ι α:Type} [Inhabited ι] {row:ι->List Value} {dat:ι->α} {cf:α->α->Int} {gf sz:Nat} {h h':Hp} {v:Value} {e:Nat} {l:List ι}
end
abbrev w0q{α:Type}(r:Rp α)(h:Hp):Type := {p:List Value×α // r.R h p.1 p.2}
theorem F0l{α:Type}{r:Rp α}{h:Hp}:∀ {vs:List (List Value)} {xs:List α},F2 (r.R h) vs xs->∃ l:List (w0q r h),(l.map λp=>p.1.1)=vs/\(l.map λp=>p.1.2)=xs
 | [],[],_=>⟨[],rfl,rfl⟩
 |v::vs,x::xs,hf=>by
  obtain⟨l,h1,h2⟩:=F0l hf.2
  exact⟨⟨(v,x),hf.1⟩::l,by simp[h1],by simp[h2]⟩
 | [],_::_,hf=>hf.elim
 |_::_,[],hf=>hf.elim
theorem G0l{α:Type}{r:Rp α}{h:Hp}:∀(l:List (w0q r h)),F2 (r.R h) (l.map λp=>p.1.1) (l.map λp=>p.1.2)
 | []=>trivial
 |p::l=>⟨p.2,G0l l⟩
section
variable {P:Program} {ρ:Ren} {α:Type} {cf:α->α->Int} {gf:Nat} {h h':Hp} {v:Value} {e:Nat} {vs:List (List Value)} {xs:List α}
end
end Go.H
