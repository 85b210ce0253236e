/- Plain laws over the model: the library's sort, at a slice that lies in memory. -/
import Derived.Test.YtcakocbgbelmeaaGreatH35
import Derived.Sort.Grow
import Derived.Shelf.SlSortCmp.Whole1
open Go.Sort Go.Proofs Go.Shelf Go.Lib
namespace Go.H
set_option linter.unusedVariables false
set_option linter.unusedSimpArgs false
theorem P2.grown {h:Hp} {w w':World} (hv:Vis h w) (m:P2 h w h w'):∃ q os',w'=grow (w.drewN q) os':=by
 refine⟨w'.drawn-w.drawn,w'.heap.extract w.heap.size w'.heap.size,?_⟩
 have hp:∀ b,b<w.heap.size→w'.heap[b]?=w.heap[b]?:=fun b hb=>by
  cases hc:h b with
  |none=>exact m.keep b hb hc
  |some o=>rw[m.vis b o hc,hv b o hc]
 have hh:w'.heap=w.heap++w'.heap.extract w.heap.size w'.heap.size:=by
  refine Array.ext_getElem? fun i=>?_
  rcases Nat.lt_or_ge i w.heap.size with hi|hi
  ·rw[Array.getElem?_append_left hi,hp i hi]
  ·rw[Array.getElem?_append_right hi,Array.getElem?_extract]
   have:=m.size
   by_cases hi2:i<w'.heap.size
   ·rw[if_pos (by omega)]
    congr 1
    omega
   ·rw[if_neg (by omega),Array.getElem?_eq_none (by omega)]
 have hd:=m.dn
 cases w
 cases w'
 simp only[grow,Go.World.drewN]at *
 have e1:=m.os
 have e2:=m.tape
 have e3:=m.output
 simp only at e1 e2 e3
 subst e1 e2 e3
 congr 1
 omega
theorem S0d {w:World} {g m b:Nat} {f:Array Value→Array Value} {os:Array Obj} (hlt:b<w.heap.size) :
  (grow (mapBlock (Sort.ahead w m) g f) os).heap[b]?=if g=b then(w.heap[b]?).map (onCells f)else w.heap[b]?:=by
 show(w.heap.modify g (onCells f)++os)[b]?=_
 rw[Array.getElem?_append_left (by simpa using hlt),Array.getElem?_modify]
theorem V0p {w:World} {g m:Nat} {f:Array Value→Array Value} {os:Array Obj}:w.heap.size≤(grow (mapBlock (Sort.ahead w m) g f) os).heap.size:=by
 show w.heap.size≤(w.heap.modify g (onCells f)++os).size
 simp
theorem X0k {h:Hp} {w:World} {g m:Nat} {o:Obj} {f:Array Value→Array Value} {os:Array Obj} (hg:h g=none) (hv:Vis (h.set g o) w):Vis h (grow (mapBlock (Sort.ahead w m) g f) os):=by
 intro b x hb
 have hne:b≠g:=fun e=>by rw[e,hg]at hb;cases hb
 have h1:=hv b x (by rw[Hp.set_other _ _ hne];exact hb)
 have hlt:b<w.heap.size:=(Array.getElem?_eq_some_iff.1 h1).1
 rw[S0d hlt,if_neg (Ne.symm hne)]
 exact h1
theorem L0e {h:Hp} {w:World} {g m:Nat} {cur:Array Value} {e:TypeId} {f:Array Value→Array Value} {os:Array Obj} (hg:h g=none) (hv:Vis (h.set g (.cells cur e (0,0))) w) :
  P2 (h.set g (.cells cur e (0,0))) w (h.set g (.cells (f cur) e (0,0))) (grow (mapBlock (Sort.ahead w m) g f) os):=by
 have hw:w.heap[g]?=some (.cells cur e (0,0)):=hv g _ (Hp.set_same _ _ _)
 have hlt:g<w.heap.size:=(Array.getElem?_eq_some_iff.1 hw).1
 have hgg:(grow (mapBlock (Sort.ahead w m) g f) os).heap[g]?=some (.cells (f cur) e (0,0)):=by
  rw[S0d hlt,if_pos rfl,hw];rfl
 refine⟨rfl,rfl,rfl,V0p,fun b hb hn=>?_,fun b x hx=>?_,fun b hb=>?_,fun a ha=>?_,Nat.le_add_right _ _⟩
 ·have hne:b≠g:=fun e'=>by rw[e',Hp.set_same]at hn;cases hn
  rw[S0d hb,if_neg (Ne.symm hne)]
 ·by_cases e':b=g
  ·subst e';rw[Hp.set_same]at hx;cases hx;exact hgg
  ·rw[Hp.set_other _ _ e']at hx
   exact X0k hg hv b x hx
 ·by_cases e':b=g
  ·subst e';exact .inl (by rw[Hp.set_same];simp)
  ·rw[Hp.set_other _ _ e']at hb;exact .inl (by rw[Hp.set_other _ _ e'];exact hb)
 ·by_cases e':a.block=g
  ·rw[c01 (o := .cells (f cur) e (0,0)) (by rw[e'];exact hgg),c01 (o := .cells cur e (0,0)) (by rw[e'];exact hw)];rfl
  ·exact x0b (by rw[S0d ha,if_neg (Ne.symm e')])
theorem o0j {α β:Type} (f:α→β):∀ l:List α,(l.map fun p=>[f p]).flatten=l.map f
 | []=>rfl
 |a::l=>by simp[o0j f l]
theorem o05 {α:Type} [Inhabited α] (enc:α→Value) (d:Array α) (c:Array Value) (h:d.size≤c.size):(putCells enc 0 d c).toList.take d.size=d.toList.map enc:=by
 apply List.ext_getElem?
 intro i
 rw[List.getElem?_take,Array.getElem?_toList,List.getElem?_map,Array.getElem?_toList]
 by_cases hi:i<d.size
 ·rw[if_pos hi]
  simp only[putCells,Array.getElem?_mapIdx,Array.getElem?_eq_getElem (show i<c.size by omega),Array.getElem?_eq_getElem hi,Option.map_some]
  rw[if_pos ⟨Nat.zero_le _,by omega⟩,Nat.sub_zero,getElem!_pos d i hi]
 ·rw[if_neg hi,Array.getElem?_eq_none (by omega)];rfl
theorem Y0k {α:Type} [Inhabited α] (enc:α→List Value) (k:Nat) (hk0:0<k) (hk:∀ x,(enc x).length=k) (d:Array α):(flatK enc k d).toList=(d.toList.map enc).flatten:=by
 have hall:∀ x∈d.toList.map enc,x.length=k:=fun x hx=>by obtain⟨y,_,rfl⟩:=List.mem_map.1 hx;exact hk y
 have hlen:(d.toList.map enc).flatten.length=d.size*k:=by
  have:∀ l:List α,(l.map enc).flatten.length=l.length*k:=fun l=>by
   induction l with
   |nil=>simp
   |cons a l ih=>simp only[List.map_cons,List.flatten_cons,List.length_append,ih,hk,List.length_cons,Nat.add_mul,Nat.one_mul,Nat.add_comm]
  simpa using this d.toList
 apply List.ext_getElem?
 intro t
 by_cases ht:t<d.size*k
 ·have hq:t / k<d.size:=Nat.div_lt_of_lt_mul (by rwa [Nat.mul_comm]at ht)
  have hr:=Nat.mod_lt t hk0
  have hlk:t % k<(enc d[t / k]).length:=by rw[hk];exact hr
  have h1:=t03 (sz:=k) (d.toList.map enc) (t / k) (enc d[t / k]) hall (by simp[hq]) (t % k) _ (List.getElem?_eq_getElem hlk)
  rw[Nat.mul_comm,Nat.div_add_mod]at h1
  rw[h1,Array.getElem?_toList,Array.getElem?_eq_getElem (by simpa using ht)]
  have:=get_flatK enc k d t ht
  rw[getElem!_pos _ t (by simpa using ht)]at this
  rw[this,getElem!_pos d (t / k) hq,getElem!_pos (enc d[t / k]) (t % k) hlk]
 ·rw[List.getElem?_eq_none (by simpa using ht),List.getElem?_eq_none (by rw[hlen];omega)]
theorem b02 {α:Type} {R:α→α→Prop} (anti:∀ x y,R x y→R y x→x=y):∀ {l1 l2:List α},l1.Perm l2→l1.Pairwise R→l2.Pairwise R→l1=l2
 | [],l2,hp,_,_=>(List.nil_perm.1 hp).symm
 |a::l1,[],hp,_,_=>absurd hp.length_eq (by simp)
 |a::l1,b::l2,hp,h1,h2=>by
  have ha:a∈b::l2:=hp.subset (List.mem_cons_self ..)
  have hb:b∈a::l1:=hp.symm.subset (List.mem_cons_self ..)
  have e:a=b:=by
   rcases List.mem_cons.1 ha with e|ha
   ·exact e
   ·rcases List.mem_cons.1 hb with e|hb
    ·exact e.symm
    ·exact anti _ _ ((List.pairwise_cons.1 h1).1 b hb) ((List.pairwise_cons.1 h2).1 a ha)
  subst e
  rw[b02 anti ((List.perm_cons a).1 hp) (List.pairwise_cons.1 h1).2 (List.pairwise_cons.1 h2).2]
def p0j {α:Type} (cf:α→α→Int) (x:α):List α→List α
 | []=>[x]
 |y::l=>bif ltOf cf y x then y::p0j cf x l else x::y::l
def w02 {α:Type} (cf:α→α→Int):List α→List α
 | []=>[]
 |x::l=>p0j cf x (w02 cf l)
theorem a0c {α:Type} (cf:α→α→Int) (x:α):∀ l,(p0j cf x l).Perm (x::l)
 | [] => .refl _
 |y::l=>by
  unfold p0j
  cases ltOf cf y x
  ·exact .refl _
  ·exact((a0c cf x l).cons y).trans (.swap ..)
theorem q02 {α:Type} (cf:α→α→Int):∀ l,(w02 cf l).Perm l
 | [] => .refl _
 |x::l=>(a0c cf x _).trans ((q02 cf l).cons x)
theorem a0d {α:Type} {cf:α→α→Int} (hO:SWO (ltOf cf)) (x:α):∀ l:List α,l.Pairwise (fun a b=>ltOf cf b a=false)→(p0j cf x l).Pairwise fun a b=>ltOf cf b a=false
 | [],_=>by simp[p0j]
 |y::l,h=>by
  obtain⟨h1,h2⟩:=List.pairwise_cons.1 h
  unfold p0j
  cases hc:ltOf cf y x with
  |false =>
   show(x::y::l).Pairwise _
   refine List.pairwise_cons.2 ⟨fun z hz=>?_,h⟩
   rcases List.mem_cons.1 hz with rfl|hz
   ·exact hc
   ·exact hO.ntrans _ _ _ (h1 z hz) hc
  |true =>
   show(y::p0j cf x l).Pairwise _
   refine List.pairwise_cons.2 ⟨fun z hz=>?_,a0d hO x l h2⟩
   rcases List.mem_cons.1 ((a0c cf x l).subset hz)with rfl|hz
   ·cases hd:ltOf cf z y with
    |false=>rfl
    |true=>have:=hO.trans _ _ _ hc hd;rw[hO.irrefl]at this;cases this
   ·exact h1 z hz
theorem y03 {α:Type} {cf:α→α→Int} (hO:SWO (ltOf cf)):∀ l:List α,(w02 cf l).Pairwise fun a b=>ltOf cf b a=false
 | [] => .nil
 |x::l=>a0d hO x _ (y03 hO l)
theorem C0o {α:Type} [Inhabited α] {lt:α→α→Bool} {d:Array α} (h:SortedIn lt 0 d.size d):d.toList.Pairwise fun a b=>lt b a=false:=by
 rw[List.pairwise_iff_getElem]
 intro i j hi hj hij
 have h1:i<d.size:=by simpa using hi
 have h2:j<d.size:=by simpa using hj
 have:=h i j (Nat.zero_le _) hij h2
 rwa [getElem!_pos d i h1,getElem!_pos d j h2]at this
theorem D0o {α:Type} [Inhabited α] {d d':Array α} (h:PermIn 0 d.size d d'):d'.size=d.size∧d'.toList.Perm d.toList:=by
 refine⟨h.1,?_⟩
 have:=h.2.2
 rw[←h.1]at this
 have e:d'.extract 0 d'.size=d':=Array.extract_size
 have e2:d.extract 0 d'.size=d:=by rw[h.1];exact Array.extract_size
 rw[e,e2]at this
 exact this
theorem E0q {α β:Type} {cf:α→α→Int} (f:β→α) (h:SWO (ltOf cf)):SWO (ltOf fun x y=>cf (f x) (f y)) :=
 ⟨fun x=>h.irrefl (f x),fun x y z=>h.trans (f x) (f y) (f z),fun x y z=>h.ntrans (f x) (f y) (f z)⟩
structure Cmp {α:Type} (cf:α→α→Int):Prop where
 swo:SWO (ltOf cf)
 tot:∀ x y,ltOf cf x y=false→ltOf cf y x=false→x=y
section
variable {P:Program} {ρ:Ren} {ι α:Type} [Inhabited ι] {row:ι→List Value} {dat:ι→α} {cf:α→α→Int} {gf sz:Nat} {h h':Hp} {v:Value} {e:Nat} {l:List ι}
theorem Tr.sort1 (L:SlLaysF.n6 P ρ) (hsz:sz=1) (hlen:∀ p,(row p).length=sz) (hone:∀ p,∀ v∈row p,v.oneCell'=true) (hC:Cmp cf) (eg:∀ args w,(callFunc gf args).run P w = .ok (.enter gf args) w)
  (hc:∀ u v x y,row x = [u]→row y = [v]→Tr P gf #[u,v] h fun q h'=>q = .int .i64 (cf (dat x) (dat y))∧h'=h)
  (fr:j1 h h' v e sz true (l.map row)) (hlt:l.length<4611686018427387904) :
  Tr P (ρ.f 6) #[v,.func (.func gf) #[] #[]] h' fun u k=>u = .tuple #[]∧∃ l':List ι,l'.Perm l∧l'.map dat=w02 cf (l.map dat)∧j1 h k v e sz true (l'.map row):=by
 subst hsz
 obtain⟨hone',fr⟩:=fr
 rcases fr with⟨_,_,h0,_⟩|⟨g,cap,cur,rfl,hg,rfl,h1,h2,h3,h4⟩
 ·cases h0
 refine⟨fun w hv=>?_⟩
 let enc:ι→Value:=fun p=>(row p).headD (.slice none 0 0)
 have henc:∀ p:ι,row p = [enc p]:=fun p=>by
  obtain⟨u,hu⟩:=List.length_eq_one_iff.1 (hlen p)
  simp[enc,hu]
 have hO1:OneCell enc:=fun p=>hone p _ (by rw[henc p];simp)
 have hw:w.heap[g]?=some (.cells cur e (0,0)):=hv g _ (Hp.set_same _ _ _)
 have hvs:l.map row=l.map fun p=>[enc p]:=List.map_congr_left fun p _=>henc p
 have hcur:l.length≤cur.size:=by rw[h3];simpa using h1
 have h4':cur.toList.take l.length=l.map enc:=by
  rw[hvs,o0j]at h4
  simpa using h4
 have hH:Holds enc w g 0 l.toArray:=fun j hj=>by
  have hj':j<l.length:=by simpa using hj
  have hx:cur[j]?=some (enc l[j]):=by
   have:=congrArg (fun z=>z[j]?) h4'
   simp only[List.getElem?_take,if_pos hj',List.getElem?_map,Array.getElem?_toList,List.getElem?_eq_getElem hj',Option.map_some]at this
   exact this
  refine⟨?_,?_⟩
  ·have:cur[0+j]?=some (enc l[j]):=by rw[Nat.zero_add];exact hx
   simp[World.cell?,hw,getElem!_pos,hj']
   exact hx
  ·rw[c01 (o := .cells cur e (0,0)) hw];simp[v00]
 have hcmp:CmpLays1 P gf #[] enc (fun x y=>cf (dat x) (dat y)) g 0 l.toArray.size w:=fun m os dk hs x y=>by
  have hvis:=X0k (m:=m) (f:=putCells enc 0 dk) (os:=os) hg hv
  refine((hc _ _ _ _ (henc x) (henc y)).run _ hvis).mono ?_
  rintro e' w' ⟨u,h',rfl,⟨rfl,rfl⟩,hm⟩
  exact⟨rfl,P2.grown hvis hm⟩
 have hsort:=Any.slices_SortFunc L enc hO1 (fun x y=>cf (dat x) (dat y)) (E0q _ hC.swo) gf #[] g 0 cap l.toArray w eg hcmp hH (Array.getElem?_eq_some_iff.1 hw).1 (by simpa using hlt)
 have hargs:(l.map row).length=l.toArray.size:=by simp
 rw[hargs]
 refine hsort.mono ?_
 rintro e' w' ⟨rfl,d',n,os,hp,hs,rfl⟩
 obtain⟨q1,q2⟩:=D0o hp
 rw[←q1]at hs
 have hlen':d'.size=l.length:=by rw[q1];simp
 refine⟨_,_,rfl,⟨rfl,d'.toList,q2,?_,⟨fun x hx=>?_,.inr ⟨g,cap,putCells enc 0 d' cur,by simp[hlen'],hg,rfl,by simpa [hlen'] using h1,h2,by simpa [putCells] using h3,?_⟩⟩⟩,L0e hg hv⟩
 ·refine b02 (R:=fun a b=>ltOf cf b a=false) (fun x y h1 h2=>hC.tot x y h2 h1) ((q2.map _).trans (q02 cf _).symm) ?_ (y03 hC.swo _)
  exact List.pairwise_map.2 (C0o hs)
 ·obtain⟨p,_,rfl⟩:=List.mem_map.1 hx
  exact⟨hlen p,hone p⟩
 ·rw[List.map_congr_left (g:=fun p=>[enc p]) fun p _=>henc p,o0j,←o05 enc d' cur (by omega)]
  simp
end
abbrev W0p {α:Type} (r:Rp α) (h:Hp):Type := {p:List Value×α // r.R h p.1 p.2}
theorem e0m {α:Type} {r:Rp α} {h:Hp}:∀ {vs:List (List Value)} {xs:List α},F2 (r.R h) vs xs→∃ l:List (W0p r h),(l.map fun p=>p.1.1)=vs∧(l.map fun p=>p.1.2)=xs
 | [],[],_=>⟨[],rfl,rfl⟩
 |v::vs,x::xs,hf=>by
  obtain⟨l,h1,h2⟩:=e0m hf.2
  exact⟨⟨(v,x),hf.1⟩::l,by simp[h1],by simp[h2]⟩
 | [],_::_,hf=>hf.elim
 |_::_,[],hf=>hf.elim
theorem f0m {α:Type} {r:Rp α} {h:Hp}:∀(l:List (W0p r h)),F2 (r.R h) (l.map fun p=>p.1.1) (l.map fun p=>p.1.2)
 | []=>trivial
 |p::l=>⟨p.2,f0m l⟩
abbrev q0j {α:Type} (r:Wp α) (h:Hp):Type := {p:List Value×α×List Nat // r.W h p.1 p.2.1 p.2.2}
theorem Q0h {α:Type} {r:Wp α} {h:Hp}:∀ {vs:List (List Value)} {xs:List α} {Bs:List (List Nat)},F3 (r.W h) vs xs Bs→∃ l:List (q0j r h),(l.map fun p=>p.1.1)=vs∧(l.map fun p=>p.1.2.1)=xs∧(l.map fun p=>p.1.2.2)=Bs
 | [],[],[],_=>⟨[],rfl,rfl,rfl⟩
 |v::vs,x::xs,b::Bs,hf=>by
  obtain⟨l,h1,h2,h3⟩:=Q0h hf.2
  exact⟨⟨(v,x,b),hf.1⟩::l,by simp[h1],by simp[h2],by simp[h3]⟩
 | [],_::_,_,hf=>hf.elim
 | [],[],_::_,hf=>hf.elim
 |_::_,[],_,hf=>hf.elim
 |_::_,_::_,[],hf=>hf.elim
theorem R0h {α:Type} {r:Wp α} {h:Hp}:∀(l:List (q0j r h)),F3 (r.W h) (l.map fun p=>p.1.1) (l.map fun p=>p.1.2.1) (l.map fun p=>p.1.2.2)
 | []=>trivial
 |p::l=>⟨p.2,R0h l⟩
section
variable {P:Program} {ρ:Ren} {α:Type} {cf:α→α→Int} {gf:Nat} {h h':Hp} {v:Value} {e:Nat} {vs:List (List Value)} {xs:List α}
theorem Tr.sort1W {r:Wp α} {Bs:List (List Nat)} (L:SlLaysF.n6 P ρ) (hsz:r.sz=1) (hC:Cmp cf) (eg:∀ args w,(callFunc gf args).run P w = .ok (.enter gf args) w) {z:List Value} {z':α} {zb:List Nat} (hz:r.W h z z' zb)
  (hc:∀ u v x y,r.R h [u] x→r.R h [v] y→Tr P gf #[u,v] h fun q h'=>q = .int .i64 (cf x y)∧h'=h)
  (fr:j1 h h' v e r.sz true vs) (f3:F3 (r.W h) vs xs Bs) (hlt:xs.length<4611686018427387904) :
  Tr P (ρ.f 6) #[v,.func (.func gf) #[] #[]] h' fun u k=>u = .tuple #[]∧∃ vs' Bs',j1 h k v e r.sz true vs'∧F3 (r.W h) vs' (w02 cf xs) Bs'∧Bs'.Perm Bs:=by
 obtain⟨l,rfl,rfl,rfl⟩:=Q0h f3
 haveI:Inhabited (q0j r h):=⟨⟨(z,z',zb),hz⟩⟩
 refine(Tr.sort1 (row:=fun p:q0j r h=>p.1.1) (dat:=fun p=>p.1.2.1) L hsz (fun p=>r.len (r.toR p.2)) (fun p=>r.one (r.toR p.2)) hC eg (fun u v x y hx hy=>hc u v _ _ (by rw[←hx];exact r.toR x.2) (by rw[←hy];exact r.toR y.2)) fr (by simpa using hlt)).mono ?_
 rintro u k ⟨rfl,l',h1,h2,h3⟩
 exact⟨rfl,_,_,h3,by rw[←h2];exact R0h l',h1.map _⟩
end
end Go.H
