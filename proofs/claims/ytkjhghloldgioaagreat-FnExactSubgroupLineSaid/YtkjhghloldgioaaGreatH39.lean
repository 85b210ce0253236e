/- Plain laws over the model: the library's sort of ints, at a slice that lies in memory. -/
import Derived.Test.YtkjhghloldgioaaGreatH36
import Derived.Test.YtkjhghloldgioaaGreatH33
import Derived.Shelf.Sort.Plain
open Go.Sort Go.Proofs Go.Shelf Go.Lib
namespace Go.H
set_option linter.unusedVariables false
set_option linter.unusedSimpArgs false
theorem ltI(x y:Int):ltOf c9 x y=decide (x<y):=by
 unfold ltOf c9
 by_cases h:x<y
 ·simp[h]
 ·rw[if_neg h]
  split<;>simp[h]
theorem G0n(xs:List Int):(xs.mergeSort λx y=>decide (x<=y))=M05 c9 xs:=by
 refine n03 (R:=λa b=>ltOf c9 b a=false) (λx y h1 h2=>m02.cmp.tot x y h2 h1) ((List.mergeSort_perm xs _).trans (Z03 c9 xs).symm) ?_ (e05 m02.cmp.swo xs)
 have:=List.pairwise_mergeSort (le:=λx y:Int=>decide (x<=y)) (λa b c h1 h2=>by simp at *;omega) (λa b=>by simp;omega) xs
 exact this.imp λ{a b} h=>by simp at h;rw[ltI];simp;omega
theorem F2.ints{h:Hp}:∀ {vs:List (List Value)} {xs:List Int},F2 (Wp.int.R h) vs xs->vs=(xs.map λx=>[.int .i64 x])/\∀ x∈xs,P0 x
 | [],[],_=>⟨rfl,by simp⟩
 |v::vs,x::xs,hf=>by
  obtain⟨⟨rfl,h1⟩,h2⟩:=hf
  obtain⟨rfl,h3⟩:=F2.ints h2
  exact⟨rfl,λy hy=>by rcases List.mem_cons.1 hy with rfl|hy;exact h1;exact h3 y hy⟩
 | [],_::_,hf=>hf.elim
 |_::_,[],hf=>hf.elim
theorem F2.ofInts{h:Hp}:∀ {xs:List Int},(∀ x∈xs,P0 x)->F2 (Wp.int.R h) (xs.map λx=>[.int .i64 x]) xs
 | [],_=>trivial
 |x::xs,hx=>⟨⟨rfl,hx x mS⟩,F2.ofInts λy hy=>hx y (mC _ hy)⟩
theorem Tr.sortI{P:Program}{ρ:Ren}(L:Lays.n189 P ρ){h h':Hp}{v:Value}{e:Nat}{vs:List (List Value)}{xs:List Int}(fr:U0 h h' v e 1 true vs)(f2:F2 (Wp.int.R h) vs xs)(hlt:xs.length<4611686018427387904):
  Tr P (ρ.f 189) #[v] h' λu k=>u = .tuple #[]/\∃ vs',U0 h k v e 1 true vs'/\F2 (Wp.int.R h) vs' (M05 c9 xs):=by
 obtain⟨rfl,hx64⟩:=F2.ints f2
 obtain⟨hone',fr⟩:=fr
 rcases fr with⟨_,_,h0,_⟩|⟨g,cap,cur,rfl,hg,rfl,h1,h2,h3,h4⟩
 ·cases h0
 refine⟨λw hv=>?_⟩
 have hw:w.heap[g]?=some (.cells cur e (0,0)):=hv g _ (Hp.set_same _ _ _)
 have hcur:xs.length<=cur.size:=by rw[h3];simpa using h1
 have h4':cur.toList.take xs.length=xs.map (Value.int .i64):=by
  rw[E0o]at h4
  simpa using h4
 have hH:Holds (Value.int .i64) w g 0 xs.toArray:=λj hj=>by
  have hj':j<xs.length:=by simpa using hj
  have hx:cur[j]?=some (.int .i64 xs[j]):=by
   have:=congrArg (λz=>z[j]?) h4'
   simp only[List.getElem?_take,if_pos hj',List.getElem?_map,Array.getElem?_toList,List.getElem?_eq_getElem hj',Option.map_some]at this
   exact this
  refine⟨?_,?_⟩
  ·simp[World.cell?,hw,getElem!_pos,hj']
   exact hx
  ·rw[W01 (o := .cells cur e (0,0)) hw];simp[e01]
 have hsort:=Any.slices_Sort_int L g 0 cap xs w hH (Array.getElem?_eq_some_iff.1 hw).1 hlt
 rw[List.length_map]
 refine hsort.mono ?_
 rintro e' w' ⟨rfl,n,os,rfl⟩
 rw[G0n]
 have hlen:(M05 c9 xs).length=xs.length:=(Z03 c9 xs).length_eq
 refine⟨_,_,rfl,⟨rfl,(M05 c9 xs).map (λx=>[.int .i64 x]),⟨λx hx=>?_,.inr ⟨g,cap,putCells (Value.int .i64) 0 (M05 c9 xs).toArray cur,by simp[hlen],hg,rfl,by simpa [hlen] using h1,h2,by simpa [putCells] using h3,?_⟩⟩,F2.ofInts λx hx=>hx64 x ((Z03 c9 xs).subset hx)⟩,P0i hg hv⟩
 ·obtain⟨p,_,rfl⟩:=List.mem_map.1 hx
  simp[Value.oneCell']
 ·have:=F08 (Value.int .i64) (M05 c9 xs).toArray cur (by simp[hlen];omega)
  rw[E0o]
  simpa using this
end Go.H
