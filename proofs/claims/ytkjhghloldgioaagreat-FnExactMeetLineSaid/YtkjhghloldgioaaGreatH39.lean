/- Plain laws over the model: the library's sort of ints, at a slice that lies in memory. -/
import Derived.Test.YtkjhghloldgioaaGreatH36
import Derived.Test.YtkjhghloldgioaaGreatH33
import Derived.Shelf.Sort.Plain
open Go.Sort Go.Proofs Go.Shelf Go.Lib
namespace Go.H
set_option linter.unusedVariables false
set_option linter.unusedSimpArgs false
theorem ltI(x y:Int):ltOf t9 x y=decide (x<y):=by
 unfold ltOf t9
 by_cases h:x<y
 ·simp[h]
 ·rw[if_neg h]
  split<;>simp[h]
theorem R0o(xs:List Int):(xs.mergeSort λx y=>decide (x<=y))=Y05 t9 xs:=by
 refine w03 (R:=λa b=>ltOf t9 b a=false) (λx y d e=>o02.cmp.tot x y e d) ((List.mergeSort_perm xs _).trans (i04 t9 xs).symm) ?_ (o05 o02.cmp.swo xs)
 have:=List.pairwise_mergeSort (le:=λx y:Int=>decide (x<=y)) (λa b c d e=>by simp at *;omega) (λa b=>by simp;omega) xs
 exact this.imp λ{a b} h=>by simp at h;rw[ltI];simp;omega
theorem F2.ints{h:Hp}:∀ {vs:List (List Value)} {xs:List Int},F2 (Wp.int.R h) vs xs->vs=(xs.map λx=>[.int .i64 x])/\∀ x∈xs,I0 x
 | [],[],_=>⟨rfl,by simp⟩
 |v::vs,x::xs,hf=>by
  obtain⟨⟨rfl,b⟩,c⟩:=hf
  obtain⟨rfl,d⟩:=F2.ints c
  exact⟨rfl,λy a=>by rcases List.mem_cons.1 a with rfl|a;exact b;exact d y a⟩
 | [],_::_,hf=>hf.elim
 |_::_,[],hf=>hf.elim
theorem F2.ofInts{h:Hp}:∀ {xs:List Int},(∀ x∈xs,I0 x)->F2 (Wp.int.R h) (xs.map λx=>[.int .i64 x]) xs
 | [],_=>trivial
 |x::xs,a=>⟨⟨rfl,a x mS⟩,F2.ofInts λy b=>a y (mC _ b)⟩
theorem Tr.sortI{P:Program}{A:Ren}(L:Lays.n189 P A){h i:Hp}{v:Value}{e:Nat}{vs:List (List Value)}{xs:List Int}(fr:G1 h i v e 1 true vs)(f2:F2 (Wp.int.R h) vs xs)(G:xs.length<4611686018427387904):
  Tr P (A.f 189) #[v] i λu k=>u = .tuple #[]/\∃ y,G1 h k v e 1 true y/\F2 (Wp.int.R h) y (Y05 t9 xs):=by
 obtain⟨rfl,I⟩:=F2.ints f2
 obtain⟨M,fr⟩:=fr
 rcases fr with⟨_,_,h0,_⟩|⟨g,cap,cur,rfl,s,rfl,l,C,m,q⟩
 ·cases h0
 refine⟨λw t=>?_⟩
 have d:w.heap[g]?=some (.cells cur e (0,0)):=t g _ (Hp.set_same _ _ _)
 have K:xs.length<=cur.size:=by rw[m];simpa using l
 have D:cur.toList.take xs.length=xs.map (Value.int .i64):=by
  rw[L0p]at q
  simpa using q
 have E:Holds (Value.int .i64) w g 0 xs.toArray:=λj F=>by
  have b:j<xs.length:=by simpa using F
  have a:cur[j]?=some (.int .i64 xs[j]):=by
   have:=congrArg (λz=>z[j]?) D
   simp only[List.getElem?_take,if_pos b,List.getElem?_map,Array.getElem?_toList,List.getElem?_eq_getElem b,Option.map_some]at this
   exact this
  refine⟨?_,?_⟩
  ·simp[World.cell?,d,getElem!_pos,b]
   exact a
  ·rw[X01 (o := .cells cur e (0,0)) d];simp[j01]
 have H:=Any.slices_Sort_int L g 0 cap xs w E (Array.getElem?_eq_some_iff.1 d).1 G
 rw[List.length_map]
 refine H.mono ?_
 rintro J N ⟨rfl,n,os,rfl⟩
 rw[R0o]
 have c:(Y05 t9 xs).length=xs.length:=(i04 t9 xs).length_eq
 refine⟨_,_,rfl,⟨rfl,(Y05 t9 xs).map (λx=>[.int .i64 x]),⟨λx a=>?_,.inr ⟨g,cap,putCells (Value.int .i64) 0 (Y05 t9 xs).toArray cur,by simp[c],s,rfl,by simpa [c] using l,C,by simpa [putCells] using m,?_⟩⟩,F2.ofInts λx a=>I x ((i04 t9 xs).subset a)⟩,H0j s t⟩
 ·obtain⟨p,_,rfl⟩:=List.mem_map.1 a
  simp[Value.oneCell']
 ·have:=X08 (Value.int .i64) (Y05 t9 xs).toArray cur (by simp[c];omega)
  rw[L0p]
  simpa using this
end Go.H
