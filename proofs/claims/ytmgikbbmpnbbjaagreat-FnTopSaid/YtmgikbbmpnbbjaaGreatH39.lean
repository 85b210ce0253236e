/- Plain laws over the model: the library's sort of ints, at a slice that lies in memory. -/
import Derived.Test.YtmgikbbmpnbbjaaGreatH36
import Derived.Test.YtmgikbbmpnbbjaaGreatH33
import Derived.Shelf.Sort.Plain
open Go.Sort Go.Proofs Go.Shelf Go.Lib
namespace Go.H
set_option linter.unusedVariables false
set_option linter.unusedSimpArgs false
theorem ltI(x y:Int):ltOf D9 x y=decide (x<y):=by
 unfold ltOf D9
 by_cases h:x<y
 ·simp[h]
 ·rw[if_neg h]
  split<;>simp[h]
theorem P0p(xs:List Int):(xs.mergeSort λx y=>decide (x<=y))=X06 D9 xs:=by
 refine q04 (R:=λa b=>ltOf D9 b a=false) (λx y d e=>O02.cmp.tot x y e d) ((List.mergeSort_perm xs _).trans (e05 D9 xs).symm) ?_ (h06 O02.cmp.swo xs)
 have:=List.pairwise_mergeSort (le:=λx y:Int=>decide (x<=y)) (λa b c d e=>by simp at *;omega) (λa b=>by simp;omega) xs
 exact this.imp λ{a b} h=>by simp at h;rw[ltI];simp;omega
theorem F2.ints{h:Hp}:∀ {vs:List (List Value)} {xs:List Int},F2 (Wp.int.R h) vs xs->vs=(xs.map λx=>[.int .i64 x])/\∀ x∈xs,J0 x
 | [],[],_=>⟨rfl,by simp⟩
 |v::vs,x::xs,hf=>by
  obtain⟨⟨rfl,b⟩,c⟩:=hf
  obtain⟨rfl,d⟩:=F2.ints c
  exact⟨rfl,λy a=>by rcases List.mem_cons.1 a with rfl|a;exact b;exact d y a⟩
 | [],_::_,hf=>hf.elim
 |_::_,[],hf=>hf.elim
theorem F2.ofInts{h:Hp}:∀ {xs:List Int},(∀ x∈xs,J0 x)->F2 (Wp.int.R h) (xs.map λx=>[.int .i64 x]) xs
 | [],_=>trivial
 |x::xs,a=>⟨⟨rfl,a x mS⟩,F2.ofInts λy b=>a y (mC _ b)⟩
theorem Tr.sortI{P:Program}{y:Ren}(L:Lays.n189 P y){h h':Hp}{v:Value}{e:Nat}{vs:List (List Value)}{xs:List Int}(fr:E1 h h' v e 1 true vs)(f2:F2 (Wp.int.R h) vs xs)(E:xs.length<4611686018427387904):
  Tr P (y.f 189) #[v] h' λu k=>u = .tuple #[]/\∃ t,E1 h k v e 1 true t/\F2 (Wp.int.R h) t (X06 D9 xs):=by
 obtain⟨rfl,G⟩:=F2.ints f2
 obtain⟨J,fr⟩:=fr
 rcases fr with⟨_,_,h0,_⟩|⟨g,cap,cur,rfl,q,rfl,i,A,l,m⟩
 ·cases h0
 refine⟨λw s=>?_⟩
 have d:w.heap[g]?=some (.cells cur e (0,0)):=s g _ (Hp.set_same _ _ _)
 have I:xs.length<=cur.size:=by rw[l];simpa using i
 have B:cur.toList.take xs.length=xs.map (Value.int .i64):=by
  rw[E0q]at m
  simpa using m
 have C:Holds (Value.int .i64) w g 0 xs.toArray:=λj D=>by
  have b:j<xs.length:=by simpa using D
  have a:cur[j]?=some (.int .i64 xs[j]):=by
   have:=congrArg (λz=>z[j]?) B
   simp only[List.getElem?_take,if_pos b,List.getElem?_map,Array.getElem?_toList,List.getElem?_eq_getElem b,Option.map_some]at this
   exact this
  refine⟨?_,?_⟩
  ·simp[World.cell?,d,getElem!_pos,b]
   exact a
  ·rw[u02 (o := .cells cur e (0,0)) d];simp[B01]
 have F:=Any.slices_Sort_int L g 0 cap xs w C (Array.getElem?_eq_some_iff.1 d).1 E
 rw[List.length_map]
 refine F.mono ?_
 rintro H K ⟨rfl,n,os,rfl⟩
 rw[P0p]
 have c:(X06 D9 xs).length=xs.length:=(e05 D9 xs).length_eq
 refine⟨_,_,rfl,⟨rfl,(X06 D9 xs).map (λx=>[.int .i64 x]),⟨λx a=>?_,.inr ⟨g,cap,putCells (Value.int .i64) 0 (X06 D9 xs).toArray cur,by simp[c],q,rfl,by simpa [c] using i,A,by simpa [putCells] using l,?_⟩⟩,F2.ofInts λx a=>G x ((e05 D9 xs).subset a)⟩,C0k q s⟩
 ·obtain⟨p,_,rfl⟩:=List.mem_map.1 a
  simp[Value.oneCell']
 ·have:=Y09 (Value.int .i64) (X06 D9 xs).toArray cur (by simp[c];omega)
  rw[E0q]
  simpa using this
end Go.H
