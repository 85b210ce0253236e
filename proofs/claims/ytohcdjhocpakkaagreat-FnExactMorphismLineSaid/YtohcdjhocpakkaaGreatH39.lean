/- Plain laws over the model: the library's sort of ints, at a slice that lies in memory. -/
import Derived.Test.YtohcdjhocpakkaaGreatH36
import Derived.Test.YtohcdjhocpakkaaGreatH33
import Derived.Shelf.Sort.Plain
open Go.Sort Go.Proofs Go.Shelf Go.Lib
namespace Go.H
set_option linter.unusedVariables false
set_option linter.unusedSimpArgs false
theorem ltI(x y:Int):ltOf N5 x y=decide (x<y):=by
 unfold ltOf N5
 by_cases h:x<y
 ·simp[h]
 ·rw[if_neg h]
  split<;>simp[h]
theorem m0o(xs:List Int):(xs.mergeSort λx d=>decide (x<=d))=f06 N5 xs:=by
 refine E03 (R:=λa b=>ltOf N5 b a=false) (λx d f g=>L8.cmp.tot x d g f) ((List.mergeSort_perm xs _).trans (v04 N5 xs).symm) ?_ (r05 L8.cmp.swo xs)
 have:=List.pairwise_mergeSort (le:=λx d:Int=>decide (x<=d)) (λa b c f g=>by simp at *;omega) (λa b=>by simp;omega) xs
 exact this.imp λ{a b} h=>by simp at h;rw[ltI];simp;omega
theorem F2.ints{h:Hp}:∀ {vs:List (List Value)} {xs:List Int},F2 (Wp.int.R h) vs xs->vs=(xs.map λx=>[.int .i64 x])/\∀ x∈xs,K0 x
 | [],[],_=>⟨rfl,by simp⟩
 |v::vs,x::xs,hf=>by
  obtain⟨⟨rfl,b⟩,c⟩:=hf
  obtain⟨rfl,d⟩:=F2.ints c
  exact⟨rfl,λf a=>by rcases List.mem_cons.1 a with rfl|a;exact b;exact d f a⟩
 | [],_::_,hf=>hf.elim
 |_::_,[],hf=>hf.elim
theorem F2.ofInts{h:Hp}:∀ {xs:List Int},(∀ x∈xs,K0 x)->F2 (Wp.int.R h) (xs.map λx=>[.int .i64 x]) xs
 | [],_=>trivial
 |x::xs,a=>⟨⟨rfl,a x mS⟩,F2.ofInts λc b=>a c (mC _ b)⟩
theorem Tr.sortI{P:Program}{ρ:Ren}(L:Lays.n189 P ρ){h i:Hp}{v:Value}{e:Nat}{vs:List (List Value)}{xs:List Int}(fr:V0 h i v e 1 true vs)(f2:F2 (Wp.int.R h) vs xs)(E:xs.length<4611686018427387904):
  Tr P (ρ.f 189) #[v] i λu k=>u = .tuple #[]/\∃ t,V0 h k v e 1 true t/\F2 (Wp.int.R h) t (f06 N5 xs):=by
 obtain⟨rfl,G⟩:=F2.ints f2
 obtain⟨J,fr⟩:=fr
 rcases fr with⟨_,_,h0,_⟩|⟨g,cap,cur,rfl,s,rfl,l,y,m,q⟩
 ·cases h0
 refine⟨λw hv=>?_⟩
 have d:w.heap[g]?=some (.cells cur e (0,0)):=hv g _ (Hp.set_same _ _ _)
 have I:xs.length<=cur.size:=by rw[m];simpa using l
 have A:cur.toList.take xs.length=xs.map (Value.int .i64):=by
  rw[j0p]at q
  simpa using q
 have C:Holds (Value.int .i64) w g 0 xs.toArray:=λj D=>by
  have b:j<xs.length:=by simpa using D
  have a:cur[j]?=some (.int .i64 xs[j]):=by
   have:=congrArg (λz=>z[j]?) A
   simp only[List.getElem?_take,if_pos b,List.getElem?_map,Array.getElem?_toList,List.getElem?_eq_getElem b,Option.map_some]at this
   exact this
  refine⟨?_,?_⟩
  ·simp[World.cell?,d,getElem!_pos,b]
   exact a
  ·rw[c02 (o := .cells cur e (0,0)) d];simp[e01]
 have F:=Any.slices_Sort_int L g 0 cap xs w C (Array.getElem?_eq_some_iff.1 d).1 E
 rw[List.length_map]
 refine F.mono ?_
 rintro H K ⟨rfl,n,os,rfl⟩
 rw[m0o]
 have c:(f06 N5 xs).length=xs.length:=(v04 N5 xs).length_eq
 refine⟨_,_,rfl,⟨rfl,(f06 N5 xs).map (λx=>[.int .i64 x]),⟨λx a=>?_,.inr ⟨g,cap,putCells (Value.int .i64) 0 (f06 N5 xs).toArray cur,by simp[c],s,rfl,by simpa [c] using l,y,by simpa [putCells] using m,?_⟩⟩,F2.ofInts λx a=>G x ((v04 N5 xs).subset a)⟩,u0j s hv⟩
 ·obtain⟨p,_,rfl⟩:=List.mem_map.1 a
  simp[Value.oneCell']
 ·have:=c09 (Value.int .i64) (f06 N5 xs).toArray cur (by simp[c];omega)
  rw[j0p]
  simpa using this
end Go.H
