/- Plain laws over the model: the library's sort of ints, at a slice that lies in memory. -/
import Derived.Test.YthakcafglempaaaGreatH36
import Derived.Test.YthakcafglempaaaGreatH33
import Derived.Shelf.Sort.Plain
open Go.Sort Go.Proofs Go.Shelf Go.Lib
namespace Go.H
set_option linter.all false
theorem ltI(x y:Int):ltOf H01 x y=decide (x<y):=by
 unfold ltOf H01;by_cases h:x<y;·simp[h]
 rw[if_neg h];split<;>simp[h]
theorem N0u(xs:List Int):(xs.mergeSort λx y=>decide (x<=y))=L0a H01 xs:=by refine W06 (R:=λa b=>ltOf H01 b a=false) (λx y d e=>d05.cmp.tot x y e d) ((List.mergeSort_perm xs _).trans (b08 H01 xs).symm) ?_ (g09 d05.cmp.swo xs);have:=List.pairwise_mergeSort (le:=λx y:Int=>decide (x<=y)) (λa b c d e=>by simp at *;omega) (λa b=>by simp;omega) xs;exact this.imp λ{a b} h=>by simp at h;rw[ltI];simp;omega
theorem F2.ints{h:Hp}:∀ {vs:LV} {xs:List Int},F2 (Wp.int.R h) vs xs->vs=(xs.map λx=>[.int .i64 x])/\∀ x∈xs,H0 x
 | [],[],_=>⟨rfl,oS⟩
 |v::vs,x::xs,hf=>by obtain⟨⟨rfl,b⟩,c⟩:=hf;obtain⟨rfl,d⟩:=F2.ints c;exact⟨rfl,λy a=>by rcases List.mem_cons.1 a with rfl|a;exact b;exact d y a⟩
 | [],_::_,hf=>hf.elim
 |_::_,[],hf=>hf.elim
theorem F2.ofInts{h:Hp}:∀ {xs:List Int},(∀ x∈xs,H0 x)->F2 (Wp.int.R h) (xs.map λx=>[.int .i64 x]) xs
 | [],_=>trivial
 |x::xs,a=>⟨⟨rfl,a x mS⟩,F2.ofInts λy b=>a y (mC _ b)⟩
theorem Tr.sortI{P:Program}{y:Ren}(L:Lays.n189 P y){h h':Hp}{v:Value}{e:Nat}{vs:LV}{xs:List Int}(fr:Y0 h h' v e 1 true vs)(f2:F2 (Wp.int.R h) vs xs)(F:xs.length<4611686018427387904): Tr P (y.f 189) #[v] h' λu k=>u = .tuple #[]/\∃ t,Y0 h k v e 1 true t/\F2 (Wp.int.R h) t (L0a H01 xs):=by
 obtain⟨rfl,H⟩:=F2.ints f2;obtain⟨K,fr⟩:=fr;rcases fr with⟨_,_,h0,_⟩|⟨g,cap,cur,rfl,q,rfl,i,A,l,m⟩;·cases h0
 refine⟨λw s=>?_⟩;have d:w.heap[g]?=some (.cells cur e (0,0)):=s g _ (Hp.set_same _ _ _);have J:xs.length<=cur.size:=by rw[l];simpa using i
 have C:cur.toList.take xs.length=xs.map (Value.int .i64):=by rw[A0v]at m;simpa using m
 have D:Holds (Value.int .i64) w g 0 xs.toArray:=λj E=>by
  have b:j<xs.length:=by simpa using E
  have a:cur[j]?=some (.int .i64 xs[j]):=by have:=congrArg (λz=>z[j]?) C;simp only[List.getElem?_take,if_pos b,List.getElem?_map,Array.getElem?_toList,List.getElem?_eq_getElem b,Option.map_some]at this;exact this
  refine⟨?_,?_⟩;·simp[World.cell?,d,getElem!_pos,b];exact a
  rw[G04 (o := .cells cur e (0,0)) d];simp[H03]
 have G:=Any.slices_Sort_int L g 0 cap xs w D (Array.getElem?_eq_some_iff.1 d).1 F;rw[List.length_map];refine G.mono ?_;rintro I M ⟨rfl,n,os,rfl⟩;rw[N0u];have c:(L0a H01 xs).length=xs.length:=(b08 H01 xs).length_eq;refine⟨_,_,rfl,⟨rfl,(L0a H01 xs).map (λx=>[.int .i64 x]),⟨λx a=>?_,.inr ⟨g,cap,putCells (Value.int .i64) 0 (L0a H01 xs).toArray cur,by simp[c],q,rfl,by simpa [c] using i,A,by simpa [putCells] using l,?_⟩⟩,F2.ofInts λx a=>H x ((b08 H01 xs).subset a)⟩,Y0o q s⟩;·obtain⟨p,_,rfl⟩:=List.mem_map.1 a;simp[Value.oneCell']
 have:=J0d (Value.int .i64) (L0a H01 xs).toArray cur (by simp[c];omega);rw[A0v];simpa using this
end Go.H
