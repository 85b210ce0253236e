/- Plain laws: neighbours that are equal go, in place. -/
import Derived.Test.YthakcafglempaaaGreatH36
open Go.Sort Go.Proofs
namespace Go.H
set_option linter.all false
section
variable {ι:Type} {eq:ι->ι->Bool} {l R:List ι}
theorem e0y{a:Type}{xs:List a}{k:Nat}{x:a}(h:xs[k]?=some x):xs.drop k=x::xs.drop (k+1):=by obtain⟨b,rfl⟩:=List.getElem?_eq_some_iff.1 h;exact List.drop_eq_getElem_cons b
theorem R0y{a:Type}{xs:List a}{k:Nat}{x:a}(h:xs[k]?=some x):xs.take (k+1)=xs.take k ++ [x]:=by obtain⟨b,rfl⟩:=List.getElem?_eq_some_iff.1 h;exact List.take_succ_eq_append_getElem b
def S1(eq:ι->ι->Bool)(l:List ι)(k:Nat):Prop:=1<=k/\k<=l.length/\∃ p,l[k-1]?=some p/\g07 eq l=l.take k++V02 eq p (l.drop k)
theorem S1.start(h:1<=l.length):S1 eq l 1:=by
 cases l with
 |nil=>simp at h
 |cons x m=>exact⟨Nat.le_refl _,h,x,rfl,rfl⟩
theorem S1.step{k:Nat}{x y:ι}(e:S1 eq l k)(d:l[k-1]?=some x)(a:l[k]?=some y)(h:eq y x=false):S1 eq l (k+1):=by obtain⟨f,g,p,b,c⟩:=e;rw[d]at b;cases b;refine⟨oM,(List.getElem?_eq_some_iff.1 a).1,y,by simpa using a,?_⟩;rw[c,e0y a,R0y a];simp[V02,h]
theorem S1.done{k:Nat}(b:S1 eq l k)(h:k=l.length):g07 eq l=l:=by obtain⟨_,_,p,_,a⟩:=b;subst h;rw[a,List.drop_length,List.take_length];simp[V02]
def S2(eq:ι->ι->Bool)(l R:List ι)(a m:Nat):Prop :=
 R.length=l.length/\a<m/\m<=l.length/\(∃ p,l[m-1]?=some p/\g07 eq l=R.take a++V02 eq p (l.drop m))/\∀ j,m-1<=j->R[j]?=l[j]?
theorem S1.dup{k:Nat}{x y:ι}(e:S1 eq l k)(d:l[k-1]?=some x)(a:l[k]?=some y)(h:eq y x=true):S2 eq l l k (k+1):=by obtain⟨f,g,p,b,c⟩:=e;rw[d]at b;cases b;refine⟨rfl,oM,(List.getElem?_eq_some_iff.1 a).1,⟨y,by simpa using a,?_⟩,λ_ _=>rfl⟩;rw[c,e0y a];simp[V02,h]
theorem S2.same{c m:Nat}{x y:ι}(g:S2 eq l R c m)(f:l[m-1]?=some x)(a:l[m]?=some y)(h:eq y x=true):S2 eq l R c (m+1):=by obtain⟨h0,i,k,⟨p,b,e⟩,d⟩:=g;rw[f]at b;cases b;refine⟨h0,oM,(List.getElem?_eq_some_iff.1 a).1,⟨y,by simpa using a,?_⟩,λj n=>d j oM⟩;rw[e,e0y a];simp[V02,h]
theorem S2.put{a m:Nat}{x y:ι}(i:S2 eq l R a m)(g:l[m-1]?=some x)(b:l[m]?=some y)(h:eq y x=false):S2 eq l (R.set a y) (a+1) (m+1):=by
 obtain⟨h0,k,n,⟨p,c,f⟩,d⟩:=i;rw[g]at c;cases c;refine⟨by simpa using h0,oM,(List.getElem?_eq_some_iff.1 b).1,⟨y,by simpa using b,?_⟩,λj o=>?_⟩;·have e:(R.set a y)[a]?=some y:=List.getElem?_set_self oM;rw[f,e0y b,R0y e,List.take_set_of_le (Nat.le_refl _)];simp[V02,h]
 rw[List.getElem?_set_ne oM];exact d j oM
theorem S2.done{a m:Nat}(c:S2 eq l R a m)(h:m=l.length):g07 eq l=R.take a:=by obtain⟨_,_,_,⟨p,_,b⟩,_⟩:=c;subst h;rw[b,List.drop_length];simp[V02]
theorem H0m:(g07 eq l).Sublist l:=by
 cases l with
 |nil=>exact .slnil
 |cons x m=>exact(i0e eq m x).cons_cons x
end
section
variable {h h':Hp} {v:Value} {e sz:Nat} {vs:LV}
theorem Y0.elemAt(fr:Y0 h h' v e sz true vs)(q:0<sz){g n cap:Nat}(s:v = .slice (some ⟨g,0,none⟩) n cap){o m c:Nat}{i k:Nat}{x:List Value}(t:vs[i]?=some x)(A:o+k*sz=i*sz)(z:k<m){idx:Int}(l:idx=(k:Int)): InB (.slice (some ⟨g,o,none⟩) m c) idx/\T7 h' (.slice (some ⟨g,o,none⟩) m c) sz idx x:=by subst l;obtain⟨_,⟨d,y,b,of,C,w,a,f⟩⟩:=fr.elem q t;rw[s]at a;cases a;refine⟨⟨g,o,m,c,rfl,oM,oM⟩,d,oM,g,o,m,c,rfl,λj u p=>?_⟩;have:=f j u p;rw[show o+((k:Nat):Int).toNat*sz+j=0+((i:Nat):Int).toNat*sz+j from by simp only[Int.toNat_natCast];omega];exact this
theorem Y0.sleAt(fr:Y0 h h' v e sz true vs):SlE h' sz v vs:=fr.sle
end
theorem i0d{sz a g n cap l m:Nat}{w:Value}(d:S0k a (.slice (some ⟨g,0,none⟩) n cap) l m w)(c:a=sz)(b:cap≠l):w = .slice (some ⟨g,0+l*sz,none⟩) (m-l) (cap-l):=by
 subst c;rw[d _ _ _ rfl,if_neg b];simp only[Option.map_some,Addr.add];by_cases h0:l*a=0;·rw[if_pos h0,h0]
 rw[if_neg h0]
theorem I0k{P:Program}{sz:Nat}{h h':Hp}{v:Value}{e:Nat}{vs:LV}(t b ty:TypeId){cs:Array Bool}{z:Value}{k:Nat}{c:Nat}{K:Next->Hp->Prop}{a:Option Addr}{m:Nat}(n:q03 P t=some b)(p:Q02 P b=some z)(q:z.cells.size=sz)(f:∀ v∈z.cells.toList,v.oneCell'=true) (fr:Y0 h h' v e sz true vs) (o:∀ g cap,v = .slice (some ⟨g,0,none⟩) vs.length cap->a=some ⟨g,k*sz,none⟩) (j:k<=vs.length) (l:m=vs.length-k) (i:∀ d,Y0 h d v e sz true (vs.take k++List.replicate (vs.length-k) z.cells.toList)->K (.value (.tuple #[])) d) : wpS P (Go.builtin .clear #[t] ty cs #[.slice a m c]) h' K:=by show wpS P (Builtin.clear_ #[t] ty #[.slice a m c] >>= λx=>pure (.value x)) h' K;rw[N2];exact Y0t n p q f fr o j l i
end Go.H
