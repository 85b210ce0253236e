/- Plain laws: neighbours that are equal go, in place. -/
import Derived.Test.YtohcdjhocpakkaaGreatH36
open Go.Sort Go.Proofs
namespace Go.H
set_option linter.unusedVariables false
set_option linter.unusedSimpArgs false
section
variable {ι:Type} {eq:ι->ι->Bool} {l R:List ι}
theorem J0r{a:Type}{xs:List a}{k:Nat}{x:a}(h:xs[k]?=some x):xs.drop k=x::xs.drop (k+1):=by
 obtain⟨b,rfl⟩:=List.getElem?_eq_some_iff.1 h
 exact List.drop_eq_getElem_cons b
theorem c0s{a:Type}{xs:List a}{k:Nat}{x:a}(h:xs[k]?=some x):xs.take (k+1)=xs.take k ++ [x]:=by
 obtain⟨b,rfl⟩:=List.getElem?_eq_some_iff.1 h
 exact List.take_succ_eq_append_getElem b
def S1(eq:ι->ι->Bool)(l:List ι)(k:Nat):Prop:=1<=k/\k<=l.length/\∃ p,l[k-1]?=some p/\k03 eq l=l.take k++I00 eq p (l.drop k)
theorem S1.start(h:1<=l.length):S1 eq l 1:=by
 cases l with
 |nil=>simp at h
 |cons x m=>exact⟨Nat.le_refl _,h,x,rfl,rfl⟩
theorem S1.step{k:Nat}{x b:ι}(s:S1 eq l k)(f:l[k-1]?=some x)(a:l[k]?=some b)(h:eq b x=false):S1 eq l (k+1):=by
 obtain⟨g,i,p,c,d⟩:=s
 rw[f]at c;cases c
 refine⟨by omega,(List.getElem?_eq_some_iff.1 a).1,b,by simpa using a,?_⟩
 rw[d,J0r a,c0s a]
 simp[I00,h]
theorem S1.done{k:Nat}(s:S1 eq l k)(h:k=l.length):k03 eq l=l:=by
 obtain⟨_,_,p,_,a⟩:=s
 subst h
 rw[a,List.drop_length,List.take_length]
 simp[I00]
def S2(eq:ι->ι->Bool)(l R:List ι)(a m:Nat):Prop :=
 R.length=l.length/\a<m/\m<=l.length/\(∃ p,l[m-1]?=some p/\k03 eq l=R.take a++I00 eq p (l.drop m))/\∀ j,m-1<=j->R[j]?=l[j]?
theorem S1.dup{k:Nat}{x b:ι}(s:S1 eq l k)(f:l[k-1]?=some x)(a:l[k]?=some b)(h:eq b x=true):S2 eq l l k (k+1):=by
 obtain⟨g,i,p,c,d⟩:=s
 rw[f]at c;cases c
 refine⟨rfl,by omega,(List.getElem?_eq_some_iff.1 a).1,⟨b,by simpa using a,?_⟩,λ_ _=>rfl⟩
 rw[d,J0r a]
 simp[I00,h]
theorem S2.same{d m:Nat}{x b:ι}(s:S2 eq l R d m)(i:l[m-1]?=some x)(a:l[m]?=some b)(h:eq b x=true):S2 eq l R d (m+1):=by
 obtain⟨h0,k,n,⟨p,c,g⟩,f⟩:=s
 rw[i]at c;cases c
 refine⟨h0,by omega,(List.getElem?_eq_some_iff.1 a).1,⟨b,by simpa using a,?_⟩,λj o=>f j (by omega)⟩
 rw[g,J0r a]
 simp[I00,h]
theorem S2.put{b m:Nat}{x a:ι}(s:S2 eq l R b m)(i:l[m-1]?=some x)(c:l[m]?=some a)(h:eq a x=false):S2 eq l (R.set b a) (b+1) (m+1):=by
 obtain⟨h0,k,n,⟨p,d,g⟩,f⟩:=s
 rw[i]at d;cases d
 refine⟨by simpa using h0,by omega,(List.getElem?_eq_some_iff.1 c).1,⟨a,by simpa using c,?_⟩,λj o=>?_⟩
 ·have e:(R.set b a)[b]?=some a:=List.getElem?_set_self (by omega)
  rw[g,J0r c,c0s e,List.take_set_of_le (Nat.le_refl _)]
  simp[I00,h]
 ·rw[List.getElem?_set_ne (by omega)]
  exact f j (by omega)
theorem S2.done{a m:Nat}(s:S2 eq l R a m)(h:m=l.length):k03 eq l=R.take a:=by
 obtain⟨_,_,_,⟨p,_,b⟩,_⟩:=s
 subst h
 rw[b,List.drop_length]
 simp[I00]
theorem f0h:(k03 eq l).Sublist l:=by
 cases l with
 |nil=>exact .slnil
 |cons x m=>exact(x09 eq m x).cons_cons x
end
section
variable {h h':Hp} {v:Value} {e sz:Nat} {vs:List (List Value)}
theorem V0.elemAt(fr:V0 h h' v e sz true vs)(q:0<sz){g n cap:Nat}(hv:v = .slice (some ⟨g,0,none⟩) n cap){o m c:Nat}{i k:Nat}{x:List Value}(s:vs[i]?=some x)(z:o+k*sz=i*sz)(y:k<m){idx:Int}(l:idx=(k:Int)):
  InB (.slice (some ⟨g,o,none⟩) m c) idx/\N4 h' (.slice (some ⟨g,o,none⟩) m c) sz idx x:=by
 subst l
 obtain⟨_,⟨d,w,b,of,A,t,a,f⟩⟩:=fr.elem q s
 rw[hv]at a
 cases a
 refine⟨⟨g,o,m,c,rfl,by omega,by omega⟩,d,by omega,g,o,m,c,rfl,λj u p=>?_⟩
 have:=f j u p
 rw[show o+((k:Nat):Int).toNat*sz+j=0+((i:Nat):Int).toNat*sz+j from by simp only[Int.toNat_natCast];omega]
 exact this
theorem V0.sleAt(fr:V0 h h' v e sz true vs):SlE h' sz v vs:=fr.sle
end
theorem D08{sz a g n cap l m:Nat}{w:Value}(d:H0k a (.slice (some ⟨g,0,none⟩) n cap) l m w)(c:a=sz)(b:cap≠l):w = .slice (some ⟨g,0+l*sz,none⟩) (m-l) (cap-l):=by
 subst c
 rw[d _ _ _ rfl,if_neg b]
 simp only[Option.map_some,Addr.add]
 by_cases h0:l*a=0
 ·rw[if_pos h0,h0]
 ·rw[if_neg h0]
theorem n0f{P:Program}{sz:Nat}{h b:Hp}{v:Value}{e:Nat}{vs:List (List Value)}(t d ty:TypeId){cs:Array Bool}{z:Value}{k:Nat}{c:Nat}{K:Next->Hp->Prop}{a:Option Addr}{m:Nat}(o:V00 P t=some d)(p:F00 P d=some z)(q:z.cells.size=sz)(i:∀ v∈z.cells.toList,v.oneCell'=true)
  (fr:V0 h b v e sz true vs) (hv:∀ g cap,v = .slice (some ⟨g,0,none⟩) vs.length cap->a=some ⟨g,k*sz,none⟩) (l:k<=vs.length) (n:m=vs.length-k)
  (j:∀ f,V0 h f v e sz true (vs.take k++List.replicate (vs.length-k) z.cells.toList)->K (.value (.tuple #[])) f) :
  wpS P (Go.builtin .clear #[t] ty cs #[.slice a m c]) b K:=by
 show wpS P (Builtin.clear_ #[t] ty #[.slice a m c] >>= λx=>pure (.value x)) b K
 rw[J2]
 exact J0n o p q i fr hv l n j
end Go.H
