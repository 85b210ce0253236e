/- Plain laws: neighbours that are equal go, in place. -/
import Derived.Test.YtkjhghloldgioaaGreatH36
open Go.Sort Go.Proofs
namespace Go.H
set_option linter.unusedVariables false
set_option linter.unusedSimpArgs false
section
variable {ι:Type} {eq:ι->ι->Bool} {l R:List ι}
theorem L0q{α:Type}{xs:List α}{k:Nat}{x:α}(h:xs[k]?=some x):xs.drop k=x::xs.drop (k+1):=by
 obtain⟨hk,rfl⟩:=List.getElem?_eq_some_iff.1 h
 exact List.drop_eq_getElem_cons hk
theorem m0r{α:Type}{xs:List α}{k:Nat}{x:α}(h:xs[k]?=some x):xs.take (k+1)=xs.take k ++ [x]:=by
 obtain⟨hk,rfl⟩:=List.getElem?_eq_some_iff.1 h
 exact List.take_succ_eq_append_getElem hk
def S1(eq:ι->ι->Bool)(l:List ι)(k:Nat):Prop:=1<=k/\k<=l.length/\∃ p,l[k-1]?=some p/\Z02 eq l=l.take k++B00 eq p (l.drop k)
theorem S1.start(h:1<=l.length):S1 eq l 1:=by
 cases l with
 |nil=>simp at h
 |cons x m=>exact⟨Nat.le_refl _,h,x,rfl,rfl⟩
theorem S1.step{k:Nat}{x y:ι}(s:S1 eq l k)(hx:l[k-1]?=some x)(hy:l[k]?=some y)(h:eq y x=false):S1 eq l (k+1):=by
 obtain⟨h1,h2,p,hp,hc⟩:=s
 rw[hx]at hp;cases hp
 refine⟨by omega,(List.getElem?_eq_some_iff.1 hy).1,y,by simpa using hy,?_⟩
 rw[hc,L0q hy,m0r hy]
 simp[B00,h]
theorem S1.done{k:Nat}(s:S1 eq l k)(h:k=l.length):Z02 eq l=l:=by
 obtain⟨_,_,p,_,hc⟩:=s
 subst h
 rw[hc,List.drop_length,List.take_length]
 simp[B00]
def S2(eq:ι->ι->Bool)(l R:List ι)(kk m:Nat):Prop :=
 R.length=l.length/\kk<m/\m<=l.length/\(∃ p,l[m-1]?=some p/\Z02 eq l=R.take kk++B00 eq p (l.drop m))/\∀ j,m-1<=j->R[j]?=l[j]?
theorem S1.dup{k:Nat}{x y:ι}(s:S1 eq l k)(hx:l[k-1]?=some x)(hy:l[k]?=some y)(h:eq y x=true):S2 eq l l k (k+1):=by
 obtain⟨h1,h2,p,hp,hc⟩:=s
 rw[hx]at hp;cases hp
 refine⟨rfl,by omega,(List.getElem?_eq_some_iff.1 hy).1,⟨y,by simpa using hy,?_⟩,λ_ _=>rfl⟩
 rw[hc,L0q hy]
 simp[B00,h]
theorem S2.same{kk m:Nat}{x y:ι}(s:S2 eq l R kk m)(hx:l[m-1]?=some x)(hy:l[m]?=some y)(h:eq y x=true):S2 eq l R kk (m+1):=by
 obtain⟨h0,h1,h2,⟨p,hp,hc⟩,h3⟩:=s
 rw[hx]at hp;cases hp
 refine⟨h0,by omega,(List.getElem?_eq_some_iff.1 hy).1,⟨y,by simpa using hy,?_⟩,λj hj=>h3 j (by omega)⟩
 rw[hc,L0q hy]
 simp[B00,h]
theorem S2.put{kk m:Nat}{x y:ι}(s:S2 eq l R kk m)(hx:l[m-1]?=some x)(hy:l[m]?=some y)(h:eq y x=false):S2 eq l (R.set kk y) (kk+1) (m+1):=by
 obtain⟨h0,h1,h2,⟨p,hp,hc⟩,h3⟩:=s
 rw[hx]at hp;cases hp
 refine⟨by simpa using h0,by omega,(List.getElem?_eq_some_iff.1 hy).1,⟨y,by simpa using hy,?_⟩,λj hj=>?_⟩
 ·have e:(R.set kk y)[kk]?=some y:=List.getElem?_set_self (by omega)
  rw[hc,L0q hy,m0r e,List.take_set_of_le (Nat.le_refl _)]
  simp[B00,h]
 ·rw[List.getElem?_set_ne (by omega)]
  exact h3 j (by omega)
theorem S2.done{kk m:Nat}(s:S2 eq l R kk m)(h:m=l.length):Z02 eq l=R.take kk:=by
 obtain⟨_,_,_,⟨p,_,hc⟩,_⟩:=s
 subst h
 rw[hc,List.drop_length]
 simp[B00]
theorem D0g:(Z02 eq l).Sublist l:=by
 cases l with
 |nil=>exact .slnil
 |cons x m=>exact(b09 eq m x).cons_cons x
end
section
variable {h h':Hp} {v:Value} {e sz:Nat} {vs:List (List Value)}
theorem U0.elemAt(fr:U0 h h' v e sz true vs)(hsz:0<sz){g n cap:Nat}(hv:v = .slice (some ⟨g,0,none⟩) n cap){o m c:Nat}{i k:Nat}{x:List Value}(hx:vs[i]?=some x)(ho:o+k*sz=i*sz)(hk:k<m){idx:Int}(hidx:idx=(k:Int)):
  InB (.slice (some ⟨g,o,none⟩) m c) idx/\d00 h' (.slice (some ⟨g,o,none⟩) m c) sz idx x:=by
 subst hidx
 obtain⟨_,⟨h1,h2,b,of,n',c',h3,h4⟩⟩:=fr.elem hsz hx
 rw[hv]at h3
 cases h3
 refine⟨⟨g,o,m,c,rfl,by omega,by omega⟩,h1,by omega,g,o,m,c,rfl,λj u hj=>?_⟩
 have:=h4 j u hj
 rw[show o+((k:Nat):Int).toNat*sz+j=0+((i:Nat):Int).toNat*sz+j from by simp only[Int.toNat_natCast];omega]
 exact this
theorem U0.sleAt(fr:U0 h h' v e sz true vs):SlE h' sz v vs:=fr.sle
end
theorem h08{sz sz' g n cap l m:Nat}{w:Value}(hw:Z0j sz' (.slice (some ⟨g,0,none⟩) n cap) l m w)(hsz:sz'=sz)(hl:cap≠l):w = .slice (some ⟨g,0+l*sz,none⟩) (m-l) (cap-l):=by
 subst hsz
 rw[hw _ _ _ rfl,if_neg hl]
 simp only[Option.map_some,Addr.add]
 by_cases h0:l*sz'=0
 ·rw[if_pos h0,h0]
 ·rw[if_neg h0]
theorem T0e{P:Program}{sz:Nat}{h h':Hp}{v:Value}{e:Nat}{vs:List (List Value)}(t el ty:TypeId){cs:Array Bool}{z:Value}{k:Nat}{c:Nat}{K:Next->Hp->Prop}{a:Option Addr}{m:Nat}(ht:S00 P t=some el)(hz:z00 P el=some z)(hzl:z.cells.size=sz)(h1:∀ v∈z.cells.toList,v.oneCell'=true)
  (fr:U0 h h' v e sz true vs) (hv:∀ g cap,v = .slice (some ⟨g,0,none⟩) vs.length cap->a=some ⟨g,k*sz,none⟩) (hk:k<=vs.length) (hm:m=vs.length-k)
  (hK:∀ h'',U0 h h'' v e sz true (vs.take k++List.replicate (vs.length-k) z.cells.toList)->K (.value (.tuple #[])) h'') :
  wpS P (Go.builtin .clear #[t] ty cs #[.slice a m c]) h' K:=by
 show wpS P (Builtin.clear_ #[t] ty #[.slice a m c] >>= λx=>pure (.value x)) h' K
 rw[G2]
 exact d0n ht hz hzl h1 fr hv hk hm hK
end Go.H
