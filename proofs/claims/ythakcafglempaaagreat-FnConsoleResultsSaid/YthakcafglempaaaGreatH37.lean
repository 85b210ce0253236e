/- Plain laws over the model: the library's sort, at a slice of structs that lies in memory. -/
import Derived.Test.YthakcafglempaaaGreatH34
import Derived.Shelf.SlSortCmp.WholeK
open Go.Sort Go.Proofs Go.Shelf Go.Lib
namespace Go.H
set_option linter.all false
section
variable {P:Program} {ρ:Ren} {ι α:Type} [Inhabited ι] {row:ι->List Value} {dat:ι->α} {cf:α->α->Int} {gf sz:Nat} {h h':Hp} {v:Value} {e:Nat} {l:List ι}
theorem Tr.sortK(L:SlLaysF0.n6 P ρ)(hk0:0<sz)(aE:∀ w,(isAgg (ρ.t 24)).run P w = .ok true w)(zE:∀ w,(Go.sizeOf (ρ.t 24)).run P w = .ok sz w) (hlen:∀ p,(row p).length=sz) (hone:∀ p,∀ v∈row p,v.oneCell'=true) (hC:Cmp cf) (eg:∀ args w,(callFunc gf args).run P w = .ok (.enter gf args) w) (hc:∀ x y,Tr P gf #[.agg (row x).toArray,.agg (row y).toArray] h λq h'=>q = .int .i64 (cf (dat x) (dat y))/\h'=h) (fr:Y0 h h' v e sz true (l.map row)) (hlt:l.length<4611686018427387904) : Tr P (ρ.f 6) #[v,.func (.func gf) #[] #[]] h' λu k=>u = .tuple #[]/\∃ l':List ι,l'.Perm l/\l'.map dat=L0a cf (l.map dat)/\Y0 h k v e sz true (l'.map row):=by
 obtain⟨hone',fr⟩:=fr;rcases fr with⟨_,_,h0,_⟩|⟨g,cap,cur,rfl,hg,rfl,h1,h2,h3,h4⟩;·cases h0
 refine⟨λw hv=>?_⟩;have hw:w.heap[g]?=some (.cells cur e (0,0)):=hv g _ (Hp.set_same _ _ _);have hfl:∀ d:Array ι,(flatK row sz d).toList=(d.toList.map row).flatten:=λd=>e0r row sz hk0 hlen d;have hcur:l.length*sz<=cur.size:=by rw[h3];exact Nat.mul_le_mul_right _ (by simpa using h1)
 have hH:HoldsK row sz w g 0 l.toArray:=λj hj=>by
  have hj':j<l.length*sz:=by simpa using hj
  have hx:cur[j]?=(flatK row sz l.toArray)[j]?:=by have:=congrArg (λz=>z[j]?) h4;rw[←hfl l.toArray]at this;simpa [List.getElem?_take,hj'] using this
  rw[Array.getElem?_eq_getElem hj]at hx;refine⟨?_,?_⟩
  ·have h5:cur[0+j]?=some (flatK row sz l.toArray)[j]:=by rw[Nat.zero_add];exact hx
   rw[getElem!_pos _ j hj];simp[World.cell?,hw];rw[Nat.zero_add]at h5;exact h5
  rw[G04 (o := .cells cur e (0,0)) hw];simp[H03]
 have hcmp:CmpLays P gf #[] row sz (λx y=>cf (dat x) (dat y)) g 0 l.toArray.size w:=λm os dk hs x y=>by have hvis:=z0v (m:=m) (f:=putCells id 0 (flatK row sz dk)) (os:=os) hg hv;refine((hc x y).run _ hvis).mono ?_;rintro e' w' ⟨u,h',rfl,⟨rfl,rfl⟩,hm⟩;exact⟨rfl,T2.grown hvis hm⟩
 have hsort:=AnyQ.slices_SortFunc L sz aE zE row hlen hone (λx y=>cf (dat x) (dat y)) (V0z _ hC.swo) gf #[] g 0 cap l.toArray w eg hcmp hH (Array.getElem?_eq_some_iff.1 hw).1 (by simpa using hlt);have hargs:(l.map row).length=l.toArray.size:=by simp
 rw[hargs];refine hsort.mono ?_;rintro e' w' ⟨rfl,d',n,os,hp,hs,rfl⟩;obtain⟨q1,q2⟩:=m0z hp;rw[←q1]at hs;have hlen':d'.size=l.length:=by rw[q1];simp
 have hF:(flatK row sz d').size<=cur.size:=by rw[size_flatK,hlen'];exact hcur
 refine⟨_,_,rfl,⟨rfl,d'.toList,q2,?_,⟨λx hx=>?_,.inr ⟨g,cap,putCells id 0 (flatK row sz d') cur,by simp[hlen'],hg,rfl,by simpa [hlen'] using h1,h2,by simpa [putCells] using h3,?_⟩⟩⟩,Y0o hg hv⟩;·refine W06 (R:=λa b=>ltOf cf b a=false) (λx y h1 h2=>hC.tot x y h2 h1) ((q2.map _).trans (b08 cf _).symm) ?_ (g09 hC.swo _);exact List.pairwise_map.2 (l0z hs)
 ·obtain⟨p,_,rfl⟩:=List.mem_map.1 hx;exact⟨hlen p,hone p⟩
 rw[←hfl d'];have:=J0d id (flatK row sz d') cur hF;rw[size_flatK]at this;simpa using this
end
section
variable {P:Program} {ρ:Ren} {α:Type} {cf:α->α->Int} {gf:Nat} {h h':Hp} {v:Value} {e:Nat} {vs:LV} {xs:List α}
theorem Tr.sortKF{r:Rp α}(L:SlLaysF0.n6 P ρ)(hk0:0<r.sz)(aE:∀ w,(isAgg (ρ.t 24)).run P w = .ok true w)(zE:∀ w,(Go.sizeOf (ρ.t 24)).run P w = .ok r.sz w)(hC:Cmp cf)(eg:∀ args w,(callFunc gf args).run P w = .ok (.enter gf args) w) {z:List Value} {z':α} (hz:r.R h z z') (hc:∀ u v x y,r.R h u x->r.R h v y->Tr P gf #[.agg u.toArray,.agg v.toArray] h λq h'=>q = .int .i64 (cf x y)/\h'=h) (fr:Y0 h h' v e r.sz true vs) (f2:F2 (r.R h) vs xs) (hlt:xs.length<4611686018427387904) : Tr P (ρ.f 6) #[v,.func (.func gf) #[] #[]] h' λu k=>u = .tuple #[]/\∃ vs',Y0 h k v e r.sz true vs'/\F2 (r.R h) vs' (L0a cf xs):=by obtain⟨l,rfl,rfl⟩:=t0s f2;haveI:Inhabited (x0x r h):=⟨⟨(z,z'),hz⟩⟩;refine(Tr.sortK (row:=λp:x0x r h=>p.1.1) (dat:=λp=>p.1.2) L hk0 aE zE (λp=>r.len p.2) (λp=>r.one p.2) hC eg (λx y=>hc _ _ _ _ x.2 y.2) fr (by simpa using hlt)).mono ?_;rintro u k ⟨rfl,l',_,h2,h3⟩;exact⟨rfl,_,h3,by rw[←h2];exact u0s l'⟩
end
end Go.H
