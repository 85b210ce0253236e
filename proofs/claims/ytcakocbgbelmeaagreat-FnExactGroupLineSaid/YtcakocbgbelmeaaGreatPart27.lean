/- Texts of the claim, joined: The library's sort and Compact, at words that lie in memory  and others. -/
import Derived.Test.YtcakocbgbelmeaaGreatCW
import Derived.Test.YtcakocbgbelmeaaGreatH34
import Derived.Shelf.SlLaysF
import Derived.Shelf.Lay
import Derived.Ground.SlsfProg
import Derived.Test.YtcakocbgbelmeaaGreatChecked
import Derived.Test.YtcakocbgbelmeaaGreatCE
import Derived.Test.YtcakocbgbelmeaaGreatPart25
import Derived.Test.YtcakocbgbelmeaaGreatPart23
import Derived.Test.YtcakocbgbelmeaaGreatH37
namespace Go.Proofs
open Go.Shelf Go.Lib Go.Sort
shelf_lay_g SlLaysF.n6 Slsf 6 at Tryz 171 as Tryz.sortW
end Go.Proofs
namespace Go.Proofs.YtcakocbgbelmeaaGreat
open Go.H
set_option linter.unusedVariables false
set_option linter.unusedSimpArgs false
theorem t0p {h:Hp} {v:Value} {xs:List Int} (r:J0.R h [v] xs):w05 xs:=fun k x hx=>by
 obtain⟨a,n,c,vs,_,_,_,_,e2⟩:=r
 obtain⟨cs,_,h2⟩:=e2.get hx
 exact h2.2
theorem t0q (h:Hp) (u v:Value) (x y:D0) (hx:J0.R h [u] x) (hy:J0.R h [v] y):Tr Tryz.prog 172 #[u,v] h fun q h'=>q = .int .i64 (I1 x y)∧h'=h:=by
 obtain⟨a,n,c,e1⟩:=Wp.slice_cell hx
 obtain⟨a',n',c',e2⟩:=Wp.slice_cell hy
 have i1:=t0p hx
 have i2:=t0p hy
 rw[e1]at hx
 rw[e2]at hy
 injection e1 with e1
 injection e2 with e2
 subst e1 e2
 obtain⟨rfl,lx⟩:=Sl.len hx
 exact C08 _ _ _ _ _ hx _ _ _ _ hy _ (x09 i1 i2 lx)
theorem U0r:∀(args:Array Value) (w:World),(callFunc 172 args).run Tryz.prog w = .ok (.enter 172 args) w:=Go.Proofs.enters_of (fn:=Tryz.f172) (by kernel_rfl) (by kernel_rfl) rfl
theorem n0i (h:Hp) {h':Hp} {v:Value} {e:Nat} {vs:List (List Value)} {xs:J1} {Bs:List (List Nat)} (fr:j1 h h' v e 1 true vs) (f3:F3 (J0.W h) vs xs Bs) (hl:xs.length<4611686018427387904) :
  Tr Tryz.prog 171 #[v,.func (.func 172) #[] #[]] h' fun u k=>u = .tuple #[]∧∃ vs' Bs',j1 h k v e 1 true vs'∧F3 (J0.W h) vs' (w02 I1 xs) Bs'∧Bs'.Perm Bs :=
 Tr.sort1W (r:=J0) Tryz.sortW rfl N0e.cmp U0r (z:=[.slice none 0 0]) (z':=[]) (zb:=[]) ⟨_,[],[],[],rfl,⟨by simp,.inl ⟨rfl,rfl,rfl⟩⟩,trivial,rfl⟩ (t0q h) fr f3 hl
theorem B0l {r:Rp D0} (hr:r.sz=1) {h:Hp} {cs:List Value} {x:D0} (hx:r.R h cs x):cs = [cs.headD (.slice none 0 0)]:=by
 have:=r.len hx
 rw[hr]at this
 obtain⟨u,rfl⟩:=List.length_eq_one_iff.1 this
 rfl
theorem o0i (h:Hp) {h':Hp} {v:Value} {e:Nat} {vs:List (List Value)} {xs:J1} {Bs:List (List Nat)} (fr:j1 h h' v e 1 true vs) (f3:F3 (J0.W h) vs xs Bs) :
  Tr Tryz.prog 173 #[v,.func (.func 76) #[] #[]] h' fun u k=>∃ vs' Bs',j1 h k u e 1 true vs'∧F3 (J0.W h) vs' (b00 eqW xs) Bs'∧Bs'.Sublist Bs:=by
 obtain⟨l,rfl,rfl,rfl⟩:=Q0h (r:=J0) f3
 obtain⟨a,c,_,hl⟩:=fr.slice
 have e1:(l.map fun p=>p.1.1)=l.map fun p=>[p.1.1.headD (.slice none 0 0)]:=List.map_congr_left fun p _=>B0l (r:=J0.toRp) rfl (J0.toR p.2)
 rw[e1]at fr
 refine(u0k h (fun p:q0j J0 h=>p.1.1.headD (.slice none 0 0)) (fun p=>p.1.2.1) (fun p=>by rw[←B0l (r:=J0.toRp) rfl (J0.toR p.2)];exact J0.toR p.2) fr (by have:=g0j hl;simpa using this)).mono ?_
 rintro u k ⟨l',rfl,fr'⟩
 refine⟨_,_,fr',?_,(x0c (eq:=fun p q:q0j J0 h=>eqW p.1.2.1 q.1.2.1) (l:=l)).map _⟩
 have e2:∀ l:List (q0j J0 h),(l.map fun p=>[p.1.1.headD (.slice none 0 0)])=l.map fun p=>p.1.1:=fun l=>List.map_congr_left fun p _=>(B0l (r:=J0.toRp) rfl (J0.toR p.2)).symm
 rw[e2,←F0n (dat:=fun p:q0j J0 h=>p.1.2.1) (e:=eqW) (fun _ _=>rfl)]
 exact R0h _
end Go.Proofs.YtcakocbgbelmeaaGreat
namespace Go.Proofs
open Go.Shelf Go.Lib Go.Sort
shelf_lay_g SlLaysF0.n6 Slsf 6 at Tryz 256 as Tryz.sortE
end Go.Proofs
namespace Go.Proofs.YtcakocbgbelmeaaGreat
open Go.H
set_option linter.unusedVariables false
set_option linter.unusedSimpArgs false
theorem V0r:∀(args:Array Value) (w:World),(callFunc 231 args).run Tryz.prog w = .ok (.enter 231 args) w:=Go.Proofs.enters_of (fn:=Tryz.f231) (by kernel_rfl) (by kernel_rfl) rfl
theorem w0k (h:Hp) {h':Hp} {v:Value} {e:Nat} {vs:List (List Value)} {xs:T0} (fr:j1 h h' v e 3 true vs) (f2:F2 (C1.R h) vs xs) (hl:xs.length<4611686018427387904) :
  Tr Tryz.prog 256 #[v,.func (.func 231) #[] #[]] h' fun u k=>u = .tuple #[]∧∃ vs',j1 h k v e 3 true vs'∧F2 (C1.R h) vs' (w02 U0 xs) :=
 Tr.sortKF (r:=C1.toRp) Tryz.sortE (by decide) Tryz.isAgg115 Tryz.sizeOf115 p7.cmp V0r (z:=[.int .i64 0,.int .i64 0,.int .i64 0]) (z':=(0,0,0)) (G1 (by decide) (by decide) (by decide))
  (fun u v x y hx hy=>U03 h u x hx v y hy _ (A04 x y)) fr f2 hl
theorem F2.edges {h:Hp}:∀ {vs:List (List Value)} {xs:List K0},F2 (C1.R h) vs xs→vs=(xs.map fun x=>[.int .i64 x.1,.int .i64 x.2.1,.int .i64 x.2.2])∧∀ x∈xs,H0 x.1∧H0 x.2.1∧H0 x.2.2
 | [],[],_=>⟨rfl,by simp⟩
 |v::vs,x::xs,hf=>by
  obtain⟨x0,x1,x2,rfl,rfl,i0,i1,i2⟩:=M1 hf.1
  obtain⟨rfl,h3⟩:=F2.edges hf.2
  exact⟨rfl,fun y hy=>by rcases List.mem_cons.1 hy with rfl|hy;exact⟨i0,i1,i2⟩;exact h3 y hy⟩
 | [],_::_,hf=>hf.elim
 |_::_,[],hf=>hf.elim
theorem F2.ofEdges {h:Hp}:∀ {xs:List K0},(∀ x∈xs,H0 x.1∧H0 x.2.1∧H0 x.2.2)→F2 (C1.R h) (xs.map fun x=>[.int .i64 x.1,.int .i64 x.2.1,.int .i64 x.2.2]) xs
 | [],_=>trivial
 |x::xs,hx=>by
  have h1:=hx x (List.mem_cons_self ..)
  exact⟨G1 h1.1 h1.2.1 h1.2.2,F2.ofEdges fun y hy=>hx y (mC _ hy)⟩
theorem x0k (h:Hp) {h':Hp} {v:Value} {e:Nat} {vs:List (List Value)} {xs:T0} (fr:j1 h h' v e 3 true vs) (f2:F2 (C1.R h) vs xs) :
  Tr Tryz.prog 257 #[v] h' fun u k=>∃ vs',j1 h k u e 3 true vs'∧F2 (C1.R h) vs' (b00 eqE xs):=by
 obtain⟨rfl,hx⟩:=F2.edges f2
 obtain⟨a,c,_,hl⟩:=fr.slice
 refine(v0k h fr (by have:=g0j hl;simpa using this)).mono ?_
 rintro u k ⟨l',rfl,fr'⟩
 exact⟨_,fr',F2.ofEdges fun x hx'=>hx x ((x0c (eq:=fun p q=>eqE p q) (l:=xs)).subset hx')⟩
end Go.Proofs.YtcakocbgbelmeaaGreat
