/- The library's sort and Compact, at words that lie in memory of the call's own. -/
import Derived.Test.YtfphndijjmdiiaaGreatCW
import Derived.Test.YtfphndijjmdiiaaGreatH34
import Derived.Shelf.SlLaysF
import Derived.Shelf.Lay
import Derived.Ground.SlsfProg
import Derived.Test.YtfphndijjmdiiaaGreatChecked
namespace Go.Proofs
open Go.Shelf Go.Lib Go.Sort
shelf_lay_g SlLaysF.n6 Slsf 6 at Tryz 49 as Tryz.sortW
end Go.Proofs
namespace Go.Proofs.YtfphndijjmdiiaaGreat
open Go.H
set_option linter.unusedVariables false
set_option linter.unusedSimpArgs false
theorem X0r{h:Hp}{v:Value}{xs:List Int}(r:C0.R h [v] xs):O05 xs:=λk x e=>by
 obtain⟨a,n,c,vs,_,_,_,_,b⟩:=r
 obtain⟨cs,_,d⟩:=b.get e
 exact d.2
theorem q0t(h:Hp)(u v:Value)(x y:D0)(b:C0.R h [u] x)(f:C0.R h [v] y):Tr Tryz.prog 50 #[u,v] h λq h'=>q = .int .i64 (J1 x y)/\h'=h:=by
 obtain⟨a,n,c,d⟩:=Wp.slice_cell b
 obtain⟨k,m,l,e⟩:=Wp.slice_cell f
 have g:=X0r b
 have i:=X0r f
 rw[d]at b
 rw[e]at f
 injection d with d
 injection e with e
 subst d e
 obtain⟨rfl,j⟩:=Sl.len b
 exact d09 _ _ _ _ _ b _ _ _ _ f _ (Z09 g i j)
theorem t0v:∀(args:Array Value) (w:World),(callFunc 50 args).run Tryz.prog w = .ok (.enter 50 args) w:=Go.Proofs.enters_of (fn:=Tryz.f50) (by kernel_rfl) (by kernel_rfl) rfl
theorem O0j(h:Hp){h':Hp}{v:Value}{e:Nat}{vs:List (List Value)}{xs:L1}{Bs:List (List Nat)}(fr:U0 h h' v e 1 true vs)(f3:F3 (C0.W h) vs xs Bs)(c:xs.length<4611686018427387904):
  Tr Tryz.prog 49 #[v,.func (.func 50) #[] #[]] h' λu k=>u = .tuple #[]/\∃ b a,U0 h k v e 1 true b/\F3 (C0.W h) b (Z08 J1 xs) a/\a.Perm Bs :=
 Tr.sort1W (r:=C0) Tryz.sortW rfl d08.cmp t0v (z:=[.slice none 0 0]) (z':=[]) (zb:=[]) ⟨_,[],[],[],rfl,⟨by simp,.inl ⟨rfl,rfl,rfl⟩⟩,trivial,rfl⟩ (q0t h) fr f3 c
theorem g0n{r:Rp D0}(a:r.sz=1){h:Hp}{cs:List Value}{x:D0}(b:r.R h cs x):cs = [cs.headD (.slice none 0 0)]:=by
 have:=r.len b
 rw[a]at this
 obtain⟨u,rfl⟩:=List.length_eq_one_iff.1 this
 rfl
theorem P0j(h:Hp){h':Hp}{v:Value}{e:Nat}{vs:List (List Value)}{xs:L1}{Bs:List (List Nat)}(fr:U0 h h' v e 1 true vs)(f3:F3 (C0.W h) vs xs Bs):
  Tr Tryz.prog 51 #[v,.func (.func 52) #[] #[]] h' λu k=>∃ d b,U0 h k u e 1 true d/\F3 (C0.W h) d (N02 eqW xs) b/\b.Sublist Bs:=by
 obtain⟨l,rfl,rfl,rfl⟩:=e0j (r:=C0) f3
 obtain⟨a,c,_,j⟩:=fr.slice
 have f:(l.map λp=>p.1.1)=l.map λp=>[p.1.1.headD (.slice none 0 0)]:=List.map_congr_left λp _=>g0n (r:=C0.toRp) rfl (C0.toR p.2)
 rw[f]at fr
 refine(d0m h (λp:N0k C0 h=>p.1.1.headD (.slice none 0 0)) (λp=>p.1.2.1) (λp=>by rw[←g0n (r:=C0.toRp) rfl (C0.toR p.2)];exact C0.toR p.2) fr (by have:=Z0t j;simpa using this)).mono ?_
 rintro u k ⟨m,rfl,i⟩
 refine⟨_,_,i,?_,(G0p (eq:=λp q:N0k C0 h=>eqW p.1.2.1 q.1.2.1) (l:=l)).map _⟩
 have g:∀ l:List (N0k C0 h),(l.map λp=>[p.1.1.headD (.slice none 0 0)])=l.map λp=>p.1.1:=λl=>List.map_congr_left λp _=>(g0n (r:=C0.toRp) rfl (C0.toR p.2)).symm
 rw[g,←H0p (dat:=λp:N0k C0 h=>p.1.2.1) (e:=eqW) (λ_ _=>rfl)]
 exact f0j _
end Go.Proofs.YtfphndijjmdiiaaGreat
