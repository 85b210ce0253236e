/- The library's sort and Compact, at edges that lie in memory of the call's own. -/
import Derived.Test.YtohcdjhocpakkaaGreatCE
import Derived.Test.YtohcdjhocpakkaaGreatPart27
import Derived.Test.YtohcdjhocpakkaaGreatPart24
import Derived.Test.YtohcdjhocpakkaaGreatH37
import Derived.Shelf.SlLaysF
import Derived.Shelf.Lay
import Derived.Ground.SlsfProg
import Derived.Test.YtohcdjhocpakkaaGreatChecked
namespace Go.Proofs
open Go.Shelf Go.Lib Go.Sort
shelf_lay_g SlLaysF0.n6 Slsf 6 at Tryz 138 as Tryz.sortE
end Go.Proofs
namespace Go.Proofs.YtohcdjhocpakkaaGreat
open Go.H
set_option linter.unusedVariables false
set_option linter.unusedSimpArgs false
theorem I0t:∀(args:Array Value) (w:World),(callFunc 132 args).run Tryz.prog w = .ok (.enter 132 args) w:=Go.Proofs.enters_of (fn:=Tryz.f132) (by kernel_rfl) (by kernel_rfl) rfl
theorem C0k(h:Hp){a:Hp}{v:Value}{e:Nat}{vs:List (List Value)}{xs:E1}(fr:V0 h a v e 3 true vs)(f2:F2 (E2.R h) vs xs)(d:xs.length<4611686018427387904):
  Tr Tryz.prog 138 #[v,.func (.func 132) #[] #[]] a λu k=>u = .tuple #[]/\∃ b,V0 h k v e 3 true b/\F2 (E2.R h) b (f06 P0 xs) :=
 Tr.sortKF (r:=E2.toRp) Tryz.sortE (by decide) Tryz.isAgg98 Tryz.sizeOf98 Y3.cmp I0t (z:=[.int .i64 0,.int .i64 0,.int .i64 0]) (z':=(0,0,0)) (Y1 (by decide) (by decide) (by decide))
  (λu v x c f g=>h04 h u x f v c g _ (Z04 x c)) fr f2 d
theorem F2.edges{h:Hp}:∀ {vs:List (List Value)} {xs:List J0},F2 (E2.R h) vs xs->vs=(xs.map λx=>[.int .i64 x.1,.int .i64 x.2.1,.int .i64 x.2.2])/\∀ x∈xs,K0 x.1/\K0 x.2.1/\K0 x.2.2
 | [],[],_=>⟨rfl,by simp⟩
 |v::vs,x::xs,hf=>by
  obtain⟨i,j,k,rfl,rfl,c,d,f⟩:=M2 hf.1
  obtain⟨rfl,b⟩:=F2.edges hf.2
  exact⟨rfl,λg a=>by rcases List.mem_cons.1 a with rfl|a;exact⟨c,d,f⟩;exact b g a⟩
 | [],_::_,hf=>hf.elim
 |_::_,[],hf=>hf.elim
theorem F2.ofEdges{h:Hp}:∀ {xs:List J0},(∀ x∈xs,K0 x.1/\K0 x.2.1/\K0 x.2.2)->F2 (E2.R h) (xs.map λx=>[.int .i64 x.1,.int .i64 x.2.1,.int .i64 x.2.2]) xs
 | [],_=>trivial
 |x::xs,b=>by
  have a:=b x mS
  exact⟨Y1 a.1 a.2.1 a.2.2,F2.ofEdges λd c=>b d (mC _ c)⟩
theorem D0k(h:Hp){b:Hp}{v:Value}{e:Nat}{vs:List (List Value)}{xs:E1}(fr:V0 h b v e 3 true vs)(f2:F2 (E2.R h) vs xs):
  Tr Tryz.prog 139 #[v] b λu k=>∃ d,V0 h k u e 3 true d/\F2 (E2.R h) d (k03 eqE xs):=by
 obtain⟨rfl,i⟩:=F2.edges f2
 obtain⟨a,c,_,g⟩:=fr.slice
 refine(B0k h fr (by have:=A0n g;simpa using this)).mono ?_
 rintro u k ⟨m,rfl,f⟩
 exact⟨_,f,F2.ofEdges λx j=>i x ((f0h (eq:=λp q=>eqE p q) (l:=xs)).subset j)⟩
end Go.Proofs.YtohcdjhocpakkaaGreat
