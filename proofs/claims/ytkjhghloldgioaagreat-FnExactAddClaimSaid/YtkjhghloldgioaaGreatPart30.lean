/- Texts of the claim, joined: CheckClaim, of the spec and of the code and others. -/
import Derived.Test.YtkjhghloldgioaaGreatPart25
import Derived.Test.YtkjhghloldgioaaGreatPart24
import Derived.Test.YtkjhghloldgioaaGreatPart28
import Derived.Test.YtkjhghloldgioaaGreatPart29
namespace Go.Proofs.YtkjhghloldgioaaGreat
open Go.H
set_option linter.unusedVariables false
theorem k0e{x:Z2}(f:I6 x<=1048576):M05 x:=by
 obtain⟨a,r,ws,w,b,⟨d,c,es⟩,n⟩:=x
 have e:I6 (a,r,ws,w,b,(d,c,es),n)=d6 ws+w.length+b.length+es.length:=rfl
 rw[e]at f
 have:=J0m (ws:=ws) (n:=1048576) (by omega) (by decide)
 exact⟨this.1,this.2,by simp only;omega,by simp only;omega⟩
theorem N0m{x:V1}(d:Q8 x<=1048576):Q08 x:=by
 obtain⟨v,a⟩:=x
 have e:Q8 (v,a)=a.length+U3 I6 a:=rfl
 rw[e]at d
 exact⟨by simp only;omega,λc b=>k0e (by have:=W07 (m:=I6) b;simp only at this;omega)⟩
theorem B0h{x:Z2}(g:I6 x<=1048576):R0h x:=by
 obtain⟨a,r,ws,w,b,⟨d,c,es⟩,n⟩:=x
 have e:I6 (a,r,ws,w,b,(d,c,es),n)=d6 ws+w.length+b.length+es.length:=rfl
 rw[e]at g
 have i:d6 ws=ws.length+U3 K4 ws:=rfl
 refine⟨⟨by simp only;omega,λy h=>?_⟩,by simp only;omega,by simp only;omega,by simp only;omega⟩
 have f:=W07 (m:=K4) h
 have j:K4 y=y.length:=rfl
 simp only at f
 omega
theorem y0f{x:V1}(d:Q8 x<=1048576):(∀ c∈x.2,R0h c)/\x.2.length<=1048576:=by
 obtain⟨v,a⟩:=x
 have e:Q8 (v,a)=a.length+U3 I6 a:=rfl
 rw[e]at d
 exact⟨λc b=>B0h (by have:=W07 (m:=I6) b;simp only at this;omega),by simp only;omega⟩
theorem O0m{c:Type}(f:c->Nat):∀ a b:List c,U3 f (a++b)=U3 f a+U3 f b
 | [],b=>by simp[U3]
 |x::a,b=>by simp only[List.cons_append,U3,O0m f a b];omega
theorem X0n(x:V1)(c:Z2)(h:Q8 x<=1048576)(g:I6 c<=1048576):Z6 (T2 x c).1<=100000000:=by
 have e:=p0g x
 have f:=B0l c
 unfold T2
 cases (o00 x&&decide (c.2.1=x.1)&&S00 c&&decide (x.2.length<12))with
 |false=>simp only[cond_false];omega
 |true =>
  simp only[cond_true]
  have a:Z6 (x.1,x.2 ++ [c])=U3 l3 (x.2 ++ [c]):=rfl
  have d:Z6 x=U3 l3 x.2:=rfl
  have b:U3 l3 [c]=l3 c+0:=rfl
  rw[a,O0m,b]
  omega
theorem C0h(h:Hp)(cs:List Value)(x:V1)(i:L1.R h cs x)(b:Q8 x<=1048576)(a:List Value)(c:Z2)(g:Q1.R h a c)(e:I6 c<=1048576):
  Tr Tryz.prog 27 #[.agg cs.toArray,.agg a.toArray] h λv d=>∃ cs,v = .tuple #[.agg cs.toArray,.bool (T2 x c).2]/\L1.R d cs (T2 x c).1/\Sub h d:=by
 refine Tr.mono (m0f h cs x i a c g _ (m0q x (N0m b) (y0f b).1 (by have:=(y0f b).2;omega) c (k0e e) (B0h e))) ?_
 rintro v k ⟨f,rfl,r⟩
 exact⟨f,rfl,r.r,r.sub⟩
theorem j0a(h:Hp)(cs:List Value)(x:V1)(g:L1.R h cs x)(b:Q8 x<=1048576)(a:List Value)(c:Z2)(f:Q1.R h a c)(d:I6 c<=1048576):
  Tr Tryz.prog 29 #[.agg cs.toArray,.agg a.toArray] h λv e=>∃ cs,v = .tuple #[.agg cs.toArray,.bool (T2 x c).2]/\New L1 h e cs (T2 x c).1 :=
 n0f h cs x g a c f _ (n0q x (N0m b) (y0f b).1 (by have:=(y0f b).2;omega) c (k0e d) (B0h d))
end Go.Proofs.YtkjhghloldgioaaGreat
