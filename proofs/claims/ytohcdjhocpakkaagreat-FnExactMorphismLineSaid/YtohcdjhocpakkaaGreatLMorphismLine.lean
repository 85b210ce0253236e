/- What the law on MorphismLine does. -/
import Derived.Test.YtohcdjhocpakkaaGreatKMorphismLine
import Derived.Test.YtohcdjhocpakkaaGreatPart18
namespace Go.Proofs.YtohcdjhocpakkaaGreat
open Go.H
set_option linter.unusedVariables false
set_option linter.unusedSimpArgs false
set_option maxRecDepth 10000
theorem h0b(h:Hp)(x:List Value)(Q:H1)(J:D3.R h x Q):
  Tr Tryz.prog 3 #[.agg x.toArray] h λv H=>v = .bool true/\Sub h H:=by
 obtain⟨a,d,k,f,b,rfl,rfl,m,n⟩:=V2 J
 refine G2 (args:=[.agg #[.int .i64 a,.slice d k f]]) (fn:=Tryz.f3) rfl ?_
 refine Tr.val (v0i _ [.int .i64 a,.slice d k f] (a,b) (1048576) (U0 m n) ⟨by omega,by omega⟩) ?_
 refine aI (λc=>aI rfl (Sub.refl _)) (λc=>?_)
 have K:0<=szR (1048576) (v01 (a,b):Nat):=by simpa using c
 have aa:=c0l K
 have i:v01 (a,b)<=1048576:=by omega
 refine Tr.mono (Y06 _ [.int .i64 a,.slice d k f] (a,b) (U0 m n) i) ?_
 rintro ae ab ⟨S,rfl,j⟩
 obtain⟨O,D,L,F,aj,rfl,V,_,_⟩:=V2 j.r
 refine Tr.val (R09 _ [.int .i64 O,.slice D L F] (a,b) j.r i) ?_
 refine Tr.mono (Y06 _ [.int .i64 a,.slice d k f] (a,b) (D3.mono j.sub (U0 m n)) i) ?_
 rintro af ad ⟨T,rfl,l⟩
 have A:=l.sub
 obtain⟨C,t,y,u,ak,rfl,W,_,_⟩:=V2 l.r
 refine Tr.val (S09 _ [.int .i64 C,.slice t y u] (a,b) l.r i) ?_
 refine aI (λc=>?_) (λc=>?_)
 ·exact absurd c (by simp)
 clear c
 refine Or.inr (Or.inr (Or.inr (Or.inl (aI (aI (by kernel_rfl) (by kernel_rfl)) ?_))))
 refine Or.inr (eX (λv g=>∃ cs,v = .agg cs.toArray/\D3.R g cs (a,b)) (aI (λv Y Z s g=>by obtain⟨cs,e,q⟩:=g;exact⟨cs,e,D3.mono s q⟩) (aI ?_ ?_)))
 ·intro o p
  refine Tr.mono (Y06 o [.int .i64 a,.slice d k f] (a,b) (D3.mono ((j.sub.trans A).trans p) (U0 m n)) i) ?_
  rintro v I ⟨w,rfl,z⟩
  exact aI r02 (aI z.sub ⟨w,rfl,z.r⟩)
 refine Or.inr (eX (λv g=>v = .bool true) (aI (λ_ _ _ _ e=>e) (aI ?_ ?_)))
 ·rintro o p v ⟨w,rfl,q⟩
  obtain⟨P,E,M,G,al,rfl,U,_,_⟩:=V2 q
  refine Tr.mono (w0i o [.int .i64 C,.slice t y u] [.int .i64 P,.slice E M G] (a,b) (a,b) (D3.mono p l.r) q) ?_
  rintro v I ⟨rfl,rfl⟩
  exact aI r02 (aI (Sub.refl _) (by simp))
 refine Or.inr (eX (λv g=>v = .bool false) (aI (λ_ _ _ _ e=>e) (aI ?_ ?_)))
 ·rintro o p v rfl
  exact aI r02 (aI (Sub.refl _) rfl)
 rintro ac N ai rfl ah rfl ag X
 refine aI (λc=>?_) (λc=>?_)
 ·cases c
 clear c
 exact aI rfl ((j.sub.trans A).trans N)
end Go.Proofs.YtohcdjhocpakkaaGreat
