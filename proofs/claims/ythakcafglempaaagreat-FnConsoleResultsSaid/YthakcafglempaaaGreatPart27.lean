/- Texts of the claim, joined: A graph in memory, opened and others. -/
import Derived.Test.YthakcafglempaaaGreatPart23
import Derived.Test.YthakcafglempaaaGreatH53
import Derived.Test.YthakcafglempaaaGreatH41
namespace Go.Proofs.YthakcafglempaaaGreat
set_option linter.all false
open Go.H
open IntKind (i64)
def opG{h:Hp}{cs:List Value}{x:j0}(f:F1.R h cs x):∃(d e:Int) (a:Option Addr) (c:Nat) (b:T0),cs = [.int .i64 d,.int .i64 e,.slice a b.length c]/\x=(d,e,b)/\H0 d/\H0 e/\N0.R h [.slice a b.length c] b/\b.length<=9223372036854775807:=by obtain⟨d,e,a,n,c,b,rfl,rfl,g,i,r⟩:=Z0 f;obtain⟨rfl,l⟩:=Sl.len r;exact⟨d,e,a,c,b,rfl,rfl,g,i,r,l⟩
section
variable {h0 h1 h2 h3 H:Hp} {k r:Int} {v2 v3 v4 v5:Value} {x2:M1} {x3 x4:I0} {g0 g1:Int} {x5:T0} {n:Int} {B2 B3 B4 B5:List Nat}
def m0A(s:Sub h0 H)(l:H0 k)(m:H0 r)(o:H0 g0)(p:H0 g1)(q:H0 n)(a:NB T1 h0 H [v2] x2 B2)(b:NB J0 h0 H [v3] x3 B3)(c:NB J0 h0 H [v4] x4 B4)(d:NB N0 h0 H [v5] x5 B5) (e:∀ z∈B2,z ∉ B3) (f:∀ z∈B2,z ∉ B4) (g:∀ z∈B2,z ∉ B5) (h:∀ z∈B3,z ∉ B4) (i:∀ z∈B3,z ∉ B5) (j:∀ z∈B4,z ∉ B5) : New S4 h0 H [.int .i64 k,.int .i64 r,v2,v3,v4,.int .i64 g0,.int .i64 g1,v5,.int .i64 n] (k,r,x2,x3,x4,(g0,g1,x5),n) :=
 NB.fin (NB.pair (NB.int l) (NB.pair (NB.int m) (NB.pair a (NB.pair b (NB.pair c (NB.pair (NB.pair (NB.int o) (NB.pair (NB.int p) d NB.d0) NB.d0) (NB.int q) NB.de) (NB.da (NB.da NB.de (NB.da NB.de j)) NB.de)) (NB.da h (NB.da (NB.da NB.de (NB.da NB.de i)) NB.de))) (NB.da e (NB.da f (NB.da (NB.da NB.de (NB.da NB.de g)) NB.de)))) NB.d0) NB.d0) s
def Z0w(c:New S4 h0 h1 [.int .i64 k,.int .i64 r,v2,v3,v4,.int .i64 g0,.int .i64 g1,v5,.int .i64 n] (k,r,x2,x3,x4,(g0,g1,x5),n)): (Sub h0 h1/\H0 k/\H0 r/\H0 g0/\H0 g1/\H0 n)/\∃ a d f i,(T1.W h1 [v2] x2 a/\J0.W h1 [v3] x3 d/\J0.W h1 [v4] x4 f/\N0.W h1 [v5] x5 i)/\(G4 h0 a/\G4 h0 d/\G4 h0 f/\G4 h0 i) /\ (∀ z∈a,z ∉ d)/\(∀ z∈a,z ∉ f)/\(∀ z∈a,z ∉ i)/\(∀ z∈d,z ∉ f)/\(∀ z∈d,z ∉ i)/\(∀ z∈f,z ∉ i):=by
 obtain⟨B,w,⟨fn,j⟩,C⟩:=c;obtain⟨M,N,E,o,I,R,F,p,J,S,G,q,K,T,O,P,H,s,L,U,Q,a,d,f,i,e,ex,rfl,u,v,D,w3,w4,x,y,w5,A⟩:=d0r w;cases e;cases ex;simp only[nA,List.append_nil,List.nodup_append,List.mem_append]at fn j;obtain⟨o,⟨p,⟨q,s,t⟩,m⟩,l⟩:=fn;exact⟨⟨C,u,v,x,y,A⟩,a,d,f,i,⟨D,w3,w4,w5⟩,⟨⟨o,λb h=>j b (by simp[h])⟩,⟨p,λb h=>j b (by simp[h])⟩,⟨q,λb h=>j b (by simp[h])⟩,⟨s,λb h=>j b (by simp[h])⟩⟩,
  λz h g=>l z h z (by simp[g]) rfl,λz h g=>l z h z (by simp[g]) rfl,λz h g=>l z h z (by simp[g]) rfl,λz h g=>m z h z (by simp[g]) rfl,λz h g=>m z h z (by simp[g]) rfl,λz h g=>t z h z (by simp[g]) rfl⟩
def clG(c:New S4 h0 h1 [.int .i64 k,.int .i64 r,v2,v3,v4,.int .i64 g0,.int .i64 g1,v5,.int .i64 n] (k,r,x2,x3,x4,(g0,g1,x5),n))(a:Sub h1 h2){p q:Int}(j:H0 p)(l:H0 q){v:Value}{y:T0}(g:New N0 h2 h3 [v] y): New S4 h0 h3 [.int .i64 k,.int .i64 r,v2,v3,v4,.int .i64 p,.int .i64 q,v,.int .i64 n] (k,r,x2,x3,x4,(p,q,y),n):=by obtain⟨⟨e,m,o,D,E,s⟩,u,x,z,A,⟨h,w3,w4,w5⟩,⟨f2,f3,i,C⟩,d⟩:=Z0w c;obtain⟨B,w,f,t⟩:=g;have b:=a.trans t;exact m0A (e.trans b) m o j l s (.mk h b f2 (Sub.refl _)) (.mk w3 b f3 (Sub.refl _)) (.mk w4 b i (Sub.refl _)) (.mk w (Sub.refl _) f (e.trans a)) d.1 d.2.1 (NB.dl h a f) d.2.2.2.1 (NB.dl w3 a f) (NB.dl w4 a f)
def f0y(c:New S4 h0 h1 [.int .i64 k,.int .i64 r,v2,v3,v4,.int .i64 g0,.int .i64 g1,v5,.int .i64 n] (k,r,x2,x3,x4,(g0,g1,x5),n)): ∃ i,Sub h0 i/\Sub i h1/\New J0 i h1 [v4] x4/\∀ h' v y,New J0 i h' [v] y->New S4 h0 h' [.int .i64 k,.int .i64 r,v2,v3,v,.int .i64 g0,.int .i64 g1,v5,.int .i64 n] (k,r,x2,x3,y,(g0,g1,x5),n):=by
 obtain⟨⟨I,D,E,F,G,H⟩,K,L,d,M,⟨J,w3,w4,w5⟩,⟨f2,f3,l,C⟩,s,t,u,x,z,A⟩:=Z0w c;have e:∀ b,b ∉ d->(λb=>if b∈d then none else h1 b) b=h1 b:=λb a=>iE a;have j:Sub h0 (λb=>if b∈d then none else h1 b):=λb o a=>by rw[e b λh=>by rw[l.2 b h]at a;cases a];exact I b o a
 refine⟨λb=>if b∈d then none else h1 b,j,λb o a=>?_,⟨d,w4,⟨l.1,λb a=>iP a⟩,λb o a=>?_⟩,λh' v y g=>?_⟩
 ·by_cases h:b∈d;·simp[h]at a
  rw[e b h]at a;exact a
 ·by_cases h:b∈d;·simp[h]at a
  rw[e b h]at a;exact a
 obtain⟨B,w,f,s2⟩:=g;have m:=T1.frame (h':=λb=>if b∈d then none else h1 b) J λb a=>e b (t b a);have p:=J0.frame (h':=λb=>if b∈d then none else h1 b) w3 λb a=>e b (x b a);have q:=N0.frame (h':=λb=>if b∈d then none else h1 b) w5 λb a=>e b λh=>A b h a;exact m0A (j.trans s2) D E F G H (.mk m s2 f2 (Sub.refl _)) (.mk p s2 f3 (Sub.refl _)) (.mk w (Sub.refl _) f j) (.mk q s2 C (Sub.refl _)) s (NB.dl m (Sub.refl _) f) u (NB.dl p (Sub.refl _) f) z (NB.dr q (Sub.refl _) f)
def clP(c:New S4 h0 h1 [.int .i64 k,.int .i64 r,v2,v3,v4,.int .i64 g0,.int .i64 g1,v5,.int .i64 n] (k,r,x2,x3,x4,(g0,g1,x5),n))(a:Sub h1 h2){v:Value}{y:I0}(p:New J0 h2 h3 [v] y): New S4 h0 h3 [.int .i64 k,.int .i64 r,v2,v3,v,.int .i64 g0,.int .i64 g1,v5,.int .i64 n] (k,r,x2,x3,y,(g0,g1,x5),n):=by obtain⟨d,e,s1,_,b⟩:=f0y c;exact b _ _ _ (p.from (s1.trans a))
end
end Go.Proofs.YthakcafglempaaaGreat
