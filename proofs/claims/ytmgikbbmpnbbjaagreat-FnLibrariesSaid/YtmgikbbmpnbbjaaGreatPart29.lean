/- Texts of the claim, joined: PutEntry: the plain law and others. -/
import Derived.Test.YtmgikbbmpnbbjaaGreatPart28
import Derived.Test.YtmgikbbmpnbbjaaGreatPart23
import Derived.Test.YtmgikbbmpnbbjaaGreatPart22
import Derived.Test.YtmgikbbmpnbbjaaGreatH36
namespace Go.Proofs.YtmgikbbmpnbbjaaGreat
open Go.H
set_option linter.unusedVariables false
set_option linter.unusedSimpArgs false
def p05(e:O6):N1->N1
 | []=>[e]
 |x::r=>bif r02 x.1 e.1 then x::p05 e r else(bif b9 x.1 e.1 then e::r else e::x::r)
def W6(x:N0)(s:ByteArray)(g:j0):N0×Bool :=
 bif G2 x&&(m00 s&&(decide (g.1=x.1)&&T1 g))then
  (bif decide (16<(p05 (s,g) x.2).length)then(x,false)else((x.1,p05 (s,g) x.2),true))else(x,false)
theorem s0l(e:O6):∀ l:N1,(p05 e l).length<=l.length+1
 | []=>by simp[p05]
 |x::r=>by
  have:=s0l e r
  unfold p05
  cases r02 x.1 e.1
  ·cases b9 x.1 e.1<;>simp[cond_true,cond_false]
  ·simp only[cond_true,List.length_cons];omega
def D0j(e:O6)(p:Bool)(x:O6):Bool:=bif !p then(r02 e.1 x.1 || b9 e.1 x.1)else false
def o0d(e:O6):Bool->N1->N1
 |_,[]=>[]
 |p,x::r=>bif D0j e p x then e::(bif b9 x.1 e.1 then o0d e true r else x::o0d e true r)else(bif b9 x.1 e.1 then o0d e p r else x::o0d e p r)
def f0h(e:O6):Bool->N1->Bool
 |p,[]=>p
 |p,x::r=>f0h e (bif D0j e p x then true else p) r
theorem J0r(l:N1)(m:r8 l)(s:ByteArray)(g:j0)(v:g.2.2.length<=1048576)(q:Int):∀(d k fuel:Nat) (p:Bool) (acc:N1),k+d=l.length->d<fuel->acc.length<=2*k ->
  l5 l s g.1 g.2.1 g.2.2 fuel p (k:Int) q acc=some (f0h (s,g) p (l.drop k),q,acc++o0d (s,g) p (l.drop k))
 |d,k,0,p,acc,u,hf,t=>by omega
 |0,k,fuel+1,p,acc,u,hf,t=>by
  rw[l5.eq_2,if_neg (by simp;omega),V1 (by omega)];simp[o0d,f0h]
 |d+1,k,fuel+1,p,acc,u,hf,t=>by
  have x:k<l.length:=by omega
  have c:=P4 x
  have w:=m.2 _ (List.mem_of_getElem? c)
  generalize l[k]=e at c w
  obtain⟨a,o,n,es⟩:=e
  simp only at w
  have C:=m.1
  have b:=λB y h=>J0r l m s g v q d (k+1) fuel B y (by omega) (by omega) h
  obtain⟨f,i,j⟩:=g
  simp only at v b
  have z:=v00 (f,i,j) (by simp only;omega)
  rw[l5.eq_2,if_pos (by simp;omega),C2 c]
  simp only[B3 c,oB,v00 (o,n,es) (by simp only;omega),A3 x (show l.length<=9223372036854775807 by omega),o0d,f0h]
  have A:(bif(!p)then(r02 s a || b9 s a)else false)=D0j (s,(f,i,j)) p (a,(o,n,es)):=rfl
  rw[A]
  cases D0j (s,(f,i,j)) p (a,(o,n,es))
  ·rw[if_neg (by simp)]
   cases b9 a s
   ·rw[if_pos (by rfl),H0 (by simp only[List.length_singleton];omega),oB,b _ _ (by simp;omega)];simp
   ·rw[if_neg (by simp),b _ _ (by omega)];simp
  ·rw[if_pos rfl]
   simp only[z,oB]
   rw[H0 (by simp only[List.length_singleton];omega),oB]
   cases b9 a s
   ·rw[if_pos (by rfl),H0 (by simp only[List.length_append,List.length_singleton];omega),oB,b _ _ (by simp;omega)];simp
   ·rw[if_neg (by simp),b _ _ (by simp;omega)];simp
def h0n(l:N1):Prop:=l.Pairwise λa b=>r02 a.1 b.1=true
theorem t0l{x:N0}(h:G2 x=true):h0n x.2:=by
 rw[h0n,List.pairwise_iff_getElem]
 intro i j a c b
 exact a0c h j i _ _ b (List.getElem?_eq_getElem a) (List.getElem?_eq_getElem c)
theorem u0l(e:O6):∀ l:N1,(∀ x∈l,x.1≠e.1)->o0d e true l=l/\f0h e true l=true
 | [],_=>⟨rfl,rfl⟩
 |x::r,h=>by
  have a:=u0l e r λy c=>h y (mC _ c)
  have:b9 x.1 e.1=false:=Bool.eq_false_iff.2 λb=>h x mS (N6.1 b)
  simp only[o0d,f0h,D0j,Bool.not_true,cond_false,this]
  exact⟨by rw[a.1],a.2⟩
theorem K0r{a b:ByteArray}(h:r02 a b=true):a≠b:=λe=>by rw[e,Z0b]at h;cases h
theorem R0o(e:O6)(i:∀ a b:ByteArray,r02 a b=false->r02 b a=false->a=b):∀ l:N1,h0n l->o0d e false l++(bif f0h e false l then []else [e])=p05 e l
 | [],_=>rfl
 |x::r,h=>by
  obtain⟨k,m⟩:=List.pairwise_cons.1 h
  have p:=R0o e i r m
  unfold p05
  cases hs:r02 x.1 e.1
  ·rw[cond_false]
   have j:∀ y∈r,y.1≠e.1:=λy o n=>by
    have:=k y o
    rw[n]at this;rw[this]at hs;cases hs
   have g:=u0l e r j
   have d:D0j e false x=true:=by
    simp only[D0j,Bool.not_false,cond_true,Bool.or_eq_true]
    cases f:r02 e.1 x.1
    ·exact .inr (N6.2 (i _ _ f hs))
    ·exact .inl rfl
   simp only[o0d,f0h,d,cond_true,g.1,g.2,List.append_nil]
   cases b9 x.1 e.1<;>rfl
  ·rw[cond_true]
   have f:b9 x.1 e.1=false:=Bool.eq_false_iff.2 λc=>K0r hs (N6.1 c)
   have d:D0j e false x=false:=by
    simp only[D0j,Bool.not_false,cond_true,Bool.or_eq_false_iff]
    refine⟨Bool.eq_false_iff.2 λc=>?_,Bool.eq_false_iff.2 λc=>K0r hs (N6.1 c).symm⟩
    have:=n0d hs c
    rw[Z0b]at this;cases this
   simp only[o0d,f0h,d,cond_false,f,List.cons_append,p]
def j0e(s:ByteArray):N1->Nat
 | []=>0
 |x::r=>bif r02 x.1 s then j0e s r+1 else 0
theorem L0r(s:ByteArray):∀ l:N1,j0e s l<=l.length
 | []=>Nat.le_refl _
 |x::r=>by have:=L0r s r;unfold j0e;cases r02 x.1 s<;>simp only[cond_true,cond_false,List.length_cons]<;>omega
theorem M0r(l:N1)(f:r8 l)(s:ByteArray):∀(d k fuel:Nat),k+d=l.length->d<fuel ->
  Q7 l s fuel (k:Int)=some ((k+j0e s (l.drop k):Nat):Int)
 |d,k,0,c,hf=>by omega
 |0,k,fuel+1,c,hf=>by
  have a:decide ((k:Int)<((l.length:Nat):Int))=false:=decide_eq_false (by omega)
  rw[Q7.eq_2,a,V1 (by omega)]
  rfl
 |d+1,k,fuel+1,c,hf=>by
  have a:k<l.length:=by omega
  have b:=P4 a
  have j:=f.1
  have h:=M0r l f s d (k+1) fuel (by omega) (by omega)
  generalize l[k]=e at b
  obtain⟨i,m,n,es⟩:=e
  have g:decide ((k:Int)<((l.length:Nat):Int))=true:=decide_eq_true (by omega)
  rw[Q7.eq_2,g,C2 b]
  simp only[chk,B3 b,cond_true,oB,A3 a (show l.length<=9223372036854775807 by omega),j0e,if_true]
  cases r02 i s
  ·rfl
  ·simp only[if_true,h,cond_true]
   congr 2;omega
theorem swp(a c:N1)(y e:O6):((a++y::e::c).set (a.length+1) y).set a.length e=a++e::y::c:=by
 simp[List.set_append_right]
theorem N0r(l:N1)(o:l.length<=1048576)(e:O6)(b:Nat):∀(d fuel:Nat),b+d<=l.length->d<fuel ->
  n5 (b:Int) fuel ((b+d:Nat):Int) (l.take (b+d)++e::l.drop (b+d))=some (l.take b++e::l.drop b)
 |d,0,i,hf=>by omega
 |0,fuel+1,i,hf=>by
  rw[n5.eq_2,if_neg (by simp)];rfl
 |d+1,fuel+1,i,hf=>by
  have g:=N0r l o e b d fuel (by omega) (by omega)
  have n:b+d<l.length:=by omega
  have h:=P4 n
  generalize l[b+d]=y at h
  have k:l.take (b+(d+1))=l.take (b+d) ++ [y]:=by rw[←Nat.add_assoc,k0l h]
  have m:l.drop (b+d)=y::l.drop (b+(d+1)):=by rw[C2 h,←Nat.add_assoc]
  have f:(l.take (b+d)).length=b+d:=by rw[List.length_take];omega
  have p:IntKind.i64.wrap (((b+(d+1):Nat):Int)-1)=((b+d:Nat):Int):=by
   rw[show((b+(d+1):Nat):Int)-1=((b+d:Nat):Int) by omega]
   exact w64 (by omega) (by omega)
  rw[k,List.append_assoc,List.singleton_append]
  rw[m]at g
  generalize l.take (b+d)=a at f g
  generalize l.drop (b+(d+1))=c at g
  have q:gi (a++y::e::c) ((b+d:Nat):Int)=some y:=B3 (by rw[←f];simp)
  have s:gi (a++y::e::c) ((b+(d+1):Nat):Int)=some e:=B3 (by rw[←Nat.add_assoc,←f,List.getElem?_append_right (by omega)];simp)
  have j:=swp a c y e
  rw[f]at j
  obtain⟨t,u,v,w⟩:=y
  obtain⟨x,z,A,B⟩:=e
  rw[n5.eq_2,if_pos (by simp;omega)]
  simp only[p,q,s,oB,Int.toNat_natCast]
  rw[show b+(d+1)=b+d+1 from rfl,j]
  exact g
theorem O0r(e:O6):∀ l:N1,(∀ x∈l,x.1≠e.1)->l.take (j0e e.1 l)++e::l.drop (j0e e.1 l)=p05 e l
 | [],_=>rfl
 |x::r,h=>by
  have c:=O0r e r λy b=>h y (mC _ b)
  unfold j0e p05
  cases r02 x.1 e.1
  ·have:b9 x.1 e.1=false:=Bool.eq_false_iff.2 λa=>h x mS (N6.1 a)
   simp[this]
  ·simp only[cond_true,List.take_succ_cons,List.drop_succ_cons,List.cons_append,c]
theorem S0o(e x:O6)(c:x.1=e.1)(b:N1):∀ a:N1,(∀ y∈a,r02 y.1 e.1=true)->p05 e (a++x::b)=a++e::b
 | [],_=>by
  rw[List.nil_append,List.nil_append,p05,c,Z0b,cond_false,N6.2 rfl,cond_true]
 |y::a,h=>by
  rw[List.cons_append,p05,h y mS,cond_true,S0o e x c b a λz d=>h z (mC _ d)];rfl
theorem i0q{x:N0}{s:ByteArray}{g:j0}(h:G2 x=true){i:Nat}(d:a02 x s=some i):p05 (s,g) x.2=x.2.set i (s,g):=by
 obtain⟨_,⟨e,b,c⟩,n⟩:=A07 _ _ _ d
 have l:=L09 d
 have f:x.2=x.2.take i++(e::x.2.drop (i+1)):=by rw[←C2 b,List.take_append_drop]
 rw[List.set_eq_take_append_cons_drop,if_pos l]
 conv=>lhs;rw[f]
 refine S0o (s,g) e c _ _ λy m=>?_
 obtain⟨j,a⟩:=List.getElem?_of_mem m
 have k:=(List.getElem?_eq_some_iff.1 a).1
 rw[List.length_take]at k
 rw[List.getElem?_take_of_lt (by omega)]at a
 have:=a0c h i j y e (by omega) a b
 rw[c]at this;exact this
theorem P0r:∀ x y:List UInt8,Go.Op.bytesLess x y=false->Go.Op.bytesLess y x=false->x=y
 | [],[],_,_=>rfl
 | [],b::y,h,_=>by simp[Go.Op.bytesLess]at h
 |a::x,[],_,h=>by simp[Go.Op.bytesLess]at h
 |a::x,b::y,c,d=>by
  simp only[Go.Op.bytesLess,Bool.or_eq_false_iff,Bool.and_eq_false_iff,decide_eq_false_iff_not,beq_eq_false_iff_ne]at c d
  have e:a=b:=by
   have f:=c.1;have g:=d.1
   rw[UInt8.lt_iff_toNat_lt]at f g
   exact UInt8.toNat_inj.1 (by omega)
  subst e
  rcases c.2 with h|h
  ·exact absurd rfl h
  rcases d.2 with h'|h'
  ·exact absurd rfl h'
  rw[P0r x y h h']
theorem T0o(a b:ByteArray)(c:r02 a b=false)(d:r02 b a=false):a=b:=by
 have:=P0r _ _ c d
 exact N6.1 (by unfold b9;rw[this];exact beq_self_eq_true _)
theorem j0q{x:N0}(a:G2 x=true):x.2.length<=16:=by
 unfold G2 at a
 simp only[Bool.and_eq_true,decide_eq_true_eq]at a;exact a.2.1
theorem p0d(x:N0)(s:ByteArray)(g:j0)(e:r8 x.2)(u:s.size<=1048576)(o:g.2.2.length<=1048576):l8 x s g=some (W6 x s g):=by
 have n:=I0e x e
 have m:=e.1
 have p:=h01 x e.ok
 have t:=h08 s (by omega)
 have i:Z2 g=some (T1 g):=by
  unfold Z2
  simp only[s04 g (by omega),oB]
 have j:=v00 g (by omega)
 have f:=J0r x.2 e s g o x.1 x.2.length 0 Y0 false [] (by omega) (M1 (by omega)) (Nat.le_refl _)
 rw[show((0:Nat):Int)=0 from rfl,List.drop_zero,List.nil_append]at f
 have a:=λh=>R0o (s,g) T0o x.2 (@t0l x h)
 have k:=s0l (s,g) x.2
 obtain⟨r,l⟩:=x
 obtain⟨b,c,d⟩:=g
 unfold l8 W6
 simp only at m i j f a k
 simp only[n,p,t,i,f,j,oB]
 cases hL:G2 (r,l)
 ·simp[Y1,T2]
 cases hN:m00 s
 ·simp[Y1,T2]
 cases hQ:T1 (b,c,d)
 ·simp[Y1,T2]
 cases hR:decide (b=r)
 ·simp[Y1,T2,hR]
 have a:=a hL
 simp only[Bool.not_true,Bool.not_false,Y1,cond_false,cond_true,Bool.and_self,oB,Bool.false_eq_true,if_false,hR]
 cases hp:f0h (s,(b,c,d)) false l
 ·rw[hp,cond_false]at a
  have q:(o0d (s,(b,c,d)) false l ++ [(s,(b,c,d))]).length<=l.length+1:=by rw[a];exact k
  simp only[Bool.not_false,if_true]
  rw[H0 (by simp only[List.length_append,List.length_singleton]at q ⊢;omega),oB,H0 (by omega),oB,a]
  cases hd:decide (16<(p05 (s,(b,c,d)) l).length)
  ·rw[if_neg (by have:=of_decide_eq_false hd;simp;omega)];rfl
  ·rw[if_pos (by have:=of_decide_eq_true hd;simp;omega)];rfl
 ·rw[hp,cond_true,List.append_nil]at a
  simp only[Bool.not_true,Bool.false_eq_true,if_false]
  rw[a,H0 (by omega),oB]
  cases hd:decide (16<(p05 (s,(b,c,d)) l).length)
  ·rw[if_neg (by have:=of_decide_eq_false hd;simp;omega)];rfl
  ·rw[if_pos (by have:=of_decide_eq_true hd;simp;omega)];rfl
theorem h0i(x:N0)(s:ByteArray)(g:j0)(k:r8 x.2)(I:s.size<=1048576)(H:g.2.2.length<=1048576):C9 x s g=some (W6 x s g):=by
 have w:=C0j x k
 have v:=k.1
 have B:=w00 x k.ok
 have F:=i08 s (by omega)
 have p:=d00 g (by omega)
 have t:=o02 g (by omega)
 have hf:=f0n x s (by omega)
 have u:=λi => @L09 x s i
 have f:=λh i => @i0q x s g h i
 have o:=λh => @j0q x h
 have q:a02 x s=none->∀ e∈x.2,e.1≠s:=λh e A=>by
  obtain⟨j,D⟩:=List.getElem?_of_mem A
  exact b0c _ _ (by omega) h j (Nat.zero_le _) e D
 have n:=M0r x.2 k s x.2.length 0 Y0 (by omega) (M1 (by omega))
 rw[show((0:Nat):Int)=0 from rfl,List.drop_zero,Nat.zero_add]at n
 have y:=L0r s x.2
 have m:=N0r x.2 (by omega) (s,g) (j0e s x.2) (x.2.length-j0e s x.2) Y0 (by omega) (M1 (by omega))
 rw[show j0e s x.2+(x.2.length-j0e s x.2)=x.2.length by omega,List.take_of_length_le (Nat.le_refl _),V1 rfl]at m
 have b:=λh=>O0r (s,g) x.2 h
 obtain⟨r,l⟩:=x
 obtain⟨a,c,d⟩:=g
 unfold C9 W6
 simp only at v p t n q u f o y m b
 simp only[w,B,F,p,t,hf,oB]
 cases hL:G2 (r,l)
 ·simp[Y1,T2]
 cases hN:m00 s
 ·simp[Y1,T2]
 cases hR:decide (a=r)
 ·simp[Y1,T2,hR]
 cases hQ:T1 (a,c,d)
 ·simp[Y1,T2,hR]
 have o:=o hL
 simp only[Bool.not_true,Bool.not_false,Y1,cond_false,cond_true,Bool.and_self,oB,Bool.false_eq_true,if_false,hR]
 cases hq:a02 (r,l) s with
 |some i =>
  have C:=u i hq
  have f:=f hL i hq
  simp only
  rw[H0 (show J0 (i:Int) from c64 (by omega) (by omega)),oB,if_pos (by simp),B3 (P4 C),oB,Int.toNat_natCast,f]
  have z:decide (16<(l.set i (s,(a,c,d))).length)=false:=decide_eq_false (by rw[List.length_set];omega)
  rw[z,cond_false]
 |none =>
  have b:=b (q hq)
  have E:(p05 (s,(a,c,d)) l).length=l.length+1:=by
   rw[←b];simp only[List.length_append,List.length_take,List.length_cons,List.length_drop];omega
  simp only
  rw[H0 (show J0 (-1) by decide),oB,if_neg (by decide),E]
  by_cases h16:l.length=16
  ·rw[if_pos (by simp[h16]),show decide (16<l.length+1)=true from decide_eq_true (by omega),cond_true]
  ·rw[if_neg (by simp;omega),show decide (16<l.length+1)=false from decide_eq_false (by omega),cond_false]
   have G:IntKind.i64.wrap ((((l ++ [(s,(a,c,d))]).length:Nat):Int)-1)=((l.length:Nat):Int):=by
    rw[List.length_append,List.length_singleton,show(((l.length+1:Nat):Int))-1=((l.length:Nat):Int) by omega]
    exact w64 (by omega) (by omega)
   rw[n,oB,H0 (by simp only[List.length_singleton];omega),oB,G,m,oB,b]
theorem j0i(l:List Q0)(a c e:Int)(s:l.length<=1000):∀(d k fuel:Nat) (acc:List H5),k+d=l.length->d<fuel->acc.length+2*d<=4000000 ->
  W5 l c a e fuel (k:Int) acc=some (acc++f04 (a,c,e) (l.drop k))
 |d,k,0,acc,m,hf,j=>by omega
 |0,k,fuel+1,acc,m,hf,j=>by
  rw[W5.eq_2,if_neg (by simp;omega),V1 (by omega)]
  simp[f04]
 |d+1,k,fuel+1,acc,m,hf,j=>by
  have n:k<l.length:=by omega
  have i:=P4 n
  generalize l[k]=b at i
  obtain⟨o,p,q⟩:=b
  have g:∀ f:List H5,f.length+2*d<=4000000->W5 l c a e fuel ((k+1:Nat):Int) f=some (f++f04 (a,c,e) (l.drop (k+1))):=λf h=>j0i l a c e s d (k+1) fuel f (by omega) (by omega) h
  rw[W5.eq_2,if_pos (by simp;omega),B3 i,oB,A3 n (by omega),C2 i]
  simp only[f04,d0c]
  cases decide (c=p)
  ·simp only[Bool.not_false,if_true,cond_false,List.nil_append]
   exact g acc (by omega)
  ·cases decide (a=o)<;>cases decide (e=q)
   all_goals simp only[Bool.not_true,Bool.false_eq_true,if_false,if_true,cond_true,cond_false,List.nil_append,List.append_nil]
   ·exact g acc (by omega)
   ·rw[H0 (by simp;omega),oB,g _ (by simp;omega)];simp
   ·rw[H0 (by simp;omega),oB,g _ (by simp;omega)];simp
   ·rw[H0 (by simp;omega),oB,H0 (by simp;omega),oB,g _ (by simp;omega)];simp
theorem k0i(l:List Q0)(m:l.length<=1000):∀(d k fuel:Nat) (acc:List H5),k+d=l.length->d<fuel->acc.length+2000*d<=3000000 ->
  n00 l fuel (k:Int) acc=some (acc++Y9 (l.drop k))
 |d,k,0,acc,h,hf,g=>by omega
 |0,k,fuel+1,acc,h,hf,g=>by
  rw[n00.eq_2,if_neg (by simp;omega),V1 (by omega)]
  simp[Y9]
 |d+1,k,fuel+1,acc,h,hf,g=>by
  have i:k<l.length:=by omega
  have a:=P4 i
  generalize l[k]=b at a
  obtain⟨c,e,f⟩:=b
  have h0:=j0i (l.drop (k+1)) c e f (by simp;omega) (l.length-(k+1)) 0 Y0 acc (by simp) (M1 (by omega)) (by omega)
  have j:=q0d (c,e,f) (l.drop (k+1))
  simp only[List.length_drop]at j
  rw[n00.eq_2,if_pos (by simp;omega),B3 a,oB]
  simp only[A3 i (show l.length<=9223372036854775807 by omega)]
  rw[O04 (by omega),oB,show(0:Int)=((0:Nat):Int) from rfl,h0,oB,k0i l m d (k+1) fuel _ (by omega) (by omega) (by simp only[List.length_append,List.drop_zero,List.length_drop]at j ⊢;omega),C2 a,Y9]
  simp
theorem l0i(l:List Q0)(u:l.length<=1000)(i:Nat)(a c e:Int)(o:l[i]?=some (a,c,e)):∀(d k fuel:Nat) (acc:List H5),k+d=l.length->d<fuel->acc.length+2*d<=4000000 ->
  Z4 l (i:Int) fuel (k:Int) acc=some (acc++f04 (a,c,e) (l.drop k))
 |d,k,0,acc,n,hf,m=>by omega
 |0,k,fuel+1,acc,n,hf,m=>by
  rw[Z4.eq_2,if_neg (by simp;omega),V1 (by omega)]
  simp[f04]
 |d+1,k,fuel+1,acc,n,hf,m=>by
  have p:k<l.length:=by omega
  have j:=P4 p
  generalize l[k]=b at j
  obtain⟨q,s,t⟩:=b
  have g:∀ f:List H5,f.length+2*d<=4000000->Z4 l (i:Int) fuel ((k+1:Nat):Int) f=some (f++f04 (a,c,e) (l.drop (k+1))):=λf h=>l0i l u i a c e o d (k+1) fuel f (by omega) (by omega) h
  rw[Z4.eq_2,if_pos (by simp;omega),B3 o,oB]
  simp only[]
  rw[B3 j,oB,A3 p (by omega),C2 j]
  simp only[f04,d0c]
  cases decide (c=s)
  ·simp only[Bool.false_eq_true,if_false,cond_false,List.nil_append]
   exact g acc (by omega)
  ·cases decide (a=q)<;>cases decide (e=t)
   all_goals simp only[Bool.not_true,Bool.false_eq_true,if_false,if_true,cond_true,cond_false,List.nil_append,List.append_nil]
   ·exact g acc (by omega)
   ·rw[H0 (by simp;omega),oB,g _ (by simp;omega)];simp
   ·rw[H0 (by simp;omega),oB,g _ (by simp;omega)];simp
   ·rw[H0 (by simp;omega),oB,H0 (by simp;omega),oB,g _ (by simp;omega)];simp
theorem m0i(l:List Q0)(j:l.length<=1000):∀(d k fuel:Nat) (acc:List H5),k+d=l.length->d<fuel->acc.length+2000*d<=3000000 ->
  L8 l fuel (k:Int) acc=some (acc++Y9 (l.drop k))
 |d,k,0,acc,h,hf,g=>by omega
 |0,k,fuel+1,acc,h,hf,g=>by
  rw[L8.eq_2,if_neg (by simp;omega),V1 (by omega)]
  simp[Y9]
 |d+1,k,fuel+1,acc,h,hf,g=>by
  have i:k<l.length:=by omega
  have a:=P4 i
  generalize l[k]=b at a
  obtain⟨c,e,f⟩:=b
  have h0:=l0i l j k c e f a (l.length-(k+1)) (k+1) Y0 acc (by omega) (M1 (by omega)) (by omega)
  have m:=q0d (c,e,f) (l.drop (k+1))
  simp only[List.length_drop]at m
  rw[L8.eq_2,if_pos (by simp;omega),A3 i (by omega),h0,oB,m0i l j d (k+1) fuel _ (by omega) (by omega) (by simp only[List.length_append,List.length_drop]at m ⊢;omega),C2 a,Y9]
  simp
theorem y0l(g:j0)(a:g.2.2.length<=1000):t04 g=some (Y9 g.2.2):=by
 obtain⟨r,n,es⟩:=g
 unfold t04
 simp only
 rw[show(0:Int)=((0:Nat):Int) from rfl,k0i es a es.length 0 Y0 [] (by omega) (M1 (by simp only at a;omega)) (by simp only at a;simp;omega)]
 rfl
theorem z0l(g:j0)(a:g.2.2.length<=1000):b03 g=some (Y9 g.2.2):=by
 obtain⟨r,n,es⟩:=g
 unfold b03
 simp only
 rw[show(0:Int)=((0:Nat):Int) from rfl,m0i es a es.length 0 Y0 [] (by omega) (M1 (by simp only at a;omega)) (by simp only at a;simp;omega)]
 rfl
def g04(g:j0):H5×Bool:=bif T0 g then(match Y9 g.2.2 with
 | []=>((0,0),false)
 |f::_=>(f,true))else((0,0),false)
theorem k0e(g:j0)(c:g.2.2.length<=140737488355328):M00 g=some (g04 g):=by
 have b:=M01 g c
 have a:=y0l g
 unfold g04
 cases hg:T0 g with
 |false =>
  obtain⟨r,n,es⟩:=g
  unfold M00
  simp only[b,hg,oB];rfl
 |true =>
  have a:=a (by have:=(Q1 hg).2.2.2;omega)
  obtain⟨r,n,es⟩:=g
  unfold M00
  simp only[b,hg,a,oB,cond_true]
  simp only at a
  cases Y9 es with
  |nil=>rfl
  |cons f l =>
   rw[if_neg (by simp),if_neg (by simp;omega),F0f rfl]
   rfl
theorem l0e(g:j0)(c:g.2.2.length<=140737488355328):L00 g=some (g04 g):=by
 have b:=j7 g c
 have a:=z0l g
 unfold g04
 cases hg:T0 g with
 |false =>
  obtain⟨r,n,es⟩:=g
  unfold L00
  simp only[b,hg,oB];rfl
 |true =>
  have a:=a (by have:=(Q1 hg).2.2.2;omega)
  obtain⟨r,n,es⟩:=g
  unfold L00
  simp only[b,hg,a,oB,cond_true]
  simp only at a
  cases Y9 es with
  |nil=>rfl
  |cons f l =>
   rw[if_neg (by simp),if_neg (by simp;omega),F0f rfl]
   rfl
theorem U0o(v:Int)(f:H5)(d:0<=v/\v<1000)(hf:0<=f.1/\f.1<f.2):o03 v f=some (mvV f v):=by
 obtain⟨a,b⟩:=f
 simp only at hf
 unfold o03 mvV
 simp only
 by_cases c:v=b
 ·rw[if_pos (by simp[c]),if_neg (by simp;omega),if_pos c]
 ·rw[if_neg (by simp[c]),if_neg c]
  by_cases c2:v>b
  ·rw[if_pos (by simp[c2]),if_pos c2,w64 (by omega) (by omega)]
  ·rw[if_neg (by simp;omega),if_neg c2]
theorem A0l(v:Int)(f:H5)(d:0<=v/\v<1000):t7 v f=some (mvV f v):=by
 obtain⟨a,b⟩:=f
 unfold t7 mvV
 simp only
 by_cases c:v=b
 ·rw[if_pos (by simp[c]),if_pos c]
 ·rw[if_neg (by simp[c]),if_neg c]
  by_cases c2:v>b
  ·rw[if_pos (by simp[c2]),if_pos c2,w64 (by omega) (by omega)]
  ·rw[if_neg (by simp;omega),if_neg c2]
theorem E0j{f:H5}{v:Int}(a:0<=v/\v<1000)(hf:0<=f.1/\f.1<1000):J0 (mvV f v):=by
 unfold mvV
 split
 ·exact⟨by omega,by omega⟩
 ·split
  ·exact⟨by omega,by omega⟩
  ·exact⟨by omega,by omega⟩
theorem B0l(es:List Q0)(f:H5)(r n:Int)(s:es.length<=1000)(o:∀ e∈es,(0<=e.1/\e.1<1000)/\(0<=e.2.2/\e.2.2<1000))(hf:0<=f.1/\f.1<f.2)(q:f.2<1000):∀(d k fuel:Nat) (acc:List Q0),k+d=es.length->d<fuel->acc.length<=k ->
  o5 es f.1 f.2 fuel (k:Int) r n acc=some (r,n,B5 S0 acc ((es.drop k).map (mvE f)))
 |d,k,0,acc,l,m,j=>by omega
 |0,k,fuel+1,acc,l,m,j=>by
  rw[o5.eq_2,if_neg (by simp;omega),V1 (by omega)]
  rfl
 |d+1,k,fuel+1,acc,l,m,j=>by
  have c:k<es.length:=by omega
  have g:=P4 c
  have a:=o _ (List.getElem_mem c)
  generalize es[k]=b at g a
  obtain⟨h,p,i⟩:=b
  simp only at a
  have t:=c04 (mvE f (h,p,i)) acc
  rw[o5.eq_2,if_pos (by simp;omega),B3 g,oB]
  simp only[]
  rw[U0o h (f.1,f.2) a.1 hf,oB,H0 (E0j a.1 ⟨hf.1,by show f.1<1000;omega⟩),oB,U0o i (f.1,f.2) a.2 hf,oB,H0 (E0j a.2 ⟨hf.1,by show f.1<1000;omega⟩),oB,
   G05 acc _ (by omega),oB,A3 c (by omega),C2 g,List.map_cons]
  exact B0l es f r n s o hf q d (k+1) fuel _ (by omega) (by omega) (Nat.le_trans t (by omega))
theorem C0l{g:j0}{f:H5}(d:T0 g=true)(hf:okF g f):M8 g f=some (S02 g f,true):=by
 obtain⟨k,o,l,m⟩:=Q1 d
 have i:=j7 g (by omega)
 obtain⟨c,f2,f3⟩:=hf
 obtain⟨r,n,es⟩:=g
 obtain⟨a,b⟩:=f
 simp only at c f2 f3 l m
 have h:=B0l es (a,b) r (IntKind.i64.wrap (n-1)) (by omega) (λe j=>by
  have:=k e j
  simp only at this
  exact⟨⟨by omega,by omega⟩,by omega,by omega⟩) ⟨c,f2⟩ (by simp only;omega) es.length 0 Y0 [] (by omega) (M1 (by omega)) (Nat.le_refl _)
 unfold M8
 simp only[i,d,oB]
 rw[if_neg (by simp;omega),show(0:Int)=((0:Nat):Int) from rfl,h,w64 (by omega) (by omega)]
 rfl
theorem D0l(es:List Q0)(f:H5)(s:es.length<=1000)(n:∀ e∈es,(0<=e.1/\e.1<1000)/\(0<=e.2.2/\e.2.2<1000))(hf:0<=f.1/\f.1<1000):∀(d k fuel:Nat),k+d=es.length->d<fuel ->
  p5 es f.1 f.2 fuel (k:Int) ((es.take k).map (mvE f)++es.drop k)=some (es.map (mvE f))
 |d,k,0,j,l=>by omega
 |0,k,fuel+1,j,l=>by
  rw[p5.eq_2,if_neg (by simp;omega),V1 (by omega),List.append_nil,List.take_of_length_le (by omega)]
 |d+1,k,fuel+1,j,l=>by
  have g:k<es.length:=by omega
  have c:=P4 g
  have a:=n _ (List.getElem_mem g)
  generalize es[k]=b at c a
  have m:((es.take k).map (mvE f)).length=k:=by simp;omega
  have q:((es.take k).map (mvE f)++es.drop k)[k]?=some b:=by
   rw[List.getElem?_append_right (by omega),m,C2 c];simp
  have t:∀ y,((es.take k).map (mvE f)++es.drop k).set k y=(es.take k).map (mvE f)++y::es.drop (k+1):=λy=>by
   rw[List.set_append_right _ _ (by omega),m,C2 c];simp
  obtain⟨h,p,i⟩:=b
  simp only at a
  have e:(es.take (k+1)).map (mvE f)++es.drop (k+1)=(es.take k).map (mvE f)++mvE f (h,p,i)::es.drop (k+1):=by
   rw[k0l c];simp
  have o:=D0l es f s n hf d (k+1) fuel (by omega) (by omega)
  rw[e]at o
  rw[p5.eq_2,if_pos (by simp;omega),B3 q,oB]
  simp only[]
  rw[A0l h (f.1,f.2) a.1,oB,H0 (E0j a.1 hf),oB,A0l i (f.1,f.2) a.2,oB,H0 (E0j a.2 hf),oB]
  simp only[oB]
  rw[show((k:Nat):Int).toNat=k from Int.toNat_natCast k,t,A3 g (by omega)]
  exact o
theorem E0l{g:j0}{f:H5}(d:T0 g=true)(hf:okF g f):N8 g f=some (S02 g f,true):=by
 obtain⟨l,p,m,o⟩:=Q1 d
 have i:=M01 g (by omega)
 have j:=o02 g (by omega)
 obtain⟨c,f2,f3⟩:=hf
 obtain⟨r,n,es⟩:=g
 obtain⟨a,b⟩:=f
 simp only at c f2 f3 m o
 have h:=D0l es (a,b) (by omega) (λe k=>by
  have:=l e k
  simp only at this
  exact⟨⟨by omega,by omega⟩,by omega,by omega⟩) ⟨c,by simp only;omega⟩ es.length 0 Y0 (by omega) (M1 (by omega))
 simp only[List.take_zero,List.map_nil,List.nil_append,List.drop_zero]at h
 unfold N8
 simp only[i,j,d,oB]
 rw[if_neg (by simp;omega),show(0:Int)=((0:Nat):Int) from rfl,h,oB,e09 _ (by simp;omega),oB,w64 (by omega) (by omega)]
 rfl
def f03(g:j0):j0×H5×Bool:=bif T0 g then(match Y9 g.2.2 with
 | []=>(g,(0,0),false)
 |f::_=>(S02 g f,f,true))else(g,(0,0),false)
theorem i09(g:j0)(j:g.2.2.length<=1099511627776):z02 g=some (f03 g):=by
 have c:=l0e g (by omega)
 have d:=v00 g j
 have i:∀ f,T0 g=true->okF g f->M8 g f=some (S02 g f,true):=λf a b=>C0l a b
 have h:T0 g=true->∀ f∈Y9 g.2.2,okF g f:=o06
 unfold g04 at c
 unfold f03
 obtain⟨r,n,es⟩:=g
 unfold z02
 simp only[c,oB]
 cases hg:T0 (r,n,es)with
 |false=>simp only[cond_false,Bool.not_false,if_true,d,oB]
 |true =>
  simp only[cond_true]
  simp only at h
  cases e:Y9 es with
  |nil=>simp only[Bool.not_false,if_true,d,oB]
  |cons f l =>
   simp only[Bool.not_true,Bool.false_eq_true,if_false,i f hg (h hg f (by rw[e];exact mS)),oB]
theorem j09(g:j0)(j:g.2.2.length<=1099511627776):A02 g=some (f03 g):=by
 have c:=k0e g (by omega)
 have d:=o02 g j
 have i:∀ f,T0 g=true->okF g f->N8 g f=some (S02 g f,true):=λf a b=>E0l a b
 have h:T0 g=true->∀ f∈Y9 g.2.2,okF g f:=o06
 unfold g04 at c
 unfold f03
 obtain⟨r,n,es⟩:=g
 unfold A02
 simp only[c,oB]
 cases hg:T0 (r,n,es)with
 |false=>simp only[cond_false,Bool.not_false,if_true,d,oB]
 |true =>
  simp only[cond_true]
  simp only at h
  cases e:Y9 es with
  |nil=>simp only[Bool.not_false,if_true,d,oB]
  |cons f l =>
   simp only[Bool.not_true,Bool.false_eq_true,if_false,i f hg (h hg f (by rw[e];exact mS)),oB]
def E0u:(j0×g00) ⊕ (Int×Int×V0×(List H5))->Option (j0×g00):=λX=>h8 X (λS=>match S with
 |(a,b,c,e)=>some ((a,b,c),e))
theorem k0g:∀(d k fuel:Nat) (g:j0) (acc:List H5),k+d=40->d<fuel->T0 g=true->acc.length=k ->
  (r7 fuel (k:Int) g.1 g.2.1 g.2.2 acc).bind E0u=some ((z03 d g).1,acc++(z03 d g).2)
 |d,k,0,g,acc,h,hf,a,c=>by omega
 |0,k,fuel+1,g,acc,h,hf,a,c=>by
  rw[r7.eq_2,if_neg (by simp;omega)]
  simp[E0u,h8,z03]
 |d+1,k,fuel+1,g,acc,h,hf,a,c=>by
  have b:=i09 g (by have:=(Q1 a).2.2.2;omega)
  have i:=o06 a
  unfold f03 at b
  rw[a]at b
  simp only[cond_true]at b
  rw[r7.eq_2,if_pos (by simp;omega),show(g.1,g.2.1,g.2.2)=g from rfl,b]
  unfold z03
  cases e:Y9 g.2.2 with
  |nil=>simp[E0u,h8]
  |cons f l =>
   have j:=k0g d (k+1) fuel (S02 g f) (acc ++ [f]) (by omega) (by omega) (N06 a (i f (by rw[e];exact mS))) (by simp[c])
   simp only[oB,Bool.not_true,Bool.false_eq_true,if_false]
   rw[H0 (by simp;omega),oB,A3 (show k<1000 by omega) (by omega)]
   refine j.trans ?_
   simp
theorem g0h(g:j0)(b:g.2.2.length<=1099511627776):c03 g=some (b02 g):=by
 have a:=i09 g b
 have c:=v00 g b
 have d:=k0g 40 0 Y0 g [] rfl (M1 (by omega))
 unfold b02
 obtain⟨r,n,es⟩:=g
 unfold c03
 simp only[c,oB]
 cases hg:T0 (r,n,es)with
 |false =>
  unfold f03 at a
  rw[hg]at a
  simp only[cond_false]at a
  rw[show Y0=(Y0-1)+1 from rfl,r7.eq_2,if_pos (by simp),a]
  rfl
 |true=>exact d hg rfl
theorem l0g:∀(d fuel:Nat) (g:j0) (acc:List H5),d<fuel->T0 g=true->Y9 (z03 d g).1.2.2 = []->acc.length+d<=1000 ->
  O8 fuel g.1 g.2.1 g.2.2 acc=some (.inl ((z03 d g).1,acc++(z03 d g).2))
 |d,0,g,acc,hf,a,c,j=>by omega
 |d,fuel+1,g,acc,hf,a,c,j=>by
  have b:=j09 g (by have:=(Q1 a).2.2.2;omega)
  have i:=o06 a
  unfold f03 at b
  rw[a]at b
  simp only[cond_true]at b
  rw[O8.eq_2,show(g.1,g.2.1,g.2.2)=g from rfl,b]
  cases e:Y9 g.2.2 with
  |nil =>
   have h:z03 d g=(g,[]):=by
    cases d with
    |zero=>rfl
    |succ d=>unfold z03;rw[e]
   rw[h]
   simp
  |cons f l =>
   cases d with
   |zero=>exact absurd e (by rw[show Y9 g.2.2 = [] from c];simp)
   |succ d =>
    have h:z03 (d+1) g=((z03 d (S02 g f)).1,f::(z03 d (S02 g f)).2):=by
     show(match Y9 g.2.2 with | []=>(g,[])|f::_=>((z03 d (S02 g f)).1,f::(z03 d (S02 g f)).2))=_
     rw[e]
    rw[h]at c ⊢
    have k:=l0g d fuel (S02 g f) (acc ++ [f]) (by omega) (N06 a (i f (by rw[e];exact mS))) c (by simp;omega)
    simp only[oB,Bool.not_true,Bool.false_eq_true,if_false]
    rw[H0 (by simp;omega),oB]
    refine k.trans ?_
    simp
theorem h0h(g:j0)(c:g.2.2.length<=1099511627776):e03 g=some (b02 g):=by
 have b:=j09 g c
 have d:=o02 g c
 have e:=l0g 40 Y0 g [] (M1 (by omega))
 have f:T0 g=true->Y9 (z03 40 g).1.2.2 = []:=λa=>Q0a 40 a (by have:=(Q1 a).2.2.1;omega)
 unfold b02
 obtain⟨r,n,es⟩:=g
 unfold e03
 simp only[d,oB]
 cases a:T0 (r,n,es)with
 |false =>
  unfold f03 at b
  rw[a]at b
  simp only[cond_false]at b
  rw[show Y0=(Y0-1)+1 from rfl,O8.eq_2,b]
  rfl
 |true =>
  have h:=e a (f a) (by simp)
  simp only at h
  rw[h]
  rfl
theorem m0q{g:j0}(h:T0 g=true):Asc S0 g.2.2:=((r00 g).1 h).2.2.2.2
def stp(u x v:Int):Q0:=if x<0 then(v,-x,u)else(u,x,v)
def w05(v:Int):List Int->Int->Int->List Q0
 | [],_,_=>[]
 | [x],u,_=>[stp u x v]
 |x::y::r,u,n=>stp u x n::w05 v (y::r) n (n+1)
theorem n0i(v:Int):∀(w:List Int) (u n:Int),(w05 v w u n).length=w.length
 | [],_,_=>rfl
 | [x],_,_=>rfl
 |x::y::r,u,n=>by simp only[w05,List.length_cons,n0i v (y::r)]
theorem S0r(u x v:Int)(a:N4 x):t01 u x v=some (stp u x v):=by
 unfold t01 stp
 by_cases c:x<0
 ·rw[if_pos (by simp[c]),if_pos c,V0d a.1 a.2]
 ·rw[if_neg (by simp;omega),if_neg c]
theorem F0j(w:List Int)(v:Int)(r:Int)(h:∀ x∈w,N4 x/\x≠0)(o:w.length<=1000):∀(d k fuel:Nat) (u n:Int) (es:List Q0),k+d=w.length->d<fuel->0<=n->n<=1000+k->es.length<=1000+k ->
  V5 w v fuel u (k:Int) r n es=some (r,n+((d-1:Nat):Int),B5 S0 es (w05 v (w.drop k) u n))
 |d,k,0,u,n,es,m,hf,h0,j,l=>by omega
 |0,k,fuel+1,u,n,es,m,hf,h0,j,l=>by
  rw[V5.eq_2,if_neg (by simp;omega),V1 (by omega)]
  simp[w05,B5]
 |d+1,k,fuel+1,u,n,es,m,hf,h0,j,l=>by
  have f:k<w.length:=by omega
  have g:=P4 f
  have b:=h _ (List.getElem_mem f)
  generalize w[k]=x at g b
  have p:∀ e,(H01 S0 e es).length<=1000+(k+1):=λe=>by have:=c04 e es;omega
  rw[V5.eq_2,if_pos (by simp;omega),C2 g]
  by_cases c:k+1<w.length
  ·have i:=P4 c
   generalize w[k+1]=y at i
   have a:=F0j w v r h o d (k+1) fuel n (n+1) (H01 S0 (stp u x n) es) (by omega) (by omega) (by omega) (by omega) (p _)
   rw[C2 i]at a
   rw[A3 f (by omega),if_pos (by simp;omega),B3 g,oB,w64 (show(-9223372036854775808:Int)<=n+1 by omega) (by omega),C2 i]
   have fin:some (r,n+1+((d-1:Nat):Int),B5 S0 (H01 S0 (stp u x n) es) (w05 v (y::w.drop (k+1+1)) n (n+1)))=some (r,n+((d+1-1:Nat):Int),B5 S0 es (w05 v (x::y::w.drop (k+1+1)) u n)):=by
    simp only[w05,B5]
    congr 3
    omega
   by_cases c2:x>0
   ·have e:stp u x n=(u,x,n):=by unfold stp;rw[if_neg (by omega)]
    rw[if_pos (by simp[c2])]
    simp only[oB]
    rw[G05 es _ (by omega),oB,←e]
    exact a.trans fin
   ·have e:stp u x n=(n,-x,u):=by unfold stp;rw[if_pos (by omega)]
    rw[if_neg (by simp;omega)]
    simp only[oB]
    rw[V0d b.1.1 b.1.2,G05 es _ (by omega),oB,←e]
    exact a.trans fin
  ·have q:d=0:=by omega
   subst q
   have a:=F0j w v r h o 0 (k+1) fuel v n (H01 S0 (stp u x v) es) (by omega) (by omega) h0 (by omega) (p _)
   rw[V1 (show k+1=w.length by omega)]at a ⊢
   rw[A3 f (by omega),if_neg (by simp;omega),B3 g,oB]
   have fin:some (r,n+((0-1:Nat):Int),B5 S0 (H01 S0 (stp u x v) es) (w05 v [] v n))=some (r,n+((0+1-1:Nat):Int),B5 S0 es (w05 v [x] u n)):=by
    simp[w05,B5]
   by_cases c2:x>0
   ·have e:stp u x v=(u,x,v):=by unfold stp;rw[if_neg (by omega)]
    rw[if_pos (by simp[c2])]
    simp only[oB]
    rw[G05 es _ (by omega),oB,←e]
    exact a.trans fin
   ·have e:stp u x v=(v,-x,u):=by unfold stp;rw[if_pos (by omega)]
    rw[if_neg (by simp;omega)]
    simp only[oB]
    rw[V0d b.1.1 b.1.2,G05 es _ (by omega),oB,←e]
    exact a.trans fin
theorem i0n{es p:List Q0}(a:Asc S0 es):B5 S0 [] (es++p)=B5 S0 es p :=
 M0a P6 (M04 P6 _ _ .nil) (M04 P6 _ _ a) λx=>by
  rw[R00 P6,R00 P6];simp
def p03(g:j0)(u:Int)(w:List Int)(v:Int):j0×Bool :=
 bif !w.isEmpty&&decide (g.2.1+(w.length:Int)-1<=40)&&decide (g.2.2.length+w.length<=120)then((g.1,g.2.1+((w.length-1:Nat):Int),B5 S0 g.2.2 (w05 v w u g.2.1)),true)else(g,false)
theorem V0o{r:Int}{w:List Int}(h:x00 r w=true):w.length<=24/\∀ x∈w,N4 x/\x≠0 /\ -r<=x/\x<=r:=by
 have a:=h
 simp only[x00,Bool.and_eq_true,decide_eq_true_eq]at a
 refine⟨a.1.2,λx c=>?_⟩
 obtain⟨i,b⟩:=List.getElem?_of_mem c
 have:=c0l h b
 exact⟨⟨⟨by omega,by omega⟩,by omega⟩,this.2.2⟩
theorem i0h{g:j0}{u v:Int}{w:List Int}(d:T0 g=true)(f:0<=u/\u<g.2.1)(i:0<=v/\v<g.2.1)(j:x00 g.1 w=true):a03 g u w v=some (p03 g u w v):=by
 obtain⟨y,z,p,q⟩:=Q1 d
 obtain⟨A,k⟩:=V0o j
 have l:=j7 g (by omega)
 have m:=v00 g (by omega)
 have b:=J0b g.1 w (by omega)
 obtain⟨r,n,es⟩:=g
 simp only at p q f i b
 have o:IntKind.i64.wrap (n-1)=n-1:=w64 (by omega) (by omega)
 have e:∀ x:Int,0<=x/\x<n->inR 0 (n-1) x=true:=λx a=>by simp[inR];omega
 have h:=F0j w v r (λx a=>⟨(k x a).1,(k x a).2.1⟩) (by omega) w.length 0 Y0 u n es (by omega) (M1 (by omega)) (by omega) (by omega) (by omega)
 unfold a03 p03
 simp only[l,m,d,oB,Bool.not_true,Bool.not_false,Y1,cond_false,o,A03,e u f,e v i,b,j]
 rw[w64 (show(-9223372036854775808:Int)<=n+((w.length:Nat):Int) by omega) (by omega),w64 (show(-9223372036854775808:Int)<=n+((w.length:Nat):Int)-1 by omega) (by omega),w64 (show(-9223372036854775808:Int)<=((es.length:Nat):Int)+((w.length:Nat):Int) by omega) (by omega)]
 by_cases c:(w≠[]/\n+(w.length:Int)-1<=40)/\es.length+w.length<=120
 ·have t:w.length≠0:=by simpa using c.1.1
  rw[if_neg (by simp only[Bool.not_eq_true];simp[c.1.1];omega),show(0:Int)=((0:Nat):Int) from rfl,h,oB]
  rw[show(!w.isEmpty&&decide (n+(w.length:Int)-1<=40)&&decide (es.length+w.length<=120))=true by simp[c.1.1,c.1.2,c.2]]
  rfl
 ·rw[show(!w.isEmpty&&decide (n+(w.length:Int)-1<=40)&&decide (es.length+w.length<=120))=false by
   rw[←Bool.not_eq_true];simpa using c]
  rw[if_pos ?_]
  ·rfl
  ·by_cases d1:w = []
   ·simp[d1]
   ·by_cases d2:n+(w.length:Int)-1<=40
    ·have s : ¬ es.length+w.length<=120:=λh=>c ⟨⟨d1,d2⟩,h⟩
     have:decide (((es.length:Nat):Int)+((w.length:Nat):Int)>120)=true:=by simp;omega
     rw[this];simp
    ·have:decide (n+((w.length:Nat):Int)-1>40)=true:=by simp;omega
     rw[this];simp
theorem r0t{es:List Q0}{e:Q0}(a:Asc S0 es)(b:e∈es):H01 S0 e es=es :=
 M0a P6 (I0b P6 _ _ a) a λx=>by
  rw[i06 P6]
  constructor
  ·rintro(rfl|h)
   ·exact b
   ·exact h
  ·exact .inr
theorem m0g(e:Q0):∀ {es:List Q0},e ∉ es->(H01 S0 e es).length=es.length+1
 | [],_=>rfl
 |y::l,h=>by
  have d:=m0g e (es:=l) λb=>h (mC _ b)
  unfold H01
  split
  ·rfl
  ·split
   ·rename_i c
    exact absurd (P6.eq _ _ c) λa=>h (by rw[a];exact mS)
   ·simp only[List.length_cons,d]
def P04(g:j0)(e:Q0):j0×Bool:=bif decide (g.2.2.length<120) && !decide (e∈g.2.2)then((g.1,g.2.1,H01 S0 e g.2.2),true)else(g,false)
def T0r(g:j0)(e:Q0):Prop:=(0<=e.1/\e.1<g.2.1)/\(0<=e.2.2/\e.2.2<g.2.1)/\1<=e.2.1/\e.2.1<=g.1
theorem F0u{g:j0}(b:T0 g=true){e:Q0}(a:T0r g e):r05 g.1 (IntKind.i64.wrap (g.2.1-1)) e=true:=by
 obtain⟨c,d,f,h⟩:=Q1 b
 rw[w64 (by omega) (by omega)]
 unfold T0r at a
 simp only[r05,inR,Bool.and_eq_true,decide_eq_true_eq]
 omega
theorem j0h{g:j0}{e:Q0}(a:T0 g=true)(o:T0r g e):d03 g e=some (P04 g e):=by
 obtain⟨q,s,t,p⟩:=Q1 a
 have l:=j7 g (by omega)
 have m:=v00 g (by omega)
 have i:=g0l g e
 rw[F0u a o]at i
 have j:=G05 g.2.2 e (by omega)
 have k:=m0q a
 obtain⟨r,n,es⟩:=g
 obtain⟨b,f,h⟩:=e
 simp only at p k j
 unfold d03 P04
 simp only[l,m,a,oB,Bool.not_true,Bool.not_false,cond_false,Y1,i]
 by_cases c:es.length<120
 ·rw[if_neg (by simp;omega),j,oB]
  by_cases d:(b,f,h)∈es
  ·rw[r0t k d]
   simp[c,d]
  ·have:=m0g (b,f,h) d
   simp only[this,c,d,decide_true,decide_false,Bool.not_false,Bool.and_true,cond_true]
   simp
   omega
 ·rw[if_pos (by simp;omega)]
  simp[c]
theorem W0o(es:List Q0)(e:Q0)(o:es.length<=140737488355328):∀(d k fuel:Nat),k+d=es.length->d<fuel ->
  ∃ X,V2 es e.1 e.2.1 e.2.2 fuel (k:Int)=some X/\((∃ i:Nat,X = .inl (i:Int)/\i<es.length/\e∈es.drop k)∨(X = .inr ()/\e ∉ es.drop k))
 |d,k,0,l,hf=>by omega
 |0,k,fuel+1,l,hf=>by
  rw[V2.eq_2,if_neg (by simp;omega),V1 (by omega)]
  exact⟨_,rfl,.inr ⟨rfl,by simp⟩⟩
 |d+1,k,fuel+1,l,hf=>by
  have a:k<es.length:=by omega
  have f:=P4 a
  generalize es[k]=b at f
  rw[V2.eq_2,if_pos (by simp;omega),B3 f,oB,C2 f]
  simp only[]
  by_cases c:eqE e b=true
  ·rw[if_pos c]
   refine⟨_,rfl,.inl ⟨k,rfl,a,?_⟩⟩
   rw[(F0e _ _).1 c]
   exact mS
  ·rw[if_neg c,A3 a (by omega)]
   obtain⟨X,m,n⟩:=W0o es e o d (k+1) fuel (by omega) (by omega)
   refine⟨X,m,?_⟩
   have p:e≠b:=λh=>c ((F0e _ _).2 h)
   rcases n with⟨i,g,j,q⟩|⟨g,j⟩
   ·exact .inl ⟨i,g,j,mC _ q⟩
   ·refine .inr ⟨g,λh=>?_⟩
    rcases List.mem_cons.1 h with h|h
    ·exact p h
    ·exact j h
theorem j0n(es:List Q0)(e:Q0)(b:es.length<=140737488355328):U3 es e=some (decide (e∈es)):=by
 obtain⟨X,d,a⟩:=W0o es e b es.length 0 Y0 (by omega) (M1 b)
 obtain⟨g,h,j⟩:=e
 unfold U3 G5
 simp only
 simp only[List.drop_zero]at a
 rw[show(0:Int)=((0:Nat):Int) from rfl,d]
 rcases a with⟨i,rfl,c,f⟩|⟨rfl,c⟩
 ·simp only[oB,L3]
  rw[H0 (show J0 ((i:Nat):Int) from⟨by omega,by omega⟩)]
  simp[f]
 ·simp only[oB,Z0]
  rw[H0 (show J0 (-1) from⟨by omega,by omega⟩)]
  simp[c]
theorem n0g:∀(d i:Nat) (x:Int),x∈w4 d i->∃ j:Nat,i<=j/\j<i+d/\(x=(j:Int)∨x = -(j:Int))
 |0,i,x,h=>by simp[w4]at h
 |d+1,i,x,h=>by
  simp only[w4,List.mem_cons]at h
  rcases h with rfl|rfl|h
  ·exact⟨i,Nat.le_refl _,by omega,.inl rfl⟩
  ·exact⟨i,Nat.le_refl _,by omega,.inr rfl⟩
  ·obtain⟨j,b,c,a⟩:=n0g d (i+1) x h
   exact⟨j,by omega,by omega,a⟩
theorem k0n(g:Nat):∀(d k:Nat) (x:Int),x∈wo g d k->∃ j:Nat,x=(j:Int)/\k<=j/\j<k+d
 |0,k,x,h=>nomatch h
 |d+1,k,x,h=>by
  unfold wo at h
  split at h
  ·obtain⟨j,a,b,c⟩:=k0n g d (k+1) x h
   exact⟨j,a,by omega,by omega⟩
  ·rcases List.mem_cons.1 h with rfl|h
   ·exact⟨k,rfl,Nat.le_refl _,by omega⟩
   ·obtain⟨j,a,b,c⟩:=k0n g d (k+1) x h
    exact⟨j,a,by omega,by omega⟩
theorem e0c(g:Nat):∀(d k:Nat),(wo g d k).Nodup
 |0,k=>List.nodup_nil
 |d+1,k=>by
  unfold wo
  split
  ·exact e0c g d (k+1)
  ·refine List.nodup_cons.2 ⟨λh=>?_,e0c g d (k+1)⟩
   obtain⟨j,a,b,c⟩:=k0n g d (k+1) _ h
   omega
theorem G0j(P:List Int):∀(es:List Q0),∀ e∈pE P es,∃ a∈es,e=(getI P a.1,a.2.1,getI P a.2.2)/\0<=getI P a.1/\0<=getI P a.2.2
 | [],e,h=>nomatch h
 |b::r,e,h=>by
  unfold pE at h
  cases hb:decide (0<=getI P b.1)&&decide (0<=getI P b.2.2)
  ·rw[hb]at h
   obtain⟨a,c,d⟩:=G0j P r e h
   exact⟨a,mC _ c,d⟩
  ·rw[hb]at h
   simp only[Bool.and_eq_true,decide_eq_true_eq]at hb
   rcases List.mem_cons.1 h with rfl|h
   ·exact⟨b,mS,rfl,hb.1,hb.2⟩
   ·obtain⟨a,c,d⟩:=G0j P r e h
    exact⟨a,mC _ c,d⟩
theorem o0g{g:j0}{o:List Int}(f:T0 g=true)(b:inV g.2.1.toNat o)(p:1<=o.length)(q:o.length<=40):T0 (N01 g o)=true:=by
 obtain⟨k,l,t,u⟩:=Q1 f
 have s:=x0j (plc g.2.1.toNat o) g.2.2
 refine H05 l ⟨by omega,by omega⟩ (by omega) λe d=>?_
 obtain⟨a,c,rfl,i,j⟩:=G0j _ _ e d
 have h:=k a c
 have m:=(y07 b (x:=a.1) (by omega)).2
 have n:=(y07 b (x:=a.2.2) (by omega)).2
 exact⟨⟨i,m⟩,⟨j,n⟩,h.2.2⟩
theorem p0g{n:Nat}:∀(o:List Int) (k:Nat) (A:List Int),A.length=n->inV n o->o.Nodup->(∀ x,0<=x->getI A x<(k:Int))->(∀ x y,0<=x->0<=y->0<=getI A x->getI A x=getI A y->x=y) ->
  ∀ x y,0<=x->0<=y->0<=getI (r04 A k o) x->getI (r04 A k o) x=getI (r04 A k o) y->x=y
 | [],k,A,h,e,i,c,d=>d
 |v::r,k,A,h,e,i,c,d=>by
  have f:=e v mS
  refine p0g r (k+1) (A.set v.toNat (k:Int)) (by simp[h]) (λw j=>e w (mC _ j)) (List.nodup_cons.1 i).2 (λx b=>?_) (λx y b g h0 a=>?_)
  ·rw[F03 f.1 (by omega) b]
   have:=c x b
   split<;>omega
  ·rw[F03 f.1 (by omega) b]at h0 a
   rw[F03 f.1 (by omega) g]at a
   have l:=c x b
   have m:=c y g
   by_cases c1:x=v
   ·by_cases c2:y=v
    ·rw[c1,c2]
    ·rw[if_pos c1,if_neg c2]at a;omega
   ·by_cases c2:y=v
    ·rw[if_neg c1,if_pos c2]at a;omega
    ·rw[if_neg c1]at h0;rw[if_neg c1,if_neg c2]at a
     exact d x y b g h0 a
theorem X0o{n:Nat}{o:List Int}(d:inV n o)(b:o.Nodup){x y:Int}(a:0<=x)(e:0<=y)(h0:0<=getI (plc n o) x)(c:getI (plc n o) x=getI (plc n o) y):x=y:=by
 refine p0g o 0 (List.replicate n (-1)) (by simp) d b (λx a=>by rw[g09];omega) (λx y _ _ h _=>by rw[g09]at h;omega) x y a e h0 c
theorem U0r{es:List Q0}(h:es.Pairwise λa b=>s05 a b=false){a b:Q0}(f:a∈es)(i:b∈es)(k:a≠b):s05 a b=false:=by
 induction es with
 |nil=>cases f
 |cons c r l =>
  obtain⟨e,j⟩:=List.pairwise_cons.1 h
  rcases List.mem_cons.1 f with rfl|g
  ·rcases List.mem_cons.1 i with rfl|d
   ·exact absurd rfl k
   ·exact e b d
  ·rcases List.mem_cons.1 i with rfl|d
   ·rw[i0d];exact e a g
   ·exact l j g d
theorem s0t{es:List Q0}(i:Asc S0 es)(h:∀ a∈es,∀ b∈es,a≠b->s05 a b=false):es.Pairwise λa b=>s05 a b=false:=by
 induction es with
 |nil=>exact .nil
 |cons c r k =>
  obtain⟨f,g⟩:=List.pairwise_cons.1 i
  refine List.pairwise_cons.2 ⟨λb d=>h c mS b (mC _ d) λe=>?_,k g λa j b d=>h a (mC _ j) b (mC _ d)⟩
  have:=f b d
  rw[e,P6.refl]at this;omega
theorem s0d{g:j0}(c:T0 g=true):M0 g=true↔∀ a∈g.2.2,∀ b∈g.2.2,a≠b->s05 a b=false:=by
 rw[j0g,r0d]
 exact⟨λh a d b e f=>U0r h.2 d e f,λh=>⟨c,s0t (graph_asc' c) h⟩⟩
where graph_asc' {g:j0} (h:T0 g=true):Asc S0 g.2.2:=((r00 g).1 h).2.2.2.2
theorem F0l{g:j0}{o:List Int}(hf:M0 g=true)(j:inV g.2.1.toNat o)(m:o.Nodup)(s:1<=o.length)(t:o.length<=40):M0 (N01 g o)=true:=by
 have i:=Z1 hf
 obtain⟨n,F,G,H⟩:=Q1 i
 refine(s0d (o0g i j s t)).2 λa u b v z=>?_
 have mem:∀ e∈(N01 g o).2.2,∃ a∈g.2.2,e=(getI (plc g.2.1.toNat o) a.1,a.2.1,getI (plc g.2.1.toNat o) a.2.2)/\0<=getI (plc g.2.1.toNat o) a.1/\0<=getI (plc g.2.1.toNat o) a.2.2:=λe y=>by
  rcases(R00 P6 e _ _).1 y with h|h
  ·cases h
  ·exact G0j _ _ e h
 obtain⟨d,k,rfl,B,C⟩:=mem a u
 obtain⟨f,l,rfl,D,E⟩:=mem b v
 have A:d≠f:=λe=>z (by rw[e])
 have c:=(s0d i).1 hf d k f l A
 have p:=n d k
 have q:=n f l
 unfold s05 at c ⊢
 simp only[Bool.and_eq_false_iff,Bool.or_eq_false_iff,decide_eq_false_iff_not]at c ⊢
 rcases c with c|⟨w,x⟩
 ·exact .inl c
 ·exact .inr ⟨λe=>w (X0o j m p.1.1 q.1.1 B e),λe=>x (X0o j m p.2.1.1 q.2.1.1 C e)⟩
def B07:Nat->j0->j0
 |0,g=>g
 |d+1,g=>match P02 g with
  |none=>g
  |some k=>B07 d (N01 g (wo k g.2.1.toNat 0))
theorem Y0o{g:j0}{k:Nat}(h:P02 g=some k):1<=k/\k<g.2.1.toNat:=by
 have:=h09 _ _ _ h
 omega
theorem o0i{g:j0}(b:T0 g=true){k:Nat}(h:P02 g=some k):inV g.2.1.toNat (wo k g.2.1.toNat 0)/\(wo k g.2.1.toNat 0).length=g.2.1.toNat-1/\1<=(wo k g.2.1.toNat 0).length/\(wo k g.2.1.toNat 0).length<=40:=by
 obtain⟨d,e,f,i⟩:=Q1 b
 have c:=Y0o h
 have a:=z0j k g.2.1.toNat 0
 rw[if_pos (by omega)]at a
 exact⟨F0o k _ _ 0 (by omega),a,by omega,by omega⟩
theorem I05:∀(d:Nat) {g:j0},M0 g=true->M0 (B07 d g)=true
 |0,g,h=>h
 |d+1,g,h=>by
  unfold B07
  cases e:P02 g with
  |none=>exact h
  |some k =>
   obtain⟨a,f,b,c⟩:=o0i (Z1 h) e
   exact I05 d (F0l h a (e0c _ _ _) b c)
theorem q0g(n g:Nat)(i:n<=1000)(u:List Int)(j:u.length=n):∀(d k fuel:Nat) (acc a:List Int),k+d=n->d<fuel->acc.length<=k->a.length<=k ->
  ∃ v,A6 (n:Int) (g:Int) u fuel (k:Int) acc a=some (acc++wo g d k,v)/\v.length+acc.length=a.length+(acc++wo g d k).length
 |d,k,0,acc,a,h,hf,b,f=>by omega
 |0,k,fuel+1,acc,a,h,hf,b,f=>by
  rw[A6.eq_2,if_neg (by simp;omega)];exact⟨a,by simp[wo],by simp[wo]⟩
 |d+1,k,fuel+1,acc,a,h,hf,b,f=>by
  have l:=P4 (show k<u.length by omega)
  generalize u[k]=x at l
  rw[A6.eq_2,if_pos (by simp;omega),A3 (show k<10000 by omega) (by omega)]
  unfold wo
  by_cases c:k=g
  ·have e:decide ((k:Int)=(g:Int))=true:=decide_eq_true (by omega)
   rw[e,if_neg (by simp),if_pos c]
   exact q0g n g i u j d (k+1) fuel acc a (by omega) (by omega) (by omega) (by omega)
  ·have e:decide ((k:Int)=(g:Int))=false:=decide_eq_false (by omega)
   rw[e,if_pos (show(!false)=true from rfl),if_neg c,H0 (by simp;omega),oB,B3 l,oB,H0 (by simp;omega),oB]
   obtain⟨v,m,o⟩:=q0g n g i u j d (k+1) fuel (acc ++ [(k:Int)]) (a ++ [x]) (by omega) (by omega) (by simp;omega) (by simp;omega)
   refine⟨v,by rw[m];simp,?_⟩
   simp only[List.length_append,List.length_cons,List.length_nil]at o ⊢
   omega
theorem G0l(g:j0)(a:T0 g=true):∀(d k fuel:Nat) (acc:List Int),k+d=g.2.1.toNat->d<fuel->acc.length=k ->
  ∃ u,Z6 g.2.1 g.1 g.2.2 fuel (k:Int) acc=some u/\u.length=g.2.1.toNat
 |d,k,0,acc,c,hf,b=>by omega
 |0,k,fuel+1,acc,c,hf,b=>by
  obtain⟨h,i,j,l⟩:=Q1 a
  rw[Z6.eq_2,show decide (((k:Nat):Int)<g.2.1)=false by simp;omega]
  exact⟨acc,by simp[chk],by omega⟩
 |d+1,k,fuel+1,acc,c,hf,b=>by
  obtain⟨h,i,j,l⟩:=Q1 a
  obtain⟨u,e,f⟩:=G0l g a d (k+1) fuel (acc ++ [(k:Int)]) (by omega) (by omega) (by simp;omega)
  rw[Z6.eq_2,show decide (((k:Nat):Int)<g.2.1)=true by simp;omega,Y1,show(g.1,g.2.1,g.2.2)=g from rfl,j7 g (by omega),oB,a]
  rw[if_pos (show(bif true then true else false)=true from rfl),H0 (by simp;omega),oB,A3 (show k<1000 by omega) (by omega),e]
  exact⟨u,rfl,f⟩
theorem H0l(f:j0)(n:T0 f=true):∀(d k fuel:Nat) (g:j0) (u:List Int),k+d=40->d<fuel->T0 g=true->u.length=g.2.1.toNat->g.2.1.toNat<=d+1 ->
  ∃ v,(Y6 f.1 f.2.1 f.2.2 fuel u (k:Int) g.1 g.2.1 g.2.2).bind (λX=>h8 X (λx=>match x with|(a,b,c,e)=>some ((b,c,e),a)))=some (B07 d g,v)
 |d,k,0,g,u,q,hf,h,w,s=>by omega
 |0,k,fuel+1,g,u,q,hf,h,w,s=>by
  rw[Y6.eq_2,show decide (((k:Nat):Int)<40)=false by simp;omega]
  exact⟨u,by simp[chk,h8,B07]⟩
 |d+1,k,fuel+1,g,u,q,hf,h,w,s=>by
  obtain⟨G,H,I,J⟩:=Q1 n
  obtain⟨K,L,M,O⟩:=Q1 h
  have B:=E0r g h
  rw[Y6.eq_2,show decide (((k:Nat):Int)<40)=true by simp;omega,Y1,show(f.1,f.2.1,f.2.2)=f from rfl,j7 f (by omega),oB,n]
  rw[if_pos (show(bif true then true else false)=true from rfl),show(g.1,g.2.1,g.2.2)=g from rfl,B]
  unfold B07
  cases e:P02 g with
  |none =>
   simp only[oB]
   rw[H0 (show J0 (-1) from⟨by omega,by omega⟩),oB,if_pos (by simp)]
   exact⟨u,rfl⟩
  |some j =>
   obtain⟨o,y,m,A⟩:=o0i h e
   have F:=Y0o e
   obtain⟨N,l⟩:∃ N:Nat,g.2.1=(N:Int):=⟨g.2.1.toNat,by omega⟩
   have i:g.2.1.toNat=N:=by omega
   obtain⟨v,D,E⟩:=q0g N j (by omega) u (by omega) N 0 Y0 [] [] (by omega) (M1 (by omega)) (Nat.le_refl _) (Nat.le_refl _)
   have t:=a0g g.1 N g.2.2 (wo j N 0) (by rw[←l];exact h) (by rw[←i];exact o) (e0c _ _ _) (by rw[←i];exact m) (by rw[←i];omega)
   rw[←l,show(g.1,g.2.1,g.2.2)=g from rfl]at t
   have p:=o0g h o m A
   rw[i]at p y m
   obtain⟨C,z⟩:=H0l f n d (k+1) fuel (N01 g (wo j N 0)) v (by omega) (by omega) p (by simp only[List.nil_append,List.length_nil]at E;show v.length=((wo j N 0).length:Int).toNat;omega) (by show((wo j N 0).length:Int).toNat<=d+1;omega)
   simp only[oB]
   rw[H0 (show J0 ((j:Nat):Int) from⟨by omega,by omega⟩),oB,if_neg (by simp),l,show(0:Int)=((0:Nat):Int) from rfl,D]
   simp only[oB,List.nil_append]
   rw[←l,t]
   simp only[oB]
   rw[A3 (show k<1000 by omega) (by omega),i]
   exact⟨C,z⟩
def R0a(g:j0):j0:=B07 40 g
theorem l0n{g:j0}(a:T0 g=true):∃ v,c02 g=some (R0a g,v):=by
 obtain⟨f,h,i,j⟩:=Q1 a
 have e:=v00 g (by omega)
 obtain⟨u,b,d⟩:=G0l g a g.2.1.toNat 0 Y0 [] (by omega) (M1 (by omega)) rfl
 obtain⟨v,c⟩:=H0l g a 40 0 Y0 g u rfl (M1 (by omega)) a d (by omega)
 refine⟨v,?_⟩
 obtain⟨r,n,es⟩:=g
 unfold c02
 simp only[e,oB]
 simp only at b c
 rw[show(0:Int)=((0:Nat):Int) from rfl,b,oB]
 exact c
theorem I0l:∀(n fuel d:Nat) (left:List Int) (r:Int) (es:List Q0),1<=n->n<=40->inN n es->es.length<=120->left.length=n->n<fuel->n<=d+1 ->
  ∃ i,r6 fuel left r (n:Int) es=some (.inl (B07 d (r,(n:Int),es),i))
 |n,0,d,left,r,es,j,l,b,B,C,hf,A=>by omega
 |n,fuel+1,d,left,r,es,j,l,b,B,C,hf,A=>by
  obtain⟨c,x,G,y⟩:=m0l r n es b (by omega) j (by omega)
  have t:=y0j r n es (by omega) c G l (n-1) 1 Y0 (Nat.le_refl _) (by omega) (by omega) (M1 (by omega))
  have z:lf (λv=>decide (o05 (v:Int) es<2) || !K00 c (v:Int)) (n-1) 1=lf (X0b es) (n-1) 1:=e0g _ _ λk I J=>by
   unfold X0b
   have:=y (k:Int) (by omega) (by omega)
   have m:=G0e es 0 (k:Int)
   congr 2
   cases hb:K00 c (k:Int)
   ·symm;exact decide_eq_false λh=>by rw[this.2 (m.1 h)]at hb;cases hb
   ·symm;exact decide_eq_true (m.2 (this.1 hb))
  rw[z]at t
  have o:P02 (r,(n:Int),es)=lf (X0b es) (n-1) 1:=by simp only[P02,Int.toNat_natCast]
  rw[r6.eq_2,x,oB,show(1:Int)=((1:Nat):Int) from rfl,t,oB]
  cases hlf:lf (X0b es) (n-1) 1 with
  |none =>
   have e:B07 d (r,(n:Int),es)=(r,(n:Int),es):=by
    cases d with
    |zero=>rfl
    |succ d=>unfold B07;rw[o,hlf]
   rw[e]
   exact⟨left,by rw[if_pos (by rfl)]⟩
  |some k =>
   have H:=h09 _ _ _ hlf
   have w:decide ((k:Int)=0)=false:=decide_eq_false (by omega)
   have p:=F0o k n n 0 (by omega)
   have g:=z0j k n 0
   rw[if_pos (by omega)]at g
   have s:=A0j n k (by omega) n 0 Y0 [] (by omega) (M1 (by omega)) (Nat.le_refl _)
   rw[show((0:Nat):Int)=0 from rfl,List.nil_append]at s
   have D:=a0n r n es (wo k n 0) b p (by omega) (by omega) (by omega)
   have E:=O0a (r,(n:Int),es) (wo k n 0)
   have q:=f0i (r:=r) p b
   have F:IntKind.i64.wrap ((k:Int)+((1:Nat):Int))=((k+1:Nat):Int):=by rw[w64 (by omega) (by omega)];rfl
   obtain⟨a,rfl⟩:∃ a,d=a+1:=⟨d-1,by omega⟩
   have f:N01 (r,(n:Int),es) (wo k n 0)=(r,((n-1:Nat):Int),(N01 (r,(n:Int),es) (wo k n 0)).2.2):=by rw[←g];rfl
   obtain⟨i,u⟩:=I0l (n-1) fuel a (left.take k++left.drop (k+1)) r (N01 (r,(n:Int),es) (wo k n 0)).2.2 (by omega) (by omega) (by rw[g]at q;exact q) (by simp only at E;omega) (by simp only[List.length_append,List.length_take,List.length_drop];omega) (by omega) (by omega)
   refine⟨i,?_⟩
   rw[←f]at u
   have e:B07 (a+1) (r,(n:Int),es)=B07 a (N01 (r,(n:Int),es) (wo k n 0)):=by
    show(match P02 (r,(n:Int),es)with|none=>(r,(n:Int),es)|some k=>B07 a (N01 (r,(n:Int),es) (wo k ((n:Int)).toNat 0)))=_
    rw[o,hlf,Int.toNat_natCast]
   rw[e]
   simp only[w,Bool.false_eq_true,if_false,s,oB,D]
   generalize N01 (r,(n:Int),es) (wo k n 0)=gp at *
   rw[f]
   simp only[F]
   rw[f0g (by omega),oB,O04 (by omega),oB,H0 (by simp only[List.length_take,List.length_drop];omega),oB,u,←f]
theorem J0l{g:j0}(f:T0 g=true):∃ v,J8 g=some (R0a g,v):=by
 obtain⟨b,i,j,c⟩:=Q1 f
 have m:=M01 g (by omega)
 have k:=o02 g (by omega)
 obtain⟨r,n,es⟩:=g
 simp only at i j c
 obtain⟨N,rfl⟩:∃ N:Nat,n=(N:Int):=⟨n.toNat,by omega⟩
 have l:inN N es:=λe d=>⟨(b e d).1,(b e d).2.1⟩
 obtain⟨u,a,h⟩:=B0j N (by omega) N 0 Y0 [] (by omega) (M1 (by omega)) rfl
 obtain⟨o,p⟩:=I0l N Y0 40 u r es (by omega) (by omega) l c h (M1 (by omega)) (by omega)
 refine⟨o,?_⟩
 unfold J8
 rw[show((0:Nat):Int)=0 from rfl]at a
 simp only[k,oB,m,f,Bool.not_true,Bool.false_eq_true,if_false,a,p,h8]
 rfl
theorem V0r{N r u x v:Int}(a:0<=u/\u<N)(b:0<=v/\v<N)(c:x≠0 /\ -r<=x/\x<=r):(0<=(stp u x v).1/\(stp u x v).1<N)/\(0<=(stp u x v).2.2/\(stp u x v).2.2<N)/\1<=(stp u x v).2.1/\(stp u x v).2.1<=r:=by
 unfold stp
 split<;>(simp only;omega)
theorem K0l{N r v:Int}(f:0<=v/\v<N):∀(w:List Int) (u n:Int),(0<=u/\u<N)->0<=n->n+((w.length-1:Nat):Int)<=N->(∀ x∈w,x≠0 /\ -r<=x/\x<=r) ->
  ∀ e∈w05 v w u n,(0<=e.1/\e.1<N)/\(0<=e.2.2/\e.2.2<N)/\1<=e.2.1/\e.2.1<=r
 | [],u,n,c,h0,d,b,e,a=>nomatch a
 | [x],u,n,c,h0,d,b,e,a=>by
  simp only[w05,List.mem_singleton]at a
  subst a
  exact V0r c f (b x mS)
 |x::y::l,u,n,c,h0,d,b,e,a=>by
  simp only[List.length_cons]at d
  simp only[w05]at a
  rcases List.mem_cons.1 a with rfl|a
  ·exact V0r c ⟨h0,by omega⟩ (b x mS)
  ·exact K0l f (y::l) n (n+1) ⟨h0,by omega⟩ (by omega) (by simp only[List.length_cons];omega) (λz g=>b z (mC _ g)) e a
theorem u0a{g:j0}{u v:Int}{w:List Int}(b:T0 g=true)(o:0<=u/\u<g.2.1)(p:0<=v/\v<g.2.1)(c:x00 g.1 w=true):T0 (p03 g u w v).1=true:=by
 obtain⟨f,i,q,s,j⟩:=(r00 g).1 b
 obtain⟨t,k⟩:=V0o c
 unfold p03
 cases hc:(!w.isEmpty&&decide (g.2.1+(w.length:Int)-1<=40)&&decide (g.2.2.length+w.length<=120))with
 |false=>exact b
 |true =>
  simp only[Bool.and_eq_true,decide_eq_true_eq,Bool.not_eq_true',List.isEmpty_eq_false_iff]at hc
  have n:1<=w.length:=by
   have:=List.length_pos_iff.2 hc.1.1;omega
  have l:=d04 (w05 v w u g.2.1) g.2.2
  have m:=n0i v w u g.2.1
  simp only[cond_true]
  refine(r00 _).2 ⟨λe a=>?_,i,⟨by simp only;omega,by simp only;omega⟩,by simp only;omega,M04 P6 _ _ j⟩
  simp only at a ⊢
  rcases(R00 P6 e _ _).1 a with h|h
  ·have:=f e h
   omega
  ·exact K0l ⟨by omega,by omega⟩ w u g.2.1 ⟨by omega,by omega⟩ (by omega) (iR _) (λx d=>(k x d).2) e h
theorem f0c(g:j0)(u:Int)(w:List Int)(v:Int):(p03 g u w v).1.1=g.1:=by
 unfold p03
 cases (!w.isEmpty&&decide (g.2.1+(w.length:Int)-1<=40)&&decide (g.2.2.length+w.length<=120))<;>rfl
def r0g:List (List Int)->j0->j0
 | [],g=>g
 |w::r,g=>r0g r (p03 g 0 w 0).1
theorem b0e:∀(c:List (List Int)) {g:j0},T0 g=true->(∀ w∈c,x00 g.1 w=true)->T0 (r0g c g)=true
 | [],g,a,b=>a
 |w::r,g,a,b=>by
  obtain⟨f,h,i,j⟩:=Q1 a
  exact b0e r (u0a a ⟨iR _,by omega⟩ ⟨iR _,by omega⟩ (b w mS)) λe d=>by
   rw[f0c];exact b e (mC _ d)
theorem L0l{g:j0}{w:List Int}(a:T0 g=true)(b:x00 g.1 w=true):x02 g w=some (p03 g 0 w 0):=by
 obtain⟨c,d,e,f⟩:=Q1 a
 have h:=i0h a (u:=0) (v:=0) ⟨iR _,by omega⟩ ⟨iR _,by omega⟩ b
 obtain⟨r,n,es⟩:=g
 unfold x02
 simp only[h,oB]
theorem p0i(a:List (List Int))(j:a.length<=1000):∀(d k fuel:Nat) (g:j0),k+d=a.length->d<fuel->T0 g=true->(∀ w∈a,x00 g.1 w=true) ->
  R7 a fuel (k:Int) g.1 g.2.1 g.2.2=some (r0g (a.drop k) g)
 |d,k,0,g,i,hf,b,c=>by omega
 |0,k,fuel+1,g,i,hf,b,c=>by
  rw[R7.eq_2,if_neg (by simp;omega),V1 (by omega)];rfl
 |d+1,k,fuel+1,g,i,hf,b,c=>by
  have e:k<a.length:=by omega
  have h:=P4 e
  have f:=c _ (List.getElem_mem e)
  generalize a[k]=w at h f
  obtain⟨m,n,o,p⟩:=Q1 b
  have l:=p0i a j d (k+1) fuel (p03 g 0 w 0).1 (by omega) (by omega) (u0a b ⟨iR _,by omega⟩ ⟨iR _,by omega⟩ f) (by rw[f0c];exact c)
  rw[R7.eq_2,if_pos (by simp;omega),B3 h,oB,show(g.1,g.2.1,g.2.2)=g from rfl,L0l b f,oB,A3 e (by omega),C2 h]
  exact l
def s0g(r:Int)(a:List (List Int)):j0×Bool:=bif U00 r a then(r0g a (r,1,[]),true)else((0,0,[]),false)
theorem q0i{r:Int}{a:List (List Int)}(h:U00 r a=true):(1<=r/\r<=3)/\a.length<=6/\∀ w∈a,x00 r w=true:=by
 simp only[U00,inR,Bool.and_eq_true,decide_eq_true_eq]at h
 refine⟨h.1.1.1,h.1.1.2,?_⟩
 have b:∀ {a:List (List Int)},r0j r a=true->∀ w∈a,x00 r w=true:=by
  intro a
  induction a with
  |nil=>intro _ w b;cases b
  |cons v l c =>
   intro h w b
   simp only[r0j,Bool.and_eq_true]at h
   rcases List.mem_cons.1 b with rfl|b
   ·exact h.1
   ·exact c h.2 w b
 exact b h.1.2
theorem r0i{r:Int}(b:1<=r/\r<=3):T0 (r,1,[])=true:=(r00 _).2 ⟨(λe a=>by cases a),b,⟨by simp,by simp⟩,by simp,List.Pairwise.nil⟩
theorem H0j(r:Int)(a:List (List Int))(d:a.length<=140737488355328)(f:k06 a):y02 r a=some (s0g r a):=by
 have b:=H0f r a d f
 unfold y02 s0g
 rw[b,oB]
 cases hA:U00 r a with
 |false=>rfl
 |true =>
  obtain⟨e,i,g⟩:=q0i hA
  have h:=p0i a (by omega) a.length 0 Y0 (r,1,[]) (by omega) (M1 (by omega)) (r0i e) g
  have c:w02 r=some ((r,1,[]),true):=by
   unfold w02
   rw[A03,oB,if_neg (by simp[inR];omega)]
  rw[if_neg (by simp),c,oB]
  simp only[]at h ⊢
  rw[show(0:Int)=((0:Nat):Int) from rfl,h]
  rfl
theorem n0q{g:j0}(hf:M0 g=true){v x y z:Int}(q:y∈e01 v x g.2.2)(s:z∈e01 v x g.2.2):y=z:=by
 obtain⟨e,o,l⟩:=c9.1 q
 obtain⟨k,p,m⟩:=c9.1 s
 by_cases hne:e=k
 ·subst hne
  rcases l with⟨a,b,c,rfl⟩|⟨a,b,c,rfl⟩<;>rcases m with⟨h,i,j,rfl⟩|⟨h,i,j,rfl⟩<;>first|rfl|omega
 ·have f:=(s0d (Z1 hf)).1 hf e o k p hne
  unfold s05 at f
  simp only[Bool.and_eq_false_iff,Bool.or_eq_false_iff,decide_eq_false_iff_not]at f
  rcases l with⟨a,b,c,d⟩|⟨a,b,c,d⟩<;>rcases m with⟨h,i,j,n⟩|⟨h,i,j,n⟩<;>first|omega|(exfalso;rcases f with f|⟨t,u⟩<;>omega)
theorem j08(g:j0)(v x:Int):(P0 g v x = -1/\e01 v x g.2.2 = [])∨P0 g v x∈e01 v x g.2.2:=by
 unfold P0
 cases e:O03 g v x with
 |nil =>
  left
  refine⟨rfl,List.eq_nil_iff_forall_not_mem.2 λy b=>?_⟩
  have:y∈O03 g v x:=(R00 E03 y _ _).2 (.inr b)
  rw[e]at this;cases this
 |cons a l=>exact .inr (W0h (by rw[e];exact mS))
theorem k08{g:j0}(hf:M0 g=true){v x y:Int}(a:y∈e01 v x g.2.2):P0 g v x=y:=by
 rcases j08 g v x with⟨_,h⟩|h
 ·rw[h]at a;cases a
 ·exact n0q hf h a
theorem C07:∀(d i j:Nat),i<=j->j<i+d->(j:Int)∈w4 d i /\ -(j:Int)∈w4 d i
 |0,i,j,e,f=>by omega
 |d+1,i,j,e,f=>by
  simp only[w4,List.mem_cons]
  by_cases c:j=i
  ·subst c;simp
  ·obtain⟨a,b⟩:=C07 d (i+1) j (by omega) (by omega)
   exact⟨.inr (.inr a),.inr (.inr b)⟩
theorem s0i(g:j0)(v:Int):∀(ls u:List Int) (x:Int),x∈ls->0<=P0 g v x->P0 g v x∈v05 g v ls u
 |y::r,u,x,a,h0=>by
  rw[v05]
  rcases List.mem_cons.1 a with rfl|a
  ·obtain⟨t,e⟩:=e04 g v r (P0a u (P0 g v x))
   rw[e]
   refine List.mem_append_left _ ?_
   unfold P0a
   split
   ·exact List.mem_append_right _ (List.mem_singleton.2 rfl)
   ·rename_i h
    by_cases hm:P0 g v x∈u
    ·exact hm
    ·exact absurd ⟨h0,hm⟩ h
  ·exact s0i g v r _ x a h0
theorem S0a(g:j0)(ls:List Int):∀(f i:Nat) (u:List Int),∃ t,O01 g ls f i u=u++t
 |0,i,u=>⟨[],by simp[O01]⟩
 |f+1,i,u=>by
  unfold O01
  split
  ·rename_i v _
   obtain⟨c,a⟩:=e04 g v ls u
   obtain⟨d,b⟩:=S0a g ls f (i+1) (v05 g v ls u)
   exact⟨c++d,by rw[b,a,List.append_assoc]⟩
  ·exact⟨[],by simp⟩
theorem t0g{r:Int}{n:Nat}{es:List Q0}(l:inG (r,(n:Int),es))(ls:List Int):∀(f i:Nat) (u:List Int),gud n u->n+1<=f+i->i<=u.length ->
  (∀ j,j<i->∀ v,u[j]?=some v->∀ x∈ls,0<=P0 (r,(n:Int),es) v x->P0 (r,(n:Int),es) v x∈u) ->
  ∀ v∈O01 (r,(n:Int),es) ls f i u,∀ x∈ls,0<=P0 (r,(n:Int),es) v x->P0 (r,(n:Int),es) v x∈O01 (r,(n:Int),es) ls f i u
 |0,i,u,d,p,m,h=>by have:=f01 n u d.1 d.2;omega
 |f+1,i,u,d,p,m,h=>by
  unfold O01
  cases e:u[i]? with
  |none =>
   have:i=u.length:=by have:=List.getElem?_eq_none_iff.1 e;omega
   show ∀ v∈u,∀ x∈ls,0<=P0 (r,(n:Int),es) v x->P0 (r,(n:Int),es) v x∈u
   intro v a x g h0
   obtain⟨j,k⟩:=List.getElem?_of_mem a
   exact h j (by have:=(List.getElem?_eq_some_iff.1 k).1;omega) v k x g h0
  |some w =>
   have o:=(List.getElem?_eq_some_iff.1 e).1
   obtain⟨t,b⟩:=e04 (r,(n:Int),es) w ls u
   refine t0g l ls f (i+1) _ (z07 l w ls u d) (by omega) (by rw[b,List.length_append];omega) λj k v a x g h0=>?_
   by_cases c:j=i
   ·subst c
    rw[b,List.getElem?_append_left o,e]at a
    cases a
    exact s0i _ _ ls u x g h0
   ·rw[b,List.getElem?_append_left (by omega)]at a
    rw[b]
    exact List.mem_append_left _ (h j (by omega) v a x g h0)
theorem m0n(g:j0):∃ t,R02 g=0::t:=by
 obtain⟨t,e⟩:=S0a g (w4 g.1.toNat 1) (g.2.1.toNat+1) 0 [0]
 exact⟨t,e⟩
theorem M0l{g:j0}(hf:M0 g=true){x:Int}(h:Rch g.2.2 0 x):x∈R02 g:=by
 obtain⟨l,q,s,w⟩:=P2 hf
 have m:=m0n g
 have c:∀ v∈R02 g,∀ x∈w4 g.1.toNat 1,0<=P0 g v x->P0 g v x∈R02 g:=by
  obtain⟨r,n,es⟩:=g
  simp only at q s
  obtain⟨N,rfl⟩:∃ N:Nat,n=(N:Int):=⟨n.toNat,by omega⟩
  exact t0g l _ (((N:Int)).toNat+1) 0 [0] ⟨by simp,λx f=>by simp at f;subst f;omega⟩ (by simp only[Int.toNat_natCast];omega) (Nat.zero_le _) (λj d=>by omega)
 refine Rch.sub (P:=λx=>x∈R02 g) ?_ (λe b=>?_) h
 ·obtain⟨t,e⟩:=m
  rw[e];exact mS
 ·have u:=l e b
  obtain⟨j,d⟩:∃ j:Nat,e.2.1=(j:Int):=⟨e.2.1.toNat,by omega⟩
  obtain⟨o,p⟩:=C07 g.1.toNat 1 j (by omega) (by omega)
  have i:P0 g e.1 (j:Int)=e.2.2:=k08 hf (c9.2 ⟨e,b,.inl ⟨by omega,d,rfl,rfl⟩⟩)
  have k:P0 g e.2.2 (-(j:Int))=e.1:=k08 hf (c9.2 ⟨e,b,.inr ⟨by omega,by omega,rfl,rfl⟩⟩)
  constructor
  ·intro a
   have:=c e.1 a (j:Int) o (by rw[i];omega)
   rwa [i]at this
  ·intro a
   have:=c e.2.2 a (-(j:Int)) p (by rw[k];omega)
   rwa [k]at this
theorem J0e{a:Nat->Bool}:∀ {d v:Nat},lf a d v=none->∀ k,v<=k->k<v+d->a k=false
 |0,v,h,k,b,e=>by omega
 |d+1,v,h,k,b,e=>by
  unfold lf at h
  cases hb:a v with
  |true=>rw[hb]at h;cases h
  |false =>
   rw[hb]at h
   by_cases c:k=v
   ·rw[c];exact hb
   ·exact J0e (d:=d) (v:=v+1) h k (by omega) (by omega)
theorem o0q{g:j0}(hf:M0 g=true)(b:P02 g=none){x:Int}(h0:0<=x)(d:x<g.2.1):x∈R02 g:=by
 refine M0l hf ?_
 by_cases c:x=0
 ·subst c;exact .base
 ·have:=J0e b x.toNat (by omega) (by omega)
  unfold X0b at this
  simp only[Bool.or_eq_false_iff,Bool.not_eq_false',decide_eq_true_eq]at this
  have a:=this.2
  rw[show((x.toNat:Nat):Int)=x by omega]at a
  exact(G0e _ _ _).1 a
def j05(g:j0)(w:List Int):Bool:=decide ((Z02 g 0 w).2=w.length)&&decide ((Z02 g 0 w).1=0)
theorem F4{g:j0}(h:T1 g=true):M0 g=true:=by
 unfold T1 at h
 simp only[Bool.and_eq_true]at h
 exact h.1
def rdw(g:j0):Int->List Int->Option Int
 |v,[]=>some v
 |v,x::w=>if P0 g v x<0 then none else rdw g (P0 g v x) w
theorem t0i(g:j0):∀(w:List Int) (v u:Int),rdw g v w=some u↔((Z02 g v w).2=w.length/\(Z02 g v w).1=u)
 | [],v,u=>by simp[rdw,Z02]
 |x::w,v,u=>by
  have a:=t0i g w (P0 g v x) u
  unfold rdw Z02
  by_cases c:P0 g v x<0
  ·rw[if_pos c,if_pos c];simp
  ·rw[if_neg c,if_neg c,a];simp
theorem t0d(g:j0)(w:List Int):j05 g w=true↔rdw g 0 w=some 0:=by
 unfold j05
 rw[t0i];simp
theorem J05(g:j0):∀(a b:List Int) (v:Int),rdw g v (a++b)=(rdw g v a).bind λu=>rdw g u b
 | [],b,v=>rfl
 |x::a,b,v=>by
  have d:=J05 g a b (P0 g v x)
  show(if P0 g v x<0 then none else rdw g (P0 g v x) (a++b))=(if P0 g v x<0 then none else rdw g (P0 g v x) a).bind λu=>rdw g u b
  by_cases c:P0 g v x<0
  ·rw[if_pos c,if_pos c];rfl
  ·rw[if_neg c,if_neg c];exact d
theorem h04{g:j0}(hf:M0 g=true){v x u:Int}(h:P0 g v x=u)(h0:0<=u):P0 g u (-x)=v:=by
 rcases j08 g v x with⟨e,_⟩|e
 ·omega
 ·rw[h]at e
  obtain⟨d,i,f⟩:=c9.1 e
  refine k08 hf (c9.2 ⟨d,i,?_⟩)
  rcases f with⟨a,b,c,rfl⟩|⟨a,b,c,rfl⟩
  ·exact .inr ⟨by omega,by omega,rfl,c.symm⟩
  ·exact .inl ⟨by omega,b,rfl,c.symm⟩
structure Mor (a b:j0) (f:Int->Int):Prop where
 base:f 0=0
 rng:∀ v,0<=v->v<a.2.1->0<=f v/\f v<b.2.1
 step:∀ v x,0<=v->v<a.2.1->0<=P0 a v x->P0 b (f v) x=f (P0 a v x)
theorem Mor.rdw{a b:j0}{f:Int->Int}(m:Mor a b f)(i:inG a):∀(w:List Int) (v u:Int),0<=v->v<a.2.1->rdw a v w=some u->rdw b (f v) w=some (f u)
 | [],v,u,h0,g,h=>by
  simp only[Go.Proofs.YtmgikbbmpnbbjaaGreat.rdw,Option.some.injEq]at h ⊢
  rw[h]
 |x::w,v,u,h0,g,h=>by
  unfold Go.Proofs.YtmgikbbmpnbbjaaGreat.rdw at h ⊢
  by_cases c:P0 a v x<0
  ·rw[if_pos c]at h;cases h
  ·rw[if_neg c]at h
   have j:=m.step v x h0 g (by omega)
   have d:0<=P0 a v x/\P0 a v x<a.2.1:=by
    rcases E00 i v x with e|e
    ·omega
    ·exact e
   have k:=m.rng _ d.1 d.2
   rw[j,if_neg (by omega)]
   exact Mor.rdw m i w _ u d.1 d.2 h
theorem Mor.loop{a b:j0}{f:Int->Int}(m:Mor a b f)(c:M0 a=true){w:List Int}(h:j05 a w=true):j05 b w=true:=by
 obtain⟨d,e,g,i⟩:=P2 c
 rw[t0d]at h ⊢
 have:=m.rdw d w 0 0 (iR _) (by omega) h
 rwa [m.base]at this
abbrev Im:=List Int×List Int
def W06(a b:j0)(v x:Int)(s:Im):Option Im :=
 if P0 a v x<0 then some s else if P0 b (getI s.1 v) x<0 then none else if P0 a v x∈s.2 then(if getI s.1 (P0 a v x)=P0 b (getI s.1 v) x then some s else none)else some (s.1.set (P0 a v x).toNat (P0 b (getI s.1 v) x),s.2 ++ [P0 a v x])
def m0e(a b:j0)(v:Int):List Int->Im->Option Im
 | [],s=>some s
 |x::r,s=>(W06 a b v x s).bind λs=>m0e a b v r s
def k09(a b:j0)(ls:List Int):Nat->Nat->Im->Option Im
 |0,i,s=>some s
 |f+1,i,s=>match s.2[i]? with
  |some v=>(m0e a b v ls s).bind λs=>k09 a b ls f (i+1) s
  |none=>some s
def a7(a b:j0):Bool:=T1 a&&T1 b&&decide (a.1=b.1)&&(k09 a b (w4 a.1.toNat 1) (a.2.1.toNat+1) 0 (List.replicate a.2.1.toNat 0,[0])).isSome
def g0c(n:Nat)(s:Im):Prop:=s.1.length=n/\gud n s.2/\∀ z∈s.1,J0 z
theorem M09{a b:j0}{n:Nat}(w:a.2.1=(n:Int))(j:inG a)(k:inG b)(l:b.2.1<=40){v x:Int}{s s':Im}(h:g0c n s)(c:W06 a b v x s=some s'):g0c n s'/\∃ t,s'.2=s.2++t:=by
 unfold W06 at c
 split at c
 ·cases c;exact⟨h,[],by simp⟩
 ·rename_i u
  split at c
  ·cases c
  ·split at c
   ·split at c
    ·cases c;exact⟨h,[],by simp⟩
    ·cases c
   ·rename_i i
    cases c
    have o:0<=P0 a v x/\P0 a v x<(n:Int):=by
     rcases E00 j v x with e|e
     ·omega
     ·omega
    refine⟨⟨by simp[h.1],⟨?_,?_⟩,λz f=>?_⟩,_,rfl⟩
    ·refine List.nodup_append.2 ⟨h.2.1.1,by simp,λp m q g=>?_⟩
     simp at g;subst g;exact λe=>i (e▸m)
    ·intro y d
     rcases List.mem_append.1 d with d|d
     ·exact h.2.1.2 y d
     ·simp at d;subst d;exact o
    ·rcases List.mem_or_eq_of_mem_set f with f|rfl
     ·exact h.2.2 z f
     ·exact q01 k l _ _
theorem W0r{A:List Int}{n:Nat}(b:A.length=n){x:Int}(h0:0<=x)(a:x<n):gi A x=some (getI A x):=giI b h0 a
theorem X0r(a b:j0)(n:Nat)(B:a.2.1=(n:Int))(q:M0 a=true)(u:M0 b=true)(ls:List Int)(A:∀ x∈ls,N4 x)(G:ls.length<=1000)(i:Nat)(v:Int):∀(d k fuel:Nat) (s:Im),g0c n s->s.2[i]?=some v->k+d=ls.length->d<fuel ->
  a6 ls (i:Int) a.1 a.2.1 a.2.2 b.1 b.2.1 b.2.2 fuel (k:Int) s.1 s.2=some (match m0e a b v (ls.drop k) s with|some s' => .inr s'|none => .inl false)
 |d,k,0,s,c,e,w,hf=>by omega
 |0,k,fuel+1,s,c,e,w,hf=>by
  rw[a6.eq_2,if_neg (by simp;omega),V1 (by omega)];rfl
 |d+1,k,fuel+1,s,c,e,w,hf=>by
  obtain⟨o,M,H,N⟩:=P2 q
  obtain⟨D,K,E,L⟩:=P2 u
  have g:k<ls.length:=by omega
  have l:=P4 g
  have j:=A _ (List.getElem_mem g)
  generalize ls[k]=x at l j
  have C:=c.2.1.2 v (List.mem_of_getElem? e)
  have I:=f01 n s.2 c.2.1.1 c.2.1.2
  have m:=λs' (h:g0c n s') (p:s'.2[i]?=some v)=>X0r a b n B q u ls A G i v d (k+1) fuel s' h p (by omega) (by omega)
  have f:=λs'=>M09 (v:=v) (x:=x) (s':=s') B o D E.2 c
  have J:=E00 o v x
  rw[a6.eq_2,if_pos (by simp;omega),B3 e,oB,B3 l,oB,show(a.1,a.2.1,a.2.2)=a from rfl,n02 a v x j (by omega),oB,H0 (q01 o H.2 v x),oB,A3 g (by omega),C2 l,m0e]
  unfold W06 at f ⊢
  generalize P0 a v x=y at *
  by_cases c1:y<0
  ·rw[if_pos (by simp[c1]),if_pos c1,oB]
   exact m s c e
  ·rw[if_neg (by simp;omega),if_neg c1]
   rw[if_neg c1]at f
   rw[oB,W0r c.1 C.1 C.2,oB,oB,show(b.1,b.2.1,b.2.2)=b from rfl]
   rw[n02 b (getI s.1 v) x j (by omega),oB,H0 (q01 D E.2 (getI s.1 v) x),oB]
   generalize P0 b (getI s.1 v) x=z at *
   by_cases c2:z<0
   ·rw[if_pos (by simp[c2]),if_pos c2];rfl
   ·rw[if_neg (by simp;omega),if_neg c2,U0b s.2 y (by omega),oB]
    rw[if_neg c2]at f
    by_cases c3:y∈s.2
    ·rw[if_pos c3]
     rw[if_neg (by simp[c3]),W0r c.1 (by omega) (by omega),oB]
     by_cases c4:getI s.1 y=z
     ·rw[if_neg (by simp[c4]),if_pos c4,oB]
      exact m s c e
     ·rw[if_pos (by simp[c4]),if_neg c4];rfl
    ·rw[if_neg c3]at f ⊢
     obtain⟨F,t,p⟩:=f _ rfl
     rw[if_pos (by simp[c3]),H0 (by simp;omega),oB,W0r c.1 (by omega) (by omega),oB,oB]
     exact m _ F (by simp only;rw[List.getElem?_append_left (List.getElem?_eq_some_iff.1 e).1];exact e)
theorem K0e{a b:j0}{n:Nat}(i:a.2.1=(n:Int))(d:inG a)(f:inG b)(g:b.2.1<=40)(v:Int):∀(ls:List Int) {s s':Im},g0c n s->m0e a b v ls s=some s'->g0c n s'/\∃ t,s'.2=s.2++t
 | [],s,s',h,c=>by cases c;exact⟨h,[],by simp⟩
 |x::r,s,s',h,c=>by
  rw[m0e]at c
  cases e:W06 a b v x s with
  |none=>rw[e]at c;cases c
  |some s1 =>
   rw[e]at c
   obtain⟨l,o,j⟩:=M09 i d f g h e
   obtain⟨m,p,k⟩:=K0e i d f g v r l c
   exact⟨m,o++p,by rw[k,j,List.append_assoc]⟩
theorem Y0r(a b:j0)(n:Nat)(k:a.2.1=(n:Int))(h:M0 a=true)(j:M0 b=true)(ls:List Int)(p:∀ x∈ls,N4 x)(o:ls.length<=1000):∀(f i fuel:Nat) (s:Im),g0c n s->i<=s.2.length->n+1<=f+i->f<fuel ->
  T7 ls a.1 a.2.1 a.2.2 b.1 b.2.1 b.2.2 fuel (i:Int) s.1 s.2=some (match k09 a b ls f i s with|some s' => .inr s'|none => .inl false)
 |f,i,0,s,d,m,l,hf=>by omega
 |0,i,fuel+1,s,d,m,l,hf=>by have:=f01 n s.2 d.2.1.1 d.2.1.2;omega
 |f+1,i,fuel+1,s,d,m,l,hf=>by
  obtain⟨A,E,F,G⟩:=P2 h
  obtain⟨y,C,z,D⟩:=P2 j
  have B:=f01 n s.2 d.2.1.1 d.2.1.2
  rw[T7.eq_2,oB,H0 (by omega),oB]
  by_cases c:i<s.2.length
  ·have g:=P4 c
   generalize s.2[i]=v at g
   have h0:=X0r a b n k h j ls p o i v ls.length 0 Y0 s d g (by omega) (M1 (by omega))
   rw[show((0:Nat):Int)=0 from rfl,List.drop_zero]at h0
   rw[if_pos (by simpa using c),h0,oB,A3 c (by omega)]
   unfold k09
   rw[g]
   cases e:m0e a b v ls s with
   |none=>simp only[e];rfl
   |some s1 =>
    obtain⟨u,t,q⟩:=K0e k A y z.2 v ls d e
    have w:=Y0r a b n k h j ls p o f (i+1) fuel s1 u (by rw[q,List.length_append];omega) (by omega) (by omega)
    simp only[e,oB]
    exact w
  ·have g:s.2[i]?=none:=List.getElem?_eq_none (by omega)
   rw[if_neg (by simpa using c)]
   unfold k09
   rw[g]
theorem l09(a b:j0)(D:a.2.2.length<=140737488355328)(E:b.2.2.length<=140737488355328):i01 a b=some (a7 a b):=by
 have u:=s04 a D
 have v:=s04 b E
 have w:Z2 a=some (T1 a):=by
  obtain⟨x,y,z⟩:=a
  unfold Z2
  simp only[u,oB]
 have A:Z2 b=some (T1 b):=by
  obtain⟨x,y,z⟩:=b
  unfold Z2
  simp only[v,oB]
 have f:T1 a=true->T1 b=true->T7 (w4 a.1.toNat 1) a.1 a.2.1 a.2.2 b.1 b.2.1 b.2.2 Y0 ((0:Nat):Int) (List.replicate a.2.1.toNat 0) [0]=some (match k09 a b (w4 a.1.toNat 1) (a.2.1.toNat+1) 0 (List.replicate a.2.1.toNat 0,[0])with|some s' => .inr s'|none => .inl false):=λc i=>by
  have o:=F4 c
  have t:=F4 i
  obtain⟨G,H,I,J⟩:=P2 o
  have K:=Z01 a.1.toNat 1
  exact Y0r a b a.2.1.toNat (by omega) o t (w4 a.1.toNat 1) (λx g=>by
   obtain⟨j,k,q,s⟩:=n0g _ _ _ g
   exact⟨⟨by omega,by omega⟩,by omega⟩) (by omega) (a.2.1.toNat+1) 0 Y0 (List.replicate a.2.1.toNat 0,[0]) ⟨by simp,⟨by simp,λx g=>by simp at g;subst g;omega⟩,λz F=>by
    rw[List.eq_of_mem_replicate F];exact⟨by omega,by omega⟩⟩ (Nat.zero_le _) (by omega) (M1 (by omega))
 have B:T1 a=true->o7 a.1=some (w4 a.1.toNat 1)/\(0:Int)<=a.2.1/\a.2.1<=40:=λc=>by
  obtain⟨G,H,I,J⟩:=P2 (F4 c)
  obtain⟨R,C⟩:∃ R:Nat,a.1=(R:Int):=⟨a.1.toNat,by omega⟩
  exact⟨by rw[C,c0n R (by omega)];rfl,by omega,by omega⟩
 unfold a7
 obtain⟨d,e,l⟩:=a
 obtain⟨h,m,n⟩:=b
 unfold i01
 simp only[w,oB]
 cases c:T1 (d,e,l)with
 |false=>rfl
 |true =>
  simp only[Bool.not_true,Bool.not_false,Y1,A,oB,cond_false,Bool.true_and]
  cases i:T1 (h,m,n)with
  |false=>rfl
  |true =>
   have f:=f c i
   obtain⟨k,q,s⟩:=B c
   simp only at f k q s
   by_cases hr:d=h
   ·rw[if_neg (by simp[hr]),H0 (by omega),oB,k,oB,show(0:Int)=((0:Nat):Int) from rfl]
    simp only[decide_eq_true hr,Bool.true_and]
    have p:=f
    rw[show((0:Nat):Int)=0 from rfl]at p ⊢
    rw[p,oB]
    cases k09 (d,e,l) (h,m,n) (w4 d.toNat 1) (e.toNat+1) 0 (List.replicate e.toNat 0,[0])<;>rfl
   ·rw[if_pos (by simp[hr])]
    simp[hr]
def T0a(s s':Im):Prop:=(∃ t,s'.2=s.2++t)/\∀ v∈s.2,getI s'.1 v=getI s.1 v
theorem T0a.refl(s:Im):T0a s s:=⟨⟨[],by simp⟩,λ_ _=>rfl⟩
theorem T0a.trans{s s' b:Im}(h:T0a s s')(h':T0a s' b):T0a s b:=by
 obtain⟨⟨t,e⟩,f⟩:=h
 obtain⟨⟨g,c⟩,d⟩:=h'
 exact⟨⟨t++g,by rw[c,e,List.append_assoc]⟩,λv a=>(d v (by rw[e];exact List.mem_append_left _ a)).trans (f v a)⟩
def n0n(a b:j0)(v x:Int)(s:Im):Prop:=0<=P0 a v x->P0 a v x∈s.2/\P0 b (getI s.1 v) x=getI s.1 (P0 a v x)
theorem n0n.le{a b:j0}{v x:Int}{s s':Im}(g:v∈s.2)(h:n0n a b v x s)(l:T0a s s'):n0n a b v x s':=λh0=>by
 obtain⟨c,d⟩:=h h0
 obtain⟨⟨t,e⟩,f⟩:=l
 exact⟨by rw[e];exact List.mem_append_left _ c,by rw[f v g,f _ c];exact d⟩
def inB(b:j0)(s:Im):Prop:=∀ v∈s.2,0<=getI s.1 v/\getI s.1 v<b.2.1
theorem p0q{a b:j0}{n:Nat}(z:a.2.1=(n:Int))(o:inG a)(p:inG b){v x:Int}{s s':Im}(h:g0c n s)(q:v∈s.2)(i:inB b s)(d:W06 a b v x s=some s'):T0a s s'/\n0n a b v x s'/\inB b s':=by
 unfold W06 at d
 split at d
 ·rename_i c;cases d;exact⟨T0a.refl s,λh0=>by omega,i⟩
 ·rename_i w
  have j:0<=P0 a v x/\P0 a v x<(n:Int):=by
   rcases E00 o v x with e|e
   ·omega
   ·omega
  split at d
  ·cases d
  ·rename_i y
   have t:0<=P0 b (getI s.1 v) x/\P0 b (getI s.1 v) x<b.2.1:=by
    rcases E00 p (getI s.1 v) x with e|e
    ·omega
    ·exact e
   split at d
   ·rename_i g
    split at d
    ·rename_i m
     cases d
     exact⟨T0a.refl s,λ_=>⟨g,m.symm⟩,i⟩
    ·cases d
   ·rename_i g
    cases d
    have k:∀ u∈s.2,getI (s.1.set (P0 a v x).toNat (P0 b (getI s.1 v) x)) u=getI s.1 u:=λu f=>by
     have:=h.2.1.2 u f
     rw[F03 j.1 (by rw[h.1];omega) this.1,if_neg λ(e:u=P0 a v x)=>g (by rw[←e];exact f)]
    have l:getI (s.1.set (P0 a v x).toNat (P0 b (getI s.1 v) x)) (P0 a v x)=P0 b (getI s.1 v) x:=by
     rw[F03 j.1 (by rw[h.1];omega) j.1,if_pos rfl]
    refine⟨⟨⟨_,rfl⟩,k⟩,λ_=>⟨List.mem_append_right _ (List.mem_singleton.2 rfl),?_⟩,λu f=>?_⟩
    ·show P0 b (getI (s.1.set _ _) v) x=getI (s.1.set _ _) (P0 a v x)
     rw[k v q,l]
    ·show 0<=getI (s.1.set _ _) u/\getI (s.1.set _ _) u<b.2.1
     rcases List.mem_append.1 f with f|f
     ·rw[k u f];exact i u f
     ·simp at f;subst f
      rw[l];exact t
theorem Z0o{a b:j0}{n:Nat}(i:a.2.1=(n:Int))(f:inG a)(g:inG b)(l:b.2.1<=40){v:Int}:∀(ls:List Int) {s s':Im},g0c n s->v∈s.2->inB b s->m0e a b v ls s=some s'->T0a s s'/\(∀ x∈ls,n0n a b v x s')/\inB b s'
 | [],s,s',h,j,d,c=>by cases c;exact⟨T0a.refl s,(λx z=>by cases z),d⟩
 |x::r,s,s',h,j,d,c=>by
  rw[m0e]at c
  cases e:W06 a b v x s with
  |none=>rw[e]at c;cases c
  |some s1 =>
   rw[e]at c
   obtain⟨o,A,q⟩:=p0q i f g h j d e
   have m:v∈s1.2:=by obtain⟨⟨t,w⟩,_⟩:=o;rw[w];exact List.mem_append_left _ j
   obtain⟨p,B,u⟩:=Z0o i f g l r (M09 i f g l h e).1 m q c
   refine⟨o.trans p,λy k=>?_,u⟩
   rcases List.mem_cons.1 k with rfl|k
   ·exact A.le m p
   ·exact B y k
theorem N0l{a b:j0}{n:Nat}(z:a.2.1=(n:Int))(o:inG a)(p:inG b)(q:b.2.1<=40)(ls:List Int):∀(f i:Nat) {s s':Im},g0c n s->inB b s->n+1<=f+i->i<=s.2.length->(∀ j,j<i->∀ v,s.2[j]?=some v->∀ x∈ls,n0n a b v x s)->k09 a b ls f i s=some s' ->
  T0a s s'/\(∀ v∈s'.2,∀ x∈ls,n0n a b v x s')/\inB b s'/\g0c n s'
 |0,i,s,s',h,m,F,G,w,d=>by have:=f01 n s.2 h.2.1.1 h.2.1.2;omega
 |f+1,i,s,s',h,m,F,G,w,d=>by
  unfold k09 at d
  cases e:s.2[i]? with
  |none =>
   rw[e]at d
   cases d
   refine⟨T0a.refl s,λv A x l=>?_,m,h⟩
   obtain⟨j,y⟩:=List.getElem?_of_mem A
   have M:=List.getElem?_eq_none_iff.1 e
   exact w j (by have:=(List.getElem?_eq_some_iff.1 y).1;omega) v y x l
  |some v =>
   rw[e]at d
   have A:=List.mem_of_getElem? e
   have H:=(List.getElem?_eq_some_iff.1 e).1
   simp only at d
   cases e1:m0e a b v ls s with
   |none=>rw[e1]at d;cases d
   |some s1 =>
    rw[e1]at d
    obtain⟨I,K,C⟩:=Z0o z o p q ls h A m e1
    obtain⟨⟨t,g⟩,B⟩:=I
    obtain⟨J,L,D,E⟩:=N0l z o p q ls f (i+1) (K0e z o p q v ls h e1).1 C (by omega) (by rw[g,List.length_append];omega) (λj y u k x l=>by
     by_cases c:j=i
     ·subst c
      rw[g,List.getElem?_append_left H,e]at k
      cases k
      exact K x l
     ·rw[g,List.getElem?_append_left (by omega)]at k
      exact(w j (by omega) u k x l).le (List.mem_of_getElem? k) ⟨⟨t,g⟩,B⟩) d
    exact⟨T0a.trans ⟨⟨t,g⟩,B⟩ J,L,D,E⟩
theorem O0l{g:j0}(i:inG g)(m:1<=g.1){v x:Int}(h:0<=P0 g v x):x∈w4 g.1.toNat 1:=by
 rcases j08 g v x with⟨e,_⟩|e
 ·omega
 ·obtain⟨d,f,c⟩:=c9.1 e
  have l:=i d f
  rcases c with⟨a,b,_⟩|⟨a,b,_⟩
  ·obtain⟨j,_⟩:=C07 g.1.toNat 1 x.toNat (by omega) (by omega)
   rwa [show((x.toNat:Nat):Int)=x by omega]at j
  ·obtain⟨_,k⟩:=C07 g.1.toNat 1 (-x).toNat (by omega) (by omega)
   rwa [show -(((-x).toNat:Nat):Int)=x by omega]at k
theorem u0d{g:j0}(h:T1 g=true):P02 g=none:=by
 unfold T1 at h
 simp only[Bool.and_eq_true,Option.isNone_iff_eq_none]at h
 exact h.2.1
theorem o0n{g:j0}(h:T1 g=true){x:Int}(h0:0<=x)(b:x<g.2.1):Rch g.2.2 0 x:=by
 by_cases c:x=0
 ·subst c;exact .base
 ·have:=J0e (u0d h) x.toNat (by omega) (by omega)
  unfold X0b at this
  simp only[Bool.or_eq_false_iff,Bool.not_eq_false',decide_eq_true_eq]at this
  have a:=this.2
  rw[show((x.toNat:Nat):Int)=x by omega]at a
  exact(G0e _ _ _).1 a
theorem p0n{a b:j0}(h:a7 a b=true):∃ f,Mor a b f:=by
 unfold a7 at h
 simp only[Bool.and_eq_true,decide_eq_true_eq]at h
 obtain⟨⟨⟨q,C⟩,O⟩,H⟩:=h
 have l:=F4 q
 obtain⟨p,S,T,U⟩:=P2 l
 obtain⟨K,Q,L,R⟩:=P2 (F4 C)
 obtain⟨s',e⟩:=Option.isSome_iff_exists.1 H
 have G:a.2.1=((a.2.1.toNat:Nat):Int):=by omega
 have k:getI (List.replicate a.2.1.toNat (0:Int)) 0=0:=by
  have:0<a.2.1.toNat:=by omega
  unfold getI
  simp[List.getD_eq_getElem?_getD,List.getElem?_replicate,this]
 obtain⟨⟨⟨t,D⟩,F⟩,o,E,M⟩:=N0l G p K L.2 (w4 a.1.toNat 1) (a.2.1.toNat+1) 0 (s:=(List.replicate a.2.1.toNat 0,[0])) ⟨by simp,⟨by simp,λx c=>by simp at c;subst c;omega⟩,λz k=>by
  rw[List.eq_of_mem_replicate k];exact⟨by omega,by omega⟩⟩ (λv y=>by
  simp at y;subst y
  rw[k];omega) (by omega) (Nat.zero_le _) (λj w=>by omega) e
 have h0:(0:Int)∈s'.2:=by rw[D];simp
 have u:∀ v:Int,0<=v->v<a.2.1->v∈s'.2:=λv g i=>by
  refine Rch.sub (P:=λx=>x∈s'.2) h0 (λd n=>?_) (o0n q g i)
  have N:=p d n
  obtain⟨j,w⟩:∃ j:Nat,d.2.1=(j:Int):=⟨d.2.1.toNat,by omega⟩
  obtain⟨I,J⟩:=C07 a.1.toNat 1 j (by omega) (by omega)
  have A:P0 a d.1 (j:Int)=d.2.2:=k08 l (c9.2 ⟨d,n,.inl ⟨by omega,w,rfl,rfl⟩⟩)
  have B:P0 a d.2.2 (-(j:Int))=d.1:=k08 l (c9.2 ⟨d,n,.inr ⟨by omega,by omega,rfl,rfl⟩⟩)
  constructor
  ·intro m
   have:=(o d.1 m (j:Int) I (by rw[A];omega)).1
   rwa [A]at this
  ·intro m
   have:=(o d.2.2 m (-(j:Int)) J (by rw[B];omega)).1
   rwa [B]at this
 refine⟨getI s'.1,?_,λv g i=>E v (u v g i),λv x g i c=>(o v (u v g i) x (O0l p (by omega) c) c).2⟩
 rw[F 0 (by simp)]
 exact k
def imF(f:Int->Int)(s:Im):Prop:=∀ v∈s.2,getI s.1 v=f v
theorem q0n{a b:j0}{f:Int->Int}(m:Mor a b f){n:Nat}(p:a.2.1=(n:Int))(j:inG a){v x:Int}{s:Im}(h:g0c n s)(i:v∈s.2)(d:imF f s):∃ s',W06 a b v x s=some s'/\imF f s':=by
 have l:=h.2.1.2 v i
 unfold W06
 by_cases c1:P0 a v x<0
 ·rw[if_pos c1];exact⟨s,rfl,d⟩
 ·have g:0<=P0 a v x/\P0 a v x<(n:Int):=by
   rcases E00 j v x with e|e
   ·omega
   ·omega
  have k:=m.step v x l.1 (by omega) g.1
  have o:=m.rng _ g.1 (by omega)
  rw[if_neg c1,d v i,k,if_neg (by omega)]
  by_cases c3:P0 a v x∈s.2
  ·rw[if_pos c3,if_pos (d _ c3)];exact⟨s,rfl,d⟩
  ·rw[if_neg c3]
   refine⟨_,rfl,λu c=>?_⟩
   show getI (s.1.set _ _) u=f u
   rcases List.mem_append.1 c with c|c
   ·have:=h.2.1.2 u c
    rw[F03 g.1 (by rw[h.1];omega) this.1,if_neg λ(e:u=P0 a v x)=>c3 (by rw[←e];exact c)]
    exact d u c
   ·simp at c;subst c
    rw[F03 g.1 (by rw[h.1];omega) g.1,if_pos rfl]
theorem P0l{a b:j0}{f:Int->Int}(m:Mor a b f){n:Nat}(e:a.2.1=(n:Int))(d:inG a)(j:inG b)(k:b.2.1<=40){v:Int}:∀(ls:List Int) {s:Im},g0c n s->v∈s.2->imF f s->∃ s',m0e a b v ls s=some s'/\imF f s'
 | [],s,h,g,c=>⟨s,rfl,c⟩
 |x::r,s,h,g,c=>by
  obtain⟨s1,i,l⟩:=q0n m e d (x:=x) h g c
  obtain⟨q,t,p⟩:=M09 e d j k h i
  obtain⟨s2,o,F2⟩:=P0l m e d j k r q (by rw[p];exact List.mem_append_left _ g) l
  exact⟨s2,by rw[m0e,i];exact o,F2⟩
theorem u0i{a b:j0}{f:Int->Int}(m:Mor a b f){n:Nat}(k:a.2.1=(n:Int))(c:inG a)(g:inG b)(j:b.2.1<=40)(ls:List Int):∀(d i:Nat) {s:Im},g0c n s->imF f s->∃ s',k09 a b ls d i s=some s'
 |0,i,s,h,o=>⟨s,rfl⟩
 |d+1,i,s,h,o=>by
  unfold k09
  cases e:s.2[i]? with
  |none=>exact⟨s,rfl⟩
  |some v =>
   obtain⟨s1,l,p⟩:=P0l m k c g j ls h (List.mem_of_getElem? e) o
   obtain⟨s2,q⟩:=u0i m k c g j ls d (i+1) (K0e k c g j v ls h l).1 p
   exact⟨s2,by simp only[l,oB];exact q⟩
theorem r0n{a b:j0}(d:T1 a=true)(g:T1 b=true)(k:a.1=b.1){f:Int->Int}(m:Mor a b f):a7 a b=true:=by
 obtain⟨o,t,u,w⟩:=P2 (F4 d)
 obtain⟨l,p,n,q⟩:=P2 (F4 g)
 have j:a.2.1=((a.2.1.toNat:Nat):Int):=by omega
 have c:getI (List.replicate a.2.1.toNat (0:Int)) 0=0:=by
  have:0<a.2.1.toNat:=by omega
  unfold getI
  simp[List.getD_eq_getElem?_getD,List.getElem?_replicate,this]
 obtain⟨s',e⟩:=u0i m j o l n.2 (w4 a.1.toNat 1) (a.2.1.toNat+1) 0 (s:=(List.replicate a.2.1.toNat 0,[0])) ⟨by simp,⟨by simp,λx i=>by simp at i;subst i;omega⟩,λz c=>by
  rw[List.eq_of_mem_replicate c];exact⟨by omega,by omega⟩⟩ (λv h=>by
  simp at h;subst h
  rw[m.base];exact c)
 unfold a7
 rw[d,g,e,decide_eq_true k]
 rfl
theorem x05(w:List Int)(hl:w.length<=1099511627776)(n0:Nat)(hn:n0<=1099511627776):∀(d k fuel:Nat) (s:List Int),k+d=w.length->d<fuel->s.length<=n0+k ->
  n7 w fuel (k:Int) s.reverse=some (Y02 s (w.drop k)).reverse
 |d,k,0,s,hk,hf,hsl=>by omega
 |0,k,fuel+1,s,hk,hf,hsl=>by
  rw[n7.eq_2,if_neg (by simp;omega),V1 (by omega)]
  rfl
 |d+1,k,fuel+1,s,hk,hf,hsl=>by
  have hkl:k<w.length:=by omega
  have hx:=P4 hkl
  generalize w[k]=x at hx
  have next:=x05 w hl n0 hn d (k+1) fuel (y03 s x) (by omega) (by omega) (by have:=h0d s x;omega)
  rw[C2 hx]
  show _=some (Y02 (y03 s x) (w.drop (k+1))).reverse
  rw[←next,n7.eq_2,if_pos (by simp;omega),B3 hx,oB,oB,H0 (by rw[List.length_reverse];omega),oB,oB,oB]
  rw[A3 hkl (by omega:w.length<=9223372036854775807)]
  cases s with
  |nil =>
   have hz:decide ((((([]:List Int).reverse).length:Nat):Int)>0)=false:=rfl
   simp only[hz,T2,oB,cond_false,Bool.false_eq_true,if_false]
   rw[H0 (by simp)]
   rfl
  |cons l t =>
   have hp:decide ((((l::t).reverse.length:Nat):Int)>0)=true:=by simp
   have hpr:IntKind.i64.wrap ((((l::t).reverse.length:Nat):Int)-1)=((t.length:Nat):Int):=by
    rw[G0f (by simp) (by simp only[List.length_cons]at hsl;simp only[List.length_reverse,List.length_cons];omega)];simp
   have hpush:(grd (((l::t).reverse.length + [x].length)*8<=140737488355328))=some ():=H0 (by simp only[List.length_cons]at hsl;simp only[List.length_reverse,List.length_cons,List.length_nil];omega)
   have hlen:(grd ((l::t).reverse.length<=9223372036854775807))=some ():=H0 (by rw[List.length_reverse];omega)
   simp only[hp,hpr,Y1,oB,cond_true,B3 I0f,q0j,y03]
   have hcc:(!(l == 0) && !(l == -9223372036854775808)&&(x == IntKind.i64.wrap (0-l)))=m06 l x:=rfl
   rw[hcc]
   cases hc:m06 l x with
   |true =>
    simp only[if_true,cond_true,hlen,oB]
    rw[H0 (by simp only[List.length_reverse,List.length_cons];omega),oB,Int.toNat_natCast,T0h]
   |false =>
    simp only[Bool.false_eq_true,if_false,cond_false,hpush,hlen,oB]
    exact congrArg _ (List.reverse_cons ..).symm
def q0q:List (List Int)->Nat
 | []=>0
 |w::r=>w.length+q0q r
def Z0r(s:List Int):List (List Int)->List Int
 | []=>s
 |w::r=>Z0r (Y02 s w) r
theorem y05(a:List (List Int))(g:a.length<=1099511627776):∀(d k fuel:Nat) (s:List Int),k+d=a.length->d<fuel->s.length+q0q (a.drop k)<=1099511627776 ->
  C8 a fuel (k:Int) s.reverse=some (Z0r s (a.drop k)).reverse
 |d,k,0,s,e,hf,b=>by omega
 |0,k,fuel+1,s,e,hf,b=>by
  rw[C8.eq_2,if_neg (by simp;omega),V1 (by omega)]
  rfl
 |d+1,k,fuel+1,s,e,hf,b=>by
  have f:k<a.length:=by omega
  have c:=P4 f
  generalize a[k]=w at c
  rw[C2 c]at b ⊢
  simp only[q0q]at b
  have h:=v07 w s
  have h0:=x05 w (by omega) s.length (by omega) w.length 0 Y0 s (by omega) (M1 (by omega)) (by omega)
  rw[show((0:Nat):Int)=0 from rfl,List.drop_zero]at h0
  rw[C8.eq_2,if_pos (by simp;omega),B3 c,oB,h0,oB,A3 f (by omega:a.length<=9223372036854775807)]
  exact y05 a g d (k+1) fuel (Y02 s w) (by omega) (by omega) (by omega)
theorem v0a(a:List (List Int))(c:a.length<=1099511627776)(b:q0q a<=1099511627776):T00 a=some (Z0r [] a).reverse:=by
 unfold T00
 have h:=y05 a c a.length 0 Y0 [] (by omega) (M1 (by omega)) (by simpa using b)
 rw[show((0:Nat):Int)=0 from rfl,List.drop_zero,List.reverse_nil]at h
 rw[h]
 rfl
abbrev Tr8:=List (Option (List Int))×List Int
def trS(g:j0)(v x:Int)(s:Tr8):Tr8:=if 0<=P0 g v x/\P0 g v x ∉ s.2 then(s.1.set (P0 g v x).toNat (some ((F00 s.1 v).getD [] ++ [x])),s.2 ++ [P0 g v x])else s
def Q0l(g:j0)(v:Int):List Int->Tr8->Tr8
 | [],s=>s
 |x::r,s=>Q0l g v r (trS g v x s)
def h0c(g:j0)(ls:List Int):Nat->Nat->Tr8->Tr8
 |0,i,s=>s
 |f+1,i,s=>match s.2[i]? with
  |some v=>h0c g ls f (i+1) (Q0l g v ls s)
  |none=>s
def Q3(g:j0)(p:Int):List Int:=O01 g (w4 g.1.toNat 1) (g.2.1.toNat+1) 0 [p]
def v0d(g:j0)(p:Int):Tr8:=h0c g (w4 g.1.toNat 1) (g.2.1.toNat+1) 0 ((List.replicate g.2.1.toNat none).set p.toNat (some []),[p])
theorem a0p(g:j0)(v x:Int)(s:Tr8):(trS g v x s).2=P0a s.2 (P0 g v x):=by
 unfold trS P0a
 split<;>rfl
theorem u0g(g:j0)(v:Int):∀(ls:List Int) (s:Tr8),(Q0l g v ls s).2=v05 g v ls s.2
 | [],s=>rfl
 |x::r,s=>by rw[Q0l,u0g g v r,a0p];rfl
theorem v0i(g:j0)(ls:List Int):∀(f i:Nat) (s:Tr8),(h0c g ls f i s).2=O01 g ls f i s.2
 |0,i,s=>rfl
 |f+1,i,s=>by
  unfold h0c O01
  cases s.2[i]? with
  |none=>rfl
  |some v=>simp only[v0i g ls f,u0g]
theorem v0g(g:j0)(p:Int):(v0d g p).2=Q3 g p:=v0i _ _ _ _ _
structure TOk (g:j0) (p:Int) (n:Nat) (s:Tr8):Prop where
 ok:WOk n s.1 s.2
 gd:gud n s.2
 base:p∈s.2
 word:F00 s.1 p=some []
 par:∀ y∈s.2,y≠p->∃ v∈s.2,∃ x,x∈w4 g.1.toNat 1/\P0 g v x=y/\∃ a,F00 s.1 v=some a/\F00 s.1 y=some (a ++ [x])
 red:∀ y∈s.2,∀ a,F00 s.1 y=some a->Red a.reverse=true
theorem WOk.add{n:Nat}{b:List (Option (List Int))}{u:List Int}(a:WOk n b u){y:Int}(d:0<=y)(h:y<(n:Int))(v x:Int):WOk n (b.set y.toNat (some ((F00 b v).getD [] ++ [x]))) (u ++ [y]):=by
 have e:=a.short v
 refine⟨by simp[a.len],λz h0 f=>?_,λz=>?_⟩
 ·rw[v02 d (by have:=a.len;omega) h0]
  by_cases c:z=y
  ·rw[if_pos c];simp[c]
  ·rw[if_neg c,a.iff z h0 f];simp[c]
 ·by_cases hz:0<=z
  ·rw[v02 d (by have:=a.len;omega) hz]
   by_cases c:z=y
   ·rw[if_pos c];simp;exact e
   ·rw[if_neg c];have:=a.short z;simp only[List.length_append];omega
  ·have g:F00 (b.set y.toNat (some ((F00 b v).getD [] ++ [x]))) z=F00 (b.set y.toNat (some ((F00 b v).getD [] ++ [x]))) 0:=by
    unfold F00;rw[show z.toNat=(0:Int).toNat by omega]
   rw[g,v02 d (by have:=a.len;omega) (iR 0)]
   by_cases c:(0:Int)=y
   ·rw[if_pos c];simp;exact e
   ·rw[if_neg c];have:=a.short 0;simp only[List.length_append];omega
theorem WOk.get{n:Nat}{b:List (Option (List Int))}{u:List Int}(f:WOk n b u){v:Int}(h0:0<=v)(c:v<(n:Int))(d:v∈u):∃ a,F00 b v=some a:=by
 cases e:F00 b v with
 |none=>exact absurd d ((f.iff v h0 c).1 (by rw[e];rfl))
 |some a=>exact⟨a,rfl⟩
theorem O05{R:Nat}(b:R<=900){x:Int}(a:x∈w4 R 1):N4 x/\x≠0 /\ -(R:Int)<=x/\x<=(R:Int):=by
 obtain⟨j,c,d,e⟩:=n0g _ _ _ a
 exact⟨⟨⟨by omega,by omega⟩,by omega⟩,by omega,by omega,by omega⟩
theorem a0s{l x:Int}(a:N4 l)(h:m06 l x=true):x = -l:=by
 unfold m06 at h
 simp only[Bool.and_eq_true,beq_iff_eq]at h
 rw[h.2];exact V0d a.1 a.2
theorem TOk.add{g:j0}(hf:M0 g=true){p:Int}{n:Nat}(S:g.2.1=(n:Int)){s:Tr8}(h:TOk g p n s){v x:Int}(j:v∈s.2)(N:x∈w4 g.1.toNat 1):TOk g p n (trS g v x s):=by
 obtain⟨Q,T,U,V⟩:=P2 hf
 unfold trS
 split
 ·rename_i c
  obtain⟨o,w⟩:=c
  have P:P0 g v x<(n:Int):=by
   rcases E00 Q v x with e|e<;>omega
  obtain⟨m,u⟩:=s
  obtain⟨ok,q,base,I,F,G⟩:=h
  simp only at j o w ok q base I F G ⊢
  have D:=q.2 v j
  obtain⟨a,i⟩:=ok.get D.1 D.2 j
  have R:=ok.len
  have keep:∀ z∈u,F00 (m.set (P0 g v x).toNat (some ((F00 m v).getD [] ++ [x]))) z=F00 m z:=λz K=>by
   have:=q.2 z K
   rw[v02 o (by omega) this.1,if_neg λ(e:z=P0 g v x)=>w (by rw[←e];exact K)]
  have new:F00 (m.set (P0 g v x).toNat (some ((F00 m v).getD [] ++ [x]))) (P0 g v x)=some (a ++ [x]):=by
   rw[v02 o (by omega) o,if_pos rfl,i];rfl
  refine⟨ok.add o P v x,⟨List.nodup_append.2 ⟨q.1,by simp,λa i b f=>?_⟩,λy d=>?_⟩,List.mem_append_left _ base,?_,λy d O=>?_,λy d b f=>?_⟩
  ·simp at f;subst f;exact λe=>w (e▸i)
  ·rcases List.mem_append.1 d with d|d
   ·exact q.2 y d
   ·simp at d;subst d;omega
  ·rw[keep p base];exact I
  ·rcases List.mem_append.1 d with d|d
   ·obtain⟨H,B,L,E,C,b,A,k⟩:=F y d O
    exact⟨H,List.mem_append_left _ B,L,E,C,b,by rw[keep H B];exact A,by rw[keep y d];exact k⟩
   ·simp at d;subst d
    exact⟨v,List.mem_append_left _ j,x,N,rfl,a,by rw[keep v j];exact i,new⟩
  ·rcases List.mem_append.1 d with d|d
   ·rw[keep y d]at f;exact G y d b f
   ·simp at d;subst d
    rw[new]at f;cases f
    have J:=G v j a i
    rw[List.reverse_append]
    show Red (x::a.reverse)=true
    cases e:a.reverse with
    |nil=>rfl
    |cons l t =>
     rw[e]at J
     unfold Red
     rw[J,Bool.and_true]
     cases hc:m06 l x with
     |false=>rfl
     |true =>
      exfalso
      have M:v≠p:=λA=>by
       subst A
       rw[I]at i;cases i;simp at e
      obtain⟨H,B,L,E,C,b,A,k⟩:=F v j M
      rw[i]at k
      injection k with k
      rw[k,List.reverse_append]at e
      simp only[List.reverse_cons,List.reverse_nil,List.nil_append,List.cons_append,List.cons.injEq]at e
      rw[←e.1]at hc
      have:=a0s (O05 (by omega) E).1 hc
      have f:=h04 hf C D.1
      rw[←this]at f
      exact w (f▸B)
 ·exact h
theorem b0p(g:j0)(v x:Int)(s:Tr8):∃ t,(trS g v x s).2=s.2++t:=by rw[a0p];exact b0g _ _
theorem b0s(g:j0)(v:Int)(ls:List Int)(s:Tr8):∃ t,(Q0l g v ls s).2=s.2++t:=by rw[u0g];exact e04 _ _ _ _
theorem TOk.inn{g:j0}(hf:M0 g=true){p:Int}{n:Nat}(c:g.2.1=(n:Int)){v:Int}:∀(ls:List Int) {s:Tr8},TOk g p n s->v∈s.2->(∀ x∈ls,x∈w4 g.1.toNat 1)->TOk g p n (Q0l g v ls s)
 | [],s,h,b,a=>h
 |x::r,s,h,b,a=>by
  obtain⟨t,e⟩:=b0p g v x s
  exact TOk.inn hf c r (h.add hf c b (a x mS)) (by rw[e];exact List.mem_append_left _ b) λy d=>a y (mC _ d)
theorem TOk.out{g:j0}(hf:M0 g=true){p:Int}{n:Nat}(a:g.2.1=(n:Int)):∀(f i:Nat) {s:Tr8},TOk g p n s->TOk g p n (h0c g (w4 g.1.toNat 1) f i s)
 |0,i,s,h=>h
 |f+1,i,s,h=>by
  unfold h0c
  cases e:s.2[i]? with
  |none=>exact h
  |some v=>exact TOk.out hf a f (i+1) (h.inn hf a _ (List.mem_of_getElem? e) λx b=>b)
theorem c0s(N:Nat)(x:Int):F00 (List.replicate N (none:Option (List Int))) x=none:=by
 unfold F00
 rw[List.getD_eq_getElem?_getD,List.getElem?_replicate];split<;>rfl
theorem w0i(g:j0){p:Int}{N:Nat}(d:0<=p/\p<(N:Int)):TOk g p N ((List.replicate N none).set p.toNat (some []),[p]):=by
 have f:∀ x,0<=x->F00 ((List.replicate N (none:Option (List Int))).set p.toNat (some [])) x=if x=p then some []else none:=λx h0=>by
  rw[v02 d.1 (by simp;omega) h0,c0s]
 refine⟨⟨by simp,λx h0 k=>?_,λx=>?_⟩,⟨by simp,λx j=>by simp at j;subst j;exact d⟩,by simp,?_,λy b h=>?_,λy b a i=>?_⟩
 ·simp only
  rw[f x h0]
  by_cases c:x=p
  ·rw[if_pos c];simp[c]
  ·rw[if_neg c];simp[c]
 ·have:∀ x,0<=x->((F00 ((List.replicate N (none:Option (List Int))).set p.toNat (some [])) x).getD []).length<=1:=λx h0=>by
   rw[f x h0];split<;>simp
  by_cases hz:0<=x
  ·exact this x hz
  ·have e:F00 ((List.replicate N (none:Option (List Int))).set p.toNat (some [])) x=F00 ((List.replicate N (none:Option (List Int))).set p.toNat (some [])) 0:=by
    unfold F00;rw[show x.toNat=(0:Int).toNat by omega]
   simp only
   rw[e];exact this 0 (iR 0)
 ·simp only
  rw[f p d.1,if_pos rfl]
 ·simp at b;exact absurd b h
 ·simp at b;subst b
  simp only at i
  rw[f y d.1,if_pos rfl]at i
  cases i;rfl
theorem I0j{g:j0}(hf:M0 g=true){p:Int}(a:0<=p/\p<g.2.1):TOk g p g.2.1.toNat (v0d g p):=by
 obtain⟨b,c,d,e⟩:=P2 hf
 exact TOk.out hf (by omega) _ _ (w0i g ⟨a.1,by omega⟩)
theorem Z0t{g:j0}(hf:M0 g=true)(p:Int){n:Nat}(q:g.2.1=(n:Int))(ls:List Int)(o:∀ x∈ls,x∈w4 g.1.toNat 1)(A:ls.length<=1000000)(v:Int):∀(d k fuel:Nat) (s:Tr8),TOk g p n s->v∈s.2->k+d=ls.length->d<fuel ->
  Y3 ls g.1 g.2.1 g.2.2 v fuel (k:Int) s.1 s.2=some (Q0l g v (ls.drop k) s)
 |d,k,0,s,a,b,j,hf=>by omega
 |0,k,fuel+1,s,a,b,j,hf=>by
  rw[Y3.eq_2,if_neg (by simp;omega),V1 (by omega)];rfl
 |d+1,k,fuel+1,s,a,b,j,F=>by
  obtain⟨w,J,E,K⟩:=P2 hf
  have m:k<ls.length:=by omega
  have e:=P4 m
  have f:=o _ (List.mem_of_getElem? e)
  have l:=C2 e
  generalize ls[k]=x at e f l
  have C:=(O05 (by omega) f).1
  have G:=f01 n s.2 a.gd.1 a.gd.2
  have H:=E00 w v x
  have B:=a.add hf q b f
  obtain⟨t,z⟩:=b0p g v x s
  have D:=Z0t hf p q ls o A v d (k+1) fuel (trS g v x s) B (by rw[z];exact List.mem_append_left _ b) (by omega) (by omega)
  have c:=a.ok
  have u:=a.gd.2 v b
  rw[Y3.eq_2,if_pos (by simp;omega),l,Q0l,←D]
  simp only[B3 e,oB,show(g.1,g.2.1,g.2.2)=g from rfl,N04 g v x C (by omega),H0 (q01 w E.2 v x),A3 m (show ls.length<=9223372036854775807 by omega)]
  unfold trS
  generalize P0 g v x=y at *
  by_cases c1:0<=y
  ·have i:y<(n:Int):=by omega
   simp only[show decide (y ≥ 0)=true by simpa using c1,Y1,giO c.len c1 i,oB,cond_true]
   by_cases c2:y∈s.2
   ·have : ¬ ((F00 s.1 y).isNone=true):=λh=>(c.iff y c1 i).1 h c2
    rw[if_neg this,if_neg λh=>h.2 c2]
   ·have:(F00 s.1 y).isNone=true:=(c.iff y c1 i).2 c2
    have I:=c.short v
    rw[if_pos this,if_pos ⟨c1,c2⟩,giO c.len u.1 u.2,oB,C0o (by omega),oB,H0 (by simp;omega),oB,H0 (by simp;omega),oB]
  ·simp only[show decide (y ≥ 0)=false by simpa using c1,T2,oB,cond_false]
   rw[if_neg (by simp),if_neg λh=>c1 h.1]
theorem a0u{g:j0}(hf:M0 g=true)(p:Int){n:Nat}(c:g.2.1=(n:Int)):∀(f i fuel:Nat) (s:Tr8),TOk g p n s->i<=s.2.length->n+1<=i+f->f<fuel ->
  M5 g.1 g.2.1 g.2.2 fuel (i:Int) s.1 s.2=some (h0c g (w4 g.1.toNat 1) f i s)
 |f,i,0,s,b,h,d,hf=>by omega
 |0,i,fuel+1,s,b,h,d,hf=>by have:=f01 n s.2 b.gd.1 b.gd.2;omega
 |f+1,i,fuel+1,s,b,h,d,m=>by
  obtain⟨q,u,w,y⟩:=P2 hf
  have o:=f01 n s.2 b.gd.1 b.gd.2
  rw[M5.eq_2,oB,H0 (by omega),oB]
  by_cases hk:i<s.2.length
  ·have a:=P4 hk
   generalize s.2[i]=v at a
   have j:=List.mem_of_getElem? a
   have h0:=Z0t hf p c (w4 g.1.toNat 1) (λx a=>a) (by rw[Z01];omega) v (w4 g.1.toNat 1).length 0 Y0 s b j (by omega) (M1 (by rw[Z01];omega))
   rw[show((0:Nat):Int)=0 from rfl,List.drop_zero]at h0
   obtain⟨t,e⟩:=b0s g v (w4 g.1.toNat 1) s
   have l:=a0u hf p c f (i+1) fuel _ (b.inn hf c _ j λx a=>a) (by rw[e,List.length_append];omega) (by omega) (by omega)
   have k:l00 g.1=some (w4 g.1.toNat 1):=by
    have:=b0n g.1.toNat (by omega)
    rwa [show((g.1.toNat:Nat):Int)=g.1 by omega]at this
   rw[if_pos (by simpa using hk),B3 a,oB,k,oB,h0,oB]
   simp only[A3 hk (show s.2.length<=9223372036854775807 by omega),h0c,a]
   exact l
  ·have a:s.2[i]?=none:=List.getElem?_eq_none (by omega)
   rw[if_neg (by simpa using hk)]
   simp only[h0c,a]
def l08(g:j0)(p:Int):List (List Int):=(v0d g p).1.map λo=>o.getD []
theorem w0g{g:j0}(hf:M0 g=true){p:Int}(f:0<=p/\p<g.2.1):P7 g p=some (Q3 g p,l08 g p):=by
 obtain⟨h,i,j,l⟩:=P2 hf
 have d:g.2.1=((g.2.1.toNat:Nat):Int):=by omega
 have h0:=a0u hf p d (g.2.1.toNat+1) 0 Y0 _ (w0i g (N:=g.2.1.toNat) ⟨f.1,by omega⟩) (by simp) (by omega) (M1 (by omega))
 have e:gi (List.replicate g.2.1.toNat (none:Option (List Int))) p=some none:=by
  have:=B3 (xs:=List.replicate g.2.1.toNat (none:Option (List Int))) (k:=p.toNat) (x:=none) (by rw[List.getElem?_replicate,if_pos (by omega)])
  rwa [show((p.toNat:Nat):Int)=p by omega]at this
 rw[←v0g]
 unfold l08 v0d
 obtain⟨a,b,c⟩:=g
 simp only at *
 unfold P7
 simp only
 rw[H0 (by omega),oB,e,oB]
 rw[show((0:Nat):Int)=0 from rfl]at h0
 rw[h0]
 rfl
def tw(g:j0)(p v:Int):List Int:=(F00 (v0d g p).1 v).getD []
structure k0h (g:j0) (p:Int) (t:Int->List Int):Prop where
 z:t p = []
 par:∀ y∈Q3 g p,y≠p->∃ v∈Q3 g p,∃ x,x∈w4 g.1.toNat 1/\P0 g v x=y/\t y=t v ++ [x]
 red:∀ y∈Q3 g p,Red (t y).reverse=true
 len:∀ y,(t y).length<=40
theorem J02{g:j0}(hf:M0 g=true){p:Int}(k:0<=p/\p<g.2.1):k0h g p (tw g p):=by
 obtain⟨o,q,s,t⟩:=P2 hf
 have h:=I0j hf k
 have e:=v0g g p
 refine⟨by unfold tw;rw[h.word];rfl,λy b n=>?_,λy b=>?_,λy=>?_⟩
 ·rw[←e]at b ⊢
  obtain⟨v,l,x,m,f,a,i,j⟩:=h.par y b n
  exact⟨v,l,x,m,f,by unfold tw;rw[i,j];rfl⟩
 ·rw[←e]at b
  have d:=h.gd.2 y b
  obtain⟨a,c⟩:=h.ok.get d.1 d.2 b
  unfold tw
  rw[c]
  exact h.red y b a c
 ·have:=h.ok.short y
  have:=f01 _ _ h.gd.1 h.gd.2
  unfold tw
  omega
theorem v01{g:j0}(hf:M0 g=true){p:Int}(a:0<=p/\p<g.2.1):gud g.2.1.toNat (Q3 g p):=by
 rw[←v0g];exact(I0j hf a).gd
theorem i0c(g:j0)(p:Int):∃ t,Q3 g p=p::t:=by
 obtain⟨t,e⟩:=S0a g (w4 g.1.toNat 1) (g.2.1.toNat+1) 0 [p]
 exact⟨t,e⟩
theorem k0h.ind{g:j0}{p:Int}{t:Int->List Int}(h:k0h g p t)(P:Int->Prop)(h0:P p)(d:∀ v∈Q3 g p,∀ y∈Q3 g p,∀ x,x∈w4 g.1.toNat 1->P0 g v x=y->t y=t v ++ [x]->P v->P y):∀(k:Nat) (y:Int),(t y).length<=k->y∈Q3 g p->P y
 |k,y,a,f=>by
  by_cases c:y=p
  ·rw[c];exact h0
  ·obtain⟨v,e,x,j,i,b⟩:=h.par y f c
   cases k with
   |zero=>rw[b]at a;simp at a
   |succ k=>exact d v e y f x j i b (k0h.ind h P h0 d k v (by rw[b]at a;simp at a;omega) e)
theorem k0h.induct{g:j0}{p:Int}{t:Int->List Int}(h:k0h g p t){P:Int->Prop}(h0:P p)(a:∀ v∈Q3 g p,∀ y∈Q3 g p,∀ x,x∈w4 g.1.toNat 1->P0 g v x=y->t y=t v ++ [x]->P v->P y){y:Int}(b:y∈Q3 g p):P y:=h.ind P h0 a _ y (Nat.le_refl _) b
theorem J0j{g:j0}{v x y:Int}(h:P0 g v x=y)(h0:0<=y):rdw g v [x]=some y:=by
 unfold rdw
 rw[if_neg (by omega),h];rfl
theorem k0h.rd{g:j0}(hf:M0 g=true){p:Int}(d:0<=p/\p<g.2.1){t:Int->List Int}(h:k0h g p t){y:Int}(a:y∈Q3 g p):rdw g p (t y)=some y:=by
 refine h.induct (P:=λy=>rdw g p (t y)=some y) ?_ (λv f y a x i b c e=>?_) a
 ·rw[h.z];rfl
 ·rw[c,J05,e,oB]
  exact J0j b ((v01 hf d).2 y a).1
theorem k0h.let{g:j0}{p:Int}{t:Int->List Int}(h:k0h g p t){y:Int}(c:y∈Q3 g p):∀ x∈t y,x∈w4 g.1.toNat 1:=by
 refine h.induct (P:=λy=>∀ x∈t y,x∈w4 g.1.toNat 1) ?_ (λv i y c x b f d e=>?_) c
 ·rw[h.z];exact λx b=>by cases b
 ·rw[d]
  intro z a
  rcases List.mem_append.1 a with a|a
  ·exact e z a
  ·simp at a;rw[a];exact b
def R0l(w:List Int):Int:=w.getLastD 0
theorem D07(a:List Int)(x:Int):R0l (a ++ [x])=x:=by unfold R0l;simp
def tE(g:j0)(v:Int):Q0:=stp (P0 g v (-(R0l (tw g 0 v)))) (R0l (tw g 0 v)) v
def u04(g:j0):List Q0:=B5 S0 [] ((Q3 g 0).tail.map (tE g))
theorem x0g{g:j0}(hf:M0 g=true){p:Int}(b:0<=p/\p<g.2.1){v:Int}(d:0<=v/\v<g.2.1):gi (l08 g p) v=some (tw g p v):=by
 have h:=I0j hf b
 have c:=h.ok.len
 have a:v.toNat<(v0d g p).1.length:=by omega
 have:=B3 (xs:=l08 g p) (k:=v.toNat) (x:=tw g p v) (by
  unfold l08 tw F00
  rw[List.getElem?_map,List.getElem?_eq_getElem a,List.getD_eq_getElem?_getD,List.getElem?_eq_getElem a];rfl)
 rwa [show((v.toNat:Nat):Int)=v by omega]at this
theorem y0g{g:j0}(hf:M0 g=true){v:Int}:v∈(Q3 g 0).tail↔v∈Q3 g 0/\v≠0:=by
 obtain⟨f,i,j,k⟩:=P2 hf
 obtain⟨t,e⟩:=i0c g 0
 have b:=(v01 hf (p:=0) ⟨by omega,by omega⟩).1
 rw[e]at b ⊢
 have:=(List.nodup_cons.1 b).1
 constructor
 ·intro h
  exact⟨mC _ h,λc=>this (c▸h)⟩
 ·rintro⟨a,d⟩
  rcases List.mem_cons.1 a with a|a
  ·exact absurd a d
  ·exact a
theorem c0p{g:j0}(hf:M0 g=true):∀(d k fuel:Nat) (acc:List Q0),k+d=(Q3 g 0).tail.length->d<fuel->acc.length<=k ->
  c7 (Q3 g 0).tail (l08 g 0) g.1 g.2.1 g.2.2 fuel (k:Int) acc=some (acc++((Q3 g 0).tail.drop k).map (tE g))
 |d,k,0,acc,j,s,i=>by omega
 |0,k,fuel+1,acc,j,s,i=>by
  rw[c7.eq_2,if_neg (by simp only[decide_eq_true_eq];omega),V1 (by omega)];simp
 |d+1,k,fuel+1,acc,j,F,i=>by
  obtain⟨C,L,D,M⟩:=P2 hf
  have f:(0:Int)<=0/\(0:Int)<g.2.1:=⟨by omega,by omega⟩
  have h:=J02 hf f
  have e:=v01 hf f
  have G:=f01 _ _ e.1 e.2
  have m:k<(Q3 g 0).tail.length:=by omega
  have J:(Q3 g 0).tail.length<=40:=by rw[List.length_tail];omega
  have b:=P4 m
  have n:=List.mem_of_getElem? b
  have l:=C2 b
  generalize (Q3 g 0).tail[k]=v at b n l
  obtain⟨o,z⟩:=(y0g hf).1 n
  have A:=e.2 v o
  obtain⟨u,K,x,B,E,c⟩:=h.par v o z
  have a:=O05 (by omega) B
  have H:(tw g 0 v).length=(tw g 0 u).length+1:=by rw[c];simp
  have I:=h.len u
  have q:gi (tw g 0 v) (IntKind.i64.wrap (((tw g 0 v).length:Nat)-1))=some x:=by
   rw[w64 (by omega) (by omega),show(((tw g 0 v).length:Nat):Int)-1=(((tw g 0 u).length:Nat):Int) by omega]
   refine B3 ?_
   rw[c,List.getElem?_append_right (Nat.le_refl _)];simp
  have y:tE g v=stp (P0 g v (-x)) x v:=by unfold tE;rw[c,D07]
  have w:N4 (-x):=⟨⟨by have:=a.2.2;omega,by have:=a.2.2;omega⟩,by have:=a.2.2;omega⟩
  have p:=c0p hf d (k+1) fuel (acc ++ [tE g v]) (by omega) (by omega) (by simp;omega)
  rw[c7.eq_2,if_pos (by simp only[decide_eq_true_eq];omega),B3 b,oB,x0g hf f ⟨A.1,by omega⟩,oB,q,oB,V0d a.1.1 a.1.2,show(g.1,g.2.1,g.2.2)=g from rfl,N04 g v (-x) w (by omega),oB,H0 (q01 C D.2 v _),oB,S0r _ x v a.1,oB,←y,A3 m (by omega),l,List.map_cons]
  generalize tE g v=t at p ⊢
  obtain⟨N,O,P⟩:=t
  simp only
  rw[H0 (by simp;omega),oB]
  rw[p]
  simp
theorem S0l{g:j0}(hf:M0 g=true):d02 g=some (u04 g):=by
 obtain⟨n,o,p,q⟩:=P2 hf
 have f:(0:Int)<=0/\(0:Int)<g.2.1:=⟨by omega,by omega⟩
 have d:=v01 hf f
 have m:=f01 _ _ d.1 d.2
 have i:=w0g hf f
 obtain⟨t,h⟩:=i0c g 0
 have j:b08 (Q3 g 0) 1 (((Q3 g 0).length:Nat):Int)=some (Q3 g 0).tail:=by
  have:=O04 (xs:=Q3 g 0) (k:=1) (by rw[h];simp)
  rw[show((1:Nat):Int)=1 from rfl]at this
  rw[this,List.drop_one]
 have e:=c0p hf (Q3 g 0).tail.length 0 Y0 [] (by omega) (M1 (by rw[List.length_tail];omega)) (by simp)
 rw[show((0:Nat):Int)=0 from rfl,List.drop_zero,List.nil_append]at e
 have l:=e09 ((Q3 g 0).tail.map (tE g)) (by rw[List.length_map,List.length_tail];omega)
 unfold u04
 obtain⟨a,b,c⟩:=g
 simp only at *
 unfold d02
 simp only[i,oB,j,e,l]
theorem N09{g:j0}(hf:M0 g=true){e:Q0}:e∈u04 g↔∃ z∈Q3 g 0,∃ q∈Q3 g 0,∃ l,l∈w4 g.1.toNat 1/\P0 g q l=z/\tw g 0 z=tw g 0 q ++ [l]/\e=stp q l z:=by
 obtain⟨p,s,t,u⟩:=P2 hf
 have m:(0:Int)<=0/\(0:Int)<g.2.1:=⟨by omega,by omega⟩
 have j:=J02 hf m
 have i:=v01 hf m
 unfold u04
 rw[R00 P6,List.mem_map]
 constructor
 ·rintro(h|⟨z,d,rfl⟩)
  ·cases h
  ·obtain⟨f,o⟩:=(y0g hf).1 d
   obtain⟨q,n,l,k,b,a⟩:=j.par z f o
   refine⟨z,f,q,n,l,k,b,a,?_⟩
   unfold tE
   rw[a,D07,h04 hf b (i.2 z f).1]
 ·rintro⟨z,d,q,n,l,k,b,a,rfl⟩
  refine .inr ⟨z,(y0g hf).2 ⟨d,λc=>?_⟩,?_⟩
  ·rw[c,j.z]at a;simp at a
  ·unfold tE
   rw[a,D07,h04 hf b (i.2 z d).1]
def R01(g:j0):List Q0:=g.2.2.filter λe => !decide (e∈u04 g)
theorem r0q{g:j0}(hf:M0 g=true):(u04 g).length<=40:=by
 obtain⟨c,d,e,f⟩:=P2 hf
 have a:=v01 hf (p:=0) ⟨by omega,by omega⟩
 have b:=f01 _ _ a.1 a.2
 unfold u04
 have:=d04 ((Q3 g 0).tail.map (tE g)) []
 rw[List.length_map,List.length_tail,List.length_nil]at this
 omega
theorem d0p(a:List Q0)(q:a.length<=1000)(es:List Q0)(t:es.length<=1000):∀(d k fuel:Nat) (acc:List Q0),k+d=es.length->d<fuel->acc.length<=k ->
  N5 es a fuel (k:Int) acc=some (acc++(es.drop k).filter λe => !decide (e∈a))
 |d,k,0,acc,l,s,j=>by omega
 |0,k,fuel+1,acc,l,s,j=>by
  rw[N5.eq_2,if_neg (by simp only[decide_eq_true_eq];omega),V1 (by omega)];simp
 |d+1,k,fuel+1,acc,l,u,j=>by
  have n:k<es.length:=by omega
  have b:=P4 n
  have m:=C2 b
  generalize es[k]=e at b m
  have o:=λp h=>d0p a q es t d (k+1) fuel p (by omega) (by omega) h
  obtain⟨f,g,i⟩:=e
  rw[N5.eq_2,if_pos (by simp only[decide_eq_true_eq];omega),B3 b,oB]
  simp only[j0n a (f,g,i) (by omega),oB,A3 n (show es.length<=9223372036854775807 by omega),m,List.filter_cons]
  by_cases c:(f,g,i)∈a
  ·simp only[decide_eq_true c,Bool.not_true,Bool.false_eq_true,if_false]
   exact o acc (by omega)
  ·simp only[decide_eq_false c,Bool.not_false,if_true]
   rw[H0 (by simp;omega),oB,o _ (by simp;omega)]
   simp
theorem t0t{g:j0}(hf:M0 g=true):u01 g=some (R01 g):=by
 obtain⟨i,j,k,l⟩:=P2 hf
 have e:=X01 g (by omega)
 have f:=S0l hf
 have h:=r0q hf
 have d:=d0p (u04 g) (by omega) g.2.2 (by omega) g.2.2.length 0 Y0 [] (by omega) (M1 (by omega)) (by simp)
 rw[show((0:Nat):Int)=0 from rfl,List.drop_zero,List.nil_append]at d
 unfold R01
 obtain⟨a,b,c⟩:=g
 simp only at *
 unfold u01
 simp only[e,hf,oB,f,Bool.not_true,Bool.false_eq_true,if_false,d]
theorem Q04{g:j0}{e:Q0}:e∈R01 g↔e∈g.2.2/\e ∉ u04 g:=by
 unfold R01
 rw[List.mem_filter]
 simp
def bw(g:j0)(e:Q0):List Int:=tw g 0 e.1 ++ [e.2.1]++inv (tw g 0 e.2.2)
def P03(g:j0):List (List Int):=(R01 g).map λe=>(Y02 [] (bw g e)).reverse
theorem G0u{g:j0}(hf:M0 g=true)(e:Q0):(bw g e).length<=81:=by
 obtain⟨d,f,h,i⟩:=P2 hf
 have a:=J02 hf (p:=0) ⟨by omega,by omega⟩
 have b:=a.len e.1
 have c:=a.len e.2.2
 unfold bw
 simp only[List.length_append,s0j,List.length_singleton]
 omega
theorem e0p{g:j0}(hf:M0 g=true)(es:List Q0)(m:∀ e∈es,e∈g.2.2)(v:es.length<=1000):∀(d k fuel:Nat) (acc:List (List Int)),k+d=es.length->d<fuel->acc.length<=k ->
  P8 es (l08 g 0) fuel (k:Int) acc=some (acc++(es.drop k).map λe=>(Y02 [] (bw g e)).reverse)
 |d,k,0,acc,j,u,i=>by omega
 |0,k,fuel+1,acc,j,u,i=>by
  rw[P8.eq_2,if_neg (by simp only[decide_eq_true_eq];omega),V1 (by omega)];simp
 |d+1,k,fuel+1,acc,j,B,i=>by
  obtain⟨x,C,D,E⟩:=P2 hf
  have b:(0:Int)<=0/\(0:Int)<g.2.1:=⟨by omega,by omega⟩
  have f:=J02 hf b
  have o:k<es.length:=by omega
  have a:=P4 o
  have n:=m _ (List.mem_of_getElem? a)
  have l:=C2 a
  generalize es[k]=e at a l n
  have c:=x e n
  have s:=f.len e.1
  have t:=f.len e.2.2
  have w:=λq h=>e0p hf es m v d (k+1) fuel q (by omega) (by omega) h
  have p:T00 [tw g 0 e.1,[e.2.1],inv (tw g 0 e.2.2)]=some (Y02 [] (bw g e)).reverse:=by
   rw[v0a _ (by simp) (by simp only[q0q,s0j,List.length_singleton];omega)]
   unfold bw Z0r
   simp only[Z0r,d0l]
  obtain⟨y,z,A⟩:=e
  rw[P8.eq_2,if_pos (by simp only[decide_eq_true_eq];omega),B3 a,oB]
  simp only at c p s t ⊢
  rw[x0g hf b c.1,oB,oB,x0g hf b c.2.1,oB,g0d _ (by omega),oB,oB,p,oB,oB,H0 (by simp;omega),oB,A3 o (show es.length<=9223372036854775807 by omega),w _ (by simp;omega),l]
  simp
theorem u0t{g:j0}(f:T1 g=true):e02 g=some (P03 g):=by
 have hf:=F4 f
 obtain⟨m,n,o,q⟩:=P2 hf
 have h:=d00 g (by omega)
 have i:=t0t hf
 have j:=w0g hf (p:=0) ⟨by omega,by omega⟩
 have l:(R01 g).length<=g.2.2.length:=List.length_filter_le _ _
 have d:=e0p hf (R01 g) (λe k=>(Q04.1 k).1) (by omega) (R01 g).length 0 Y0 [] (by omega) (M1 (by omega)) (by simp)
 rw[show((0:Nat):Int)=0 from rfl,List.drop_zero,List.nil_append]at d
 unfold P03
 obtain⟨a,b,c⟩:=g
 simp only at *
 unfold e02
 simp only[h,f,oB,i,j,Bool.not_true,Bool.false_eq_true,if_false,d]
theorem L0e:∀(s t:List Int),Red (s++t)=true↔Red s=true/\Red t=true/\∀ a b,s.getLast?=some a->t.head?=some b->m06 b a=false
 | [],t=>by simp[Red]
 | [a],[]=>by simp[Red]
 | [a],b::t=>by
  show(!m06 b a&&Red (b::t))=true↔_
  simp only[Bool.and_eq_true,Bool.not_eq_true']
  constructor
  ·rintro⟨d,c⟩
   refine⟨rfl,c,λj k g h=>?_⟩
   simp at g h;subst g;subst h;exact d
  ·rintro⟨_,c,e⟩
   exact⟨e a b rfl rfl,c⟩
 |x::y::s,t=>by
  have i:=L0e (y::s) t
  show(!m06 y x&&Red (y::s++t))=true↔(!m06 y x&&Red (y::s))=true/\_
  rw[Bool.and_eq_true,i,Bool.and_eq_true,List.getLast?_cons_cons]
  constructor
  ·rintro⟨d,c,e,f⟩;exact⟨⟨d,c⟩,e,f⟩
  ·rintro⟨⟨d,c⟩,e,f⟩;exact⟨d,c,e,f⟩
theorem m09{x:Int}(h:N4 x):ng x = -x:=V0d h.1 h.2
theorem U0a{x:Int}(h:N4 x):N4 (-x):=⟨⟨by have:=h.1.2;have:=h.2;omega,by have:=h.1.1;have:=h.2;omega⟩,by have:=h.1.2;omega⟩
theorem j0c{l x:Int}(a:N4 l)(h0:l≠0):m06 l x=true↔x = -l:=by
 unfold m06
 rw[m09 a]
 simp only[Bool.and_eq_true,Bool.not_eq_true',beq_eq_false_iff_ne,beq_iff_eq,ne_eq]
 constructor
 ·exact λh=>h.2
 ·exact λh=>⟨⟨h0,a.2⟩,h⟩
theorem v0t{x y:Int}(a:N4 x)(c:x≠0)(b:N4 y)(d:y≠0):m06 (ng y) (ng x)=m06 x y:=by
 rw[Bool.eq_iff_iff,m09 a,m09 b,j0c (U0a b) (by omega),j0c a c]
 omega
theorem w0t(w:List Int):(inv w).reverse=w.map ng:=by simp[inv]
theorem d0s:∀(w:List Int),(∀ x∈w,N4 x/\x≠0)->Red w.reverse=true->Red (w.map ng)=true
 | [],_,_=>rfl
 | [x],_,_=>rfl
 |x::y::w,a,h=>by
  rw[List.reverse_cons,L0e]at h
  have i:=d0s (y::w) (λz g=>a z (mC _ g)) h.1
  have b:=h.2.2 y x (by simp) rfl
  show(!m06 (ng y) (ng x)&&Red (List.map ng (y::w)))=true
  obtain⟨c,d⟩:=a x (by simp)
  obtain⟨e,f⟩:=a y (by simp)
  rw[v0t c d e f,b,i];rfl
theorem x0t{w:List Int}(a:∀ x∈w,N4 x):inv (inv w)=w:=by
 unfold inv
 rw[List.map_reverse,List.reverse_reverse,List.map_map]
 refine(List.map_congr_left λx b=>?_).trans (List.map_id w)
 have h:=a x b
 show ng (ng x)=x
 rw[m09 h,m09 (U0a h)];omega
theorem e0s(x:Int)(w:List Int):inv (x::w)=inv w ++ [ng x]:=by simp[inv]
theorem f0p{w:List Int}(a:∀ x∈w,N4 x):∀ x∈inv w,N4 x:=λx b=>by
 simp only[inv,List.mem_reverse,List.mem_map]at b
 obtain⟨y,c,rfl⟩:=b
 rw[m09 (a y c)];exact U0a (a y c)
theorem s0q{s:List Int}{x y:Int}(h:y∈y03 s x):y∈s∨y=x:=by
 cases s with
 |nil=>simp[y03]at h;exact .inr h
 |cons l t =>
  simp only[y03]at h
  cases c:m06 l x with
  |true=>rw[c]at h;exact .inl (mC _ h)
  |false =>
   rw[c]at h
   rcases List.mem_cons.1 h with h|h
   ·exact .inr h
   ·exact .inl h
theorem T0l:∀(w s:List Int) {y:Int},y∈Y02 s w->y∈s∨y∈w
 | [],s,y,h => .inl h
 |x::w,s,y,h=>by
  rcases T0l w (y03 s x) h with h|h
  ·rcases s0q h with h|rfl
   ·exact .inl h
   ·exact .inr mS
  ·exact .inr (mC _ h)
theorem O09{g:j0}(a:inG g):∀(w:List Int) (v u:Int),(0<=v/\v<g.2.1)->rdw g v w=some u->0<=u/\u<g.2.1
 | [],v,u,b,h=>by simp only[rdw,Option.some.injEq]at h;rw[←h];exact b
 |x::w,v,u,b,h=>by
  unfold rdw at h
  by_cases c:P0 g v x<0
  ·rw[if_pos c]at h;cases h
  ·rw[if_neg c]at h
   refine O09 a w _ u ?_ h
   rcases E00 a v x with e|e<;>omega
theorem K0j{g:j0}(hf:M0 g=true):∀(w:List Int) (v u:Int),(∀ x∈w,N4 x)->0<=v->rdw g v w=some u->rdw g u (inv w)=some v
 | [],v,u,a,b,h=>by simp only[rdw,Option.some.injEq]at h;rw[←h];rfl
 |x::w,v,u,a,b,h=>by
  unfold rdw at h
  by_cases c:P0 g v x<0
  ·rw[if_pos c]at h;cases h
  ·rw[if_neg c]at h
   have e:=K0j hf w _ u (λy d=>a y (mC _ d)) (by omega) h
   rw[e0s,J05,e,oB,m09 (a x mS)]
   exact J0j (h04 hf rfl (by omega)) b
theorem z0g{v:Int}{e:Q0}(h:Z09 v e≠0):e.1=v∨e.2.2=v:=by
 unfold Z09 at h
 by_cases c1:e.1=v
 ·exact .inl c1
 ·by_cases c2:e.2.2=v
  ·exact .inr c2
  ·rw[if_neg c1,if_neg c2]at h;omega
theorem x0i{v:Int}:∀ {es:List Q0},(∀ e∈es,Z09 v e=0)->o05 v es=0
 | [],h=>rfl
 |e::l,h=>by
  show Z09 v e+o05 v l=0
  rw[h e mS,x0i λd a=>h d (mC _ a)]
theorem U0l{v:Int}:∀ {es:List Q0},(∀ e∈es,Z09 v e<=1)->es.Pairwise (λa b=>Z09 v a=0∨Z09 v b=0)->o05 v es<=1
 | [],h,i=>Nat.zero_le _
 |e::l,h,i=>by
  show Z09 v e+o05 v l<=1
  have m:=h e mS
  obtain⟨j,k⟩:=List.pairwise_cons.1 i
  have n:=U0l (λd g=>h d (mC _ g)) k
  by_cases c:Z09 v e=0
  ·omega
  ·have:=x0i (v:=v) (es:=l) λd g=>by
    rcases j d g with f|f
    ·exact absurd f c
    ·exact f
   omega
theorem P09{g:j0}(hf:M0 g=true){e:Q0}(a:e∈g.2.2):P0 g e.1 e.2.1=e.2.2/\P0 g e.2.2 (-e.2.1)=e.1:=by
 have b:=(P2 hf).1 e a
 exact⟨k08 hf (c9.2 ⟨e,a,.inl ⟨by omega,rfl,rfl,rfl⟩⟩),k08 hf (c9.2 ⟨e,a,.inr ⟨by omega,by omega,rfl,rfl⟩⟩)⟩
theorem s0n{g:j0}(hf:M0 g=true){v:Int}(y:2<=o05 v g.2.2)(z:Int):∃ x,x≠z/\0<=P0 g v x:=by
 refine Classical.byContradiction λu=>?_
 have t:∀ x,0<=P0 g v x->x=z:=λx h0=>Classical.byContradiction λh=>u ⟨x,h,h0⟩
 obtain⟨i,B,C,D⟩:=P2 hf
 have j:∀ e∈g.2.2,e.1=v->e.2.1=z:=λe c h=>by
  have:=(P09 hf c).1
  rw[h]at this
  exact t _ (by rw[this];exact(i e c).2.1.1)
 have k:∀ e∈g.2.2,e.2.2=v -> -e.2.1=z:=λe c h=>by
  have:=(P09 hf c).2
  rw[h]at this
  exact t _ (by rw[this];exact(i e c).1.1)
 have w:g.2.2.Pairwise λa b=>s05 a b=false:=by
  unfold M0 at hf
  simp only[Bool.and_eq_true]at hf
  exact(J09 _).1 hf.2
 have:=U0l (v:=v) (es:=g.2.2) (λe c=>by
  have A:=i e c
  unfold Z09
  by_cases c1:e.1=v<;>by_cases c2:e.2.2=v
  ·have:=j e c c1;have:=k e c c2;omega
  ·rw[if_pos c1,if_neg c2];omega
  ·rw[if_neg c1,if_pos c2];omega
  ·rw[if_neg c1,if_neg c2];omega) (List.Pairwise.imp_of_mem (λ{a b} l m s=>by
  have E:=i a l
  have F:=i b m
  unfold s05 at s
  simp only[Bool.and_eq_false_iff,Bool.or_eq_false_iff,decide_eq_false_iff_not]at s
  have n:=j a l
  have o:=k a l
  have p:=j b m
  have q:=k b m
  by_cases ha0:Z09 v a=0
  ·exact .inl ha0
  ·by_cases hb0:Z09 v b=0
   ·exact .inr hb0
   ·exfalso
    have d:=z0g ha0
    have f:=z0g hb0
    rcases d with d|d<;>rcases f with f|f
    ·have:=n d;have:=p f;omega
    ·have:=n d;have:=q f;omega
    ·have:=o d;have:=p f;omega
    ·have:=o d;have:=q f;omega) w)
 omega
theorem E07{g:j0}(h:T1 g=true){v:Int}(h0:0<=v)(a:v<g.2.1):v∈Q3 g 0:=o0q (F4 h) (u0d h) h0 a
theorem f0s{g:j0}(h:T1 g=true){v:Int}(h0:0<v)(b:v<g.2.1):2<=o05 v g.2.2:=by
 have:=J0e (u0d h) v.toNat (by omega) (by omega)
 unfold X0b at this
 simp only[Bool.or_eq_false_iff,decide_eq_false_iff_not]at this
 have a:=this.1
 rw[show((v.toNat:Nat):Int)=v by omega]at a
 omega
theorem y0i{u x v a c b:Int}(h:stp u x v=stp a c b):(u=a/\x=c/\v=b)∨(x = -c/\u=b/\v=a):=by
 unfold stp at h
 split at h<;>split at h<;>simp only[Prod.mk.injEq]at h<;>omega
theorem z0i{g:j0}{v x:Int}(h0:0<=P0 g v x):x≠0/\∃ e∈g.2.2,e=stp v x (P0 g v x)/\((0<x/\e.2.1=x/\e.1=v/\e.2.2=P0 g v x)∨(x<0/\e.2.1 = -x/\e.2.2=v/\e.1=P0 g v x)):=by
 rcases j08 g v x with⟨e,_⟩|e
 ·omega
 ·obtain⟨d,i,h⟩:=c9.1 e
  obtain⟨d0,j,k⟩:=d
  simp only at h
  rcases h with⟨a,b,c,f⟩|⟨a,b,c,f⟩
  ·refine⟨by omega,_,i,?_,.inl ⟨a,b,c,f.symm⟩⟩
   unfold stp
   rw[if_neg (by omega),←b,←c,b,c,←f]
  ·refine⟨by omega,_,i,?_,.inr ⟨a,b,c,f.symm⟩⟩
   unfold stp
   rw[if_pos a,←f,b,c]
theorem g0s{g:j0}(a:T1 g=true):∀(k:Nat) (v:Int),0<v->v<g.2.1->41<=(tw g 0 v).length+k->∃ u r,tw g 0 u=tw g 0 v++r/\∃ e∈R01 g,e.1=u∨e.2.2=u
 |0,v,h0,f,w=>by
  have hf:=F4 a
  obtain⟨C,D,E,F⟩:=P2 hf
  have:=(J02 hf (p:=0) ⟨by omega,by omega⟩).len v
  omega
 |k+1,v,h0,f,w=>by
  have hf:=F4 a
  obtain⟨C,D,E,F⟩:=P2 hf
  have i:=J02 hf (p:=0) ⟨by omega,by omega⟩
  obtain⟨p,L,x,N,H,j⟩:=i.par v (E07 a (by omega) f) (by omega)
  obtain⟨G,K,y⟩:=s0n hf (f0s a h0 f) (-x)
  obtain⟨O,d,n,s,o⟩:=z0i y
  by_cases ht:d∈u04 g
  ·obtain⟨z,B,q,M,l,J,I,f2,f3⟩:=(N09 hf).1 ht
   rw[s]at f3
   rcases y0i f3 with⟨h,b,m⟩|⟨h,b,m⟩
   ·have Q:=(v01 hf (p:=0) ⟨by omega,by omega⟩).2 z B
    rw[←h,←b]at f2
    have P:z≠0:=λc=>by rw[c,i.z]at f2;simp at f2
    obtain⟨u,r,A,t⟩:=g0s a k z (by omega) (by omega) (by rw[f2];simp;omega)
    exact⟨u,[G]++r,by rw[A,f2,List.append_assoc],t⟩
   ·exfalso
    rw[←b,j]at f2
    have:=congrArg R0l f2
    rw[D07,D07]at this
    omega
  ·refine⟨v,[],by simp,d,Q04.2 ⟨n,ht⟩,?_⟩
   rcases o with⟨_,_,e,_⟩|⟨_,_,e,_⟩
   ·exact .inl e
   ·exact .inr e
theorem q06{g:j0}(a:T1 g=true){v:Int}(h0:0<=v)(b:v<g.2.1):∀ x∈tw g 0 v,N4 x/\x≠0:=λx d=>by
 have hf:=F4 a
 obtain⟨e,f,h,i⟩:=P2 hf
 have c:=J02 hf (p:=0) ⟨by omega,by omega⟩
 have:=O05 (by omega) (c.let (E07 a h0 b) x d)
 exact⟨this.1,this.2.1⟩
theorem H0u{g:j0}(m:T1 g=true){e:Q0}(A:e∈R01 g):Red (bw g e).reverse=true:=by
 have hf:=F4 m
 obtain⟨G,H,I,J⟩:=P2 hf
 obtain⟨w,x⟩:=Q04.1 A
 have i:=J02 hf (p:=0) ⟨by omega,by omega⟩
 have h:=G e w
 obtain⟨E,F⟩:=P09 hf w
 have o:=E07 m h.1.1 h.1.2
 have s:=E07 m h.2.1.1 h.2.1.2
 have D:N4 e.2.1:=⟨⟨by omega,by omega⟩,by omega⟩
 have B:stp e.1 e.2.1 e.2.2=e:=by unfold stp;rw[if_neg (by omega)]
 have C:stp e.2.2 (-e.2.1) e.1=e:=by unfold stp;rw[if_pos (by omega),Int.neg_neg]
 unfold bw
 rw[List.reverse_append,List.reverse_append,w0t,List.reverse_singleton,L0e,L0e]
 refine⟨d0s _ (q06 m h.2.1.1 h.2.1.2) (i.red _ s),⟨rfl,i.red _ o,λa b f d=>?_⟩,λa b f d=>?_⟩
 ·simp only[List.getLast?_singleton,Option.some.injEq]at f
  subst f
  cases hcc:m06 b e.2.1 with
  |false=>rfl
  |true =>
   exfalso
   have v:e.1≠0:=λc=>by rw[c,i.z]at d;simp at d
   obtain⟨q,t,l,k,j,f2⟩:=i.par _ o v
   rw[f2,List.reverse_append]at d
   simp at d
   subst d
   have n:=O05 (by omega) k
   have u:=(j0c n.1 n.2.1).1 hcc
   have d:=h04 hf j h.1.1
   rw[←u,E]at d
   refine x ((N09 hf).2 ⟨e.1,o,q,t,l,k,j,f2,?_⟩)
   rw[←d,show l = -e.2.1 by omega];exact C.symm
 ·simp only[List.cons_append,List.nil_append,List.head?_cons,Option.some.injEq]at d
  subst d
  cases hcc:m06 e.2.1 a with
  |false=>rfl
  |true =>
   exfalso
   have v:e.2.2≠0:=λc=>by rw[c,i.z]at f;simp at f
   obtain⟨q,t,l,k,j,f2⟩:=i.par _ s v
   rw[f2,List.map_append]at f
   simp at f
   have n:=O05 (by omega) k
   have u:=(j0c D (by omega)).1 hcc
   rw[←f,m09 n.1]at u
   have y:l=e.2.1:=by omega
   have d:=h04 hf j h.2.1.1
   rw[y,F]at d
   refine x ((N09 hf).2 ⟨e.2.2,s,q,t,l,k,j,f2,?_⟩)
   rw[←d,y];exact B.symm
theorem t0q{g:j0}(c:T1 g=true){e:Q0}(d:e∈g.2.2):∀ x∈bw g e,N4 x:=λx a=>by
 obtain⟨h,i,j,k⟩:=P2 (F4 c)
 have b:=h e d
 unfold bw at a
 rcases List.mem_append.1 a with a|a
 ·rcases List.mem_append.1 a with a|a
  ·exact(q06 c b.1.1 b.1.2 x a).1
  ·simp at a;subst a
   exact⟨⟨by omega,by omega⟩,by omega⟩
 ·exact f0p (λy f=>(q06 c b.2.1.1 b.2.1.2 y f).1) x a
theorem A0g{g:j0}(c:T1 g=true){e:Q0}(d:e∈R01 g):(Y02 [] (Y02 [] (bw g e)).reverse).reverse=bw g e/\(Y02 [] (bw g e)).reverse=bw g e:=by
 have b:=S0h _ (H0u c d)
 rw[List.reverse_reverse]at b
 have a:(Y02 [] (bw g e)).reverse=bw g e:=by rw[b,List.reverse_reverse]
 exact⟨by rw[a,a],a⟩
def K02(b:j0)(a:List (List Int)):Bool:=T1 b&&a.all λw=>j05 b (Y02 [] w).reverse
theorem t0n{a b:j0}(g:T1 a=true)(q:T1 b=true){e:Q0}(l:e∈R01 a)(h:j05 b (Y02 [] (Y02 [] (bw a e)).reverse).reverse=true):∃ d f,rdw b 0 (tw a 0 e.1)=some d/\P0 b d e.2.1=f/\0<=f/\rdw b 0 (tw a 0 e.2.2)=some f:=by
 have j:=F4 q
 obtain⟨t,y,z,A⟩:=P2 (F4 g)
 obtain⟨p,u,v,w⟩:=P2 j
 have n:=t e (Q04.1 l).1
 rw[(A0g g l).1,t0d]at h
 unfold bw at h
 rw[J05,J05]at h
 cases e1:rdw b 0 (tw a 0 e.1)with
 |none=>rw[e1]at h;cases h
 |some d =>
  rw[e1,oB]at h
  cases e2:rdw b d [e.2.1]with
  |none=>rw[e2]at h;cases h
  |some f =>
   rw[e2,oB]at h
   have s:=O09 p _ _ _ ⟨by omega,by omega⟩ e1
   have o:=O09 p _ _ _ s e2
   have m:=q06 g n.2.1.1 n.2.1.2
   have k:=K0j j _ _ _ (f0p λx i=>(m x i).1) o.1 h
   rw[x0t λx i=>(m x i).1]at k
   refine⟨d,f,rfl,?_,o.1,k⟩
   unfold rdw at e2
   by_cases c:P0 b d e.2.1<0
   ·rw[if_pos c]at e2;cases e2
   ·rw[if_neg c]at e2
    simpa only[rdw,Option.some.injEq] using e2
theorem u0q{a b:j0}(w:T1 a=true)(K:T1 b=true)(h:∀ e∈R01 a,j05 b (Y02 [] (Y02 [] (bw a e)).reverse).reverse=true):∃ f,Mor a b f:=by
 have k:=F4 w
 have A:=F4 K
 obtain⟨Q,am,an,ao⟩:=P2 k
 obtain⟨ad,aj,ak,al⟩:=P2 A
 have L:=J02 k (p:=0) ⟨by omega,by omega⟩
 have N:∀ e∈R01 a,∃ o j,rdw b 0 (tw a 0 e.1)=some o/\P0 b o e.2.1=j/\0<=j/\rdw b 0 (tw a 0 e.2.2)=some j:=λe i=>t0n w K i (h e i)
 have X:∀ v,0<=v->v<a.2.1->∃ y,rdw b 0 (tw a 0 v)=some y:=λv h0 g=>by
  by_cases c:v=0
  ·rw[c,L.z];exact⟨0,rfl⟩
  ·obtain⟨u,r,Z,e,i,U⟩:=g0s w 41 v (by omega) g (by omega)
   obtain⟨o,j,I,R,ae,J⟩:=N e i
   have:∃ y,rdw b 0 (tw a 0 u)=some y:=by
    rcases U with rfl|rfl
    ·exact⟨o,I⟩
    ·exact⟨j,J⟩
   obtain⟨y,n⟩:=this
   rw[Z,J05]at n
   cases e1:rdw b 0 (tw a 0 v)with
   |none=>rw[e1]at n;cases n
   |some z=>exact⟨z,rfl⟩
 let f:Int->Int:=λv=>(rdw b 0 (tw a 0 v)).getD 0
 have hf:∀ v,0<=v->v<a.2.1->rdw b 0 (tw a 0 v)=some (f v):=λv h0 g=>by
  obtain⟨y,n⟩:=X v h0 g
  show _=some ((rdw b 0 (tw a 0 v)).getD 0)
  rw[n];rfl
 have E:∀ v,0<=v->v<a.2.1->0<=f v/\f v<b.2.1:=λv h0 g=>O09 ad _ _ _ ⟨by omega,by omega⟩ (hf v h0 g)
 have T:∀ e∈a.2.2,P0 b (f e.1) e.2.1=f e.2.2:=λe i=>by
  have m:=Q e i
  by_cases ht:e∈u04 a
  ·obtain⟨z,ab,q,V,l,ah,af,f2,f3⟩:=(N09 k).1 ht
   have P:=(v01 k (p:=0) ⟨by omega,by omega⟩).2 z ab
   have W:=(v01 k (p:=0) ⟨by omega,by omega⟩).2 q V
   have O:P0 b (f q) l=f z:=by
    have g:=hf z P.1 (by omega)
    rw[f2,J05,hf q W.1 (by omega),oB]at g
    unfold rdw at g
    by_cases c:P0 b (f q) l<0
    ·rw[if_pos c]at g;cases g
    ·rw[if_neg c]at g
     simpa only[rdw,Option.some.injEq] using g
   have Y:stp e.1 e.2.1 e.2.2=e:=by unfold stp;rw[if_neg (by omega)]
   rw[←Y]at f3
   rcases y0i f3 with⟨B,C,D⟩|⟨B,C,D⟩
   ·rw[B,C,D];exact O
   ·rw[B,C,D]
    exact h04 A O (E z P.1 (by omega)).1
  ·obtain⟨o,j,I,R,ae,J⟩:=N e (Q04.2 ⟨i,ht⟩)
   have g:=hf e.1 m.1.1 m.1.2
   have s:=hf e.2.2 m.2.1.1 m.2.1.2
   rw[I]at g
   rw[J]at s
   injection g with g
   injection s with s
   rw[←g,←s];exact R
 refine⟨f,?_,E,λv x h0 g aa=>?_⟩
 ·show(rdw b 0 (tw a 0 0)).getD 0=0
  rw[L.z];rfl
 ·obtain⟨ai,d,M,ag,S⟩:=z0i aa
  have m:=Q d M
  have t:=T d M
  rcases S with⟨ac,F,G,H⟩|⟨ac,F,G,H⟩
  ·rw[F,G,H]at t;exact t
  ·rw[F,G,H]at t
   have:=h04 A t (E v h0 g).1
   rwa [Int.neg_neg]at this
theorem v0q{a b:j0}(g:T1 a=true){f:Int->Int}(m:Mor a b f){e:Q0}(i:e∈R01 a):j05 b (Y02 [] (Y02 [] (bw a e)).reverse).reverse=true:=by
 have c:=F4 g
 obtain⟨l,n,o,q⟩:=P2 c
 have h:=J02 c (p:=0) ⟨by omega,by omega⟩
 have j:=(Q04.1 i).1
 have d:=l e j
 rw[(A0g g i).1]
 refine m.loop c ?_
 rw[t0d]
 unfold bw
 rw[J05,J05,h.rd c ⟨by omega,by omega⟩ (E07 g d.1.1 d.1.2),oB,J0j (P09 c j).1 d.2.1.1,oB]
 exact K0j c _ _ _ (λx k=>(q06 g d.2.1.1 d.2.1.2 x k).1) (iR 0) (h.rd c ⟨by omega,by omega⟩ (E07 g d.2.1.1 d.2.1.2))
theorem V0l(a b:j0):(T1 a&&T1 b&&decide (a.1=b.1)&&K02 b (P03 a))=a7 a b:=by
 rw[Bool.eq_iff_iff]
 constructor
 ·intro h
  unfold K02 P03 at h
  simp only[Bool.and_eq_true,decide_eq_true_eq,List.all_eq_true,List.mem_map]at h
  obtain⟨⟨⟨c,d⟩,i⟩,_,h⟩:=h
  obtain⟨f,m⟩:=u0q c d λe g=>h _ ⟨e,g,rfl⟩
  exact r0n c d i m
 ·intro h
  obtain⟨f,m⟩:=p0n h
  unfold a7 at h
  unfold K02 P03
  simp only[Bool.and_eq_true,decide_eq_true_eq,List.all_eq_true,List.mem_map]at h ⊢
  obtain⟨⟨⟨c,d⟩,i⟩,j⟩:=h
  refine⟨⟨⟨c,d⟩,i⟩,d,?_⟩
  rintro w ⟨e,g,rfl⟩
  exact v0q c m g
theorem y0t{g:j0}(hf:M0 g=true){w:List Int}(k:∀ x∈w,N4 x)(j:w.length<=140737488355328):W00 g w=some (j05 g w):=by
 obtain⟨e,m,f,n⟩:=P2 hf
 have h:=B0u g e f.2 (by omega) 0 w k j
 have i:=l0l e f.2 w 0 ⟨by omega,by omega⟩
 have l:=P0f g w 0
 unfold j05
 obtain⟨a,b,c⟩:=g
 unfold W00
 simp only[h,oB]
 rw[H0 i,oB,H0 (show J0 (((Z02 (a,b,c) 0 w).2:Nat):Int) from⟨by omega,by omega⟩),oB]
 by_cases d:(Z02 (a,b,c) 0 w).2=w.length
 ·rw[decide_eq_true d,show decide ((((Z02 (a,b,c) 0 w).2:Nat):Int)=((w.length:Nat):Int))=true from decide_eq_true (by omega)]
  simp
 ·rw[decide_eq_false d,show decide ((((Z02 (a,b,c) 0 w).2:Nat):Int)=((w.length:Nat):Int))=false from decide_eq_false (by omega)]
  simp
theorem L0j(w:List Int)(a:w.length<=1099511627776):o00 w=some (Y02 [] w).reverse:=by
 unfold o00
 rw[v0a [w] (by simp) (by simp only[q0q];omega)]
 rfl
theorem B0g{w:List Int}(a:∀ x∈w,N4 x):∀ x∈(Y02 [] w).reverse,N4 x:=λx b=>by
 rcases T0l w [] (List.mem_reverse.1 b)with h|h
 ·cases h
 ·exact a x h
theorem h0s{g:j0}(hf:M0 g=true)(a:List (List Int))(j:∀ w∈a,(∀ x∈w,N4 x)/\w.length<=1099511627776)(l:a.length<=1099511627776):∀(d k fuel:Nat),k+d=a.length->d<fuel ->
  o6 a g.1 g.2.1 g.2.2 fuel (k:Int)=some (bif(a.drop k).all λw=>j05 g (Y02 [] w).reverse then .inr ()else .inl false)
 |d,k,0,e,h=>by omega
 |0,k,fuel+1,e,h=>by
  rw[o6.eq_2,if_neg (by simp only[decide_eq_true_eq];omega),V1 (by omega)];rfl
 |d+1,k,fuel+1,e,h=>by
  have i:k<a.length:=by omega
  have b:=P4 i
  have c:=j _ (List.mem_of_getElem? b)
  have f:=C2 b
  generalize a[k]=w at b c f
  have m:=v07 w []
  have n:=h0s hf a j l d (k+1) fuel (by omega) (by omega)
  rw[o6.eq_2,if_pos (by simp only[decide_eq_true_eq];omega),B3 b,oB,L0j w c.2,oB,show(g.1,g.2.1,g.2.2)=g from rfl,y0t hf (B0g c.1) (by rw[List.length_reverse];simp only[List.length_nil]at m;omega),oB,A3 i (by omega),n,f,List.all_cons]
  cases j05 g (Y02 [] w).reverse<;>rfl
theorem l0h(b:j0)(h:b.2.2.length<=140737488355328)(d:List (List Int))(i:∀ w∈d,(∀ x∈w,N4 x)/\w.length<=1099511627776)(g:d.length<=1099511627776):R9 b d=some (K02 b d):=by
 have f:=d00 b h
 have e:T1 b=true->_:=λc=>h0s (F4 c) d i g d.length 0 Y0 (by omega) (M1 (by omega))
 rw[show((0:Nat):Int)=0 from rfl,List.drop_zero]at e
 unfold K02
 obtain⟨a,b,c⟩:=b
 unfold R9
 simp only[f,oB]
 cases cb:T1 (a,b,c)with
 |false=>rfl
 |true =>
  have:=e cb
  simp only at this
  simp only[Bool.not_true,Bool.false_eq_true,if_false,this,oB,Bool.true_and]
  cases d.all λw=>j05 (a,b,c) (Y02 [] w).reverse<;>rfl
theorem C0g{g:j0}(a:T1 g=true):(∀ w∈P03 g,(∀ x∈w,N4 x)/\w.length<=81)/\(P03 g).length<=120:=by
 obtain⟨h,i,j,k⟩:=P2 (F4 a)
 refine⟨λw b=>?_,?_⟩
 ·unfold P03 at b
  obtain⟨e,d,rfl⟩:=List.mem_map.1 b
  refine⟨B0g (t0q a (Q04.1 d).1),?_⟩
  have c:=v07 (bw g e) []
  have f:=G0u (F4 a) e
  rw[List.length_reverse]
  simp only[List.length_nil]at c
  omega
 ·unfold P03
  rw[List.length_map]
  have:(R01 g).length<=g.2.2.length:=List.length_filter_le _ _
  omega
theorem D0g(a b:j0)(p:a.2.2.length<=140737488355328)(f:b.2.2.length<=140737488355328):B02 a b=some (a7 a b):=by
 have l:=d00 a p
 have m:=d00 b f
 have n:T1 a=true->e02 a=some (P03 a):=λc=>u0t c
 have o:T1 a=true->R9 b (P03 a)=some (K02 b (P03 a)):=λc=>l0h b f _ (λw g=>⟨((C0g c).1 w g).1,by have:=((C0g c).1 w g).2;omega⟩) (by have:=(C0g c).2;omega)
 rw[←V0l]
 obtain⟨d,h,i⟩:=a
 obtain⟨e,j,k⟩:=b
 unfold B02
 simp only[l,oB]
 cases ca:T1 (d,h,i)with
 |false=>rfl
 |true =>
  simp only[Y1,m,oB,cond_true,Bool.true_and]
  cases cb:T1 (e,j,k)with
  |false=>rfl
  |true =>
   simp only[cond_true,Bool.true_and]
   by_cases hr:d=e
   ·simp only[decide_eq_true hr,Y1,cond_true,n ca,oB,o ca,Bool.true_and]
   ·simp only[decide_eq_false hr,T2,cond_false,oB,Bool.false_and]
def zG:j0:=(0,0,[])
def I2(x:N0)(s:ByteArray):j0×Bool:=match a02 x s with
 |some i=>match x.2[i]? with
  |some e=>(e.2,true)
  |none=>(zG,false)
 |none=>(zG,false)
theorem q03(x:N0)(s:ByteArray)(b:r8 x.2):W8 x s=some (I2 x s):=by
 have k:=b.1
 have hf:=f0n x s (by omega)
 have c:=λi => @L09 x s i
 obtain⟨r,l⟩:=x
 unfold W8 I2
 simp only at k c
 simp only[hf,oB]
 cases hq:a02 (r,l) s with
 |none =>
  simp only[H0 (show J0 (-1) by decide),oB]
  rfl
 |some i =>
  have n:=c i hq
  have a:=P4 n
  have d:=b.2 _ (List.mem_of_getElem? a)
  generalize l[i]=e at a d
  obtain⟨o,g,h,j⟩:=e
  have f:decide ((i:Int)<0)=false:=decide_eq_false (by omega)
  have m:=o02 (g,h,j) (by simp only at d ⊢;omega)
  simp only[H0 (show J0 (i:Int) from c64 (by omega) (by omega)),oB,f,B3 a,m,a]
  rfl
theorem g0p(l:N1)(s:ByteArray)(b:r8 l):∀(d k fuel:Nat),k+d=l.length->d<fuel ->
  D9 l s fuel (k:Int)=some (match fnd s l d k with|some i=>(match l[i]? with|some e => .inl (e.2,true)|none => .inr ())|none => .inr ())
 |d,k,0,c,hf=>by omega
 |0,k,fuel+1,c,hf=>by
  rw[D9.eq_2,if_neg (by simp only[decide_eq_true_eq];omega)];rfl
 |d+1,k,fuel+1,c,hf=>by
  have f:k<l.length:=by omega
  have a:=P4 f
  have g:=b.2 _ (List.mem_of_getElem? a)
  generalize l[k]=e at a g
  obtain⟨m,o,n,es⟩:=e
  have j:=g0p l s b d (k+1) fuel (by omega) (by omega)
  have h:=v00 (o,n,es) (by simp only at g ⊢;omega)
  have:=b.1
  rw[D9.eq_2,if_pos (by simp only[decide_eq_true_eq];omega)]
  simp only[B3 a,oB,A3 f (show l.length<=9223372036854775807 by omega),j,fnd,a,h]
  cases b9 m s
  ·rfl
  ·simp only[if_true,cond_true,a]
theorem r03(x:N0)(s:ByteArray)(a:r8 x.2):V8 x s=some (I2 x s):=by
 have b:=a.1
 obtain⟨r,l⟩:=x
 have h:=g0p l s a l.length 0 Y0 (by omega) (M1 (by simp only at b;omega))
 rw[show((0:Nat):Int)=0 from rfl]at h
 unfold V8 I2 a02
 simp only[h,oB]
 cases fnd s l l.length 0 with
 |none=>rfl
 |some i =>
  simp only
  cases l[i]? with
  |none=>rfl
  |some e=>rfl
theorem E0g{x:N0}{s:ByteArray}(a:r8 x.2):(I2 x s).1.2.2.length<=1048576:=by
 unfold I2
 cases a02 x s with
 |none=>simp[zG]
 |some i =>
  simp only
  cases e:x.2[i]? with
  |none=>simp[zG]
  |some d=>have:=a.2 d (List.mem_of_getElem? e);simp only;omega
def R04(g:j0):N1->List ByteArray
 | []=>[]
 |e::l=>bif a7 e.2 g then e.1::R04 g l else R04 g l
def l7(x:N0)(s:ByteArray):List ByteArray:=bif(I2 x s).2&&G2 x then R04 (I2 x s).1 x.2 else []
theorem W0l(g:j0)(s:g.2.2.length<=1048576)(l:N1)(b:r8 l):∀(d k fuel:Nat) (acc:List ByteArray),k+d=l.length->d<fuel->acc.length<=k ->
  s5 l g.1 g.2.1 g.2.2 fuel (k:Int) acc=some (acc++R04 g (l.drop k))
 |d,k,0,acc,f,hf,c=>by omega
 |0,k,fuel+1,acc,f,hf,c=>by
  rw[s5.eq_2,if_neg (by simp only[decide_eq_true_eq];omega),V1 (by omega)];simp[R04]
 |d+1,k,fuel+1,acc,f,hf,c=>by
  have j:k<l.length:=by omega
  have a:=P4 j
  have m:=b.2 _ (List.mem_of_getElem? a)
  have i:=C2 a
  generalize l[k]=e at a m i
  obtain⟨v,p,n,es⟩:=e
  simp only at m
  have u:=b.1
  have o:=λq h=>W0l g s l b d (k+1) fuel q (by omega) (by omega) h
  have t:=D0g (p,n,es) g (by simp only;omega) (by omega)
  rw[s5.eq_2,if_pos (by simp only[decide_eq_true_eq];omega)]
  simp only[B3 a,oB,show(g.1,g.2.1,g.2.2)=g from rfl,t,A3 j (show l.length<=9223372036854775807 by omega),i,R04]
  cases a7 (p,n,es) g
  ·simp only[Bool.false_eq_true,if_false,cond_false]
   exact o acc (by omega)
  ·simp only[if_true,cond_true]
   rw[H0 (by simp;omega),oB,o _ (by simp;omega)]
   simp
theorem c0e(x:N0)(s:ByteArray)(a:r8 x.2):T9 x s=some (l7 x s):=by
 have c:=q03 x s a
 have d:=w00 x a.ok
 have e:=E0g (s:=s) a
 have i:=a.1
 have b:=W0l (I2 x s).1 e x.2 a x.2.length 0 Y0 [] (by omega) (M1 (by omega)) (by simp)
 rw[show((0:Nat):Int)=0 from rfl,List.drop_zero,List.nil_append]at b
 unfold l7
 obtain⟨r,l⟩:=x
 generalize I2 (r,l) s=q at c b ⊢
 obtain⟨⟨f,g,h⟩,is⟩:=q
 unfold T9
 simp only at b
 simp only[c,oB]
 cases is
 ·rfl
 ·simp only[Bool.not_true,Bool.not_false,Y1,d,oB,cond_false,Bool.true_and]
  cases G2 (r,l)
  ·rfl
  ·simp only[Bool.not_true,Bool.false_eq_true,if_false,cond_true,b,oB]
theorem X0l(g:j0)(v:g.2.2.length<=1048576)(r:Int)(l:N1)(b:r8 l)(f:G2 (r,l)=true):∀(d k fuel:Nat) (acc:List ByteArray),k+d=l.length->d<fuel->acc.length<=k ->
  l4 l true r g.1 g.2.1 g.2.2 fuel (k:Int) acc=some (acc++R04 g (l.drop k))
 |d,k,0,acc,j,hf,i=>by omega
 |0,k,fuel+1,acc,j,hf,i=>by
  have c:decide ((k:Int)<((l.length:Nat):Int))=false:=decide_eq_false (by omega)
  rw[l4.eq_2]
  simp only[c,cond_false,T2,oB,Bool.false_eq_true,if_false]
  rw[V1 (by omega)];simp[R04]
 |d+1,k,fuel+1,acc,j,hf,i=>by
  have o:k<l.length:=by omega
  have a:=P4 o
  have q:=b.2 _ (List.mem_of_getElem? a)
  have m:=C2 a
  generalize l[k]=e at a q m
  obtain⟨y,t,n,es⟩:=e
  simp only at q
  have x:=b.1
  have s:=λu h=>X0l g v r l b f d (k+1) fuel u (by omega) (by omega) h
  have w:=l09 (t,n,es) g (by simp only;omega) (by omega)
  have c:decide ((k:Int)<((l.length:Nat):Int))=true:=decide_eq_true (by omega)
  have p:=h01 (r,l) b.ok
  rw[f]at p
  rw[l4.eq_2]
  simp only[c,cond_true,Y1,p,if_true,B3 a,oB,show(g.1,g.2.1,g.2.2)=g from rfl,w,A3 o (show l.length<=9223372036854775807 by omega),m,R04]
  cases a7 (t,n,es) g
  ·simp only[Bool.false_eq_true,if_false,cond_false]
   exact s acc (by omega)
  ·simp only[if_true,cond_true]
   rw[H0 (by simp;omega),oB,s _ (by simp;omega)]
   simp
theorem Y0l(x:N0)(s:ByteArray)(a:r8 x.2):X00 x s=some (l7 x s):=by
 have e:=r03 x s a
 have g:=h01 x a.ok
 have h:=E0g (s:=s) a
 have n:=a.1
 have b:G2 x=true->_:=λc=>X0l (I2 x s).1 h x.1 x.2 a c x.2.length 0 Y0 [] (by omega) (M1 (by omega)) (by simp)
 rw[show((0:Nat):Int)=0 from rfl,List.drop_zero,List.nil_append]at b
 unfold l7
 obtain⟨r,l⟩:=x
 generalize I2 (r,l) s=q at e b ⊢
 obtain⟨⟨j,k,m⟩,is⟩:=q
 unfold X00
 simp only at b
 simp only[e,oB]
 have i:∃ f,Y0=f+1:=⟨Y0-1,by unfold Y0;omega⟩
 obtain⟨f,d⟩:=i
 cases is
 ·rw[d,l4.eq_2]
  have:(bif decide ((0:Int)<((l.length:Nat):Int))then false else false)=false:=by cases decide ((0:Int)<((l.length:Nat):Int))<;>rfl
  simp only[this,T2,oB,cond_false,Bool.false_eq_true,if_false,Bool.false_and]
 ·cases cl:G2 (r,l)
  ·rw[d,l4.eq_2]
   rw[cl]at g
   cases decide ((0:Int)<((l.length:Nat):Int))
   ·rfl
   ·simp only[cond_true,Y1,g,oB,cond_false,Bool.false_eq_true,if_false,Bool.and_false]
  ·simp only[b cl,oB,Bool.and_self,cond_true]
def h0p(r:Int)(e:O6):Prop:=m00 e.1=true/\T1 e.2=true/\e.2.1=r
theorem i0p{r:Int}{l:N1}:∀(d k:Nat),k+d=l.length->okL r l d k=true->∀ i,k<=i->∀ e,l[i]?=some e->h0p r e
 |0,k,b,h,i,f,e,a=>by have:=(List.getElem?_eq_some_iff.1 a).1;omega
 |d+1,k,b,h,i,f,e,a=>by
  unfold okL at h
  cases hb:h0q r l k
  ·rw[hb]at h
   by_cases c:i=k
   ·subst c
    rw[Y0b a]at hb
    unfold h0p
    cases q1:m00 e.1
    ·rw[q1]at hb;cases hb
    cases q2:T1 e.2
    ·rw[q1,q2]at hb;cases hb
    cases q3:decide (e.2.1=r)
    ·rw[q1,q2,q3]at hb;cases hb
    exact⟨rfl,rfl,of_decide_eq_true q3⟩
   ·exact i0p d (k+1) (by omega) h i (by omega) e a
  ·rw[hb]at h;cases h
theorem i0s{r:Int}{l:N1}(f:∀ e∈l,h0p r e)(a:h0n l):∀(d k:Nat),k+d=l.length->okL r l d k=true
 |0,k,j=>rfl
 |d+1,k,j=>by
  have g:k<l.length:=by omega
  have b:=P4 g
  obtain⟨m,n,o⟩:=f _ (List.mem_of_getElem? b)
  have i:h0q r l k=false:=by
   rw[Y0b b,m,n,decide_eq_true o]
   by_cases c:0<k
   ·have h:k-1<l.length:=by omega
    have:=List.pairwise_iff_getElem.1 a (k-1) k h g (by omega)
    rw[decide_eq_true c,P4 h]
    simp only[cond_true,this,Bool.not_true]
   ·rw[decide_eq_false c];rfl
  unfold okL
  rw[i]
  exact i0s f a d (k+1) (by omega)
theorem M0e{x:N0}:G2 x=true↔(inR 1 3 x.1=true/\x.2.length<=16)/\(∀ e∈x.2,h0p x.1 e)/\h0n x.2:=by
 constructor
 ·intro h
  have f:=t0l h
  unfold G2 at h
  simp only[Bool.and_eq_true,decide_eq_true_eq]at h
  refine⟨⟨h.1,h.2.1⟩,λe g=>?_,f⟩
  obtain⟨i,j⟩:=List.getElem?_of_mem g
  exact i0p x.2.length 0 (by omega) h.2.2 i (Nat.zero_le _) e j
 ·rintro⟨⟨a,b⟩,c,d⟩
  unfold G2
  rw[a,decide_eq_true b,i0s c d _ 0 (by omega)];rfl
theorem Z0l{x:N0}(d:G2 x=true){e:O6}(g:e∈x.2):∃ i,a02 x e.1=some i/\x.2[i]?=some e:=by
 obtain⟨j,a⟩:=List.getElem?_of_mem g
 cases hf:a02 x e.1 with
 |none=>exact absurd rfl (b0c _ 0 (by omega) hf j (Nat.zero_le _) e a)
 |some i =>
  obtain⟨_,⟨b,h,k⟩,f⟩:=A07 _ _ _ hf
  refine⟨i,rfl,?_⟩
  rcases Nat.lt_trichotomy i j with c|c|c
  ·have:=a0c d j i b e c h a
   rw[k,Z0b]at this;cases this
  ·rw[c];exact a
  ·exact absurd rfl (f j (Nat.zero_le _) c e a)
theorem A0i{x:N0}(c:G2 x=true){e:O6}(d:e∈x.2):I2 x e.1=(e.2,true):=by
 obtain⟨i,a,b⟩:=Z0l c d
 unfold I2
 rw[a]
 simp only[b]
theorem n09(e:O6):∀(l:N1) (y:O6),y∈p05 e l->y=e∨y∈l
 | [],y,h => .inl (List.mem_singleton.1 h)
 |x::r,y,h=>by
  unfold p05 at h
  cases h1:r02 x.1 e.1
  ·rw[h1]at h
   cases h2:b9 x.1 e.1
   ·rw[h2]at h
    exact(List.mem_cons.1 h)
   ·rw[h2]at h
    exact(List.mem_cons.1 h).imp id (mC _)
  ·rw[h1]at h
   rcases List.mem_cons.1 h with h|h
   ·exact .inr (h▸mS)
   ·exact(n09 e r y h).imp id (mC _)
theorem j0p(e:O6):∀ l:N1,e∈p05 e l
 | []=>mS
 |x::r=>by
  unfold p05
  cases r02 x.1 e.1
  ·cases b9 x.1 e.1<;>exact mS
  ·exact mC _ (j0p e r)
theorem a0m(e:O6):∀ l:N1,h0n l->h0n (p05 e l)
 | [],_=>List.pairwise_singleton ..
 |x::r,h=>by
  obtain⟨b,c⟩:=List.pairwise_cons.1 h
  unfold p05
  cases c1:r02 x.1 e.1
  ·cases c2:b9 x.1 e.1
   ·have d:r02 e.1 x.1=true:=by
     cases q:r02 e.1 x.1
     ·rw[T0o _ _ c1 q,N6.2 rfl]at c2;cases c2
     ·rfl
    refine List.pairwise_cons.2 ⟨λy a=>?_,h⟩
    rcases List.mem_cons.1 a with rfl|a
    ·exact d
    ·exact n0d d (b y a)
   ·refine List.pairwise_cons.2 ⟨λy a=>?_,c⟩
    have:=b y a
    rw[N6.1 c2]at this;exact this
  ·refine List.pairwise_cons.2 ⟨λy a=>?_,a0m e r c⟩
   rcases n09 e r y a with rfl|a
   ·exact c1
   ·exact b y a
theorem j0s{x y:N0}{s:ByteArray}{g:j0}(h:W6 x s g=(y,true)):G2 y=true/\(s,g)∈y.2:=by
 unfold W6 at h
 cases c:G2 x&&(m00 s&&(decide (g.1=x.1)&&T1 g))
 ·rw[c]at h;cases h
 rw[c,cond_true]at h
 cases a:decide (16<(p05 (s,g) x.2).length)
 ·rw[a,cond_false]at h
  cases h
  simp only[Bool.and_eq_true,decide_eq_true_eq]at c
  have a:=of_decide_eq_false a
  obtain⟨d,f,i⟩:=M0e.1 c.1
  refine⟨M0e.2 ⟨⟨d.1,by simp only;omega⟩,λe b=>?_,a0m _ _ i⟩,j0p _ _⟩
  rcases n09 _ _ _ b with rfl|b
  ·exact⟨c.2.1,c.2.2.2,c.2.2.1⟩
  ·exact f e b
 ·rw[a]at h;cases h
theorem b0m{a:Type}(l:List a)(i:Nat):(l.take i++l.drop (i+1)).Sublist l:=by
 conv=>rhs;rw[←List.take_append_drop i l]
 refine List.Sublist.append (List.Sublist.refl _) ?_
 rw[←List.drop_drop]
 exact List.drop_sublist _ _
theorem M0j{s:ByteArray}:∀(l:N1) (y:O6),y∈flt s l->y.1≠s
 |x::r,y,h=>by
  unfold flt at h
  cases c:b9 x.1 s
  ·rw[c]at h
   rcases List.mem_cons.1 h with rfl|h
   ·intro e;rw[N6.2 e]at c;cases c
   ·exact M0j r y h
  ·rw[c]at h;exact M0j r y h
theorem z0t{x y:N0}{s:ByteArray}{g:j0}(h:W6 x s g=(y,true)):
  G2 y=true/\I2 y s=(g,true)/\∃ z,r01 y s=(z,true)/\G2 z=true/\(I2 z s).2=false:=by
 obtain⟨a,f⟩:=j0s h
 refine⟨a,A0i a f,?_⟩
 obtain⟨i,b,o⟩:=Z0l a f
 simp only at b
 refine⟨(y.1,y.2.take i++y.2.drop (i+1)),by unfold r01;rw[a,b];rfl,?_,?_⟩
 ·obtain⟨l,m,n⟩:=M0e.1 a
  have d:=b0m y.2 i
  exact M0e.2 ⟨⟨l.1,by have:=d.length_le;simp only;omega⟩,λe c=>m e (d.mem c),n.sublist d⟩
 ·rw[←Q0o a b]
  unfold I2
  cases hf:a02 (y.1,flt s y.2) s with
  |none=>rfl
  |some k =>
   obtain⟨_,⟨e,c,j⟩,_⟩:=A07 _ _ _ hf
   exact absurd j (M0j _ _ (List.mem_of_getElem? c))
theorem F0g(g:j0):∀(l:N1) (s:ByteArray),s∈R04 g l->∃ e∈l,e.1=s/\a7 e.2 g=true
 |x::r,s,h=>by
  unfold R04 at h
  cases c:a7 x.2 g
  ·rw[c]at h
   obtain⟨e,a,b⟩:=F0g g r s h
   exact⟨e,mC _ a,b⟩
  ·rw[c]at h
   rcases List.mem_cons.1 h with rfl|h
   ·exact⟨x,mS,rfl,c⟩
   ·obtain⟨e,a,b⟩:=F0g g r s h
    exact⟨e,mC _ a,b⟩
theorem u0n{x:N0}{n s:ByteArray}(h:s∈l7 x n):a7 (I2 x s).1 (I2 x n).1=true:=by
 unfold l7 at h
 cases c:(I2 x n).2&&G2 x
 ·rw[c]at h;cases h
 rw[c,cond_true]at h
 simp only[Bool.and_eq_true]at c
 obtain⟨e,a,d,b⟩:=F0g _ _ _ h
 rw[←d,A0i c.2 a];exact b
def isS(o:Option (List Int)):Bool:=o.isSome
theorem n0s{n u:Int}(h:inR 0 (n-1) u=true):0<=u/\u<n:=by
 simp only[inR,Bool.and_eq_true,decide_eq_true_eq]at h
 omega
theorem o0s(g:j0)(a:T0 g=true)(u:Int):Q5 g u=some (inR 0 (g.2.1-1) u):=by
 obtain⟨c,d,b,e⟩:=Q1 a
 obtain⟨r,n,es⟩:=g
 simp only at b
 unfold Q5
 simp only[j06]
 rw[w64 (by omega) (by omega)]
 rfl
theorem O06(g:j0)(d:g.2.2.length<=140737488355328):Z2 g=some (T1 g):=by
 have:=s04 g d
 obtain⟨a,b,c⟩:=g
 unfold Z2
 show(J01 (a,b,c)).bind (λe=>some e)=_
 rw[this];rfl
def P06(g:j0):j0:=Z04 (R0a (b02 g).1)
theorem o09{g:j0}(f:T0 g=true):Q9 g=some (P06 g):=by
 obtain⟨m,o,p,s⟩:=Q1 f
 have h:=g0h g (by omega)
 have hf:=p06 f
 obtain⟨v,d⟩:=l0n (Z1 hf)
 have e:=Z0d (R0a (b02 g).1) (I05 40 hf)
 unfold P06
 obtain⟨r,n,es⟩:=g
 unfold Q9
 generalize b02 (r,n,es)=q at *
 obtain⟨⟨a,b,c⟩,l⟩:=q
 simp only[h,oB]
 simp only at d e
 generalize R0a (a,b,c)=q2 at *
 obtain⟨i,j,k⟩:=q2
 simp only[d,oB,e]
theorem d0e{g:j0}(f:T0 g=true):N00 g=some (P06 g):=by
 obtain⟨m,o,p,s⟩:=Q1 f
 have h:=h0h g (by omega)
 have hf:=p06 f
 obtain⟨v,d⟩:=J0l (Z1 hf)
 have e:=Y0d (R0a (b02 g).1) (I05 40 hf)
 unfold P06
 obtain⟨r,n,es⟩:=g
 unfold N00
 generalize b02 (r,n,es)=q at *
 obtain⟨⟨a,b,c⟩,l⟩:=q
 simp only[h,oB]
 simp only at d e
 generalize R0a (a,b,c)=q2 at *
 obtain⟨i,j,k⟩:=q2
 simp only[d,oB,e]
def C0i(r:Int)(a:List (List Int)):j0×Bool:=bif U00 r a then(P06 (r0g a (r,1,[])),true)else((0,0,[]),false)
theorem N0g{r:Int}{a:List (List Int)}(h:U00 r a=true):T0 (r0g a (r,1,[]))=true:=by
 obtain⟨b,d,c⟩:=q0i h
 exact b0e a (r0i b) c
theorem D0i(r:Int)(d:List (List Int))(j:d.length<=140737488355328)(k:k06 d):s00 r d=some (C0i r d):=by
 have e:=H0j r d j k
 have f:U00 r d=true->_:=λh=>o09 (N0g h)
 unfold s00 C0i
 unfold s0g at e
 cases hA:U00 r d with
 |false=>rw[hA]at e;simp only[cond_false]at e;simp[e]
 |true =>
  rw[hA]at e
  simp only[cond_true]at e
  have i:=f hA
  generalize r0g d (r,1,[])=g at *
  obtain⟨a,b,c⟩:=g
  simp only[e,oB,i,Bool.not_true,Bool.false_eq_true,if_false,cond_true]
end Go.Proofs.YtmgikbbmpnbbjaaGreat
