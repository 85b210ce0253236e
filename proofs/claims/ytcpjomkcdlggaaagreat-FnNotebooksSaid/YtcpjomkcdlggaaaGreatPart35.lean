/- Texts of the claim, joined: Plain laws: claims and notebooks in text and others. -/
import Derived.Test.YtcpjomkcdlggaaaGreatPart34
import Derived.Test.YtcpjomkcdlggaaaGreatPart29
import Derived.Test.YtcpjomkcdlggaaaGreatPart33
import Derived.Test.YtcpjomkcdlggaaaGreatPart22
import Derived.Test.YtcpjomkcdlggaaaGreatPG
import Derived.Test.YtcpjomkcdlggaaaGreatAfn
namespace Go.Proofs.YtcpjomkcdlggaaaGreat
set_option linter.all false
open Go.H
open IntKind (i64)
set_option maxRecDepth 10000
theorem x0g(c:P1)(hf:R08 c):z02 c=some (m03 c):=by
 obtain⟨a,r,ws,w,ks,g,n⟩:=c
 obtain⟨⟨f1,f2⟩,f3,⟨f4,f5⟩,f6,f7,f8⟩:=hf
 obtain⟨gr,gn,es⟩:=g
 simp only at f1 f2 f3 f4 f5 f6 f7 f8
 unfold z02
 have hG:=u0g (gr,gn,es) f6
 simp only[hG,v0b,oB,H08 r ws f1 f2,X02 r w f3]
 have lc:=a0o a
 have lr:=j03 r
 have ln:=j03 n
 have lk:=w0g ks
 rw[D0 (by rw[C8];omega),oB]
 unfold m03 y04 z0d
 simp only
 cases hcw:(cwL a).isEmpty with
 |true =>
  have hg:(bif U0 (gr,gn,es)then B (N09 (gr,gn,es))else B []).size<=9223372036854775807:=by
   cases h:U0 (gr,gn,es)with
   |false=>show 0<=_;omega
   |true=>have:=h07 h;rw[cond_true,C8];omega
  rw[D0 hg]
  simp only[w9,hcw,Bool.not_true,K1,oB,cond_true,Bool.false_and,cond_false,if_true]
 |false =>
 cases hws:Y4 r ws with
 |false =>
  have hg:(bif U0 (gr,gn,es)then B (N09 (gr,gn,es))else B []).size<=9223372036854775807:=by
   cases h:U0 (gr,gn,es)with
   |false=>show 0<=_;omega
   |true=>have:=h07 h;rw[cond_true,C8];omega
  rw[D0 hg]
  simp only[w9,hcw,Bool.not_true,Bool.not_false,E1,K1,oB,cond_true,Bool.false_and,Bool.and_false,cond_false,if_true]
 |true =>
 cases hw:G2 r w with
 |false =>
  have hg:(bif U0 (gr,gn,es)then B (N09 (gr,gn,es))else B []).size<=9223372036854775807:=by
   cases h:U0 (gr,gn,es)with
   |false=>show 0<=_;omega
   |true=>have:=h07 h;rw[cond_true,C8];omega
  rw[D0 hg]
  simp only[w9,hcw,Bool.not_true,Bool.not_false,E1,K1,oB,cond_true,Bool.false_and,Bool.and_false,Bool.and_true,cond_false,if_true]
 |true =>
 cases hg:U0 (gr,gn,es)with
 |false =>
  rw[D0 (by show 0<=_;omega)]
  simp only[w9,hcw,Bool.not_true,Bool.not_false,E1,K1,oB,cond_true,Bool.false_and,Bool.and_false,Bool.and_true,cond_false,List.isEmpty_nil,if_true]
 |true =>
 obtain⟨e1,e2⟩:=B0h hws
 obtain⟨e3,e4⟩:=R0k hw
 have lg:=h07 hg
 have lws:=Q0e e2
 have lw:=L09 w
 have tg:=k0u (gr,gn,es)
 rw[D0 (by rw[cond_true,C8];omega)]
 simp only[w9,hcw,tg,Bool.not_true,Bool.not_false,E1,K1,oB,cond_true,Bool.false_and,Bool.and_false,Bool.and_true,cond_false,Bool.false_eq_true,if_false]
 simp only[E00 r f7,E00 n f8,r0g ws (by omega),g07 w (by omega),G0d ks f4 f5,e1,e3,M09,I0c,oB,show(⟨#[32]⟩:ByteArray)=B [32] from rfl,
  show(⟨#[32,98,121,32]⟩:ByteArray)=B [32,98,121,32] from rfl,show(⟨#[32,97,110,100,32]⟩:ByteArray)=B [32,97,110,100,32] from rfl,i0b,C8]
 iterate 20 (first|rw[D0 (by(try simp only[List.length_append,List.length_cons,List.length_nil]);omega),oB]|skip)
 refine congrArg some (congrArg B ?_)
 simp[Q08,t09,A05]
theorem y0g(c:P1)(hf:R08 c):B02 c=some (m03 c):=by
 obtain⟨a,r,ws,w,ks,g,n⟩:=c
 obtain⟨⟨f1,f2⟩,f3,⟨f4,f5⟩,f6,f7,f8⟩:=hf
 obtain⟨gr,gn,es⟩:=g
 simp only at f1 f2 f3 f4 f5 f6 f7 f8
 unfold B02
 have hG:=v0g (gr,gn,es) f6
 have hI:=f01 (gr,gn,es) f6
 have lc:=a0o a
 have lr:=j03 r
 have ln:=j03 n
 have lk:=w0g ks
 have hcs:(grd ((B (cwL a)).size<=9223372036854775807))=some ():=D0 (by rw[C8];omega)
 simp only[A0i,oB,J08 r ws f1 f2,v06 r w f3,hI,hcs]
 unfold m03 y04
 simp only
 cases hcw:(cwL a).isEmpty with
 |true=>simp only[w9,hcw,Bool.not_true,K1,oB,cond_true,Bool.false_and,cond_false,if_true]
 |false =>
 cases hws:Y4 r ws with
 |false=>simp only[w9,hcw,Bool.not_true,Bool.not_false,E1,K1,oB,cond_true,Bool.false_and,Bool.and_false,cond_false,if_true]
 |true =>
 cases hw:G2 r w with
 |false=>simp only[w9,hcw,Bool.not_true,Bool.not_false,E1,K1,oB,cond_true,Bool.false_and,Bool.and_false,Bool.and_true,cond_false,if_true]
 |true =>
 cases hg:U0 (gr,gn,es)with
 |false=>simp only[w9,hcw,Bool.not_true,Bool.not_false,E1,K1,oB,cond_true,Bool.false_and,Bool.and_false,Bool.and_true,cond_false,if_true]
 |true =>
 obtain⟨e1,e2⟩:=B0h hws
 obtain⟨e3,e4⟩:=R0k hw
 have lg:=h07 hg
 have lws:=Q0e e2
 have lw:=L09 w
 simp only[w9,hcw,Bool.not_true,Bool.not_false,E1,K1,oB,cond_true,Bool.false_and,Bool.and_false,Bool.and_true,cond_false,Bool.false_eq_true,if_false]
 simp only[O01 r f7,O01 n f8,t0g ws (by omega),B0a w (by omega),H0d ks f4 f5,hG,z0d,hg,cond_true,e1,e3,M09,I0c,oB,C8]
 iterate 7 (first|rw[D0 (by omega),oB]|skip)
 have h:=X0n 32 ⟨#[]⟩ [cwL a,fI r,A0h ws,wl w,[98,121],Z0n ks,[97,110,100],N09 (gr,gn,es),[97,110,100],fI n] (by simp only[bsz,List.length_cons,List.length_nil];omega)
 simp only[List.map_cons,List.map_nil]at h
 rw[show(⟨#[32]⟩:ByteArray)=B [32] from rfl,show(⟨#[98,121]⟩:ByteArray)=B [98,121] from rfl,show(⟨#[97,110,100]⟩:ByteArray)=B [97,110,100] from rfl,h,oB]
 unfold s0g
 rw[D0 (by rw[C8];simp only[t09,A05,List.length_append,List.length_cons,List.length_nil];omega)]
 rfl
def C0a:List P1->Bool
 | []=>true
 |c::r=>y04 c&&C0a r
def nbT:List P1->List UInt8
 | []=>[]
 |c::r=>Q08 c ++ [10]++nbT r
def V04(x:C1):BA:=bif C0a x.2 then B (nbT x.2)else B []
def S08{c:P1}(h:y04 c=true):(Q08 c).length<=7000+22*c.2.2.2.2.1.length:=by
 simp only[y04,aE]at h
 obtain⟨b,a⟩:=B0h h.1.1.2
 obtain⟨d,e⟩:=R0k h.1.2
 have g:=h07 h.2
 have m:=Q0e a
 have l:=L09 c.2.2.2.1
 have f:=a0o c.1
 have k:=j03 c.2.1
 have j:=j03 c.2.2.2.2.2.2
 have i:=w0g c.2.2.2.2.1
 simp only[Q08,t09,A05,lA,lC,lN]
 omega
def M0m(c:P1):(Q08 c).isEmpty=false:=by
 simp only[Q08,t09,A05]
 cases cwL c.1<;>rfl
theorem B05(cs:List P1)(hf:∀ c∈cs,R08 c)(A:cs.length<=1048576)(v:∀ c∈cs,c.2.2.2.2.1.length<=1048576):∀(d k fuel:Nat) (acc:List UInt8),k+d=cs.length->d<fuel->acc.length<=30000000*k ->
  A5 cs fuel (B acc) (k:Int)=some (bif C0a (cs.drop k)then .inr (B (acc++nbT (cs.drop k)))else .inl (B []))
 |d,k,0,acc,q,s,t=>by omega
 |0,k,fuel+1,acc,q,s,t=>by
  rw[A5.eq_2,if_neg (by simp;omega),Z0 (by omega)]
  simp[C0a,nbT]
 |d+1,k,fuel+1,acc,q,s,t=>by
  have w:k<cs.length:=by omega
  have a:=U3 w
  have u:=hf _ (List.mem_of_getElem? a)
  have x:=v _ (List.mem_of_getElem? a)
  generalize cs[k]=c at a u x
  have C:=x0g c u
  have p:(m03 c).size<=29999999:=by
   unfold m03
   cases h:y04 c with
   |false=>show 0<=_;omega
   |true=>have:=S08 h;rw[cond_true,C8];omega
  have D:V05 (m03 c) ⟨#[]⟩ = !y04 c:=by
   unfold m03
   cases y04 c with
   |false=>rw[cond_false,w9];rfl
   |true=>rw[cond_true,w9,M0m];rfl
  rw[I1 a,A5.eq_2,if_pos (by simp;omega),Z1 a,oB]
  obtain⟨b,e,f,g,i,⟨j,l,m⟩,o⟩:=c
  simp only[C,oB,C0a]
  rw[D0 (by omega),oB,D]
  cases h:y04 (b,e,f,g,i,(j,l,m),o)with
  |false=>rfl
  |true =>
   have z:=S08 h
   simp only at z x
   have next:=B05 cs hf A v d (k+1) fuel (acc++Q08 (b,e,f,g,i,(j,l,m),o) ++ [10]) (by omega) (by omega) (by simp only[List.length_append,List.length_singleton];omega)
   have y:m03 (b,e,f,g,i,(j,l,m),o)=B (Q08 (b,e,f,g,i,(j,l,m),o)):=by unfold m03;rw[h];rfl
   rw[y]at p ⊢
   rw[if_neg (by simp),D0 (by rw[C8]at p ⊢;rw[C8];omega),oB,i0b,show(⟨#[10]⟩:ByteArray)=B [10] from rfl,D0 (by rw[C8,C8];rw[C8]at p;simp only[List.length_append,List.length_singleton];omega),oB,i0b,
    E2 w (by omega:cs.length<=9223372036854775807),next]
   simp[nbT]
def J0c(x:C1)(hf:∀ c∈x.2,R08 c)(a:x.2.length<=1048576)(b:∀ c∈x.2,c.2.2.2.2.1.length<=1048576):J00 x=some (V04 x):=by
 obtain⟨v,cs⟩:=x
 unfold J00 V04
 have h:=B05 cs hf a b cs.length 0 P0 [] (by omega) (X0 (by simp only at a;omega)) (by simp)
 rw[show((0:Nat):Int)=0 from rfl,dZ,nA]at h
 simp only[show(⟨#[]⟩:BA)=B [] from rfl,h,oB]
 cases C0a cs<;>rfl
theorem C05(cs:List P1)(hf:∀ c∈cs,R08 c)(A:cs.length<=1048576)(v:∀ c∈cs,c.2.2.2.2.1.length<=1048576):∀(d k fuel:Nat) (acc:List UInt8),k+d=cs.length->d<fuel->acc.length<=30000000*k ->
  C5 cs fuel (B acc) (k:Int)=some (bif C0a (cs.drop k)then .inr (B (acc++nbT (cs.drop k)))else .inl (B []))
 |d,k,0,acc,q,s,t=>by omega
 |0,k,fuel+1,acc,q,s,t=>by
  rw[C5.eq_2,if_neg (by simp;omega),Z0 (by omega)]
  simp[C0a,nbT]
 |d+1,k,fuel+1,acc,q,s,t=>by
  have w:k<cs.length:=by omega
  have a:=U3 w
  have u:=hf _ (List.mem_of_getElem? a)
  have x:=v _ (List.mem_of_getElem? a)
  generalize cs[k]=c at a u x
  have C:=y0g c u
  have p:(m03 c).size<=29999999:=by
   unfold m03
   cases h:y04 c with
   |false=>show 0<=_;omega
   |true=>have:=S08 h;rw[cond_true,C8];omega
  have D:V05 (m03 c) ⟨#[]⟩ = !y04 c:=by
   unfold m03
   cases y04 c with
   |false=>rw[cond_false,w9];rfl
   |true=>rw[cond_true,w9,M0m];rfl
  rw[I1 a,C5.eq_2,if_pos (by simp;omega),Z1 a,oB]
  obtain⟨b,e,f,g,i,⟨j,l,m⟩,o⟩:=c
  simp only[C,oB,C0a]
  rw[D0 (by omega),oB,D]
  cases h:y04 (b,e,f,g,i,(j,l,m),o)with
  |false=>rfl
  |true =>
   have z:=S08 h
   simp only at z x
   have next:=C05 cs hf A v d (k+1) fuel (acc++Q08 (b,e,f,g,i,(j,l,m),o) ++ [10]) (by omega) (by omega) (by simp only[List.length_append,List.length_singleton];omega)
   have y:m03 (b,e,f,g,i,(j,l,m),o)=B (Q08 (b,e,f,g,i,(j,l,m),o)):=by unfold m03;rw[h];rfl
   rw[y]at p ⊢
   rw[if_neg (by simp),D0 (by rw[C8]at p ⊢;rw[C8];omega),oB,i0b,show(⟨#[10]⟩:ByteArray)=B [10] from rfl,D0 (by rw[C8,C8];rw[C8]at p;simp only[List.length_append,List.length_singleton];omega),oB,i0b,
    E2 w (by omega:cs.length<=9223372036854775807),next]
   simp[nbT]
def K0c(x:C1)(hf:∀ c∈x.2,R08 c)(a:x.2.length<=1048576)(b:∀ c∈x.2,c.2.2.2.2.1.length<=1048576):K00 x=some (V04 x):=by
 obtain⟨v,cs⟩:=x
 unfold K00 V04
 have h:=C05 cs hf a b cs.length 0 P0 [] (by omega) (X0 (by simp only at a;omega)) (by simp)
 rw[show((0:Nat):Int)=0 from rfl,dZ,nA]at h
 simp only[show(⟨#[]⟩:BA)=B [] from rfl,h,oB]
 cases C0a cs<;>rfl
def m0w{g:z0}(a:U0 g=true):(E06 g).2.2.length<=120:=l0h (X03 40 (A06 a))
def Z0w{r:Int}{a:List (List Int)}:(v01 r a).1.2.2.length<=120:=by
 unfold v01
 cases h:Y4 r a
 ·simp
 ·exact m0w (f0b h)
def q0z(g:z0)(w:List Int):(L0k g w).1.2.2.length<=120:=by
 unfold L0k
 cases D2 g&&(G2 g.1 w && !B01 g w)
 ·simp
 ·cases (L07 g w).2
  ·simp
  ·cases h:(K09 (L07 g w).1).2
   ·simp
   ·exact m0w (Z0s h).1
def P0y(g:z0)(w:List Int):(h0b g w).1.2.2.length<=120:=by
 unfold h0b
 cases h:D2 g&&G2 g.1 w
 ·simp
 ·rw[aE]at h
  cases decide (((w.length:Nat):Int)=0)
  ·cases (J4 g 0 w 0).2
   ·simp
   ·obtain⟨_,a,_⟩:=u0a h.1
    exact m0w (x05 (C3 (l06 h.1)) (u:=0) (v:=0) (w:=w) ⟨iR _,by omega⟩ ⟨iR _,by omega⟩ h.2)
  ·exact(u0a h.1).1
def smC(m:Nat)(c:P1):Prop:=F0 c.2.1/\(c.2.2.1.length<=3/\e0h c.2.2.1)/\c.2.2.2.1.length<=400/\(H0c c.2.2.2.2.1/\c.2.2.2.2.1.length<=m)/\c.2.2.2.2.2.1.2.2.length<=120/\F0 c.2.2.2.2.2.2
def smC.len{m:Nat}{c:P1}(h:smC m c):F07 c:=by
 obtain⟨_,⟨d,a⟩,e,_,f,_⟩:=h
 exact⟨by omega,λw b=>by have:=(a w b).2;omega,by omega,by omega⟩
def smC.cp{c:P1}(h:smC 401 c):r0l c:=by
 obtain⟨_,⟨e,a⟩,f,b,g,_⟩:=h
 have:=b.2
 exact⟨⟨by omega,λw d=>by have:=(a w d).2;omega⟩,by omega,by omega,by omega⟩
def smC.fit{c:P1}(h:smC 401 c):R08 c:=by
 obtain⟨h0,⟨f,b⟩,g,a,i,d⟩:=h
 exact⟨⟨by omega,λw e=>by have:=(b w e).2;omega⟩,by omega,⟨a.1,by have:=a.2;omega⟩,by omega,h0,d⟩
def i07{a:Type}{P:a->Prop}{b:Bool}{x y:a}(c:b=true->P x)(d:P y):P (bif b then x else y):=by
 cases b
 ·exact d
 ·exact c rfl
def a0x(k:Int){r:Int}{l:List (List Int)}{w:List Int}(q:F0 r)(j:l.length<=3/\e0h l)(s:w.length<=400):smC 400 (G07 k r l w).1:=by
 have z:smC 400 t0b.1:=⟨by decide,⟨by decide,λ_ h=>nomatch h⟩,by decide,⟨λ_ h=>(nomatch h),by decide⟩,by decide,by decide⟩
 have d:∀(p:List Int) (g:z0) (n:Int),(H0c p/\p.length<=400)->g.2.2.length<=120->F0 n->smC 400 (k,r,l,w,p,g,n):=λp g n o i m=>⟨q,j,s,o,i,m⟩
 have e:H0c []/\([]:List Int).length<=400:=⟨λ_ h=>(nomatch h),by decide⟩
 unfold G07
 refine i07 (P:=λc:P1×Bool=>smC 400 c.1) (λf=>?_) z
 rw[aE]at f
 refine i07 (P:=λc:P1×Bool=>smC 400 c.1) (λ_=>?_) ?_
 ·refine i07 (P:=λc:P1×Bool=>smC 400 c.1) (λ_=>?_) z
  obtain⟨a,b⟩:=h0w (l06 (j0w f.1).1) w
  exact d _ _ _ ⟨b,by omega⟩ Z0w (by decide)
 refine i07 (P:=λc:P1×Bool=>smC 400 c.1) (λ_=>i07 (P:=λc:P1×Bool=>smC 400 c.1) (λ_=>d _ _ _ e (q0z _ _) (by decide)) z) ?_
 refine i07 (P:=λc:P1×Bool=>smC 400 c.1) (λ_=>i07 (P:=λc:P1×Bool=>smC 400 c.1) (λ_=>d _ _ _ e (P0y _ _) (by decide)) z) ?_
 refine i07 (P:=λc:P1×Bool=>smC 400 c.1) (λ_=>i07 (P:=λc:P1×Bool=>smC 400 c.1) (λ_=>d _ _ _ e (C0c _ _) (by decide)) z) ?_
 refine i07 (P:=λc:P1×Bool=>smC 400 c.1) (λ_=>i07 (P:=λc:P1×Bool=>smC 400 c.1) (λ_=>d _ _ _ e Z0w (Q0s _)) z) ?_
 exact i07 (P:=λc:P1×Bool=>smC 400 c.1) (λ_=>i07 (P:=λc:P1×Bool=>smC 400 c.1) (λ_=>d _ _ _ e Z0w (T0p _)) z) z
def Dr4(bs:List Int)(o:Option (Int×Int×O1×H0×(Int×Int))):Prop:=∃ k r l w q,o=some (k,r,l,w,q)/\F0 k/\(1<=r/\r<=3)/\(l.length<=3/\e0h l)/\w.length<=400/\okQ bs q
def Drw.b4{a:Type}{bs:List Int}{m:Option (a×(Int×Int))}{p:a->Prop}{k:a×(Int×Int)->Option (Int×Int×O1×H0×(Int×Int))}(h:Drw bs m p)(d:∀ x q,p x->okQ bs q->Dr4 bs (k (x,q))):Dr4 bs (m.bind k):=by
 obtain⟨x,q,rfl,b,c⟩:=h
 exact d x q b c
def Dr4.grd{bs:List Int}{p:Prop}[Decidable p]{k:Unit->Option (Int×Int×O1×H0×(Int×Int))}(h:p)(a:Dr4 bs (k ())):Dr4 bs ((grd p).bind k):=by
 rw[D0 h];exact a
def Q0y{bs:List Int}{q:Int×Int}(j:okQ bs q):Dr4 bs (W04 bs q):=by
 unfold W04
 refine(y06 j (by decide) (by decide)).b4 λk J P g=>Dr4.grd ⟨by omega,by omega⟩ ((X0l g (by decide) (by decide)).b4 λr K h i=>?_)
 have h:1<=r/\r<=3:=(by decide:∀ x∈([1,2,2,2,3]:List Int),1<=x/\x<=3) r h
 refine Dr4.grd ⟨by omega,by omega⟩ ((m0s i (by omega) (by omega)).b4 λl R d F=>(g0v F (by omega) (by omega) (by decide) (by decide)).b4 λw S t o=>?_)
 have m:∀(v:List Int) (q:Int×Int),v.length<=400->okQ bs q->Dr4 bs ((z8 bs q 16).bind λx=>match x with
   |(L,u)=>if L=true then(Q3 bs u 9).bind λy=>match y with
    |(z,M)=>(grd (F0 z)).bind λ_=>some (i64.wrap (z-1),r,l,v,M)
    else some (i64.wrap (1+k),r,l,v,u)):=λv q s j=>by
  refine(O0j j (by decide) (by decide)).b4 λb J _ g=>?_
  simp only
  split
  ·refine(y06 g (by decide) (by decide)).b4 λy K Q i=>Dr4.grd ⟨by omega,by omega⟩ ?_
   exact⟨_,_,_,_,_,rfl,J0 _,h,⟨d.2,d.1⟩,s,i⟩
  ·exact⟨_,_,_,_,_,rfl,J0 _,h,⟨d.2,d.1⟩,s,g⟩
 simp only
 by_cases c:0<l.length
 ·have f:decide (((l.length:Nat):Int)>0)=true:=by simp only[dE];omega
  rw[if_pos f]
  refine(O0j o (by decide) (by decide)).b4 λb T _ p=>?_
  simp only[f,cT]
  split
  ·obtain⟨a,G,D⟩:=e0y (l:=l) (x:=0) (by omega) (by omega)
   have I:i64.wrap (((l.length:Nat):Int)-1)=((l.length:Nat):Int)-1:=w64 (by omega) (by have:=d.2;omega)
   obtain⟨e,H,E⟩:=e0y (l:=l) (x:=((l.length:Nat):Int)-1) (by omega) (by omega)
   obtain⟨A,N⟩:=d.1 a G
   obtain⟨C,O⟩:=d.1 e H
   rw[I,D,oB,E,oB,S07 a e A C (by omega),oB]
   refine m _ _ ?_ p
   have:=x06 (a++e) []
   simp only[lN,lA,List.length_reverse]at this ⊢
   omega
  ·exact m _ _ (by have:=t.2;omega) p
 ·have f:decide (((l.length:Nat):Int)>0)=false:=by simp only[decide_eq_false_iff_not];omega
  rw[if_neg (by rw[f];simp),if_neg (by rw[f];simp)]
  exact m _ _ (by have:=t.2;omega) o
def o0y{bs:List Int}{q:Int×Int}(c:okQ bs q):Drw bs (G06 bs q) λg=>g.2.2.length<=120:=by
 unfold G06
 refine(X0l c (by decide) (by decide)).bind λr j a d=>?_
 have a:1<=r/\r<=3:=(by decide:∀ x∈([1,2,2,2,2,3]:List Int),1<=x/\x<=3) r a
 refine .grd ⟨by omega,by omega⟩ ((m0s d (by omega) (by omega)).bind λf k b e=>?_)
 have i:=b.2
 simp only[w0h r f (by omega) (λw h=>by have:=(b.1 w h).2;omega),oB]
 exact⟨_,_,rfl,Z0w,e⟩
def e0t{bs:List Int}{q:Int×Int}(z:okQ bs q):Drw bs (Q02 bs q) (smC 401):=by
 obtain⟨k,r,l,w,E,p,v,C,j,A,s⟩:=Q0y z
 have m:F0 r:=⟨by omega,by omega⟩
 unfold Q02
 simp only[p,oB,D0 v,D0 m]
 rw[y0r k r l w (by omega) (λx a=>by have:=(j.2 x a).2;omega) (λx a=>by have:=(j.2 x a).2;omega) (by omega),oB]
 have o:=a0x k m j A
 generalize G07 k r l w=c at o
 obtain⟨⟨H,I,J,K,L,⟨M,N,O⟩,P⟩,b⟩:=c
 obtain⟨s1,s2,e,d,h,i⟩:=o
 simp only at s1 s2 e d h i
 refine(y06 s (by decide) (by decide)).bind λy F D f => .grd ⟨by omega,by omega⟩ ?_
 simp only
 split
 ·exact⟨_,_,rfl,⟨s1,s2,e,⟨d.1,by have:=d.2;simp only;omega⟩,h,J0 _⟩,f⟩
 ·split
  ·refine .grd (by have:=d.2;simp only[lS];omega) ?_
   exact⟨_,_,rfl,⟨s1,s2,e,⟨λx a=>by
    rcases List.mem_append.1 a with a|a
    ·exact d.1 x a
    ·simp only[List.mem_singleton]at a;subst a;decide,by have:=d.2;simp only[lA,lS];omega⟩,h,i⟩,f⟩
  ·split
   ·exact(o0y f).bind λg G u t=>⟨_,_,rfl,⟨s1,s2,e,⟨d.1,by have:=d.2;simp only;omega⟩,u,i⟩,t⟩
   ·exact⟨_,_,rfl,⟨s1,s2,e,⟨d.1,by have:=d.2;simp only;omega⟩,h,i⟩,f⟩
def lEW(a b:List Int):∀(f:Nat) (k:Int),F5 a b f k=E5 a b f k
 |0,k=>rfl
 |f+1,k=>by rw[F5.eq_2,E5.eq_2];simp only[lEW a b f]
def R0y:T6=S6:=by
 funext a b;unfold T6 S6;simp only[lEW]
def lEL(a b:O1):∀(f:Nat) (k:Int),O6 a b f k=W3 a b f k
 |0,k=>rfl
 |f+1,k=>by rw[O6.eq_2,W3.eq_2];simp only[lEL a b f,R0y]
def r0z:L00=Q7:=by
 funext a b;unfold L00 Q7;simp only[lEL]
def lCO(a:R7)(n:Int):∀(f:Nat) (k:Int) (l:List Int),j9 a n f k l=W5 a n f k l
 |0,k,l=>rfl
 |f+1,k,l=>by rw[j9.eq_2,W5.eq_2];simp only[lCO a n f]
def s0z:R02=P01:=by
 funext a b;unfold R02 P01;simp only[lCO]
def S0y(a b:O1)(j:a.length=b.length)(l:a.length<=1048576)(i:∀ w∈a,w.length<=1048576):∀(d k fuel:Nat),k+d=a.length->d<fuel ->
  W3 a b fuel (k:Int)=some (if a.drop k=b.drop k then .inr ()else .inl false)
 |d,k,0,h,hf=>by omega
 |0,k,fuel+1,h,hf=>by
  rw[W3.eq_2,if_neg (by simp;omega),Z0 (by omega),Z0 (by omega),if_pos rfl]
 |d+1,k,fuel+1,h,hf=>by
  have e:k<a.length:=by omega
  have f:=U3 e
  have g:=U3 (show k<b.length by omega)
  have m:=i _ (List.getElem_mem e)
  generalize a[k]=x at f m
  generalize b[k]=y at g
  rw[W3.eq_2,if_pos (by simp;omega),Z1 f,oB,Z1 g,oB,g05 (by omega),oB,E2 e (by omega),S0y a b j l i d (k+1) fuel (by omega) (by omega),I1 f,I1 g]
  by_cases c:x=y
  ·subst c;simp[eqW]
  ·simp[eqW,c]
def T0y(a b:O1)(d:a.length<=1048576)(f:∀ w∈a,w.length<=1048576):Q7 a b=some (decide (a=b)):=by
 unfold Q7
 by_cases c:a.length=b.length
 ·rw[if_neg (by simp[c]),show(0:Int)=((0:Nat):Int) from rfl,S0y a b c d f a.length 0 P0 (by omega) (X0 (by omega))]
  simp only[dZ,oB]
  by_cases e:a=b<;>simp[e,P2,Q0]
 ·rw[if_pos (by simp;omega)]
  have:a≠b:=λe=>c (by rw[e])
  simp[this]
def b0x{a:Type}(b:Bool)(v d:a):chk b (some v) d=some (bif b then v else d):=by cases b<;>rfl
def n0w(a b:P1)(h:smC 401 a):W00 a b=some (decide (a=b)):=by
 obtain⟨C,D,e,f,g,⟨i,j,k⟩,E⟩:=a
 obtain⟨F,G,l,m,b4,⟨o,p,q⟩,H⟩:=b
 obtain⟨_,⟨x,c⟩,y,d,z,_⟩:=h
 simp only at x c y d z
 have s:=T0y e l (by omega) (λw A=>by have:=(c w A).2;omega)
 have t:=g05 (a:=f) (b:=m) (by omega)
 have u:=g05 (a:=g) (b:=b4) (by have:=d.2;omega)
 have v:=n0a (i,j,k) (o,p,q) (by simp only;omega)
 simp only[W00,s,t,u,v,b0x,oB,eqW,f0e]
 congr 1
 simp only[Prod.mk.injEq]
 rw[Bool.eq_iff_iff]
 simp[Bool.cond_false_right,and_assoc]
def U0y(a b:P1)(h:smC 401 a):C02 a b=some (decide (a=b)):=by
 rw[←n0w a b h]
 have l:=h.2.2.2.2.1
 obtain⟨m,o,p,q,s,⟨c,d,e⟩,t⟩:=a
 obtain⟨u,v,w,x,b4,⟨f,g,i⟩,y⟩:=b
 simp only at l
 have j:=n0a (c,d,e) (f,g,i) (by simp only;omega)
 have k:=h0h (c,d,e) (f,g,i) (by simp only;omega)
 simp only[W00,C02,r0z,R0y,j,k]
def smN(x:C1):Prop:=x.2.length<=100/\∀ c∈x.2,smC 401 c
def smN.len{x:C1}(h:smN x):s09 x:=⟨by have:=h.1;omega,λc a=>(h.2 c a).len⟩
def V0y(a b:R7)(m:a.length=b.length)(o:a.length<=1048576)(l:∀ w∈a,smC 401 w):∀(d k fuel:Nat),k+d=a.length->d<fuel ->
  Y3 a b fuel (k:Int)=some (if a.drop k=b.drop k then .inr ()else .inl false)
 |d,k,0,i,hf=>by omega
 |0,k,fuel+1,i,hf=>by
  rw[Y3.eq_2,if_neg (by simp;omega),Z0 (by omega),Z0 (by omega),if_pos rfl]
 |d+1,k,fuel+1,i,hf=>by
  have f:k<a.length:=by omega
  have g:=U3 f
  have h:=U3 (show k<b.length by omega)
  have j:=l _ (List.getElem_mem f)
  generalize a[k]=x at g j
  generalize b[k]=y at h
  have e:=n0w x y j
  obtain⟨p,q,s,t,u,⟨v,z,A⟩,C⟩:=x
  obtain⟨D,E,F,G,H,⟨I,J,K⟩,L⟩:=y
  rw[Y3.eq_2,if_pos (by simp;omega),Z1 g]
  simp only[oB]
  rw[Z1 h]
  simp only[oB]
  rw[e,oB,E2 f (by omega),V0y a b m o l d (k+1) fuel (by omega) (by omega),I1 g,I1 h]
  generalize ((p,q,s,t,u,(v,z,A),C):P1)=x
  generalize ((D,E,F,G,H,(I,J,K),L):P1)=y
  by_cases c:x=y<;>simp[c,List.cons.injEq]
def f0t(a b:C1)(h:smN a):K3 a b=some (decide (a=b)):=by
 obtain⟨r,a⟩:=a
 obtain⟨t,b⟩:=b
 obtain⟨f,d⟩:=h
 simp only at f d
 simp only[K3]
 by_cases c:a.length=b.length
 ·by_cases c2:r=t
  ·rw[if_neg (by simp[c,c2]),show(0:Int)=((0:Nat):Int) from rfl,V0y a b c (by omega) d a.length 0 P0 (by omega) (X0 (by omega))]
   simp only[dZ,oB]
   by_cases e:a=b<;>simp[e,c2,P2,Q0]
  ·rw[if_pos (by rw[dF c2];rfl),dF λe=>c2 (congrArg Prod.fst e)]
 ·rw[if_pos (by rw[dF (p:=((a.length:Nat):Int)=((b.length:Nat):Int)) (by omega)];cases decide (r=t)<;>rfl),dF λe=>c (congrArg (λx=>x.2.length) e)]
def lEN(a b:R7)(g:∀ w∈a,smC 401 w)(f:Nat):∀ k:Int,P6 a b f k=Y3 a b f k:=by
 induction f with
 |zero=>intro k;rfl
 |succ f h =>
  intro k
  rw[P6.eq_2,Y3.eq_2]
  by_cases c:decide (k<((a.length:Nat):Int))=true
  ·rw[if_pos c,if_pos c]
   cases hx:gi a k with
   |none=>exact Eq.trans (b:=none) rfl rfl
   |some x =>
    have d:=g x (mG (I0f hx).2)
    have e:=λy=>(U0y x y d).trans (n0w x y d).symm
    obtain⟨i,j,l,m,o,⟨p,q,s⟩,t⟩:=x
    simp only[oB,e,h]
  ·rw[if_neg c,if_neg c]
def W0y(a b:C1)(h:smN a):M00 a b=some (decide (a=b)):=by
 rw[←f0t a b h]
 obtain⟨r,a⟩:=a
 obtain⟨t,b⟩:=b
 simp only[K3,M00,lEN a b h.2]
def X0y(n:Int):X00 n=some (bif inR 1 3 n then((n,[]),true)else((0,[]),false))/\D02 n=some (bif inR 1 3 n then((n,[]),true)else((0,[]),false)):=by
 constructor
 ·unfold X00
  rw[J02,oB]
  cases inR 1 3 n<;>rfl
 ·unfold D02
  rw[W02,oB]
  cases inR 1 3 n<;>rfl
def g0t(l:List Int)(c:l.length<=2000000):∀(d k fuel:Nat),k+d=l.length->d<fuel->l9 l l fuel (k:Int)=some (.inr ())
 |d,k,0,a,hf=>by omega
 |0,k,fuel+1,a,hf=>by rw[l9.eq_2,if_neg (by simp only[dE];omega)]
 |d+1,k,fuel+1,a,hf=>by
  have b:k<l.length:=by omega
  rw[l9.eq_2,if_pos (by simp only[dE];omega)]
  simp only[Z1 (U3 b),oB,E2 b (show l.length<=9223372036854775807 by omega)]
  rw[if_neg (by simp)]
  exact g0t l c d (k+1) fuel (by omega) (by omega)
def h0t(l:List Int)(a:l.length<=2000000):S02 l l=some true:=by
 have h:=g0t l a l.length 0 P0 (by omega) (by unfold P0;omega)
 unfold S02
 rw[if_neg (by simp),show(0:Int)=((0:Nat):Int) from rfl,h];rfl
def p0y(a:R7)(n:Int)(f:a.length<=100):∀(d k fuel:Nat) (acc:List Int),k+d=a.length->d<fuel->acc.length<=k->∃ l,W5 a n fuel (k:Int) acc=some l/\l.length<=100
 |d,k,0,acc,c,hf,b=>by omega
 |0,k,fuel+1,acc,c,hf,b=>by
  rw[W5.eq_2,if_neg (by simp only[dE];omega)]
  exact⟨_,rfl,by omega⟩
 |d+1,k,fuel+1,acc,c,hf,b=>by
  have e:k<a.length:=by omega
  have g:=U3 e
  generalize a[k]=x at g
  obtain⟨h,i,j,m,o,⟨p,q,s⟩,t⟩:=x
  rw[W5.eq_2,if_pos (by simp only[dE];omega)]
  simp only[Z1 g,oB,E2 e (show a.length<=9223372036854775807 by omega)]
  split
  ·rw[D0 (by simp only[lS];omega),oB]
   exact p0y a n f d (k+1) fuel _ (by omega) (by omega) (by simp only[lA,lS];omega)
  ·exact p0y a n f d (k+1) fuel _ (by omega) (by omega) (by omega)
def Y0y(x:C1)(n:Int)(h:smN x):∃ l,P01 x n=some l/\l.length<=100:=by
 obtain⟨r,a⟩:=x
 obtain⟨l,e,b⟩:=p0y a n h.1 a.length 0 P0 [] (by omega) (X0 (by have:=h.1;simp only at this;omega)) (Nat.le_refl _)
 exact⟨l,by unfold P01;simp only;rw[show(0:Int)=((0:Nat):Int) from rfl,e];rfl,b⟩
def i0t(r:Int)(c:P1):∀(l:List P1) (k:Nat),G0k r c=false->(fcA r (l ++ [c]) k).length=(fcA r l k).length
 | [],k,h=>by simp[fcA,h]
 |y::t,k,h=>by
  have a:=i0t r c t (k+1) h
  simp only[List.cons_append,fcA]
  cases G0k r y
  ·exact a
  ·simp only[cT,lC,a]
def N0m(x:C1)(c:P1):S8 x c=(x,false)∨((S8 x c).2=true/\(S8 x c).1=(x.1,x.2 ++ [c])/\V7 (x.1,x.2 ++ [c])=true/\J7 (x.1,x.2 ++ [c]) = []):=by
 unfold S8
 cases h:V7 x&&decide (c.2.1=x.1)&&Z01 c&&decide (x.2.length<12)
 ·exact .inl rfl
 ·simp only[aE,dE]at h
  obtain⟨⟨⟨a,b⟩,d⟩,f⟩:=h
  have e:G0k x.1 c=false:=by unfold G0k;rw[dT b,d];rfl
  unfold V7 J7 at a
  simp only[aE,dE]at a
  have hf:=i0t x.1 c x.2 0 e
  have h0:(fcA x.1 (x.2 ++ [c]) 0).length=0:=by omega
  refine .inr ⟨rfl,rfl,?_,List.eq_nil_of_length_eq_zero h0⟩
  unfold V7 J7
  simp only[aE,dE,lA,lS]
  exact⟨⟨a.1.1,by omega⟩,by omega⟩
def o0w{x:C1}{c:P1}(b:∀ e∈x.2,smC 401 e)(d:smC 401 c):(S8 x c).1.2.length<=x.2.length+1/\∀ e∈(S8 x c).1.2,smC 401 e:=by
 rcases N0m x c with h|⟨_,h,_⟩
 ·rw[h];exact⟨by simp only;omega,b⟩
 ·rw[h]
  refine⟨by simp,λe a=>?_⟩
  rcases List.mem_append.1 a with a|a
  ·exact b e a
  ·simp only[List.mem_singleton]at a;subst a;exact d
def smM(x:C1):Prop:=x.2.length<=99/\∀ c∈x.2,smC 401 c
def smM.n{x:C1}(h:smM x):smN x:=⟨by have:=h.1;omega,h.2⟩
def l0u(x:C1)(h:∀ c∈x.2,r0l c)(a:x.2.length<=1048576):v02 x=some x:=by
 obtain⟨r,l⟩:=x
 simp only at h a
 have e:=H0k l (by omega) h r l.length 0 P0 [] (by omega) (X0 (by omega)) (Nat.le_refl _)
 unfold v02
 simp only
 rw[show(0:Int)=((0:Nat):Int) from rfl,e];rfl
def B0r{bs:List Int}:∀(d fuel:Nat) (r:Int) (a:R7) (q:Int×Int),d<fuel->a.length+d<=99->(∀ c∈a,smC 401 c)->okQ bs q ->
  ∃ t k p,J8 bs fuel (d:Int) r a q=some (t,k,p)/\smM (t,k)/\okQ bs p
 |d,0,r,a,q,hf,m,g,i=>by omega
 |0,fuel+1,r,a,q,hf,m,g,i=>by
  rw[J8.eq_2,if_neg (by simp)]
  exact⟨_,_,_,rfl,⟨by simp only;omega,g⟩,i⟩
 |d+1,fuel+1,r,a,q,hf,m,g,i=>by
  rw[J8.eq_2,if_pos (by simp only[dE];omega)]
  obtain⟨c,D,w,h,z⟩:=e0t i
  obtain⟨b,s,y,_,o⟩:=O0j z (n:=8) (by decide) (by decide)
  have l:=J0m (r,a) ⟨by simp only;omega,λe f=>(g e f).len⟩ (λe f=>(g e f).cp) (by simp only;omega) c h.len h.cp
  have j:=o0w (x:=(r,a)) g h
  generalize S8 (r,a) c=A at l j
  obtain⟨⟨u,v⟩,C⟩:=A
  simp only at j
  obtain⟨E,F,G,H,I,⟨J,K,L⟩,M⟩:=c
  simp only[w,y,oB,f0y d (by omega)]
  cases b
  ·simp only[fT,if_false,l,oB]
   exact B0r d fuel u v s (by omega) (by omega) j.2 o
  ·rw[if_pos rfl,D0 (by simp only[lS];omega),oB]
   refine B0r d fuel r _ s (by omega) (by simp only[lA,lS];omega) (λe f=>?_) o
   rcases List.mem_append.1 f with f|f
   ·exact g e f
   ·rw[List.mem_singleton.1 f];exact h
def b0o{bs:List Int}{q:Int×Int}(b:okQ bs q):Drw bs (z01 bs q) smM:=by
 unfold z01
 rw[(X0y 2).1,oB,show inR 1 3 2=true from by decide]
 refine(y06 b (by decide) (by decide)).bind λn g j d => .grd ⟨by omega,by omega⟩ ?_
 obtain⟨m,rfl⟩:∃ m:Nat,n=m:=⟨n.toNat,by omega⟩
 obtain⟨i,a,f,e,h,c⟩:=B0r (bs:=bs) m P0 2 [] g (X0 (by omega)) (by simp only[lN];omega) (λ_ h=>nomatch h) d
 exact⟨(i,a),f,by simp only[cT];rw[e];rfl,h,c⟩
def q0y{bs:List Int}(g:bs.length<=1048576):∃ x c,S01 bs=some (x,c)/\smM x/\smC 401 c:=by
 obtain⟨q,e,h⟩:=k0s g
 obtain⟨x,j,a,d,i⟩:=b0o h
 obtain⟨c,k,b,f,_⟩:=e0t i
 refine⟨x,c,?_,d,f⟩
 unfold S01
 obtain⟨l,m,o,p,s,⟨t,u,v⟩,w⟩:=c
 simp only[e,a,b,oB]
def Z0y{bs:List Int}(f:bs.length<=1048576):∃ x k,T01 bs=some (x,k)/\smN x/\F0 k:=by
 obtain⟨q,e,g⟩:=k0s f
 obtain⟨x,j,b,d,h⟩:=b0o g
 obtain⟨k,l,c,i,_⟩:=y06 h (n:=8) (by decide) (by decide)
 have a:F0 k:=⟨by omega,by omega⟩
 refine⟨x,k,?_,d.n,a⟩
 unfold T01
 simp only[e,b,c,oB,D0 a]
def r0y{bs:List Int}(b:bs.length<=1048576):∃ k,p00 bs=some k/\F0 k:=by
 obtain⟨q,e,c⟩:=k0s b
 obtain⟨k,f,a,d,_⟩:=y06 c (n:=6) (by decide) (by decide)
 refine⟨_,?_,J0 (k-1)⟩
 unfold p00
 simp only[e,a,oB,D0 (show F0 k from⟨by omega,by omega⟩)]
def a0z{bs:List Int}(i:bs.length<=1048576):∃ x y,N8 bs=some (x,y)/\smN x:=by
 obtain⟨q,e,j⟩:=k0s i
 obtain⟨x,m,f,a,k⟩:=b0o j
 obtain⟨b,o,g,_,l⟩:=O0j k (n:=2) (by decide) (by decide)
 unfold N8
 have d:=l0u x (λc d=>(a.2 c d).cp) (by have:=a.1;omega)
 obtain⟨y,p,h,_,_⟩:=b0o l
 cases b
 ·exact⟨x,y,by simp only[e,f,g,h,oB,fT,if_false],a.n⟩
 ·exact⟨x,x,by simp only[e,f,g,d,oB,if_true],a.n⟩
def p0w:∀ cs:List P1,C0a cs=true->(∀ c∈cs,smC 401 c)->(nbT cs).length<=20000*cs.length
 | [],_,_=>Nat.le_refl _
 |c::t,a,b=>by
  simp only[C0a,aE]at a
  have h:=p0w t a.2 λe d=>b e (mC _ d)
  have f:=S08 a.1
  have g:=(b c mS).2.2.2.1.2
  simp only[nbT,lA,lC,lN]
  omega
def c0x{x:C1}(h:smN x):(V04 x).size<=9223372036854775807:=by
 unfold V04
 cases c:C0a x.2
 ·exact Nat.zero_le _
 ·have:=p0w x.2 c h.2
  have a:=h.1
  show(B (nbT x.2)).size<=_
  rw[show(B (nbT x.2)).size=(nbT x.2).length from C8 _]
  omega
theorem d0x(bs:List Int):E02 bs=some true:=by
 rcases Nat.lt_or_ge 1048576 bs.length with hb|hb
 ·unfold E02 j07
  rw[oB,if_pos (by simp only[decide_eq_true_eq];omega)]
 have e0:j07 bs=some false:=by unfold j07;rw[decide_eq_false (by omega)]
 obtain⟨n,c,e1,hn,hc⟩:=q0y hb
 have a1:=h0u n hn.n.len (λe he=>(hn.2 e he).cp) (by have:=hn.1;omega) c hc.len hc.cp
 have a2:=J0m n hn.n.len (λe he=>(hn.2 e he).cp) (by have:=hn.1;omega) c hc.len hc.cp
 have hs:=o0w (x:=n) hn.2 hc
 have hy:s09 (S8 n c).1:=⟨by have:=hn.1;omega,λe he=>(hs.2 e he).len⟩
 have b4:=λz=>f0t (S8 n c).1 z ⟨by have:=hn.1;omega,hs.2⟩
 have b1:K3 (S8 n c).1 (S8 n c).1=some true:=by rw[b4];simp
 have b2:=g0b _ hy
 have b3:=E0c _ hy
 have b4:=b4 n
 have hf:=N0m n c
 generalize S8 n c=y at *
 obtain⟨m,k,e2,hm,hk⟩:=Z0y hb
 obtain⟨r,e3,hr⟩:=r0y hb
 obtain⟨u,v,e4,hu⟩:=a0z hb
 obtain⟨l,c1,hl⟩:=Y0y m k hm
 have c2:R02 m k=some l:=by rw[s0z];exact c1
 have c3:=h0t l (by omega)
 have c4:=E0c m hm.len
 have c5:=o0i m hm.len
 have c6:=h0t (J7 m) (by have:=d0j m.1 m.2 0;have:=hm.1;unfold J7;omega)
 have c7:=g0b m hm.len
 have c8:=n0g m hm.len
 obtain⟨d2,d1⟩:=X0y r
 have d3:∀ G:C1×Bool,G=(bif inR 1 3 r then((r,[]),true)else((0,[]),false))->K3 G.1 G.1=some true:=λG hG=>by
  rw[f0t _ _ (by rw[hG];cases inR 1 3 r<;>exact⟨Nat.zero_le _,λ_ h=>nomatch h⟩)]
  simp
 generalize (bif inR 1 3 r then(((r,[]),true):C1×Bool)else((0,[]),false))=G at d1 d2 d3
 obtain⟨⟨G0,G1⟩,Gb⟩:=G
 have d3:=d3 _ rfl
 have f1:=K0c m (λe he=>(hm.2 e he).fit) (by have:=hm.1;omega) (λe he=>by have:=(hm.2 e he).2.2.2.1.2;omega)
 have f2:=J0c m (λe he=>(hm.2 e he).fit) (by have:=hm.1;omega) (λe he=>by have:=(hm.2 e he).2.2.2.1.2;omega)
 have f3:=c0x hm
 have f4:V05 (V04 m) (V04 m)=true:=n0d.2 rfl
 have g1:=f0t u v hu
 have g2:=W0y u v hu
 obtain⟨n0,n1⟩:=n
 obtain⟨c0,c1',c2',c3',c4',⟨c5',c6',c7'⟩,c8'⟩:=c
 obtain⟨⟨y0,y1⟩,yb⟩:=y
 obtain⟨m0,m1⟩:=m
 obtain⟨u0,u1⟩:=u
 obtain⟨v0,v1⟩:=v
 have key:(match yb with
   |true=>V7 (y0,y1)=true/\J7 (y0,y1) = []/\y1.length=n1.length+1
   |false=>((y0,y1):C1)=(n0,n1)):=by
  rcases hf with h|⟨h1,h2,h3,h4⟩
  ·cases h;rfl
  ·simp only at h1 h2 h3 h4
   subst h1
   cases h2
   exact⟨h3,h4,by simp⟩
 simp only at b1 b2 b3 b4 d3
 unfold E02
 cases yb
 ·simp only at key
  have b5:K3 (y0,y1) (n0,n1)=some true:=by rw[b4,key];simp
  simp only[e0,e1,a1,a2,b1,b5,oB,Bool.false_eq_true,if_false,beq_self_eq_true,Bool.not_true,Bool.not_false,E1,K1,cond_true,cond_false,Bool.false_and,Bool.true_and,Bool.and_true,Bool.and_false,List.length_nil,D0 (show(0:Nat)<=9223372036854775807 by decide),e2,D0 hk,e3,D0 hr,d1,d2,d3,e4,c1,c2,c3,c4,c5,c6,c7,c8,f1,f2,D0 f3,f4,g1,g2]
 ·obtain⟨k1,k2,k3⟩:=key
  have k4:decide (((y1.length:Nat):Int)=IntKind.i64.wrap (((n1.length:Nat):Int)+1))=true:=by
   have:=hn.1
   simp only at this
   rw[w64 (by omega) (by omega),decide_eq_true_eq,k3];rfl
  simp only[e0,e1,a1,a2,b1,b2,k1,b3,k2,k4,oB,Bool.false_eq_true,if_false,beq_self_eq_true,Bool.not_true,Bool.not_false,E1,K1,cond_true,cond_false,Bool.false_and,Bool.true_and,Bool.and_true,Bool.and_false,List.length_nil,D0 (show(0:Nat)<=9223372036854775807 by decide),e2,D0 hk,e3,D0 hr,d1,d2,d3,e4,c1,c2,c3,c4,c5,c6,c7,c8,f1,f2,D0 f3,f4,g1,g2,show decide (((0:Nat):Int)=0)=true from rfl]
end Go.Proofs.YtcpjomkcdlggaaaGreat
