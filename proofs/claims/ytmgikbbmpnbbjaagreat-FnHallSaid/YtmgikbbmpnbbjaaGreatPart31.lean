/- Texts of the claim, joined: The walk of impl's permutations: a closure that calls itself and others. -/
import Derived.Test.YtmgikbbmpnbbjaaGreatPart20
import Derived.Test.YtmgikbbmpnbbjaaGreatChecked
import Derived.Test.YtmgikbbmpnbbjaaGreatH35
import Derived.Test.YtmgikbbmpnbbjaaGreatH41
import Derived.Test.YtmgikbbmpnbbjaaGreatPart28
import Derived.Test.YtmgikbbmpnbbjaaGreatPart30
import Derived.Test.YtmgikbbmpnbbjaaGreatPart23
import Derived.Test.YtmgikbbmpnbbjaaGreatPart19
import Derived.Test.YtmgikbbmpnbbjaaGreatH36
import Derived.Test.YtmgikbbmpnbbjaaGreatH45
namespace Go.Proofs.YtmgikbbmpnbbjaaGreat
open Go.H
set_option linter.unusedVariables false
set_option linter.unusedSimpArgs false
set_option maxRecDepth 10000
def x0g:Obj := .cells #[] 0 (0,0)
def s0d:TypeId:=31
def PS(b:Hp)(a g:Nat)(h:Hp)(acc:N1):Prop:=∃ o c,h a=some (.cells #[.slice (some ⟨g,o,none⟩) acc.length c] s0d (0,0)) /\
 New R3 (b.set a x0g) (h.set a x0g) [.slice (some ⟨g,o,none⟩) acc.length c] acc
def Kp(c g:Nat)(h h':Hp)(a:Nat):Prop:=(a=g∨h a=none)/\(∀ b o,b≠c->b≠g->h b=some o->h' b=some o)/\∀ b,h b≠none->h' b≠none
theorem Sub.hole{h h':Hp}(s:Sub h h')(b:Nat)(x:Obj):Sub (h.set b x) (h'.set b x):=λa o e=>by
 by_cases e1:a=b
 ·subst e1;rw[Hp.set_same]at e ⊢;exact e
 ·rw[Hp.set_other _ _ e1]at e ⊢;exact s _ _ e
theorem New.base{a:Type}{r:Wp a}{h0 d:Hp}{g o n c:Nat}{xs:List a}(w:New r.slice h0 d [.slice (some ⟨g,o,none⟩) n c] xs):h0 g=none:=by
 obtain⟨B,⟨v,vs,i,j,b,⟨p,h⟩,m,rfl⟩,f,q⟩:=w
 cases b
 rcases h with⟨e,_⟩|⟨l,z,k,cur,ty,e,s,t,u,rfl,x,y⟩
 ·cases e
 cases e
 exact f.2 _ (by simp)
theorem PS.up{b h h':Hp}{a g:Nat}{acc:N1}(p:PS b a g h acc)(d:Sub h h'):PS b a g h' acc:=by
 obtain⟨o,c,e,f⟩:=p
 exact⟨o,c,d _ _ e,f.mono (Sub.hole d _ _)⟩
theorem PS.ne{b h:Hp}{a g:Nat}{acc:N1}(p:PS b a g h acc):g≠a:=by
 obtain⟨o,c,f,d⟩:=p
 intro e
 have:=New.base d
 rw[e,Hp.set_same]at this;cases this
theorem PS.old{d h:Hp}{a g:Nat}{acc:N1}(p:PS d a g h acc){b:Nat}{x:Obj}(e:b≠a)(f:d b=some x):h b=some x:=by
 obtain⟨o,c,j,i⟩:=p
 have:=i.sub b x (by rw[Hp.set_other _ _ e];exact f)
 rwa [Hp.set_other _ _ e]at this
theorem PS.gne{d h:Hp}{a g:Nat}{acc:N1}(p:PS d a g h acc):h g≠none:=by
 obtain⟨o,c,i,b⟩:=p
 intro e
 have f:g≠a:=PS.ne ⟨o,c,i,b⟩
 exact New.blk b (Sub.refl _) (by rw[Hp.set_other _ _ f];exact e)
theorem x08.unhole{h:Hp}{b g o n c sz:Nat}{x:Obj}{vs:List (List Value)}(f:g≠b)(r:x08 (h.set b x) sz (.slice (some ⟨g,o,none⟩) n c) vs):x08 h sz (.slice (some ⟨g,o,none⟩) n c) vs:=by
 obtain⟨a,p,q,m,cur,ty,e,i,j,k,d,l⟩:=r
 cases e
 rw[Hp.set_other _ _ f]at d
 exact⟨a,_,_,_,cur,ty,rfl,i,j,k,d,l⟩
theorem w0a.hole{h h':Hp}{c g sz:Nat}{x y:Obj}{v:Value}{o:List (List Value)}(s:g≠c)(k:h c=some y)(a:w0a h h' sz g v o):w0a (h.set c x) (h'.set c x) sz g v o/\h' c=some y /\
  ∃ f n m j,v = .slice (some ⟨f,n,none⟩) m j/\(f=g∨h f=none)/\f≠c:=by
 obtain⟨r,f,n,m,j,rfl,d,l⟩:=a
 have i:f≠c:=by
  rcases d with rfl|d
  ·exact s
  ·intro e;rw[e,k]at d;cases d
 obtain⟨q,C,D,B,cur,ty,e,t,u,w,z,A⟩:=r
 cases e
 refine⟨⟨⟨q,_,_,_,cur,ty,rfl,t,u,w,by rw[Hp.set_other _ _ i];exact z,A⟩,_,_,_,_,rfl,?_,λb p=>?_⟩,by rw[l c i.symm];exact k,_,_,_,_,rfl,d,i⟩
 ·rcases d with rfl|d
  ·exact .inl rfl
  ·exact .inr (by rw[Hp.set_other _ _ i];exact d)
 ·by_cases e1:b=c
  ·subst e1;rw[Hp.set_same,Hp.set_same]
  ·rw[Hp.set_other _ _ e1,Hp.set_other _ _ e1];exact l b p
theorem O0q{h:Hp}{b:Nat}{x y:Obj}:(h.set b x).set b y=h.set b y:=by
 funext a
 by_cases e:a=b
 ·subst e;rw[Hp.set_same,Hp.set_same]
 ·rw[Hp.set_other _ _ e,Hp.set_other _ _ e,Hp.set_other _ _ e]
theorem PS.push{d q h:Hp}{a g o c:Nat}{acc:N1}{j:Option Addr}{u m:Nat}{l:D0}(y:q a=some (.cells #[.slice (some ⟨g,o,none⟩) acc.length c] s0d (0,0)))
  (K:New R3 (d.set a x0g) (q.set a x0g) [.slice (some ⟨g,o,none⟩) acc.length c] acc) (L:Sub q h) (w:New K0 q h [.slice j u m] l) :
  ∃ vs,x08 h 1 (.slice (some ⟨g,o,none⟩) acc.length c) vs/\vs.length=acc.length/\∀ k f,w0a h k 1 g f (vs ++ [[.slice j u m]]) ->
   ∃ D J v C,f = .slice (some ⟨D,J,none⟩) v C/\∃ ty p,k a=some (.cells #[.slice (some ⟨g,o,none⟩) acc.length c] ty p)/\p=(0,0)/\Z02 f/\∃ i,PS d a i (k.set a (.cells #[f] ty p)) (acc ++ [l])/\Kp a g h (k.set a (.cells #[f] ty p)) i:=by
 have H:g≠a:=PS.ne ⟨o,c,y,K⟩
 obtain⟨vs,X,S,O⟩:=New.app K (Sub.hole L a x0g)
 refine⟨vs,x08.unhole H X,S,λk f A=>?_⟩
 obtain⟨M,N,i,U,T,P,rfl,F,ad⟩:=w0a.hole (x:=x0g) H (L _ _ y) A
 obtain⟨B,Z,z,af⟩:=w
 have E:a ∉ B:=λe=>by
  have:=z.2 _ e
  rw[y]at this;cases this
 obtain⟨I,v⟩:=O [[.slice j u m]] [l] [B] _ _ (show F3 (K0.W (h.set a x0g)) [[.slice j u m]] [l] [B] from⟨K0.frame Z λb d=>Hp.set_other _ _ (λe=>E (by rw[←e];exact d)),trivial⟩)
  ⟨by simpa using z.1,λb d=>by
   have d:b∈B:=by simpa using d
   rw[Hp.set_other _ _ (λe=>E (by rw[←e];exact d))];exact z.2 b d⟩ M
 have R:T=(acc ++ [l]).length:=(Sl.len I.r).1
 subst R
 obtain⟨Y,D,J,v,C,e,ac,G⟩:=A
 cases e
 obtain⟨_,ab,ae,aa,cur,ty,e,_,_,_,V,_⟩:=Y
 injection e with e1 _ _
 cases e1
 refine⟨_,_,_,_,rfl,_,_,N,rfl,trivial,i,⟨U,P,Hp.set_same _ _ _,by rw[O0q];exact I⟩,F,λb x s Q t=>?_,λb t=>?_⟩
 ·rw[Hp.set_other _ _ s,G b (by
   rcases F with e|e
   ·rw[e];exact Q
   ·intro n;rw[←n]at e;rw[t]at e;cases e)]
  exact t
 ·by_cases s:b=a
  ·subst s;rw[Hp.set_same];simp
  ·rw[Hp.set_other _ _ s]
   by_cases n:b=i
   ·subst n;rw[V];simp
   ·rw[G b n];exact t
theorem t0d{n k x:Nat}{l:D0}:(List.range (x+1)).flatMap (λx:Nat=>bif l.contains (x:Int)then []else S00 n k (l ++ [(x:Int)])) =
  (List.range x).flatMap (λx:Nat=>bif l.contains (x:Int)then []else S00 n k (l ++ [(x:Int)]))++(bif l.contains (x:Int)then []else S00 n k (l ++ [(x:Int)])):=by
 rw[List.range_succ,List.flatMap_append];simp
theorem J0m(n:Nat):∀(k:Nat) (l:D0),(S00 n k l).length<=(n+1) ^ k/\∀ x,((List.range x).flatMap λx:Nat=>bif l.contains (x:Int)then []else S00 n k (l ++ [(x:Int)])).length<=x*(n+1) ^ k
 |k,l=>by
  have b:∀(k:Nat) (l:D0),(∀ l,(S00 n k l).length<=(n+1) ^ k)->∀ x,((List.range x).flatMap λx:Nat=>bif l.contains (x:Int)then []else S00 n k (l ++ [(x:Int)])).length<=x*(n+1) ^ k:=by
   intro k l a x
   induction x with
   |zero=>simp
   |succ x d =>
    rw[t0d,List.length_append,Nat.succ_mul]
    have:(bif l.contains (x:Int)then([]:N1)else S00 n k (l ++ [(x:Int)])).length<=(n+1) ^ k:=by
     cases l.contains (x:Int)
     ·exact a _
     ·simp
    omega
  have c:∀(k:Nat) (l:D0),(S00 n k l).length<=(n+1) ^ k:=by
   intro k
   induction k with
   |zero=>intro l;simp[S00]
   |succ k a =>
    intro l
    have:=b k l a n
    rw[S00,Nat.pow_succ,Nat.mul_comm]
    refine Nat.le_trans this ?_
    exact Nat.mul_le_mul_right _ (by omega)
  exact⟨c k l,b k l (c k)⟩
theorem J0r{n k x:Nat}{l:D0}{acc:N1}(h:acc.length+(n+1) ^ (k+1+1)<=1000)(d:x<n):(acc++(List.range x).flatMap λx:Nat=>bif l.contains (x:Int)then []else S00 n k (l ++ [(x:Int)])).length+(n+1) ^ (k+1)<=1000:=by
 have a:=(J0m n k l).2 x
 rw[List.length_append]
 have b:(n+1) ^ (k+1+1)=(n+1) ^ (k+1)*n+(n+1) ^ (k+1):=by rw[Nat.pow_succ (n+1) (k+1),Nat.mul_add,Nat.mul_one]
 have c:x*(n+1) ^ k<=(n+1) ^ (k+1)*n:=by
  rw[Nat.mul_comm x]
  refine Nat.mul_le_mul ?_ (by omega)
  exact Nat.pow_le_pow_right (by omega) (by omega)
 omega
theorem PS.start{h i:Hp}{l d c g cap:Nat}{N Fo Z:Obj}(w0:New R3 (h.set l N) i [.slice (some ⟨g,0,none⟩) 0 cap] [])(p:i d=none)
  (j:(i.set d (.cells #[.slice (some ⟨g,0,none⟩) 0 cap] s0d (0,0))) c=none) :
  PS ((h.set l N).set c Fo) d g (((i.set d (.cells #[.slice (some ⟨g,0,none⟩) 0 cap] s0d (0,0))).set c Z).set c Fo) []:=by
 have k:c≠d:=λe=>by rw[e,Hp.set_same]at j;cases j
 have q:i c=none:=by rwa [Hp.set_other _ _ k]at j
 obtain⟨B,m,n,s⟩:=w0
 have f:∀ b∈B,b≠d/\b≠c:=λb a=>by
  have:=R3.dom m b a
  exact⟨λe=>this (e▸p),λe=>this (e▸q)⟩
 refine⟨0,cap,by rw[Hp.set_other _ _ k.symm,Hp.set_other _ _ k.symm,Hp.set_same];rfl,B,R3.frame m λb a=>?_,⟨n.1,λb a=>?_⟩,λb o e=>?_⟩
 ·rw[Hp.set_other _ _ (f b a).1,Hp.set_other _ _ (f b a).2,Hp.set_other _ _ (f b a).2,Hp.set_other _ _ (f b a).1]
 ·rw[Hp.set_other _ _ (f b a).1,Hp.set_other _ _ (f b a).2];exact n.2 b a
 ·by_cases e1:b=d
  ·subst e1;rw[Hp.set_same]at e ⊢;exact e
  ·rw[Hp.set_other _ _ e1]at e ⊢
   by_cases e2:b=c
   ·subst e2;rw[Hp.set_same]at e ⊢;exact e
   ·rw[Hp.set_other _ _ e2]at e ⊢
    rw[Hp.set_other _ _ e2,Hp.set_other _ _ e1]
    exact s _ _ e
theorem PS.rows{d h:Hp}{a g:Nat}{acc:N1}(p:PS d a g h acc):∃ o c,h a=some (.cells #[.slice (some ⟨g,o,none⟩) acc.length c] s0d (0,0))/\R3.R h [.slice (some ⟨g,o,none⟩) acc.length c] acc:=by
 obtain⟨o,c,f,B,i,j,k⟩:=p
 refine⟨o,c,f,R3.toR (R3.frame i λb d=>?_)⟩
 have:b≠a:=λe=>by
  have:=j.2 b d
  rw[e,Hp.set_same]at this;cases this
 rw[Hp.set_other _ _ this]
theorem F0l{l:D0}(b:l.length<=3):a9 l=some l:=by
 have a:(([]:D0).length+l.length)*8<=140737488355328:=by simp;omega
 simp only[a9,grd,if_pos a,oB,List.nil_append]
theorem a0o(G:Hp)(m f q:Nat)(n:Nat)(aZ:n<=3)(am aD:TypeId)(aw:m≠f)(aK:q≠f)(ao:G m=some (.cells #[.int .i64 n] am (0,0)))
  (aJ:G q=some (.cells #[.func (.func 189) #[] #[ptr m 0,ptr f 0,ptr q 0]] aD (0,0))) :
  ∀(k:Nat) (l:D0) (acc:N1) (ai h:Hp) (g:Nat) (X:Option Addr) (az Z:Nat),k+l.length=n->acc.length+(n+1) ^ (k+1)<=1000->PS G f g ai acc->Sub ai h->New K0 ai h [.slice X az Z] l ->
  Tr Tryz.prog 189 #[.slice X az Z,ptr m 0,ptr f 0,ptr q 0] h λv h'=>∃ F,v = .tuple #[]/\PS G f F h' (acc++S00 n k l)/\Kp f g h h' F
 |k,l,acc,ai,h,g,X,az,Z,bn,aS,al,s1,aE=>by
  have be:=aE.r
  obtain⟨rfl,bq⟩:=Sl.len be
  have aY:h m=some (.cells #[.int .i64 n] am (0,0)):=s1 _ _ (al.old aw ao)
  refine V1 (args:=[.slice X l.length Z,ptr m 0,ptr f 0,ptr q 0]) (fn:=Tryz.f189) rfl ?_
  refine eX (.int .i64 n) (aI ⟨rfl,by simp[Hp.cell,aY]⟩ ?_)
  refine aI (λap=>?_) (λap=>?_)
  ·have aX:k=0:=by simp at ap;omega
   subst aX
   obtain⟨o,c,af,aA⟩:=al
   refine eX _ (aI ⟨rfl,by simp[Hp.cell,(s1 _ _ af)];rfl⟩ ?_)
   obtain⟨vs,bf,ba,aR⟩:=PS.push af aA s1 aE
   refine eX vs (aI bf (aI (by show _*_<=_;rw[ba];simp;have:(n+1) ^ (0+1)=n+1:=(by simp);omega) ?_))
   intro bg E aO
   obtain⟨ac,br,ae,Y,rfl,ty,bl,bb,rfl,bc,F,aB,ah⟩:=aR E bg aO
   refine eX #[Value.slice (some ⟨g,o,none⟩) acc.length c] ?_
   refine eX ty ?_
   refine eX (0,0) ?_
   refine aI ⟨bb,rfl,Nat.zero_lt_one,rfl,bc⟩ ?_
   exact⟨F,rfl,aB,ah⟩
  ·obtain⟨k,rfl⟩:∃ a5,k=a5+1:=⟨k-1,by simp at ap;omega⟩
   refine eX { vars:=[5],boxes:=[],owns:=[] } (eX (λvs os h'=>∃(x:Nat) (F:Nat),vs = [.int .i64 x]/\os = []/\x<=n /\
    PS G f F h' (acc++(List.range x).flatMap λx:Nat=>bif l.contains (x:Int)then []else S00 n k (l ++ [(x:Int)]))/\Kp f g h h' F)
    (eX (λvs _=>match vs with | [.int _ x]=>(n-x).toNat|_=>0) ?_))
   refine aI ⟨0,g,rfl,rfl,Nat.zero_le _,by simpa using al.up s1,.inl rfl,λb o _ _ O=>O,λb O=>O⟩ ?_
   rintro bh N ⟨x,ab,⟨⟩,_,bo,ag,Q⟩
   have a0:N m=some (.cells #[.int .i64 n] am (0,0)):=ag.old aw ao
   have S:N q=some (.cells #[.func (.func 189) #[] #[ptr m 0,ptr f 0,ptr q 0]] aD (0,0)):=ag.old aK aJ
   have W:K0.R N [.slice X l.length Z] l:=by
    obtain⟨B,aN,bi,bt⟩:=aE
    refine K0.toR (K0.frame aN λb G=>?_)
    have av:=bi.2 _ G
    have aU:=K0.dom aN b G
    obtain⟨ak,aL⟩:=Option.ne_none_iff_exists'.1 aU
    obtain⟨o,c,af,aA⟩:=al
    rw[aL]
    refine Q.2.1 b ak (λe=>?_) (λe=>?_) aL
    ·rw[e,af]at av;cases av
    ·exact PS.gne ⟨o,c,af,aA⟩ (e▸av)
   have ad:l.length<=3:=by omega
   refine eX (.int .i64 n) (aI ⟨rfl,by simp[Hp.cell,a0]⟩ ?_)
   refine aI (λaq=>?_) (λaq=>?_)
   ·have T:x<n:=by simpa using aq
    have P:I0 (x:Int):=⟨by omega,by omega⟩
    refine eX { vars:=[6,24],boxes:=[],owns:=[] } (eX (λvs os h'=>∃(i:Nat),vs = [.bool ((l.take i).contains (x:Int)),.int .i64 i]/\os = []/\i<=l.length/\N=h')
     (eX (λvs _=>match vs with | [_,.int _ i]=>(l.length-i).toNat|_=>0) ?_))
    refine aI ⟨0,by simp,rfl,Nat.zero_le _,rfl⟩ ?_
    rintro bh bs D ⟨i,a2,_,bm,rfl⟩
    cases a2
    refine aI (λar=>?_) (λar=>?_)
    ·have aj:i<l.length:=by simpa using ar
     obtain⟨y,aM⟩:∃ y,l[i]?=some y:=⟨_,List.getElem?_eq_getElem aj⟩
     have aV:gi l (i:Int)=some y:=by unfold gi;rw[if_pos (by omega)];simpa using aM
     obtain⟨aP,bk,aQ,bd⟩:=Sl.getI (r:=Wp.int.toRp) W aV (by decide)
     obtain⟨rfl,bp⟩:=bd
     refine aI aP (eX _ (aI aQ ?_))
     have a1:(l.take (i+1)).contains (x:Int)=((l.take i).contains (x:Int) || ((x:Int) == y)):=by
      rw[Bool.eq_iff_iff]
      simp[List.take_add_one,aM]
     refine aI rfl (aI (by first|exact trivial|exact aI rfl trivial|exact aI rfl (aI rfl trivial)|exact aI rfl (aI rfl (aI rfl trivial))|exact aI rfl (aI rfl (aI rfl (aI rfl trivial)))) (aI (by first|exact trivial|exact aI rfl trivial|exact aI rfl (aI rfl trivial)|exact aI rfl (aI rfl (aI rfl trivial))|exact aI rfl (aI rfl (aI rfl (aI rfl trivial)))) (aI ?_ ?_)))
     ·refine⟨i+1,?_,rfl,aj,rfl⟩
      rw[a1]
      cases (l.take i).contains (x:Int)<;>rw[A2 aj (by omega)]<;>simp
     ·rw[A2 aj (by omega)]
      simp
      omega
    ·have aW:i=l.length:=by simp at ar;omega
     subst aW
     rw[List.take_length]
     refine aI (λau=>?_) (λau=>?_)
     ·have ax:l.contains (x:Int)=false:=by simpa using au
      have L:∀(p:Hp) (I K H J:Nat),New K0 N p [.slice (some ⟨I,K,none⟩) J H] (l ++ [(x:Int)])->Tr Tryz.prog 189 #[.slice (some ⟨I,K,none⟩) J H,ptr m 0,ptr f 0,ptr q 0] p λv h'=>∃ F,v = .tuple #[]/\PS G f F h' ((acc++(List.range x).flatMap λx:Nat=>bif l.contains (x:Int)then []else S00 n k (l ++ [(x:Int)]))++S00 n k (l ++ [(x:Int)]))/\Kp f ab p h' F :=
       λp I K H J d=>a0o G m f q n aZ am aD aw aK ao aJ k (l ++ [(x:Int)]) _ N p ab _ _ _ (by simp;omega) (J0r aS T) ag d.sub d
      have fin:∀ p D t,Sub N p->PS G f t D ((acc++(List.range x).flatMap λx:Nat=>bif l.contains (x:Int)then []else S00 n k (l ++ [(x:Int)]))++S00 n k (l ++ [(x:Int)]))->Kp f ab p D t ->
        ∃(aF:Nat) (F:Nat),[Value.int .i64 (IntKind.i64.wrap ((x:Int)+1))] = [.int .i64 aF]/\([]:List (List (List Value))) = []/\aF<=n /\
         PS G f F D (acc++(List.range aF).flatMap λx:Nat=>bif l.contains (x:Int)then []else S00 n k (l ++ [(x:Int)]))/\Kp f g h D F:=λp D t aC aB ah=>by
       refine⟨x+1,t,by rw[A2 T (by omega)],rfl,T,?_,?_,λb ak aG aH O=>?_,λb O=>?_⟩
       ·rw[t0d,ax,←List.append_assoc];exact aB
       ·rcases ah.1 with e|e
        ·rw[e];exact Q.1
        ·refine .inr ?_
         cases hh:h t with
         |none=>rfl
         |some z =>
          exfalso
          have a4:N t≠none:=Q.2.2 t (by rw[hh];simp)
          obtain⟨bj,ay⟩:=Option.ne_none_iff_exists'.1 a4
          rw[aC _ _ ay]at e;cases e
       ·refine ah.2.1 b ak aG (λe=>?_) (aC _ _ (Q.2.1 b ak aG aH O))
        rcases Q.1 with aa|aa
        ·exact aH (e.trans aa)
        ·rw[←e]at aa;rw[O]at aa;cases aa
       ·refine ah.2.2 b ?_
        obtain⟨bj,ay⟩:=Option.ne_none_iff_exists'.1 (Q.2.2 b O)
        rw[aC _ _ ay];simp
      have M:(match [Value.int .i64 (IntKind.i64.wrap ((x:Int)+1))]with | [.int _ x]=>((n:Int)-x).toNat|_=>0)<((n:Int)-(x:Int)).toNat:=by
       rw[A2 T (by omega)]
       simp
       omega
      refine Or.inr (Or.inr (Or.inl (aI (aI (by kernel_rfl) (by kernel_rfl)) ?_)))
      refine Or.inr ?_
      refine Or.inr ?_
      refine Or.inr ?_
      refine Or.inr ?_
      refine Or.inr ?_
      refine Or.inr (eX 99 (eX 0 (aI rfl ?_)))
      refine aI ?_ ?_
      ·skip
       refine eX (Value.func (.func 189) #[] #[ptr m 0,ptr f 0,ptr q 0]) (aI ⟨rfl,by simp[Hp.cell,(S)]⟩ ?_)
       refine aT ?_
       refine aI ?_ ?_
       ·skip
        refine Tr.mono (m00 _ _ _ _ _ W _ (F0l ad)) ?_
        rintro an E ⟨ac,ae,Y,rfl,j⟩
        have U:=j.sub
        obtain⟨rfl,_⟩:=Sl.len j.r
        refine aT ?_
        refine aI ?_ ?_
        ·skip
         refine aT ?_
         refine aI ?_ ?_
         ·skip
          obtain⟨C,A,w,s⟩:=New.app j (Sub.refl _)
          refine eX C (aI A (aI (by rw[w];show _*_<=_;simp;omega) ?_))
          intro V p u
          obtain⟨d,I,K,J,H,rfl⟩:=s _ [x] _ _ _ (F3.ofPlain (W01 _) (show F2 (Wp.int.R E) [[.int .i64 x]] [x] from⟨⟨rfl,P⟩,trivial⟩)) n4.ofPlain u
          refine aT ?_
          refine aI ?_ ?_
          ·skip
           refine Tr.mono (L _ _ _ _ _ d) ?_
           intro v D a
           obtain⟨t,rfl,a⟩:=a
           refine aT ?_
           refine aI rfl (aI (by first|exact trivial|exact aI rfl trivial|exact aI rfl (aI rfl trivial)|exact aI rfl (aI rfl (aI rfl trivial))|exact aI rfl (aI rfl (aI rfl (aI rfl trivial)))) (aI (by first|exact trivial|exact aI rfl trivial|exact aI rfl (aI rfl trivial)|exact aI rfl (aI rfl (aI rfl trivial))|exact aI rfl (aI rfl (aI rfl (aI rfl trivial)))) (aI ?_ ?_)))
           ·exact fin _ _ _ d.sub a.1 a.2
           ·exact M
          exact trivial
         exact trivial
        exact trivial
       refine aI ?_ ?_
       ·skip
        refine aT ?_
        refine aI ?_ ?_
        ·skip
         refine Tr.mono (m00 _ _ _ _ _ W _ (F0l ad)) ?_
         rintro an E ⟨ac,ae,Y,rfl,j⟩
         have U:=j.sub
         obtain⟨rfl,_⟩:=Sl.len j.r
         refine aT ?_
         refine aI ?_ ?_
         ·skip
          obtain⟨C,A,w,s⟩:=New.app j (Sub.refl _)
          refine eX C (aI A (aI (by rw[w];show _*_<=_;simp;omega) ?_))
          intro V p u
          obtain⟨d,I,K,J,H,rfl⟩:=s _ [x] _ _ _ (F3.ofPlain (W01 _) (show F2 (Wp.int.R E) [[.int .i64 x]] [x] from⟨⟨rfl,P⟩,trivial⟩)) n4.ofPlain u
          refine aT ?_
          refine aI ?_ ?_
          ·skip
           refine Tr.mono (L _ _ _ _ _ d) ?_
           intro v D a
           obtain⟨t,rfl,a⟩:=a
           refine aT ?_
           refine aI rfl (aI (by first|exact trivial|exact aI rfl trivial|exact aI rfl (aI rfl trivial)|exact aI rfl (aI rfl (aI rfl trivial))|exact aI rfl (aI rfl (aI rfl (aI rfl trivial)))) (aI (by first|exact trivial|exact aI rfl trivial|exact aI rfl (aI rfl trivial)|exact aI rfl (aI rfl (aI rfl trivial))|exact aI rfl (aI rfl (aI rfl (aI rfl trivial)))) (aI ?_ ?_)))
           ·exact fin _ _ _ d.sub a.1 a.2
           ·exact M
          exact trivial
         exact trivial
        exact trivial
       exact trivial
      refine aI ?_ ?_
      ·skip
       refine Tr.mono (m00 _ _ _ _ _ W _ (F0l ad)) ?_
       rintro an E ⟨ac,ae,Y,rfl,j⟩
       have U:=j.sub
       obtain⟨rfl,_⟩:=Sl.len j.r
       refine aT ?_
       refine aI ?_ ?_
       ·skip
        refine eX (Value.func (.func 189) #[] #[ptr m 0,ptr f 0,ptr q 0]) (aI ⟨rfl,by simp[Hp.cell,(U _ _ S)]⟩ ?_)
        refine aT ?_
        refine aI ?_ ?_
        ·skip
         refine aT ?_
         refine aI ?_ ?_
         ·skip
          obtain⟨C,A,w,s⟩:=New.app j (Sub.refl _)
          refine eX C (aI A (aI (by rw[w];show _*_<=_;simp;omega) ?_))
          intro V p u
          obtain⟨d,I,K,J,H,rfl⟩:=s _ [x] _ _ _ (F3.ofPlain (W01 _) (show F2 (Wp.int.R E) [[.int .i64 x]] [x] from⟨⟨rfl,P⟩,trivial⟩)) n4.ofPlain u
          refine aT ?_
          refine aI ?_ ?_
          ·skip
           refine Tr.mono (L _ _ _ _ _ d) ?_
           intro v D a
           obtain⟨t,rfl,a⟩:=a
           refine aT ?_
           refine aI rfl (aI (by first|exact trivial|exact aI rfl trivial|exact aI rfl (aI rfl trivial)|exact aI rfl (aI rfl (aI rfl trivial))|exact aI rfl (aI rfl (aI rfl (aI rfl trivial)))) (aI (by first|exact trivial|exact aI rfl trivial|exact aI rfl (aI rfl trivial)|exact aI rfl (aI rfl (aI rfl trivial))|exact aI rfl (aI rfl (aI rfl (aI rfl trivial)))) (aI ?_ ?_)))
           ·exact fin _ _ _ d.sub a.1 a.2
           ·exact M
          exact trivial
         exact trivial
        exact trivial
       refine aI ?_ ?_
       ·skip
        refine aT ?_
        refine aI ?_ ?_
        ·skip
         refine eX (Value.func (.func 189) #[] #[ptr m 0,ptr f 0,ptr q 0]) (aI ⟨rfl,by simp[Hp.cell,(U _ _ S)]⟩ ?_)
         refine aT ?_
         refine aI ?_ ?_
         ·skip
          obtain⟨C,A,w,s⟩:=New.app j (Sub.refl _)
          refine eX C (aI A (aI (by rw[w];show _*_<=_;simp;omega) ?_))
          intro V p u
          obtain⟨d,I,K,J,H,rfl⟩:=s _ [x] _ _ _ (F3.ofPlain (W01 _) (show F2 (Wp.int.R E) [[.int .i64 x]] [x] from⟨⟨rfl,P⟩,trivial⟩)) n4.ofPlain u
          refine aT ?_
          refine aI ?_ ?_
          ·skip
           refine Tr.mono (L _ _ _ _ _ d) ?_
           intro v D a
           obtain⟨t,rfl,a⟩:=a
           refine aT ?_
           refine aI rfl (aI (by first|exact trivial|exact aI rfl trivial|exact aI rfl (aI rfl trivial)|exact aI rfl (aI rfl (aI rfl trivial))|exact aI rfl (aI rfl (aI rfl (aI rfl trivial)))) (aI (by first|exact trivial|exact aI rfl trivial|exact aI rfl (aI rfl trivial)|exact aI rfl (aI rfl (aI rfl trivial))|exact aI rfl (aI rfl (aI rfl (aI rfl trivial)))) (aI ?_ ?_)))
           ·exact fin _ _ _ d.sub a.1 a.2
           ·exact M
          exact trivial
         exact trivial
        refine aI ?_ ?_
        ·skip
         obtain⟨C,A,w,s⟩:=New.app j (Sub.refl _)
         refine eX C (aI A (aI (by rw[w];show _*_<=_;simp;omega) ?_))
         intro V p u
         obtain⟨d,I,K,J,H,rfl⟩:=s _ [x] _ _ _ (F3.ofPlain (W01 _) (show F2 (Wp.int.R E) [[.int .i64 x]] [x] from⟨⟨rfl,P⟩,trivial⟩)) n4.ofPlain u
         refine aT ?_
         refine aI ?_ ?_
         ·skip
          refine eX (Value.func (.func 189) #[] #[ptr m 0,ptr f 0,ptr q 0]) (aI ⟨rfl,by simp[Hp.cell,(d.sub _ _ S)]⟩ ?_)
          refine aT ?_
          refine aI ?_ ?_
          ·skip
           refine Tr.mono (L _ _ _ _ _ d) ?_
           intro v D a
           obtain⟨t,rfl,a⟩:=a
           refine aT ?_
           refine aI rfl (aI (by first|exact trivial|exact aI rfl trivial|exact aI rfl (aI rfl trivial)|exact aI rfl (aI rfl (aI rfl trivial))|exact aI rfl (aI rfl (aI rfl (aI rfl trivial)))) (aI (by first|exact trivial|exact aI rfl trivial|exact aI rfl (aI rfl trivial)|exact aI rfl (aI rfl (aI rfl trivial))|exact aI rfl (aI rfl (aI rfl (aI rfl trivial)))) (aI ?_ ?_)))
           ·exact fin _ _ _ d.sub a.1 a.2
           ·exact M
          exact trivial
         exact trivial
        exact trivial
       exact trivial
      refine aI ?_ ?_
      ·skip
       refine aT ?_
       refine aI ?_ ?_
       ·skip
        refine eX (Value.func (.func 189) #[] #[ptr m 0,ptr f 0,ptr q 0]) (aI ⟨rfl,by simp[Hp.cell,(S)]⟩ ?_)
        refine aT ?_
        refine aI ?_ ?_
        ·skip
         refine Tr.mono (m00 _ _ _ _ _ W _ (F0l ad)) ?_
         rintro an E ⟨ac,ae,Y,rfl,j⟩
         have U:=j.sub
         obtain⟨rfl,_⟩:=Sl.len j.r
         refine aT ?_
         refine aI ?_ ?_
         ·skip
          obtain⟨C,A,w,s⟩:=New.app j (Sub.refl _)
          refine eX C (aI A (aI (by rw[w];show _*_<=_;simp;omega) ?_))
          intro V p u
          obtain⟨d,I,K,J,H,rfl⟩:=s _ [x] _ _ _ (F3.ofPlain (W01 _) (show F2 (Wp.int.R E) [[.int .i64 x]] [x] from⟨⟨rfl,P⟩,trivial⟩)) n4.ofPlain u
          refine aT ?_
          refine aI ?_ ?_
          ·skip
           refine Tr.mono (L _ _ _ _ _ d) ?_
           intro v D a
           obtain⟨t,rfl,a⟩:=a
           refine aT ?_
           refine aI rfl (aI (by first|exact trivial|exact aI rfl trivial|exact aI rfl (aI rfl trivial)|exact aI rfl (aI rfl (aI rfl trivial))|exact aI rfl (aI rfl (aI rfl (aI rfl trivial)))) (aI (by first|exact trivial|exact aI rfl trivial|exact aI rfl (aI rfl trivial)|exact aI rfl (aI rfl (aI rfl trivial))|exact aI rfl (aI rfl (aI rfl (aI rfl trivial)))) (aI ?_ ?_)))
           ·exact fin _ _ _ d.sub a.1 a.2
           ·exact M
          exact trivial
         exact trivial
        exact trivial
       refine aI ?_ ?_
       ·skip
        refine Tr.mono (m00 _ _ _ _ _ W _ (F0l ad)) ?_
        rintro an E ⟨ac,ae,Y,rfl,j⟩
        have U:=j.sub
        obtain⟨rfl,_⟩:=Sl.len j.r
        refine aT ?_
        refine aI ?_ ?_
        ·skip
         refine eX (Value.func (.func 189) #[] #[ptr m 0,ptr f 0,ptr q 0]) (aI ⟨rfl,by simp[Hp.cell,(U _ _ S)]⟩ ?_)
         refine aT ?_
         refine aI ?_ ?_
         ·skip
          obtain⟨C,A,w,s⟩:=New.app j (Sub.refl _)
          refine eX C (aI A (aI (by rw[w];show _*_<=_;simp;omega) ?_))
          intro V p u
          obtain⟨d,I,K,J,H,rfl⟩:=s _ [x] _ _ _ (F3.ofPlain (W01 _) (show F2 (Wp.int.R E) [[.int .i64 x]] [x] from⟨⟨rfl,P⟩,trivial⟩)) n4.ofPlain u
          refine aT ?_
          refine aI ?_ ?_
          ·skip
           refine Tr.mono (L _ _ _ _ _ d) ?_
           intro v D a
           obtain⟨t,rfl,a⟩:=a
           refine aT ?_
           refine aI rfl (aI (by first|exact trivial|exact aI rfl trivial|exact aI rfl (aI rfl trivial)|exact aI rfl (aI rfl (aI rfl trivial))|exact aI rfl (aI rfl (aI rfl (aI rfl trivial)))) (aI (by first|exact trivial|exact aI rfl trivial|exact aI rfl (aI rfl trivial)|exact aI rfl (aI rfl (aI rfl trivial))|exact aI rfl (aI rfl (aI rfl (aI rfl trivial)))) (aI ?_ ?_)))
           ·exact fin _ _ _ d.sub a.1 a.2
           ·exact M
          exact trivial
         exact trivial
        refine aI ?_ ?_
        ·skip
         obtain⟨C,A,w,s⟩:=New.app j (Sub.refl _)
         refine eX C (aI A (aI (by rw[w];show _*_<=_;simp;omega) ?_))
         intro V p u
         obtain⟨d,I,K,J,H,rfl⟩:=s _ [x] _ _ _ (F3.ofPlain (W01 _) (show F2 (Wp.int.R E) [[.int .i64 x]] [x] from⟨⟨rfl,P⟩,trivial⟩)) n4.ofPlain u
         refine aT ?_
         refine aI ?_ ?_
         ·skip
          refine eX (Value.func (.func 189) #[] #[ptr m 0,ptr f 0,ptr q 0]) (aI ⟨rfl,by simp[Hp.cell,(d.sub _ _ S)]⟩ ?_)
          refine aT ?_
          refine aI ?_ ?_
          ·skip
           refine Tr.mono (L _ _ _ _ _ d) ?_
           intro v D a
           obtain⟨t,rfl,a⟩:=a
           refine aT ?_
           refine aI rfl (aI (by first|exact trivial|exact aI rfl trivial|exact aI rfl (aI rfl trivial)|exact aI rfl (aI rfl (aI rfl trivial))|exact aI rfl (aI rfl (aI rfl (aI rfl trivial)))) (aI (by first|exact trivial|exact aI rfl trivial|exact aI rfl (aI rfl trivial)|exact aI rfl (aI rfl (aI rfl trivial))|exact aI rfl (aI rfl (aI rfl (aI rfl trivial)))) (aI ?_ ?_)))
           ·exact fin _ _ _ d.sub a.1 a.2
           ·exact M
          exact trivial
         exact trivial
        exact trivial
       exact trivial
      exact trivial
     ·have ax:l.contains (x:Int)=true:=by simpa using au
      refine aI rfl (aI (by first|exact trivial|exact aI rfl trivial|exact aI rfl (aI rfl trivial)|exact aI rfl (aI rfl (aI rfl trivial))|exact aI rfl (aI rfl (aI rfl (aI rfl trivial)))) (aI (by first|exact trivial|exact aI rfl trivial|exact aI rfl (aI rfl trivial)|exact aI rfl (aI rfl (aI rfl trivial))|exact aI rfl (aI rfl (aI rfl (aI rfl trivial)))) (aI ?_ ?_)))
      ·refine⟨x+1,ab,by rw[A2 T (by omega)],rfl,T,?_,Q⟩
       rw[t0d,ax]
       simpa using ag
      ·rw[A2 T (by omega)]
       simp
       omega
   ·have a3:x=n:=by simp at aq;omega
    subst a3
    exact⟨ab,rfl,ag,Q⟩
theorem W09(h:Hp)(l:Int)(ab:I0 l)(r:N1)(i:n03 l=some r):
  Tr Tryz.prog 95 #[.int .i64 l] h λv h'=>∃(q:Option Addr) (B s:Nat),v = .slice q B s/\R3.R h' [.slice q B s] r/\Sub h h':=by
 unfold n03 at i
 split at i
 rotate_left
 ·cases i
 rename_i aa
 obtain rfl:=oJ i
 obtain⟨n,rfl⟩:=Int.eq_ofNat_of_zero_le (show 0<=l by omega)
 simp only[Int.toNat_natCast]at *
 refine V1 (args:=[.int .i64 n]) (fn:=Tryz.f95) rfl ?_
 intro c u
 intro ae g t
 intro d o
 intro a j
 obtain⟨m,cap,cur,rfl,X,Y,_⟩:=t.place
 have w0:New R3 (h.set c (.cells #[.int .i64 n] 3 (0,0))) g [.slice (some ⟨m,0,none⟩) 0 cap] [] :=
  S0.fresh (r:=K0) t (Bs:=[]) (show F3 (K0.W _) [] [] [] from trivial) (Sub.refl _) (n4.nil _)
 refine eX #[Value.nilFunc] ?_
 refine eX 165 ?_
 refine eX (0,0) ?_
 refine aI ⟨Hp.set_same _ _ _,rfl,Nat.zero_lt_one,rfl,trivial⟩ ?_
 have T:=PS.start (Fo := .cells #[.func (.func 189) #[] #[ptr c 0,ptr d 0,ptr a 0]] 165 (0,0)) (Z := .cells #[.nilFunc] 165 (0,0)) w0 o j
 have y:a≠d:=λe=>by rw[e,Hp.set_same]at j;cases j
 have w:g a=none:=by rwa [Hp.set_other _ _ y]at j
 have k:g c=some (.cells #[.int .i64 n] 3 (0,0)):=w0.sub _ _ (Hp.set_same _ _ _)
 have O:c≠d:=λe=>by rw[e,o]at k;cases k
 have N:c≠a:=λe=>by rw[e,w]at k;cases k
 have M:Hp.cell (((g.set d (.cells #[.slice (some ⟨m,0,none⟩) 0 cap] s0d (0,0))).set a (.cells #[.nilFunc] 165 (0,0))).set a (.cells #[.func (.func 189) #[] #[ptr c 0,ptr d 0,ptr a 0]] 165 (0,0))) a 0=some (.func (.func 189) #[] #[ptr c 0,ptr d 0,ptr a 0]):=by
  unfold Hp.cell
  rw[Hp.set_same]
  rfl
 refine eX (Value.func (.func 189) #[] #[ptr c 0,ptr d 0,ptr a 0]) (aI ⟨rfl,M⟩ ?_)
 refine Or.inl ?_
 intro V A f2
 have p:New K0 _ A [V] []:=S0.newInts (xs:=[]) f2 (by simp)
 obtain⟨D,P,E,G⟩:=Wp.slice_cell p.r
 cases G
 refine Tr.mono (a0o ((h.set c (.cells #[.int .i64 n] 3 (0,0))).set a (.cells #[.func (.func 189) #[] #[ptr c 0,ptr d 0,ptr a 0]] 165 (0,0))) c d a n (by omega) _ _ O y (by rw[Hp.set_other _ _ N,Hp.set_same]) (Hp.set_same _ _ _) n [] [] _ A m D P E (by simp) ?_ T p.sub p) ?_
 ·have I:n=1∨n=2∨n=3:=by omega
  rcases I with rfl|rfl|rfl<;>decide
 rintro af ac ⟨H,rfl,C,ad⟩
 obtain⟨Q,F,S,U⟩:=C.rows
 refine eX (Value.slice (some ⟨H,Q,none⟩) (S00 n n []).length F) (aI ⟨rfl,by unfold Hp.cell;rw[S];rfl⟩ ?_)
 refine⟨_,_,_,rfl,U,λb x f=>?_⟩
 have z:Sub h g:=(Sub.set u).trans w0.sub
 have J:b≠d:=λe=>by
  have:=z _ _ f
  rw[e,o]at this;cases this
 have K:b≠a:=λe=>by
  have:=z _ _ f
  rw[e,w]at this;cases this
 have L:b≠c:=λe=>by rw[e,u]at f;cases f
 exact C.old J (by rw[Hp.set_other _ _ K,Hp.set_other _ _ L];exact f)
set_option maxHeartbeats 0
theorem v09(h:Hp)(l:Int)(J:I0 l)(z:Option Addr)(T A:Nat)(m:N1)(n:R3.R h [.slice z T A] m)(r:l0×Bool)(a:U02 l m=some r):
  Tr Tryz.prog 96 #[.int .i64 l,.slice z T A] h λv h'=>∃(F:List Value),v = .tuple #[.agg F.toArray,.bool r.2]/\New C0 h h' F r.1:=by
 obtain⟨rfl,aY⟩:=Sl.len n
 unfold U02 at a
 refine V1 (args:=[.int .i64 l,.slice z m.length A]) (fn:=Tryz.f96) rfl ?_
 refine trV a (P7 _ _ J 1 (by decide) 3 (by decide)) λbk a=>?_
 obtain⟨bm,ae,a⟩:=B0 a
 obtain⟨aM,G,U⟩:=Sl.getG (r:=K0.toRp) n ae (by decide) (A0o Wp.int h)
 refine aI (λq=>(G q).1) ?_
 obtain⟨aF,ba,aR,rfl⟩:=Wp.slice_cell U
 obtain⟨rfl,a0⟩:=Sl.len U
 refine eX _ (aI (λq=>(G q).2) ?_)
 obtain⟨bn,af,a⟩:=B0 a
 obtain⟨aN,H,V⟩:=Sl.getG (r:=K0.toRp) n af (by decide) (A0o Wp.int h)
 refine aI (λq=>(H q).1) ?_
 obtain⟨aG,bb,aS,rfl⟩:=Wp.slice_cell V
 obtain⟨rfl,a1⟩:=Sl.len V
 refine eX _ (aI (λq=>(H q).2) ?_)
 refine ifB a (λal a=>?_) λal a=>?_
 ·obtain rfl:=oJ a
  exact⟨([.int .i64 0,.int .i64 0,.slice none 0 0]),rfl,(New.pair (New.int (by decide)) (New.pair (New.int (by decide)) ((New.nilSlice (r:=M1)).mono (Sub.refl _))))⟩
 ·refine ld a n λaD aP X a=>?_
  obtain⟨aJ,be,aV,rfl⟩:=Wp.slice_cell X
  obtain⟨rfl,ar⟩:=Sl.len X
  obtain⟨E,ah,a⟩:=B0 a
  refine eX { vars:=[45],boxes:=[1],owns:=[0],fuel:=true,nilsB:=[(1,2,124,3,24)] } (eX (λvs os h'=>∃ c u8 j y o,vs.tail = [.int .i64 c,.int .i64 u8,.int .i64 j]/\os = [y]/\Sub h h'/\I0 c/\I0 u8/\I0 j/\F2 (M1.R h') y o/\Q8 m (C1 vs) c u8 j o=some E) (eX (λ_ _=>0) (aI (eX P0 ⟨0,l,((aD.length:Nat):Int),[],([]:Y0),rfl,rfl,(Sub.refl _),(by decide),J,(m0f ar),(show F2 (M1.R h) [] [] from trivial),ah⟩) ?_)))
  rintro _ _ _ y t ao ⟨c,u8,j,bq,o,⟨⟩,⟨⟩,x,aX,N,O,I,b⟩
  replace b:Q8 m t c u8 j o=some E:=b
  obtain _|t:=t
  ·cases b
  rw[Q8.eq_2]at b
  refine ifB b (λai b=>?_) λai b=>?_
  ·refine ld b (R3.mono x n) λZ aL w b=>?_
   obtain⟨aE,a5,aQ,rfl⟩:=Wp.slice_cell w
   obtain⟨rfl,aZ⟩:=Sl.len w
   refine trV b (u09 _ _ _ _ _ w) λbl b=>?_
   refine ifB b (λaj b=>?_) λaj b=>?_
   ·obtain rfl:=oJ b
    try dsimp only[N3,O3]at a
    obtain rfl:=oJ a
    exact⟨([.int .i64 0,.int .i64 0,.slice none 0 0]),rfl,(New.pair (New.int (by decide)) (New.pair (New.int (by decide)) ((New.nilSlice (r:=M1)).mono x)))⟩
   ·obtain⟨D,ag,b⟩:=B0 b
    refine eX { vars:=[63],boxes:=[1],owns:=[0],fuel:=true } (eX (λvs os h'=>∃ e f g p i,vs.tail = [.int .i64 e,.int .i64 f,.int .i64 g]/\os = [p]/\Sub ao h'/\I0 e/\I0 f/\I0 g/\F2 (M1.R h') p i/\P8 Z c (C1 vs) e f g i=some D) (eX (λ_ _=>0) (aI (eX P0 ⟨0,u8,j,y,o,rfl,rfl,(Sub.refl _),(by decide),N,O,I,ag⟩) ?_)))
    rintro _ _ _ p u Q ⟨e,f,g,br,i,⟨⟩,⟨⟩,B,K,L,M,s,d⟩
    replace d:P8 Z c u e f g i=some D:=d
    obtain _|u:=u
    ·cases d
    rw[P8.eq_2]at d
    refine ifB d (λak d=>?_) λak d=>?_
    ·refine ldI d (K0.mono B w) λk P d=>?_
     obtain⟨bf,ad,d⟩:=B0 d
     refine aI (Z0 ad (by first|rw[F2.length s,F2.length (show F2 (M1.R Q) ([[.int .i64 e,.int .i64 (IntKind.i64.wrap (c+1)),.int .i64 k]]:List (List Value)) [(e,(IntKind.i64.wrap (c+1)),k)] from⟨(E1 K (F0 _) P),trivial⟩)]|exact congrArg (·+1) (F2.length s))) ?_
     exact D1 u ⟨(IntKind.i64.wrap (e+1)),f,g,(p++([[.int .i64 e,.int .i64 (IntKind.i64.wrap (c+1)),.int .i64 k]]:List (List Value))),(i ++ [(e,(IntKind.i64.wrap (c+1)),k)]),rfl,rfl,B,(F0 _),L,M,(F2.append s (show F2 (M1.R Q) ([[.int .i64 e,.int .i64 (IntKind.i64.wrap (c+1)),.int .i64 k]]:List (List Value)) [(e,(IntKind.i64.wrap (c+1)),k)] from⟨(E1 K (F0 _) P),trivial⟩)),d⟩
    ·obtain rfl:=oJ d
     try dsimp only[M0,O0]at b
     exact D1 t ⟨(IntKind.i64.wrap (c+1)),f,g,p,i,rfl,rfl,(x.trans B),(F0 _),L,M,s,b⟩
  ·obtain rfl:=oJ b
   try dsimp only[M0,O0]at a
   refine Or.inl ?_
   intro bh ap ac
   obtain⟨aK,aW,rfl,aw,ay,a4⟩:=S0.out (r:=M1.toRp) ac I
   refine trM a (P06 _ _ _ _ _ aw) ?_
   rintro bo a bi S ⟨aH,bc,aU,rfl,Y⟩
   have ax:Sub ap S:=Y.sub
   have W:=Y.r
   obtain⟨rfl,a2⟩:=Sl.len W
   refine trM a (w07 _ _ _ (j0 N O W)) ?_
   rintro bp a bj aq ⟨aO,rfl,C⟩
   have bg:Sub S aq:=C.sub
   have au:=C.r
   obtain⟨aA,aB,aa,bd,ab,aC,rfl,rfl,am,an,av⟩:=H0 au
   obtain⟨rfl,a3⟩:=Sl.len av
   try dsimp only at a
   have az:=New.sndI (New.sndI (C))
   obtain rfl:=oJ a
   exact⟨([.int .i64 aA,.int .i64 aB,.slice aa aC.length ab]),rfl,(New.pair (New.int am) (New.pair (New.int an) (New.from az ((x.trans ay).trans ax))))⟩
theorem z07(h:Hp)(g:Int)(ae:I0 g)(m:Int)(af:I0 m)(r:Q1×Bool)(b:w5 g m=some r):
  Tr Tryz.prog 9 #[.int .i64 g,.int .i64 m] h λv h'=>∃(Z:Option Addr) (ai aa:Nat),v = .tuple #[.slice Z ai aa,.bool r.2]/\New A5 h h' [.slice Z ai aa] r.1:=by
 unfold w5 at b
 refine V1 (args:=[.int .i64 g,.int .i64 m]) (fn:=Tryz.f9) rfl ?_
 refine trV b (P7 _ _ ae 1 (by decide) 3 (by decide)) λbJ b=>?_
 refine trG b (λq=>P7 _ _ af 1 (by decide) 3 (by decide)) λbK b=>?_
 refine ifB b (λaD b=>?_) λaD b=>?_
 ·intro aW aM ac
  have aP:New (Wp.slice C0) h aM [aW] ([]:Q1):=(S0.fresh (r:=C0) ac (show F3 (C0.W h) [] [] [] from trivial) (Sub.refl _) (n4.nil h))
  obtain⟨ak,am,rfl,bC,bE,bq⟩:=S0.out (r:=C0.toRp) ac (show F2 (C0.R h) ([]:List (List Value)) ([]:Q1) from trivial)
  obtain rfl:=oJ b
  exact⟨ak,(([]:Q1)).length,am,rfl,aP⟩
 ·refine trM b (W09 _ m af) ?_
  rintro l b bG aO ⟨a4,bu,be,rfl,aj,C⟩
  obtain⟨rfl,bn⟩:=Sl.len aj
  obtain⟨V,ax,b⟩:=B0 b
  refine eX { vars:=[8,9],boxes:=[],owns:=[],fuel:=true } (eX (λvs os h'=>∃ j s,vs.tail = [.int .i64 j,.int .i64 s]/\os = []/\Sub aO h'/\I0 j/\I0 s/\i7 g l (C1 vs) j s=some V) (eX (λ_ _=>0) (aI (eX P0 ⟨1,0,rfl,rfl,(Sub.refl _),(by decide),(by decide),ax⟩) ?_)))
  rintro _ _ J aJ ⟨j,s,⟨⟩,⟨⟩,n,bh,bi,a⟩
  replace a:i7 g l J j s=some V:=a
  obtain _|J:=J
  ·cases a
  rw[i7.eq_2]at a
  refine ifB a (λaA a=>?_) λaA a=>?_
  ·exact D1 J ⟨(IntKind.i64.wrap (j*((l.length:Nat):Int))),(IntKind.i64.wrap (s+1)),rfl,rfl,n,(F0 _),(F0 _),a⟩
  ·obtain rfl:=oJ a
   try dsimp only[M0,O0]at b
   obtain⟨X,ay,b⟩:=B0 b
   refine eX { vars:=[10],boxes:=[],owns:=[0],fuel:=true } (eX (λvs os h'=>∃ k w i,vs.tail = [.int .i64 k]/\os = [w]/\Sub aJ h'/\I0 k/\F2 (C0.R h') w i/\(∃ Bs,F3 (C0.W h') w i Bs/\n4 h Bs.flatten)/\M5 j g l m (C1 vs) k i=some X) (eX (λ_ _=>0) (aI (eX P0 ⟨0,[],([]:Q1),rfl,rfl,(Sub.refl _),(by decide),(F2.up (r:=C0.toRp) (C.trans n) (show F2 (C0.R h) ([]:List (List Value)) ([]:Q1) from trivial)),⟨_,(f05 (show F3 (C0.W h) [] [] [] from trivial) (C.trans n)),(n4.nil h)⟩,ay⟩) ?_)))
   rintro _ w B ag ⟨k,bN,i,⟨⟩,⟨⟩,p,aG,o,⟨bb,D,F⟩,a⟩
   replace a:M5 j g l m B k i=some X:=a
   obtain _|B:=B
   ·cases a
   rw[M5.eq_2]at a
   refine ifB a (λaB a=>?_) λaB a=>?_
   ·obtain⟨Y,az,a⟩:=B0 a
    refine eX { vars:=[12,13],boxes:=[],owns:=[1],fuel:=true } (eX (λvs os h'=>∃ t u N E,vs.tail = [.int .i64 t,.int .i64 u]/\os = [N]/\Sub ag h'/\I0 t/\I0 u/\F2 (K0.R h') N E/\g7 g l (C1 vs) t u E=some Y) (eX (λ_ _=>0) (aI (eX P0 ⟨0,k,[],([]:N1),rfl,rfl,(Sub.refl _),(by decide),aG,(show F2 (K0.R ag) ([]:List (List Value)) ([]:N1) from trivial),az⟩) ?_)))
    rintro _ _ N K ah ⟨t,u,bO,E,⟨⟩,⟨⟩,d,bj,bk,G,c⟩
    replace c:g7 g l K t u E=some Y:=c
    obtain _|K:=K
    ·cases c
    rw[g7.eq_2]at c
    refine ifB c (λaC c=>?_) λaC c=>?_
    ·obtain⟨bx,aq,c⟩:=B0 c
     refine aI (T0 aq) ?_
     refine ld c (R3.mono ((n.trans p).trans d) aj) λx bc L c=>?_
     obtain⟨P,bs,S,rfl⟩:=Wp.slice_cell L
     obtain⟨rfl,bl⟩:=Sl.len L
     obtain⟨bz,ar,c⟩:=B0 c
     refine aI (Z0 ar (by first|rw[F2.length G,F2.length (show F2 (K0.R ah) ([[.slice P x.length S]]:List (List Value)) [x] from⟨L,trivial⟩)]|exact congrArg (·+1) (F2.length G))) ?_
     refine Or.inl (aI (aI (by kernel_rfl) (by kernel_rfl)) ?_)
     obtain⟨bA,au,c⟩:=B0 c
     have aH:=T0 au
     refine aI aH ?_
     exact D1 K ⟨(IntKind.i64.wrap (t+1)),(IntKind.i64.wrap (Int.tdiv u ((l.length:Nat):Int))),(N++([[.slice P x.length S]]:List (List Value))),(E ++ [x]),rfl,rfl,d,(F0 _),(F0 _),(F2.append G (show F2 (K0.R ah) ([[.slice P x.length S]]:List (List Value)) [x] from⟨L,trivial⟩)),c⟩
    ·obtain rfl:=oJ c
     try dsimp only[M0,O0]at a
     refine Or.inl ?_
     intro bH aK ao
     obtain⟨a5,bf,rfl,aS,e,bo⟩:=S0.out (r:=K0.toRp) ao G
     refine trM a (v09 _ _ ae _ _ _ _ aS) ?_
     rintro a1 a bI U ⟨bd,rfl,O⟩
     obtain⟨bL,bM⟩:=a1
     dsimp only at a O
     have f:Sub aK U:=O.sub
     have aR:=O.r
     obtain⟨y,z,Q,bt,T,A,rfl,rfl,H,I,M⟩:=H0 aR
     obtain⟨rfl,bm⟩:=Sl.len M
     try dsimp only at a
     have a0:=New.sndI (New.sndI (O))
     obtain⟨a2,aw,a⟩:=B0 a
     refine eX (.bool a2) (aI ?_ ?_)
     ·intro aF
      intro aX aL ab
      have bv:New (Wp.slice C0) h aL [aX] i:=(S0.fresh (r:=C0) ab (f05 D ((d.trans e).trans f)) (((((C.trans n).trans p).trans d).trans e).trans f) F)
      obtain⟨ba,bg,rfl,aU,aV,bp⟩:=S0.out (r:=C0.toRp) ab (F2.up (r:=C0.toRp) ((d.trans e).trans f) o)
      exact r0e _ _ _ _ _ aU _ _ (j0 H I (N0.mono aV M)) _ (W5 aw aF)
     refine ifB a (λaE a=>?_) λaE a=>?_
     ·obtain⟨bB,av,a⟩:=B0 a
      refine aI (Z0 av (by first|rw[F2.length (F2.up (r:=C0.toRp) ((d.trans e).trans f) o),F2.length (show F2 (C0.R U) ([[.int .i64 y,.int .i64 z,.slice Q A.length T]]:List (List Value)) [(y,z,A)] from⟨(j0 H I M),trivial⟩)]|exact congrArg (·+1) (F2.length (F2.up (r:=C0.toRp) ((d.trans e).trans f) o)))) ?_
      obtain⟨a3,aZ,ap,_⟩:=(New.pair (New.int H) (New.pair (New.int I) a0))
      exact D1 B ⟨(IntKind.i64.wrap (k+1)),(w++([[.int .i64 y,.int .i64 z,.slice Q A.length T]]:List (List Value))),(i ++ [(y,z,A)]),rfl,rfl,(((p.trans d).trans e).trans f),(F0 _),(F2.append (F2.up (r:=C0.toRp) ((d.trans e).trans f) o) (show F2 (C0.R U) ([[.int .i64 y,.int .i64 z,.slice Q A.length T]]:List (List Value)) [(y,z,A)] from⟨(j0 H I M),trivial⟩)),⟨_,(F3.snoc aZ (f05 D ((d.trans e).trans f))),(V05 (f05 D (d.trans e)) ((((C.trans n).trans p).trans d).trans e) F ap)⟩,a⟩
     ·exact D1 B ⟨(IntKind.i64.wrap (k+1)),w,i,rfl,rfl,(((p.trans d).trans e).trans f),(F0 _),(F2.up (r:=C0.toRp) ((d.trans e).trans f) o),⟨_,(f05 D ((d.trans e).trans f)),F⟩,a⟩
   ·obtain rfl:=oJ a
    try dsimp only[M0,O0]at b
    intro aY aN ad
    have aQ:New (Wp.slice C0) h aN [aY] i:=(S0.fresh (r:=C0) ad D ((C.trans n).trans p) F)
    obtain⟨al,an,rfl,bD,bF,br⟩:=S0.out (r:=C0.toRp) ad o
    obtain rfl:=oJ b
    exact⟨al,i.length,an,rfl,aQ⟩
theorem e0c(h:Hp)(t:List Value)(z:l0)(M:C0.R h t z)(d:Int)(x:I0 d)(k:Option Addr)(y l:Nat)(e:D0)(A:K0.R h [.slice k y l] e)(r:Int)(b:g01 z d e=some r):
  Tr Tryz.prog 256 #[.agg t.toArray,.int .i64 d,.slice k y l] h λv h'=>v = .int .i64 r/\h'=h:=by
 obtain⟨m,j,B,S,C,n,rfl,rfl,u,w,o⟩:=H0 M
 obtain⟨rfl,P⟩:=Sl.len o
 obtain⟨rfl,Q⟩:=Sl.len A
 unfold g01 at b
 dsimp only at b
 refine Tr.forget (V1 (args:=[.agg #[.int .i64 m,.int .i64 j,.slice B n.length C],.int .i64 d,.slice k e.length l]) (fn:=Tryz.f256) rfl ?_)
 refine trV b (l00 _ _ _ (j0 u w o)) λU b=>?_
 refine trG b (λq=>E3 _ _ x 0 (by decide) (IntKind.i64.wrap (j-1)) (F0 _)) λW b=>?_
 refine ifB b (λH b=>?_) λH b=>?_
 ·obtain rfl:=oJ b
  exact aI rfl (Sub.refl _)
 ·obtain⟨s,F,b⟩:=B0 b
  refine eX { vars:=[1,7],boxes:=[],owns:=[],fuel:=true } (eX (λvs os h'=>∃ g c,vs.tail = [.int .i64 g,.int .i64 c]/\os = []/\Sub h h'/\I0 g/\I0 c/\g6 e m j n (C1 vs) g c=some s) (eX (λ_ _=>0) (aI (eX P0 ⟨d,0,rfl,rfl,(Sub.refl _),x,(by decide),F⟩) ?_)))
  rintro _ _ i O ⟨g,c,⟨⟩,⟨⟩,f,J,N,a⟩
  replace a:g6 e m j n i g c=some s:=a
  obtain _|i:=i
  ·cases a
  rw[g6.eq_2]at a
  refine ifB a (λI a=>?_) λI a=>?_
  ·refine Or.inl (aI (aI (by kernel_rfl) (by kernel_rfl)) ?_)
   refine ldI a (K0.mono f A) λV K a=>?_
   obtain⟨p,E,a⟩:=B0 a
   refine eX (.int .i64 p) (aI (e00 _ _ _ (j0 u w (N0.mono f o)) _ J _ K _  E) ?_)
   obtain⟨T,D,a⟩:=B0 a
   have L:I0 p:=T0 D
   refine ifB a (λG a=>?_) λG a=>?_
   ·obtain rfl:=oJ a
    try dsimp only[N3,O3]at b
    obtain rfl:=oJ b
    exact aI rfl f
   ·exact D1 i ⟨p,(IntKind.i64.wrap (c+1)),rfl,rfl,f,L,(F0 _),a⟩
  ·obtain rfl:=oJ a
   try dsimp only[M0,O0]at b
   obtain rfl:=oJ b
   exact aI rfl f
theorem x01(h:Hp)(O:List Value)(U:l0)(bd:C0.R h O U)(E:Option Addr)(T F:Nat)(I:D0)(y:K0.R h [.slice E T F] I)(r:l0×Bool)(b:U4 U I=some r):
  Tr Tryz.prog 200 #[.agg O.toArray,.slice E T F] h λv h'=>∃(N:List Value),v = .tuple #[.agg N.toArray,.bool r.2]/\C0.R h' N r.1/\Sub h h':=by
 obtain⟨a4,a5,ag,cs,ak,ba,rfl,rfl,s,o,t⟩:=H0 bd
 obtain⟨rfl,ch⟩:=Sl.len t
 obtain⟨rfl,ci⟩:=Sl.len y
 unfold U4 at b
 dsimp only at b
 refine V1 (args:=[.agg #[.int .i64 a4,.int .i64 a5,.slice ag ba.length ak],.slice E I.length F]) (fn:=Tryz.f200) rfl ?_
 refine trV b (f00 _ _ _ (j0 s o t)) λcN b=>?_
 refine trG b (λq=>O06 _ _ s _ _ _ _ y) λcO b=>?_
 refine ifB b (λaD b=>?_) λaD b=>?_
 ·obtain rfl:=oJ b
  exact⟨([.int .i64 0,.int .i64 0,.slice none 0 0]),rfl,(j0 (by decide) (by decide) (m08 M1 h)),(Sub.refl _)⟩
 ·refine trV b (e0c _ _ _ (j0 s o t) 0 (by decide) _ _ _ _ y) λbx b=>?_
  obtain⟨cz,aw,b⟩:=B0 b
  have b1:I0 bx:=T0 aw
  refine Or.inr (Or.inr (Or.inr (Or.inl (aI (aI (by kernel_rfl) (by kernel_rfl)) ?_))))
  obtain⟨D,az,b⟩:=B0 b
  refine Or.inr (eX (λv i=>∃(a:Option Addr) (c:Nat),v = .slice a D.length c/\K0.R i [.slice a D.length c] D/\D.length<=9223372036854775807) (aI (λv z A j q=>by obtain⟨a,c,e,r,l⟩:=q;exact⟨a,c,e,K0.mono j r,l⟩) (aI ?_ ?_)))
  ·intro cf bo
   obtain⟨bc,bs,ap,au⟩:=Sl.cutI (r:=Wp.int.toRp) (K0.mono bo y) az
   refine aI bc (eX bs (aI ap ?_))
   intro v H _
   obtain⟨a,c,rfl,r⟩:=au v H
   exact aI y01 (aI (Sub.refl _) ⟨a,c,rfl,r,(Sl.len r).2⟩)
  obtain⟨bH,aA,b⟩:=B0 b
  obtain⟨K,af⟩:=bH
  try dsimp only at b
  obtain⟨cy,av,b⟩:=B0 b
  have S:I0 K:=T0 av
  refine Or.inl (eX (.val (.tuple #[.int .i64 K,.bool af])) (aI ?_ ?_))
  ·intro b4 bl
   rintro _ ⟨bK,bW,rfl,bg,cn⟩
   exact Tr.val (f0e _ _ _ (j0 s o (N0.mono bl t)) 0 (by decide) _ _ _ _ bg _ aA) (aI rfl (aI rfl rfl))
  refine Or.inl (eX (.val (.int .i64 K)) (aI ?_ ?_))
  ·intro b5 cD
   exact aI rfl (aI rfl rfl)
  refine Or.inl (eX (.val (.bool af)) (aI ?_ ?_))
  ·intro b6 cE
   exact aI rfl (aI rfl rfl)
  intro aX p
  rintro _ ⟨bL,bX,rfl,cA,co⟩
  refine trM b (F5 _ _ _ (j0 s o (N0.mono p t))) ?_
  rintro cP b cJ aY ⟨bP,rfl,ae⟩
  have u:Sub aX aY:=ae.sub
  have be:=ae.r
  obtain⟨cQ,cR,bI,ct,bU,cS,rfl,rfl,aF,aG,V⟩:=H0 be
  obtain⟨rfl,cj⟩:=Sl.len V
  try dsimp only at b
  refine ifB b (λaB b=>?_) λaB b=>?_
  ·refine trM b (p0d _ _ _ (j0 s o (N0.mono (p.trans u) t))) ?_
   rintro bt b cK aZ ⟨bQ,rfl,W,B⟩
   obtain⟨cT,cX⟩:=bt
   dsimp only at b W
   obtain⟨cU,cV,bJ,cu,bV,cW,rfl,rfl,aH,aJ,X⟩:=H0 W
   obtain⟨rfl,ck⟩:=Sl.len X
   try dsimp only at b
   refine ifB b (λaC b=>?_) λaC b=>?_
   ·obtain rfl:=oJ b
    exact⟨([.int .i64 0,.int .i64 0,.slice none 0 0]),rfl,(j0 (by decide) (by decide) (m08 M1 aZ)),((p.trans u).trans B)⟩
   ·refine Or.inr (Or.inr (Or.inr (Or.inr (eX 12 (aI (aI (by kernel_rfl) (by kernel_rfl)) ?_)))))
    obtain⟨C,ax,b⟩:=B0 b
    refine Or.inr (eX (λv i=>∃(a:Option Addr) (c:Nat),v = .slice a C.length c/\K0.R i [.slice a C.length c] C/\C.length<=9223372036854775807) (aI (λv z A j q=>by obtain⟨a,c,e,r,l⟩:=q;exact⟨a,c,e,K0.mono j r,l⟩) (aI ?_ ?_)))
    ·intro b7 bm
     obtain⟨bb,br,ao,ar⟩:=Sl.cutI (r:=Wp.int.toRp) (K0.mono (((p.trans u).trans B).trans bm) y) ax
     refine aI bb (eX br (aI ao ?_))
     intro v H _
     obtain⟨a,c,rfl,r⟩:=ar v H
     exact aI y01 (aI (Sub.refl _) ⟨a,c,rfl,r,(Sl.len r).2⟩)
    obtain⟨bu,ay,b⟩:=B0 b
    obtain⟨bv,J⟩:=bu
    try dsimp only at b
    obtain⟨m,n,g⟩:=bv
    try dsimp only at b
    refine Or.inr (eX (λv i=>∃(k:Value),v = .tuple #[k,.bool J]/\(λv i=>∃(d:Option Addr) (f:Nat),v = .agg #[.int .i64 m,.int .i64 n,.slice d g.length f]/\I0 m/\I0 n/\N0.R i [.slice d g.length f] g/\g.length<=9223372036854775807) k i) (aI (λv z A j q=>by obtain⟨k,e,G⟩:=q;exact⟨k,e,(by obtain⟨d,f,e,w,x,f2,f3⟩:=G;exact⟨d,f,e,w,x,N0.mono j f2,f3⟩)⟩) (aI ?_ ?_)))
    ·intro b8 bn
     rintro _ ⟨bM,bY,rfl,bh,cp⟩
     refine Tr.mono (q09 _ _ _ (j0 aH aJ (N0.mono bn X)) _ S _ _ _ _ bh _ o _ ay) ?_
     rintro _ cg ⟨bR,rfl,bf,j⟩
     obtain⟨c2,c3,L,cx,P,db,rfl,aq,aO,aP,ac⟩:=H0 bf
     cases aq
     obtain⟨rfl,a1⟩:=Sl.len ac
     exact aI y01 (aI j ⟨(.agg #[.int .i64 m,.int .i64 n,.slice L g.length P]),rfl,⟨L,P,rfl,aO,aP,ac,a1⟩⟩)
    refine Or.inr (eX (λv i=>∃(k:Value),v = .tuple #[k,.bool J]/\(λv i=>∃(d:Option Addr) (f:Nat),v = .agg #[.int .i64 m,.int .i64 n,.slice d g.length f]/\I0 m/\I0 n/\N0.R i [.slice d g.length f] g/\g.length<=9223372036854775807) k i) (aI (λv z A j q=>by obtain⟨k,e,G⟩:=q;exact⟨k,e,(by obtain⟨d,f,e,w,x,f2,f3⟩:=G;exact⟨d,f,e,w,x,N0.mono j f2,f3⟩)⟩) (aI ?_ ?_)))
    ·intro ca cG
     rintro _ ⟨_,rfl,⟨M,Q,rfl,aQ,aR,bi,a2⟩⟩
     exact aI y01 (aI (Sub.refl _) ⟨(.agg #[.int .i64 m,.int .i64 n,.slice M g.length Q]),rfl,⟨M,Q,rfl,aQ,aR,bi,a2⟩⟩)
    refine Or.inr (eX (λv i=>∃(d:Option Addr) (f:Nat),v = .agg #[.int .i64 m,.int .i64 n,.slice d g.length f]/\I0 m/\I0 n/\N0.R i [.slice d g.length f] g/\g.length<=9223372036854775807) (aI (λv z A j q=>by obtain⟨d,f,e,w,x,f2,f3⟩:=q;exact⟨d,f,e,w,x,N0.mono j f2,f3⟩) (aI ?_ ?_)))
    ·intro cb cH
     rintro _ ⟨_,rfl,⟨aj,an,rfl,aS,aU,bj,a3⟩⟩
     exact aI y01 (aI (Sub.refl _) ⟨aj,an,rfl,aS,aU,bj,a3⟩)
    refine Or.inl (eX (.val (.bool J)) (aI ?_ ?_))
    ·intro cc cI
     rintro _ ⟨_,rfl,⟨bN,bZ,rfl,b2,b3,cC,cq⟩⟩
     exact aI rfl (aI rfl rfl)
    intro a0 ad
    rintro _ ⟨bO,b0,rfl,aV,aW,bk,cr⟩
    rintro _ _
    rintro _ _
    rintro _ _
    refine ifB b (λaE b=>?_) λaE b=>?_
    ·obtain rfl:=oJ b
     exact⟨([.int .i64 0,.int .i64 0,.slice none 0 0]),rfl,(j0 (by decide) (by decide) (m08 M1 a0)),(((p.trans u).trans B).trans ad)⟩
    ·refine trM b (Z00 _ _ _ (j0 aV aW bk) _ o) ?_
     rintro bz b cL cd ⟨bS,rfl,Y,bp⟩
     obtain⟨cY,cZ⟩:=bz
     dsimp only at b Y
     obtain⟨bA,bB,ah,cv,al,bC,rfl,rfl,aK,aL,Z⟩:=H0 Y
     obtain⟨rfl,cl⟩:=Sl.len Z
     try dsimp only at b
     obtain rfl:=oJ b
     exact⟨([.int .i64 bA,.int .i64 bB,.slice ah bC.length al]),rfl,(j0 aK aL Z),((((p.trans u).trans B).trans ad).trans bp)⟩
  ·refine trM b (Z00 _ _ _ (j0 aF aG V) _ S) ?_
   rintro bD b cM ce ⟨bT,rfl,aa,bq⟩
   obtain⟨c0,c1⟩:=bD
   dsimp only at b aa
   obtain⟨bE,bF,ai,cw,am,bG,rfl,rfl,aM,aN,ab⟩:=H0 aa
   obtain⟨rfl,cm⟩:=Sl.len ab
   try dsimp only at b
   obtain rfl:=oJ b
   exact⟨([.int .i64 bE,.int .i64 bF,.slice ai bG.length am]),rfl,(j0 aM aN ab),((p.trans u).trans bq)⟩
theorem f0c(h:Hp)(b:Int)(q:I0 b)(c:Option Addr)(g d:Nat)(e:N1)(i:R3.R h [.slice c g d] e)(r:l0×Bool)(a:h01 b e=some r):
  Tr Tryz.prog 84 #[.int .i64 b,.slice c g d] h λv h'=>∃(f:List Value),v = .tuple #[.agg f.toArray,.bool r.2]/\C0.R h' f r.1/\Sub h h':=by
 obtain⟨rfl,J⟩:=Sl.len i
 unfold h01 at a
 refine V1 (args:=[.int .i64 b,.slice c e.length d]) (fn:=Tryz.f84) rfl ?_
 refine trM a (j0e _ _ q _ _ _ _ i) ?_
 rintro A a O x ⟨F,rfl,j,m⟩
 obtain⟨Q,V⟩:=A
 dsimp only at a j
 obtain⟨S,T,E,M,H,U,rfl,rfl,s,t,k⟩:=H0 j
 obtain⟨rfl,K⟩:=Sl.len k
 try dsimp only at a
 refine ifB a (λp a=>?_) λp a=>?_
 ·obtain rfl:=oJ a
  exact⟨([.int .i64 0,.int .i64 0,.slice none 0 0]),rfl,(j0 (by decide) (by decide) (m08 M1 x)),m⟩
 ·refine trM a (k03 _ _ _ (j0 s t k)) ?_
  rintro W a P I ⟨G,rfl,y,z⟩
  obtain⟨B,C,n,N,o,D,rfl,rfl,u,w,l⟩:=H0 y
  obtain⟨rfl,L⟩:=Sl.len l
  try dsimp only at a
  obtain rfl:=oJ a
  exact⟨([.int .i64 B,.int .i64 C,.slice n D.length o]),rfl,(j0 u w l),(m.trans z)⟩
theorem u05(h:Hp)(d:Option Addr)(l e:Nat)(c:List Int)(m:Sl Rp.u8 h (.slice d l e) c)(r:Int×Int)(f:d01 c=some r):
  Tr Tryz.prog 92 #[.slice d l e] h λv h'=>∃ k ty,v=ptr k 0/\h'=h.set k (D02 (.slice d l e) r ty)/\w8 h k (.slice d l e) c r:=by
 obtain⟨rfl,A⟩:=Sl.len m
 unfold d01 at f
 refine V1 (args:=[.slice d c.length e]) (fn:=Tryz.f92) rfl ?_
 obtain⟨n,s,f⟩:=B0 f
 refine eX { vars:=[3,4],boxes:=[],owns:=[],fuel:=true } (eX (λvs os h'=>∃ g i,vs.tail = [.int .i64 g,.int .i64 i]/\os = []/\h'=h/\I0 g/\I0 i/\O9 c (C1 vs) g i=some n) (eX (λ_ _=>0) (aI (eX P0 ⟨_,_,rfl,rfl,rfl,(F0 _),(by decide),s⟩) ?_)))
 rintro _ _ j z ⟨g,i,⟨⟩,⟨⟩,rfl,w,y,a⟩
 replace a:O9 c j g i=some n:=a
 obtain _|j:=j
 ·cases a
 rw[O9.eq_2]at a
 refine ifB a (λu a=>?_) λu a=>?_
 ·obtain⟨x,q,a⟩:=B0 a
  obtain⟨o,cs,p,rfl⟩:=Sl.getI (r:=Rp.u8) m q (by decide)
  refine aI o (eX _ (aI p ?_))
  exact D1 j ⟨_,_,rfl,rfl,rfl,(F0 _),(F0 _),a⟩
 ·obtain rfl:=oJ a
  try dsimp only[M0,O0]at f
  obtain rfl:=oJ f
  intro b t
  exact⟨b,_,rfl,rfl,t,m,⟨iR _,Int.natCast_nonneg _⟩,w⟩
theorem g0t{P:Program}{a:Type}{m:Sem a}{h h':Hp}{K:a->Hp->Prop}(e:h=h')(w:wpS P m h' K):wpS P m h K:=e▸w
theorem F0t{h:Hp}{k:Nat}{b:Value}{q:Int×Int}{ty:TypeId}:(h.set k (D02 b q ty)).cell k 0=some b:=by unfold Hp.cell;rw[Hp.set_same];rfl
theorem K0m{h:Hp}{k:Nat}{b:Value}{q:Int×Int}{ty:TypeId}:(h.set k (D02 b q ty)).cell k 1=some (.int .i64 q.1):=by unfold Hp.cell;rw[Hp.set_same];rfl
theorem h0t{h:Hp}{k:Nat}{b:Value}{q:Int×Int}{ty:TypeId}:(h.set k (D02 b q ty)).cell k 2=some (.int .i64 q.2):=by unfold Hp.cell;rw[Hp.set_same];rfl
theorem V0t{h:Hp}{k:Nat}(x y:Obj):(h.set k x).set k y=h.set k y:=by
 funext b
 unfold Hp.set
 by_cases c:b=k
 ·rw[if_pos c,if_pos c]
 ·rw[if_neg c,if_neg c,if_neg c]
theorem Sub.setS{h a:Hp}{k:Nat}{o d:Obj}(f:Sub (h.set k o) a):Sub (h.set k d) (a.set k d):=λb x e=>by
 by_cases c:b=k
 ·subst c;rw[Hp.set_same]at e ⊢;exact e
 ·rw[Hp.set_other _ _ c]at e ⊢
  exact f b x (by rw[Hp.set_other _ _ c];exact e)
theorem v03(h:Hp)(d:Nat)(l:Value)(o:TypeId)(f:List Int)(b:Int×Int)(e:w8 h d l f b)(r:Int×(Int×Int))(g:H9 f b=some r):
  Tr Tryz.prog 188 #[ptr d 0] (h.set d (D02 l b o)) λv h'=>v = .int .i64 r.1/\w8 h d l f r.2/\h'=h.set d (D02 l r.2 o):=by
 unfold H9 at g
 obtain⟨j,G,m,H,x,D⟩:=e.rd
 cases x
 obtain⟨rfl,F⟩:=Sl.len e.rd
 refine Tr.forgetC (V1 (args:=[ptr d 0]) (fn:=Tryz.f188) rfl ?_)
 refine eX _ (aI (aI rfl h0t) ?_)
 refine eX _ (eX _ (eX _ (aI (aI (Hp.set_same _ _ _) (aI rfl (aI (show(2:Nat)<3 from by decide) (aI rfl (by first|trivial|decide|simp[Z02]))))) ?_)))
 refine g0t (h':=h.set d (D02 (.slice j f.length m) (b.1,nxt b.2) o)) (V0t _ _) ?_
 refine Or.inr (Or.inr (Or.inr (Or.inl (aI (aI (by kernel_rfl) (by kernel_rfl)) ?_))))
 refine Or.inl (eX (.val (ptr d 0)) (aI (λk a=>aI rfl (aI rfl rfl)) ?_))
 refine Or.inl (eX (.val (ptr d 2)) (aI (λk a=>aI rfl (aI rfl rfl)) ?_))
 refine Or.inl (eX (.val (.int .i64 (nxt b.2))) (aI (λk a=>eX _ (aI (aI rfl (a.cell h0t)) (aI rfl (aI rfl rfl)))) ?_))
 refine Or.inl (eX (.val (.int .i64 ((nxt b.2).fdiv (2 ^ min (33:Int).toNat 64)))) (aI (λk a=>aI rfl (aI rfl rfl)) ?_))
 refine Or.inl (eX (.val (ptr d 0)) (aI (λk a=>aI rfl (aI rfl rfl)) ?_))
 refine Or.inl (eX (.val (ptr d 2)) (aI (λk a=>aI rfl (aI rfl rfl)) ?_))
 refine Or.inl (eX (.val (.int .i64 (nxt b.2))) (aI (λk a=>eX _ (aI (aI rfl (a.cell h0t)) (aI rfl (aI rfl rfl)))) ?_))
 refine Or.inl (eX (.val (.int .i64 ((nxt b.2).fdiv (2 ^ min (45:Int).toNat 64)))) (aI (λk a=>aI rfl (aI rfl rfl)) ?_))
 refine Or.inl (eX (.val (.int .i64 (x0t ((nxt b.2).fdiv (2 ^ min (33:Int).toNat 64)) ((nxt b.2).fdiv (2 ^ min (45:Int).toNat 64))))) (aI (λk a=>aI rfl (aI rfl rfl)) ?_))
 refine Or.inl (eX (.val (.int .i64 (drw (nxt b.2)))) (aI (λk a=>aI rfl (aI rfl rfl)) ?_))
 intro A s1
 refine Or.inr (Or.inr (Or.inr (Or.inl (aI (aI (by kernel_rfl) (by kernel_rfl)) ?_))))
 refine Or.inl (eX (.val (ptr d 0)) (aI (λk a=>aI rfl (aI rfl rfl)) ?_))
 refine Or.inl (eX (.val (ptr d 1)) (aI (λk a=>aI rfl (aI rfl rfl)) ?_))
 refine Or.inl (eX (.val (.int .i64 b.1)) (aI (λk a=>eX _ (aI (aI rfl (a.cell (s1.cell K0m))) (aI rfl (aI rfl rfl)))) ?_))
 refine Or.inl (eX (.val (ptr d 0)) (aI (λk a=>aI rfl (aI rfl rfl)) ?_))
 refine Or.inl (eX (.val (ptr d 0)) (aI (λk a=>aI rfl (aI rfl rfl)) ?_))
 refine Or.inl (eX (.val (.slice j f.length m)) (aI (λk a=>eX _ (aI (aI rfl (a.cell (s1.cell F0t))) (aI rfl (aI rfl rfl)))) ?_))
 refine Or.inl (eX (.val (.int .i64 ((f.length:Nat):Int))) (aI (λk a=>aI rfl (aI rfl rfl)) ?_))
 refine Or.inl (eX (.val (.bool (decide (b.1<((f.length:Nat):Int))))) (aI (λk a=>aI rfl (aI rfl rfl)) ?_))
 intro B s2
 have i:=s1.trans s2
 refine ifB g (λu g=>?_) λu g=>?_
 ·obtain⟨c,p,g⟩:=B0 g
  obtain rfl:=oJ g
  obtain⟨q,cs,s,rfl⟩:=Sl.getI (r:=Rp.u8) e.rd p (by decide)
  have t:=s.up ((Sub.set e.no).trans i)
  refine Or.inr (Or.inr (Or.inr (Or.inr (eX 14 (aI (aI (by kernel_rfl) (by kernel_rfl)) ?_)))))
  refine Or.inl (eX (.val (ptr d 0)) (aI (λk a=>aI rfl (aI rfl rfl)) ?_))
  refine Or.inl (eX (.val (ptr d 0)) (aI (λk a=>aI rfl (aI rfl rfl)) ?_))
  refine Or.inl (eX (.val (.slice j f.length m)) (aI (λk a=>eX _ (aI (aI rfl (a.cell (i.cell F0t))) (aI rfl (aI rfl rfl)))) ?_))
  refine Or.inl (eX (.val (ptr d 0)) (aI (λk a=>aI rfl (aI rfl rfl)) ?_))
  refine Or.inl (eX (.val (ptr d 1)) (aI (λk a=>aI rfl (aI rfl rfl)) ?_))
  refine Or.inl (eX (.val (.int .i64 b.1)) (aI (λk a=>eX _ (aI (aI rfl (a.cell (i.cell K0m))) (aI rfl (aI rfl rfl)))) ?_))
  refine Or.inl (eX (.hel (.slice j f.length m) b.1 1 0) (aI (λk a=>aI q (aI rfl (aI rfl rfl))) ?_))
  refine Or.inl (eX (.val (.int .u8 c)) (aI (λk a=>eX _ (aI (t.up a) (aI rfl (aI rfl rfl)))) ?_))
  refine Or.inl (eX (.val (.int .i64 (IntKind.i64.wrap c))) (aI (λk a=>aI rfl (aI rfl rfl)) ?_))
  refine Or.inl (eX (.val (.int .i64 (IntKind.i64.wrap (drw (nxt b.2)+IntKind.i64.wrap c)))) (aI (λk a=>aI rfl (aI rfl rfl)) ?_))
  refine Or.inl (eX (.val (.int .i64 (i0m (IntKind.i64.wrap (drw (nxt b.2)+IntKind.i64.wrap c)) 255))) (aI (λk a=>aI rfl (aI rfl rfl)) ?_))
  intro C z
  have n:=i.trans z
  refine eX _ (aI (aI rfl (n.cell K0m)) ?_)
  refine eX _ (eX _ (eX _ (aI (aI (n _ _ (Hp.set_same _ _ _)) (aI rfl (aI (show(1:Nat)<3 from by decide) (aI rfl (by first|trivial|decide|simp[Z02]))))) ?_)))
  have w:=C0b p
  have E:=(List.getElem?_eq_some_iff.1 w.2).1
  have y:IntKind.i64.wrap (b.1+1)=b.1+1:=w64 (by omega) (by omega)
  exact aI rfl (aI ⟨e.no,e.rd,by show 0<=IntKind.i64.wrap (b.1+1)/\IntKind.i64.wrap (b.1+1)<=_;rw[y];exact⟨by omega,by omega⟩,F0 _⟩ (Sub.setS n))
 ·obtain rfl:=oJ g
  exact aI rfl (aI ⟨e.no,e.rd,e.pl,F0 _⟩ i)
theorem I1(h:Hp)(b:Nat)(c:Value)(f:TypeId)(e:List Int)(g:Int×Int)(d:w8 h b c e g)(i:Int)(R:I0 i)(r:Int×(Int×Int))(a:Z1 e g i=some r):
  Tr Tryz.prog 93 #[ptr b 0,.int .i64 i] (h.set b (D02 c g f)) λv h'=>v = .int .i64 r.1/\w8 h b c e r.2/\h'=h.set b (D02 c r.2 f):=by
 unfold Z1 at a
 refine Tr.forgetC (V1 (args:=[ptr b 0,.int .i64 i]) (fn:=Tryz.f93) rfl ?_)
 refine ifB a (λC a=>?_) λC a=>?_
 ·obtain rfl:=oJ a
  exact⟨rfl,d.back d,Sub.setB d.no (Sub.refl _)⟩
 ·refine ifB a (λD a=>?_) λD a=>?_
  ·obtain⟨M,A,a⟩:=B0 a
   obtain⟨N,af⟩:=M
   try dsimp only at a
   refine Tr.mono (v03 _ b c f e g d _ A) ?_
   rintro _ _ ⟨rfl,n,rfl⟩
   obtain⟨ac,u,a⟩:=B0 a
   have V:I0 N:=T0 u
   obtain⟨ad,w,a⟩:=B0 a
   refine aI (T0 w) ?_
   obtain rfl:=oJ a
   exact⟨rfl,d.back n,Sub.setB d.no (Sub.refl _)⟩
  ·obtain⟨O,B,a⟩:=B0 a
   obtain⟨P,Q⟩:=O
   try dsimp only at a
   refine Tr.mono (v03 _ b c f e g d _ B) ?_
   rintro _ _ ⟨rfl,j,rfl⟩
   obtain⟨X,o,a⟩:=B0 a
   have W:I0 P:=T0 o
   obtain⟨E,x,a⟩:=B0 a
   obtain⟨F,G⟩:=E
   try dsimp only at a
   refine Tr.mono (v03 _ b c f e Q j _ x) ?_
   rintro _ _ ⟨rfl,k,rfl⟩
   obtain⟨Y,p,a⟩:=B0 a
   have S:I0 F:=T0 p
   obtain⟨H,y,a⟩:=B0 a
   obtain⟨I,J⟩:=H
   try dsimp only at a
   refine Tr.mono (v03 _ b c f e G k _ y) ?_
   rintro _ _ ⟨rfl,l,rfl⟩
   obtain⟨Z,q,a⟩:=B0 a
   have T:I0 I:=T0 q
   obtain⟨K,z,a⟩:=B0 a
   obtain⟨L,ae⟩:=K
   try dsimp only at a
   refine Tr.mono (v03 _ b c f e J l _ z) ?_
   rintro _ _ ⟨rfl,m,rfl⟩
   obtain⟨aa,s,a⟩:=B0 a
   have U:I0 L:=T0 s
   obtain⟨ab,t,a⟩:=B0 a
   refine aI (T0 t) ?_
   obtain rfl:=oJ a
   exact⟨rfl,d.back m,Sub.setB d.no (Sub.refl _)⟩
theorem D04(h:Hp)(b:Nat)(c:Value)(i:TypeId)(d:List Int)(e:Int×Int)(g:w8 h b c d e)(f:Int)(m:I0 f)(r:Bool×(Int×Int))(a:r01 d e f=some r):
  Tr Tryz.prog 131 #[ptr b 0,.int .i64 f] (h.set b (D02 c e i)) λv h'=>v = .bool r.1/\w8 h b c d r.2/\h'=h.set b (D02 c r.2 i):=by
 unfold r01 at a
 refine Tr.forgetC (V1 (args:=[ptr b 0,.int .i64 f]) (fn:=Tryz.f131) rfl ?_)
 obtain⟨n,l,a⟩:=B0 a
 obtain⟨o,s⟩:=n
 try dsimp only at a
 refine Tr.mono (I1 _ b c i d e g _ m _ l) ?_
 rintro _ _ ⟨rfl,j,rfl⟩
 obtain⟨q,k,a⟩:=B0 a
 have p:I0 o:=T0 k
 obtain rfl:=oJ a
 exact⟨rfl,g.back j,Sub.setB g.no (Sub.refl _)⟩
theorem C9(h:Hp)(b:Nat)(c:Value)(k:TypeId)(d:List Int)(e:Int×Int)(g:w8 h b c d e)(f:Option Addr)(m i:Nat)(j:D0)(n:K0.R h [.slice f m i] j)(r:Int×(Int×Int))(a:Z7 d e j=some r):
  Tr Tryz.prog 238 #[ptr b 0,.slice f m i] (h.set b (D02 c e k)) λv h'=>v = .int .i64 r.1/\w8 h b c d r.2/\h'=h.set b (D02 c r.2 k):=by
 obtain⟨rfl,u⟩:=Sl.len n
 unfold Z7 at a
 refine Tr.forgetC (V1 (args:=[ptr b 0,.slice f j.length i]) (fn:=Tryz.f238) rfl ?_)
 obtain⟨x,s,a⟩:=B0 a
 obtain⟨y,D⟩:=x
 try dsimp only at a
 refine Tr.mono (I1 _ b c k d e g _ (m0f u) _ s) ?_
 rintro _ _ ⟨rfl,l,rfl⟩
 obtain⟨C,q,a⟩:=B0 a
 have A:I0 y:=T0 q
 obtain⟨E,t,a⟩:=B0 a
 obtain⟨o,z,p,w⟩:=Sl.getI (r:=Wp.int.toRp) n t (by decide)
 refine aI o ?_
 obtain⟨rfl,B⟩:=w
 refine eX _ (aI (i6.up (Sub.set l.no) p) ?_)
 obtain rfl:=oJ a
 exact⟨rfl,g.back l,Sub.setB g.no (Sub.refl _)⟩
theorem w09(h:Hp)(d:Nat)(e:Value)(m:TypeId)(f:List Int)(s:Int×Int)(K:w8 h d e f s)(j:Int)(aj:I0 j)(o:Int)(aw:I0 o)(r:D0×(Int×Int))(c:K03 f s j o=some r):
  Tr Tryz.prog 161 #[ptr d 0,.int .i64 j,.int .i64 o] (h.set d (D02 e s m)) λv h'=>∃(z:Option Addr) (E A:Nat) (q:Hp),v = .slice z E A/\New K0 h q [.slice z E A] r.1/\Sub h q/\w8 q d e f r.2/\h'=q.set d (D02 e r.2 m):=by
 unfold K03 at c
 refine V1 (args:=[ptr d 0,.int .i64 j,.int .i64 o]) (fn:=Tryz.f161) rfl ?_
 obtain⟨ao,Z,c⟩:=B0 c
 obtain⟨H,au⟩:=ao
 try dsimp only at c
 refine Tr.mono (I1 _ d e m f s K (IntKind.i64.wrap (o+1)) (F0 _) _ Z) ?_
 rintro _ _ ⟨rfl,M,rfl⟩
 obtain⟨aG,Y,c⟩:=B0 c
 have ak:I0 H:=T0 Y
 obtain⟨y,ad,c⟩:=B0 c
 refine eX { vars:=[8],boxes:=[],owns:=[0],fuel:=true } (eX (λvs os ai=>∃(k:Int) (p:List (List Value)) (g:List Int) (u8:Int×Int) (h':Hp),vs.tail = [.int .i64 k]/\os = [p]/\ai=h'.set d (D02 e u8 m)/\Sub h h'/\I0 k/\F2 (Wp.int.R h') p g/\w8 h' d e f u8/\B8 f j (C1 vs) k g u8=some y) (eX (λ_ _=>0) ?_))
 refine aI (eX P0 ⟨H,[],([]:D0),au,h,rfl,rfl,rfl,(Sub.refl _),ak,(show F2 (Wp.int.R h) ([]:List (List Value)) ([]:D0) from trivial),M,ad⟩) ?_
 rintro aK p n _ ⟨k,aM,g,u8,l,S,Q,rfl,t,ax,i,u,a⟩
 cases S
 cases Q
 replace a:B8 f j n k g u8=some y:=a
 obtain _|n:=n
 ·cases a
 rw[B8.eq_2]at a
 refine ifB a (λae a=>?_) λae a=>?_
 ·obtain⟨ap,aa,a⟩:=B0 a
  obtain⟨b,aq⟩:=ap
  try dsimp only at a
  refine Tr.mono (I1 _ d e m f u8 u j aj _ aa) ?_
  rintro _ _ ⟨rfl,L,rfl⟩
  obtain⟨aD,V,a⟩:=B0 a
  have ay:I0 b:=T0 V
  obtain⟨ar,ab,a⟩:=B0 a
  obtain⟨aL,G⟩:=ar
  try dsimp only at a
  refine Tr.mono (D04 _ d e m f aq L 2 (by decide) _ ab) ?_
  rintro _ _ ⟨rfl,B,rfl⟩
  refine ifB a (λaf a=>?_) λaf a=>?_
  ·obtain⟨aE,W,a⟩:=B0 a
   refine aI (Z0 W (by first|rw[F2.length i,F2.length (show F2 (Wp.int.R l) ([[.int .i64 (IntKind.i64.wrap (0-(IntKind.i64.wrap (1+b))))]]:List (List Value)) [(IntKind.i64.wrap (0-(IntKind.i64.wrap (1+b))))] from⟨⟨rfl,(F0 _)⟩,trivial⟩)]|exact congrArg (·+1) (F2.length i))) ?_
   exact D1 n ⟨(IntKind.i64.wrap (k-1)),(p++([[.int .i64 (IntKind.i64.wrap (0-(IntKind.i64.wrap (1+b))))]]:List (List Value))),(g ++ [(IntKind.i64.wrap (0-(IntKind.i64.wrap (1+b))))]),G,l,rfl,rfl,rfl,t,(F0 _),(F2.append i (show F2 (Wp.int.R l) ([[.int .i64 (IntKind.i64.wrap (0-(IntKind.i64.wrap (1+b))))]]:List (List Value)) [(IntKind.i64.wrap (0-(IntKind.i64.wrap (1+b))))] from⟨⟨rfl,(F0 _)⟩,trivial⟩)),B,a⟩
  ·obtain⟨aF,X,a⟩:=B0 a
   refine aI (Z0 X (by first|rw[F2.length i,F2.length (show F2 (Wp.int.R l) ([[.int .i64 (IntKind.i64.wrap (1+b))]]:List (List Value)) [(IntKind.i64.wrap (1+b))] from⟨⟨rfl,(F0 _)⟩,trivial⟩)]|exact congrArg (·+1) (F2.length i))) ?_
   exact D1 n ⟨(IntKind.i64.wrap (k-1)),(p++([[.int .i64 (IntKind.i64.wrap (1+b))]]:List (List Value))),(g ++ [(IntKind.i64.wrap (1+b))]),G,l,rfl,rfl,rfl,t,(F0 _),(F2.append i (show F2 (Wp.int.R l) ([[.int .i64 (IntKind.i64.wrap (1+b))]]:List (List Value)) [(IntKind.i64.wrap (1+b))] from⟨⟨rfl,(F0 _)⟩,trivial⟩)),B,a⟩
 ·obtain rfl:=oJ a
  try dsimp only[M0,O0]at c
  refine Or.inl ?_
  intro aH az T
  obtain⟨al,U,ag,rfl⟩:=S0.beside u.no T
  obtain⟨J,P,rfl,an,w,aB⟩:=S0.out (r:=Wp.int.toRp) U i
  have C:=u.mono w ag
  obtain⟨av,ac,c⟩:=B0 c
  refine Tr.beside C.no (p08 _ J g.length P g an _  ac) ?_
  rintro aJ D ⟨I,aC,O,rfl,x⟩ ah
  have F:Sub al D:=x.sub
  have am:=x.r
  have N:=C.mono F ah
  obtain⟨rfl,aA⟩:=Sl.len am
  obtain rfl:=oJ c
  exact⟨I,av.length,O,D,rfl,(New.from x (t.trans w)),((t.trans w).trans F),N,rfl⟩
theorem y0g(h:Hp)(c:Nat)(d:Value)(l:TypeId)(e:List Int)(q:Int×Int)(L:w8 h c d e q)(g:Int)(ae:I0 g)(r:N1×(Int×Int))(b:J02 e q g=some r):
  Tr Tryz.prog 239 #[ptr c 0,.int .i64 g] (h.set c (D02 d q l)) λv h'=>∃(B:Option Addr) (G C:Nat) (o:Hp),v = .slice B G C/\New R3 h o [.slice B G C] r.1/\Sub h o/\w8 o c d e r.2/\h'=o.set c (D02 d r.2 l):=by
 unfold J02 at b
 refine V1 (args:=[ptr c 0,.int .i64 g]) (fn:=Tryz.f239) rfl ?_
 obtain⟨aj,Y,b⟩:=B0 b
 obtain⟨J,am⟩:=aj
 try dsimp only at b
 refine Tr.mono (I1 _ c d l e q L 4 (by decide) _ Y) ?_
 rintro _ _ ⟨rfl,O,rfl⟩
 obtain⟨ay,X,b⟩:=B0 b
 have af:I0 J:=T0 X
 obtain⟨A,aa,b⟩:=B0 b
 refine eX { vars:=[6],boxes:=[],owns:=[0],fuel:=true } (eX (λvs os ad=>∃(i:Int) (m:List (List Value)) (f:List D0) (u8:Int×Int) (h':Hp),vs.tail = [.int .i64 i]/\os = [m]/\ad=h'.set c (D02 d u8 l)/\Sub h h'/\I0 i/\F2 (K0.R h') m f/\(∃ Bs,F3 (K0.W h') m f Bs/\n4 h Bs.flatten)/\w8 h' c d e u8/\a8 e g (C1 vs) i f u8=some A) (eX (λ_ _=>0) ?_))
 refine aI (eX P0 ⟨J,[],([]:N1),am,h,rfl,rfl,rfl,(Sub.refl _),af,(show F2 (K0.R h) ([]:List (List Value)) ([]:N1) from trivial),⟨_,(show F3 (K0.W h) [] [] [] from trivial),(n4.nil h)⟩,O,aa⟩) ?_
 rintro aA m p _ ⟨i,aB,f,u8,ar,S,Q,rfl,s,ap,n,⟨ao,z,E⟩,u,a⟩
 cases S
 cases Q
 replace a:a8 e g p i f u8=some A:=a
 obtain _|p:=p
 ·cases a
 rw[a8.eq_2]at a
 refine ifB a (λab a=>?_) λab a=>?_
 ·obtain⟨ak,Z,a⟩:=B0 a
  obtain⟨j,al⟩:=ak
  try dsimp only at a
  refine Tr.mono (w09 _ c d l e u8 u _ ae 5 (by decide) _ Z) ?_
  rintro _ _ ⟨t,aw,w,x,rfl,I,k,M,rfl⟩
  have y:=I.r
  obtain⟨rfl,au⟩:=Sl.len y
  obtain⟨ax,V,a⟩:=B0 a
  refine aI (Z0 V (by first|rw[F2.length (F2.up (r:=K0.toRp) k n),F2.length (show F2 (K0.R x) ([[.slice t j.length w]]:List (List Value)) [j] from⟨y,trivial⟩)]|exact congrArg (·+1) (F2.length (F2.up (r:=K0.toRp) k n)))) ?_
  obtain⟨an,ai,U,_⟩:=I
  exact D1 p ⟨(IntKind.i64.wrap (i-1)),(m++([[.slice t j.length w]]:List (List Value))),(f ++ [j]),al,x,rfl,rfl,rfl,(s.trans k),(F0 _),(F2.append (F2.up (r:=K0.toRp) k n) (show F2 (K0.R x) ([[.slice t j.length w]]:List (List Value)) [j] from⟨y,trivial⟩)),⟨_,(F3.snoc ai (f05 z k)),(V05 z s E U)⟩,M,a⟩
 ·obtain rfl:=oJ a
  try dsimp only[M0,O0]at b
  intro ah aq T
  obtain⟨F,D,ac,rfl⟩:=S0.beside u.no T
  have ag:New (Wp.slice K0) h F [ah] f:=(S0.fresh (r:=K0) D z s E)
  obtain⟨K,P,rfl,az,H,av⟩:=S0.out (r:=K0.toRp) D n
  have N:=u.mono H ac
  obtain rfl:=oJ b
  exact⟨K,f.length,P,F,rfl,ag,(s.trans H),N,rfl⟩
theorem z0g(h:Hp)(k:Nat)(o:Value)(G:TypeId)(x:List Int)(ai:Int×Int)(ap:w8 h k o x ai)(r:l0×(Int×Int))(E:Q02 x ai=some r):
  Tr Tryz.prog 259 #[ptr k 0] (h.set k (D02 o ai G)) λv h'=>∃(aq:List Value) (ah:Hp),v = .agg aq.toArray/\New C0 h ah aq r.1/\Sub h ah/\w8 ah k o x r.2/\h'=ah.set k (D02 o r.2 G):=by
 unfold Q02 at E
 refine V1 (args:=[ptr k 0]) (fn:=Tryz.f259) rfl ?_
 refine Or.inl ?_
 intro bn be f3
 obtain⟨aw,aK,aU,rfl⟩:=S0.beside ap.no f3
 obtain⟨aB,aG,rfl,aY,L,bg⟩:=S0.out (r:=Wp.int.toRp) aK (show F2 (Wp.int.R h) ([[.int .i64 1],[.int .i64 2],[.int .i64 2],[.int .i64 2],[.int .i64 3]]:List (List Value)) [1,2,2,2,3] from⟨⟨rfl,(by decide)⟩,⟨⟨rfl,(by decide)⟩,⟨⟨rfl,(by decide)⟩,⟨⟨rfl,(by decide)⟩,⟨⟨rfl,(by decide)⟩,trivial⟩⟩⟩⟩⟩)
 have aF:=ap.mono L aU
 obtain⟨ba,aQ,E⟩:=B0 E
 obtain⟨aA,bb⟩:=ba
 try dsimp only at E
 refine Tr.mono (C9 _ k o G x ai aF aB ([1,2,2,2,3]).length aG [1,2,2,2,3] aY _ aQ) ?_
 rintro _ _ ⟨rfl,aC,rfl⟩
 obtain⟨bh,aL,E⟩:=B0 E
 have aX:I0 aA:=T0 aL
 obtain⟨aZ,aO,E⟩:=B0 E
 obtain⟨ay,a0⟩:=aZ
 try dsimp only at E
 refine Tr.mono (I1 _ k o G x bb aC 5 (by decide) _ aO) ?_
 rintro _ _ ⟨rfl,aD,rfl⟩
 obtain⟨bi,aM,E⟩:=B0 E
 have bd:I0 ay:=T0 aM
 obtain⟨a1,aP,E⟩:=B0 E
 obtain⟨az,a2⟩:=a1
 try dsimp only at E
 refine Tr.mono (I1 _ k o G x a0 aD 9 (by decide) _ aP) ?_
 rintro _ _ ⟨rfl,aE,rfl⟩
 obtain⟨bj,aN,E⟩:=B0 E
 have aW:I0 az:=T0 aN
 obtain⟨ao,aR,E⟩:=B0 E
 refine eX { vars:=[4],boxes:=[1],owns:=[],fuel:=true } (eX (λvs os aV=>∃(H:Int) (aa:Int) (I:Int) (ae:Option Addr) (am ag:Nat) (ad:Y0) (ac:Int×Int) (h':Hp),vs.tail = [.int .i64 H,.int .i64 aa,.int .i64 I,.slice ae am ag]/\os = []/\aV=h'.set k (D02 o ac G)/\Sub aw h'/\I0 H/\I0 aa/\I0 I/\New N0 h h' [.slice ae am ag] ad/\w8 h' k o x ac/\W6 x (C1 vs) H aa I ad ac=some ao) (eX (λ_ _=>0) ?_))
 refine aI (eX P0 ⟨az,aA,(IntKind.i64.wrap (1+ay)),none,0,0,[],a2,aw,rfl,rfl,rfl,(Sub.refl _),aW,aX,(F0 _),((New.nilSlice (r:=M1)).mono L),aE,aR⟩) ?_
 rintro bo bp bq br K _ ⟨H,aa,I,ae,am,ag,ad,ac,N,aJ,aH,rfl,l,bc,J,m,ax,aj,a⟩
 cases aJ
 cases aH
 replace a:W6 x K H aa I ad ac=some ao:=a
 obtain _|K:=K
 ·cases a
 rw[W6.eq_2]at a
 have O:=ax.r
 obtain⟨rfl,bf⟩:=Sl.len O
 refine ifB a (λaS a=>?_) λaS a=>?_
 ·refine Or.inr (Or.inr (Or.inl (aI (aI (by kernel_rfl) (by kernel_rfl)) ?_)))
  refine Or.inr ?_
  refine Or.inr ?_
  refine Or.inr ?_
  refine Or.inr ?_
  refine Or.inr ?_
  refine Or.inr ?_
  refine Or.inr ?_
  refine Or.inr (eX 99 (eX 0 (aI rfl ?_)))
  obtain⟨a3,au,a⟩:=B0 a
  obtain⟨j,an⟩:=a3
  try dsimp only at a
  obtain⟨bk,ar,a⟩:=B0 a
  obtain⟨a4,al,a⟩:=B0 a
  obtain⟨i,ab⟩:=a4
  try dsimp only at a
  obtain⟨bl,ak,a⟩:=B0 a
  obtain⟨a5,Z,a⟩:=B0 a
  obtain⟨f,P⟩:=a5
  try dsimp only at a
  obtain⟨bm,Y,a⟩:=B0 a
  refine aI ?_ ?_
  ·skip
   refine Tr.mono (I1 _ k o G x ac aj I m _ au) ?_
   rintro _ _ ⟨rfl,af,rfl⟩
   have M:I0 j:=T0 ar
   refine aT ?_
   refine aI ?_ ?_
   ·skip
    refine Tr.mono (I1 _ k o G x an af aa J _ al) ?_
    rintro _ _ ⟨rfl,Q,rfl⟩
    have av:I0 i:=T0 ak
    refine aT ?_
    refine aI ?_ ?_
    ·skip
     refine aT ?_
     refine aI ?_ ?_
     ·skip
      refine Tr.mono (I1 _ k o G x ab Q I m _ Z) ?_
      rintro _ _ ⟨rfl,g,rfl⟩
      have F:I0 f:=T0 Y
      refine aT ?_
      refine aI ?_ ?_
      ·skip
       refine aT ?_
       refine aI ?_ ?_
       ·skip
        refine aT ?_
        refine aI ?_ ?_
        ·skip
         refine aT ?_
         obtain⟨B,s,a⟩:=B0 a
         refine Tr.beside g.no (a6 _ _ _ (j0 J m O) [.int .i64 j,.int .i64 (IntKind.i64.wrap (1+i)),.int .i64 f] (j,(IntKind.i64.wrap (1+i)),f) (E1 M (F0 _) F) _  s) ?_
         rintro V c ⟨S,rfl,b⟩ t
         obtain⟨W,X⟩:=B
         dsimp only at a b
         have d:Sub N c:=b.sub
         have y:=b.r
         have p:=g.mono d t
         obtain⟨C,D,n,U,q,e,rfl,rfl,u,w,z⟩:=H0 y
         obtain⟨rfl,T⟩:=Sl.len z
         try dsimp only at a
         have A:=New.sndI (New.sndI (b))
         exact D1 K ⟨(IntKind.i64.wrap (H-1)),C,D,n,e.length,q,e,P,c,rfl,rfl,rfl,(l.trans d),(F0 _),u,w,(New.from A (L.trans l)),p,a⟩
        exact trivial
       exact trivial
      refine aI ?_ ?_
      ·skip
       refine aT ?_
       refine aI ?_ ?_
       ·skip
        refine aT ?_
        refine aI ?_ ?_
        ·skip
         refine aT ?_
         obtain⟨B,s,a⟩:=B0 a
         refine Tr.beside g.no (a6 _ _ _ (j0 J m O) [.int .i64 j,.int .i64 (IntKind.i64.wrap (1+i)),.int .i64 f] (j,(IntKind.i64.wrap (1+i)),f) (E1 M (F0 _) F) _  s) ?_
         rintro V c ⟨S,rfl,b⟩ t
         obtain⟨W,X⟩:=B
         dsimp only at a b
         have d:Sub N c:=b.sub
         have y:=b.r
         have p:=g.mono d t
         obtain⟨C,D,n,U,q,e,rfl,rfl,u,w,z⟩:=H0 y
         obtain⟨rfl,T⟩:=Sl.len z
         try dsimp only at a
         have A:=New.sndI (New.sndI (b))
         exact D1 K ⟨(IntKind.i64.wrap (H-1)),C,D,n,e.length,q,e,P,c,rfl,rfl,rfl,(l.trans d),(F0 _),u,w,(New.from A (L.trans l)),p,a⟩
        exact trivial
       exact trivial
      exact trivial
     refine aI ?_ ?_
     ·skip
      refine aT ?_
      refine aI ?_ ?_
      ·skip
       refine Tr.mono (I1 _ k o G x ab Q I m _ Z) ?_
       rintro _ _ ⟨rfl,g,rfl⟩
       have F:I0 f:=T0 Y
       refine aT ?_
       refine aI ?_ ?_
       ·skip
        refine aT ?_
        refine aI ?_ ?_
        ·skip
         refine aT ?_
         obtain⟨B,s,a⟩:=B0 a
         refine Tr.beside g.no (a6 _ _ _ (j0 J m O) [.int .i64 j,.int .i64 (IntKind.i64.wrap (1+i)),.int .i64 f] (j,(IntKind.i64.wrap (1+i)),f) (E1 M (F0 _) F) _  s) ?_
         rintro V c ⟨S,rfl,b⟩ t
         obtain⟨W,X⟩:=B
         dsimp only at a b
         have d:Sub N c:=b.sub
         have y:=b.r
         have p:=g.mono d t
         obtain⟨C,D,n,U,q,e,rfl,rfl,u,w,z⟩:=H0 y
         obtain⟨rfl,T⟩:=Sl.len z
         try dsimp only at a
         have A:=New.sndI (New.sndI (b))
         exact D1 K ⟨(IntKind.i64.wrap (H-1)),C,D,n,e.length,q,e,P,c,rfl,rfl,rfl,(l.trans d),(F0 _),u,w,(New.from A (L.trans l)),p,a⟩
        exact trivial
       exact trivial
      exact trivial
     exact trivial
    refine aI ?_ ?_
    ·skip
     refine Tr.mono (I1 _ k o G x ab Q I m _ Z) ?_
     rintro _ _ ⟨rfl,g,rfl⟩
     have F:I0 f:=T0 Y
     refine aT ?_
     refine aI ?_ ?_
     ·skip
      refine aT ?_
      refine aI ?_ ?_
      ·skip
       refine aT ?_
       refine aI ?_ ?_
       ·skip
        refine aT ?_
        refine aI ?_ ?_
        ·skip
         refine aT ?_
         obtain⟨B,s,a⟩:=B0 a
         refine Tr.beside g.no (a6 _ _ _ (j0 J m O) [.int .i64 j,.int .i64 (IntKind.i64.wrap (1+i)),.int .i64 f] (j,(IntKind.i64.wrap (1+i)),f) (E1 M (F0 _) F) _  s) ?_
         rintro V c ⟨S,rfl,b⟩ t
         obtain⟨W,X⟩:=B
         dsimp only at a b
         have d:Sub N c:=b.sub
         have y:=b.r
         have p:=g.mono d t
         obtain⟨C,D,n,U,q,e,rfl,rfl,u,w,z⟩:=H0 y
         obtain⟨rfl,T⟩:=Sl.len z
         try dsimp only at a
         have A:=New.sndI (New.sndI (b))
         exact D1 K ⟨(IntKind.i64.wrap (H-1)),C,D,n,e.length,q,e,P,c,rfl,rfl,rfl,(l.trans d),(F0 _),u,w,(New.from A (L.trans l)),p,a⟩
        exact trivial
       exact trivial
      refine aI ?_ ?_
      ·skip
       refine aT ?_
       refine aI ?_ ?_
       ·skip
        refine aT ?_
        refine aI ?_ ?_
        ·skip
         refine aT ?_
         obtain⟨B,s,a⟩:=B0 a
         refine Tr.beside g.no (a6 _ _ _ (j0 J m O) [.int .i64 j,.int .i64 (IntKind.i64.wrap (1+i)),.int .i64 f] (j,(IntKind.i64.wrap (1+i)),f) (E1 M (F0 _) F) _  s) ?_
         rintro V c ⟨S,rfl,b⟩ t
         obtain⟨W,X⟩:=B
         dsimp only at a b
         have d:Sub N c:=b.sub
         have y:=b.r
         have p:=g.mono d t
         obtain⟨C,D,n,U,q,e,rfl,rfl,u,w,z⟩:=H0 y
         obtain⟨rfl,T⟩:=Sl.len z
         try dsimp only at a
         have A:=New.sndI (New.sndI (b))
         exact D1 K ⟨(IntKind.i64.wrap (H-1)),C,D,n,e.length,q,e,P,c,rfl,rfl,rfl,(l.trans d),(F0 _),u,w,(New.from A (L.trans l)),p,a⟩
        exact trivial
       exact trivial
      exact trivial
     refine aI ?_ ?_
     ·skip
      refine aT ?_
      refine aI ?_ ?_
      ·skip
       refine aT ?_
       refine aI ?_ ?_
       ·skip
        refine aT ?_
        refine aI ?_ ?_
        ·skip
         refine aT ?_
         obtain⟨B,s,a⟩:=B0 a
         refine Tr.beside g.no (a6 _ _ _ (j0 J m O) [.int .i64 j,.int .i64 (IntKind.i64.wrap (1+i)),.int .i64 f] (j,(IntKind.i64.wrap (1+i)),f) (E1 M (F0 _) F) _  s) ?_
         rintro V c ⟨S,rfl,b⟩ t
         obtain⟨W,X⟩:=B
         dsimp only at a b
         have d:Sub N c:=b.sub
         have y:=b.r
         have p:=g.mono d t
         obtain⟨C,D,n,U,q,e,rfl,rfl,u,w,z⟩:=H0 y
         obtain⟨rfl,T⟩:=Sl.len z
         try dsimp only at a
         have A:=New.sndI (New.sndI (b))
         exact D1 K ⟨(IntKind.i64.wrap (H-1)),C,D,n,e.length,q,e,P,c,rfl,rfl,rfl,(l.trans d),(F0 _),u,w,(New.from A (L.trans l)),p,a⟩
        exact trivial
       exact trivial
      exact trivial
     exact trivial
    refine aI ?_ ?_
    ·skip
     refine aT ?_
     refine aI ?_ ?_
     ·skip
      refine aT ?_
      refine aI ?_ ?_
      ·skip
       refine Tr.mono (I1 _ k o G x ab Q I m _ Z) ?_
       rintro _ _ ⟨rfl,g,rfl⟩
       have F:I0 f:=T0 Y
       refine aT ?_
       refine aI ?_ ?_
       ·skip
        refine aT ?_
        refine aI ?_ ?_
        ·skip
         refine aT ?_
         obtain⟨B,s,a⟩:=B0 a
         refine Tr.beside g.no (a6 _ _ _ (j0 J m O) [.int .i64 j,.int .i64 (IntKind.i64.wrap (1+i)),.int .i64 f] (j,(IntKind.i64.wrap (1+i)),f) (E1 M (F0 _) F) _  s) ?_
         rintro V c ⟨S,rfl,b⟩ t
         obtain⟨W,X⟩:=B
         dsimp only at a b
         have d:Sub N c:=b.sub
         have y:=b.r
         have p:=g.mono d t
         obtain⟨C,D,n,U,q,e,rfl,rfl,u,w,z⟩:=H0 y
         obtain⟨rfl,T⟩:=Sl.len z
         try dsimp only at a
         have A:=New.sndI (New.sndI (b))
         exact D1 K ⟨(IntKind.i64.wrap (H-1)),C,D,n,e.length,q,e,P,c,rfl,rfl,rfl,(l.trans d),(F0 _),u,w,(New.from A (L.trans l)),p,a⟩
        exact trivial
       exact trivial
      exact trivial
     refine aI ?_ ?_
     ·skip
      refine Tr.mono (I1 _ k o G x ab Q I m _ Z) ?_
      rintro _ _ ⟨rfl,g,rfl⟩
      have F:I0 f:=T0 Y
      refine aT ?_
      refine aI ?_ ?_
      ·skip
       refine aT ?_
       refine aI ?_ ?_
       ·skip
        refine aT ?_
        refine aI ?_ ?_
        ·skip
         refine aT ?_
         obtain⟨B,s,a⟩:=B0 a
         refine Tr.beside g.no (a6 _ _ _ (j0 J m O) [.int .i64 j,.int .i64 (IntKind.i64.wrap (1+i)),.int .i64 f] (j,(IntKind.i64.wrap (1+i)),f) (E1 M (F0 _) F) _  s) ?_
         rintro V c ⟨S,rfl,b⟩ t
         obtain⟨W,X⟩:=B
         dsimp only at a b
         have d:Sub N c:=b.sub
         have y:=b.r
         have p:=g.mono d t
         obtain⟨C,D,n,U,q,e,rfl,rfl,u,w,z⟩:=H0 y
         obtain⟨rfl,T⟩:=Sl.len z
         try dsimp only at a
         have A:=New.sndI (New.sndI (b))
         exact D1 K ⟨(IntKind.i64.wrap (H-1)),C,D,n,e.length,q,e,P,c,rfl,rfl,rfl,(l.trans d),(F0 _),u,w,(New.from A (L.trans l)),p,a⟩
        exact trivial
       exact trivial
      exact trivial
     exact trivial
    exact trivial
   refine aI ?_ ?_
   ·skip
    refine aT ?_
    refine aI ?_ ?_
    ·skip
     refine Tr.mono (I1 _ k o G x an af aa J _ al) ?_
     rintro _ _ ⟨rfl,Q,rfl⟩
     have av:I0 i:=T0 ak
     refine aT ?_
     refine aI ?_ ?_
     ·skip
      refine aT ?_
      refine aI ?_ ?_
      ·skip
       refine Tr.mono (I1 _ k o G x ab Q I m _ Z) ?_
       rintro _ _ ⟨rfl,g,rfl⟩
       have F:I0 f:=T0 Y
       refine aT ?_
       refine aI ?_ ?_
       ·skip
        refine aT ?_
        refine aI ?_ ?_
        ·skip
         refine aT ?_
         obtain⟨B,s,a⟩:=B0 a
         refine Tr.beside g.no (a6 _ _ _ (j0 J m O) [.int .i64 j,.int .i64 (IntKind.i64.wrap (1+i)),.int .i64 f] (j,(IntKind.i64.wrap (1+i)),f) (E1 M (F0 _) F) _  s) ?_
         rintro V c ⟨S,rfl,b⟩ t
         obtain⟨W,X⟩:=B
         dsimp only at a b
         have d:Sub N c:=b.sub
         have y:=b.r
         have p:=g.mono d t
         obtain⟨C,D,n,U,q,e,rfl,rfl,u,w,z⟩:=H0 y
         obtain⟨rfl,T⟩:=Sl.len z
         try dsimp only at a
         have A:=New.sndI (New.sndI (b))
         exact D1 K ⟨(IntKind.i64.wrap (H-1)),C,D,n,e.length,q,e,P,c,rfl,rfl,rfl,(l.trans d),(F0 _),u,w,(New.from A (L.trans l)),p,a⟩
        exact trivial
       exact trivial
      exact trivial
     refine aI ?_ ?_
     ·skip
      refine Tr.mono (I1 _ k o G x ab Q I m _ Z) ?_
      rintro _ _ ⟨rfl,g,rfl⟩
      have F:I0 f:=T0 Y
      refine aT ?_
      refine aI ?_ ?_
      ·skip
       refine aT ?_
       refine aI ?_ ?_
       ·skip
        refine aT ?_
        refine aI ?_ ?_
        ·skip
         refine aT ?_
         obtain⟨B,s,a⟩:=B0 a
         refine Tr.beside g.no (a6 _ _ _ (j0 J m O) [.int .i64 j,.int .i64 (IntKind.i64.wrap (1+i)),.int .i64 f] (j,(IntKind.i64.wrap (1+i)),f) (E1 M (F0 _) F) _  s) ?_
         rintro V c ⟨S,rfl,b⟩ t
         obtain⟨W,X⟩:=B
         dsimp only at a b
         have d:Sub N c:=b.sub
         have y:=b.r
         have p:=g.mono d t
         obtain⟨C,D,n,U,q,e,rfl,rfl,u,w,z⟩:=H0 y
         obtain⟨rfl,T⟩:=Sl.len z
         try dsimp only at a
         have A:=New.sndI (New.sndI (b))
         exact D1 K ⟨(IntKind.i64.wrap (H-1)),C,D,n,e.length,q,e,P,c,rfl,rfl,rfl,(l.trans d),(F0 _),u,w,(New.from A (L.trans l)),p,a⟩
        exact trivial
       exact trivial
      exact trivial
     exact trivial
    exact trivial
   exact trivial
  refine aI ?_ ?_
  ·skip
   refine aT ?_
   refine aI ?_ ?_
   ·skip
    refine Tr.mono (I1 _ k o G x ac aj I m _ au) ?_
    rintro _ _ ⟨rfl,af,rfl⟩
    have M:I0 j:=T0 ar
    refine aT ?_
    refine aI ?_ ?_
    ·skip
     refine Tr.mono (I1 _ k o G x an af aa J _ al) ?_
     rintro _ _ ⟨rfl,Q,rfl⟩
     have av:I0 i:=T0 ak
     refine aT ?_
     refine aI ?_ ?_
     ·skip
      refine aT ?_
      refine aI ?_ ?_
      ·skip
       refine Tr.mono (I1 _ k o G x ab Q I m _ Z) ?_
       rintro _ _ ⟨rfl,g,rfl⟩
       have F:I0 f:=T0 Y
       refine aT ?_
       refine aI ?_ ?_
       ·skip
        refine aT ?_
        refine aI ?_ ?_
        ·skip
         refine aT ?_
         obtain⟨B,s,a⟩:=B0 a
         refine Tr.beside g.no (a6 _ _ _ (j0 J m O) [.int .i64 j,.int .i64 (IntKind.i64.wrap (1+i)),.int .i64 f] (j,(IntKind.i64.wrap (1+i)),f) (E1 M (F0 _) F) _  s) ?_
         rintro V c ⟨S,rfl,b⟩ t
         obtain⟨W,X⟩:=B
         dsimp only at a b
         have d:Sub N c:=b.sub
         have y:=b.r
         have p:=g.mono d t
         obtain⟨C,D,n,U,q,e,rfl,rfl,u,w,z⟩:=H0 y
         obtain⟨rfl,T⟩:=Sl.len z
         try dsimp only at a
         have A:=New.sndI (New.sndI (b))
         exact D1 K ⟨(IntKind.i64.wrap (H-1)),C,D,n,e.length,q,e,P,c,rfl,rfl,rfl,(l.trans d),(F0 _),u,w,(New.from A (L.trans l)),p,a⟩
        exact trivial
       exact trivial
      exact trivial
     refine aI ?_ ?_
     ·skip
      refine Tr.mono (I1 _ k o G x ab Q I m _ Z) ?_
      rintro _ _ ⟨rfl,g,rfl⟩
      have F:I0 f:=T0 Y
      refine aT ?_
      refine aI ?_ ?_
      ·skip
       refine aT ?_
       refine aI ?_ ?_
       ·skip
        refine aT ?_
        refine aI ?_ ?_
        ·skip
         refine aT ?_
         obtain⟨B,s,a⟩:=B0 a
         refine Tr.beside g.no (a6 _ _ _ (j0 J m O) [.int .i64 j,.int .i64 (IntKind.i64.wrap (1+i)),.int .i64 f] (j,(IntKind.i64.wrap (1+i)),f) (E1 M (F0 _) F) _  s) ?_
         rintro V c ⟨S,rfl,b⟩ t
         obtain⟨W,X⟩:=B
         dsimp only at a b
         have d:Sub N c:=b.sub
         have y:=b.r
         have p:=g.mono d t
         obtain⟨C,D,n,U,q,e,rfl,rfl,u,w,z⟩:=H0 y
         obtain⟨rfl,T⟩:=Sl.len z
         try dsimp only at a
         have A:=New.sndI (New.sndI (b))
         exact D1 K ⟨(IntKind.i64.wrap (H-1)),C,D,n,e.length,q,e,P,c,rfl,rfl,rfl,(l.trans d),(F0 _),u,w,(New.from A (L.trans l)),p,a⟩
        exact trivial
       exact trivial
      exact trivial
     exact trivial
    exact trivial
   exact trivial
  exact trivial
 ·obtain rfl:=oJ a
  try dsimp only[M0,O0]at E
  obtain rfl:=oJ E
  exact⟨([.int .i64 aa,.int .i64 I,.slice ae ad.length ag]),N,rfl,(New.pair (New.int J) (New.pair (New.int m) ax)),(L.trans l),aj,rfl⟩
theorem u0j(h:Hp)(b:Nat)(c:Value)(g:TypeId)(d:List Int)(u:Int×Int)(I:w8 h b c d u)(r:l0×(Int×Int))(a:c04 d u=some r):
  Tr Tryz.prog 208 #[ptr b 0] (h.set b (D02 c u g)) λv h'=>∃(L:List Value) (t:Hp),v = .agg L.toArray/\New C0 h t L r.1/\Sub h t/\w8 t b c d r.2/\h'=t.set b (D02 c r.2 g):=by
 unfold c04 at a
 refine V1 (args:=[ptr b 0]) (fn:=Tryz.f208) rfl ?_
 obtain⟨bF,aU,a⟩:=B0 a
 obtain⟨ct,V⟩:=bF
 try dsimp only at a
 refine Tr.mono (z0g _ b c g d u I _ aU) ?_
 rintro _ _ ⟨bS,e,rfl,T,f,J,rfl⟩
 have bv:=T.r
 obtain⟨n,o,bR,b8,y,x,rfl,rfl,l,m,bx⟩:=H0 bv
 obtain⟨rfl,b1⟩:=Sl.len bx
 try dsimp only at a
 have q:=New.sndI (New.sndI (T))
 rcases New.two q with⟨rfl,rfl,rfl⟩|⟨z,B,rfl⟩
 ·skip
  obtain⟨bL,aZ,a⟩:=B0 a
  obtain⟨bN,H⟩:=bL
  try dsimp only at a
  refine Tr.mono (I1 _ b c g d V J 14 (by decide) _ aZ) ?_
  rintro _ _ ⟨rfl,k,rfl⟩
  obtain⟨ck,aS,a⟩:=B0 a
  have bU:I0 bN:=T0 aS
  refine ifB a (λa5 a=>?_) λa5 a=>?_
  ·refine Or.inl ?_
   intro cm bV ay
   obtain⟨bp,az,bf,rfl⟩:=S0.beside k.no ay
   obtain⟨aa,ap,rfl,bz,C,b2⟩:=S0.out (r:=Wp.int.toRp) az (show F2 (Wp.int.R e) ([[.int .i64 (-1)],[.int .i64 0],[.int .i64 1],[.int .i64 41]]:List (List Value)) [(-1),0,1,41] from⟨⟨rfl,(by decide)⟩,⟨⟨rfl,(by decide)⟩,⟨⟨rfl,(by decide)⟩,⟨⟨rfl,(by decide)⟩,trivial⟩⟩⟩⟩)
   have af:=k.mono C bf
   obtain⟨bG,aV,a⟩:=B0 a
   obtain⟨U,cs⟩:=bG
   try dsimp only at a
   refine Tr.mono (C9 _ b c g d H af aa ([(-1),0,1,41]).length ap [(-1),0,1,41] bz _ aV) ?_
   rintro _ _ ⟨rfl,ag,rfl⟩
   obtain⟨cb,aJ,a⟩:=B0 a
   have bl:I0 U:=T0 aJ
   obtain rfl:=oJ a
   exact⟨([.int .i64 n,.int .i64 U,.slice none 0 0]),bp,rfl,(New.pair (New.int l) (New.pair (New.int bl) ((New.nilSlice (r:=M1)).mono (f.trans C)))),(f.trans C),ag,rfl⟩
  ·refine ifB a (λba a=>?_) λba a=>?_
   ·refine Or.inl ?_
    intro cn bW aA
    obtain⟨bq,aB,bg,rfl⟩:=S0.beside k.no aA
    obtain⟨ab,aq,rfl,bA,D,b3⟩:=S0.out (r:=Wp.int.toRp) aB (show F2 (Wp.int.R e) ([[.int .i64 0],[.int .i64 1],[.int .i64 4]]:List (List Value)) [0,1,4] from⟨⟨rfl,(by decide)⟩,⟨⟨rfl,(by decide)⟩,⟨⟨rfl,(by decide)⟩,trivial⟩⟩⟩)
    have ah:=k.mono D bg
    obtain⟨bH,aW,a⟩:=B0 a
    obtain⟨W,cu⟩:=bH
    try dsimp only at a
    refine Tr.mono (C9 _ b c g d H ah ab ([0,1,4]).length aq [0,1,4] bA _ aW) ?_
    rintro _ _ ⟨rfl,ai,rfl⟩
    obtain⟨cc,aK,a⟩:=B0 a
    have bm:I0 W:=T0 aK
    obtain rfl:=oJ a
    exact⟨([.int .i64 W,.int .i64 o,.slice none 0 0]),bq,rfl,(New.pair (New.int bm) (New.pair (New.int m) ((New.nilSlice (r:=M1)).mono (f.trans D)))),(f.trans D),ai,rfl⟩
   ·refine ifB a (λbb a=>?_) λbb a=>?_
    ·refine Or.inr (Or.inr (Or.inl (aI (aI (by kernel_rfl) (by kernel_rfl)) ?_)))
     refine Or.inr ?_
     refine Or.inr ?_
     refine Or.inr ?_
     refine Or.inr ?_
     refine Or.inr ?_
     refine Or.inl (eX 0 (aI (aI rfl rfl) ?_))
     obtain⟨bI,aX,a⟩:=B0 a
     obtain⟨i,cv⟩:=bI
     try dsimp only at a
     refine Tr.mono (I1 _ b c g d H k 4 (by decide) _ aX) ?_
     rintro _ _ ⟨rfl,K,rfl⟩
     obtain⟨cd,aL,a⟩:=B0 a
     have A:I0 i:=T0 aL
     refine aT ?_
     refine aT ?_
     refine aT ?_
     refine Or.inl ?_
     obtain⟨ce,aM,a⟩:=B0 a
     refine aI (Z0 aM (F2.length (show F2 (M1.R e) ([[.int .i64 i,.int .i64 1,.int .i64 0]]:List (List Value)) [(i,1,0)] from⟨(E1 A (by decide) (by decide)),trivial⟩))) ?_
     refine aT ?_
     refine aT ?_
     intro co bX aC
     obtain⟨br,M,bh,rfl⟩:=S0.beside K.no aC
     obtain⟨ac,ar,rfl,cl,S,b4⟩:=S0.out (r:=M1.toRp) M (show F2 (M1.R e) ([[.int .i64 i,.int .i64 1,.int .i64 0]]:List (List Value)) [(i,1,0)] from⟨(E1 A (by decide) (by decide)),trivial⟩)
     have aj:=K.mono S bh
     obtain rfl:=oJ a
     exact⟨([.int .i64 n,.int .i64 o,.slice ac ([(i,1,0)]).length ar]),br,rfl,(New.pair (New.int l) (New.pair (New.int m) (New.from (S0.newPlain (r:=M1) M (show F2 (M1.R e) ([[.int .i64 i,.int .i64 1,.int .i64 0]]:List (List Value)) [(i,1,0)] from⟨(E1 A (by decide) (by decide)),trivial⟩) (m09 _)) f))),(f.trans S),aj,rfl⟩
    ·obtain rfl:=oJ a
     exact⟨([.int .i64 n,.int .i64 o,.slice none 0 0]),e,rfl,(New.pair (New.int l) (New.pair (New.int m) ((New.nilSlice (r:=M1)).mono f))),f,k,rfl⟩
 ·skip
  obtain⟨bJ,aY,a⟩:=B0 a
  obtain⟨bK,G⟩:=bJ
  try dsimp only at a
  refine Tr.mono (I1 _ b c g d V J 14 (by decide) _ aY) ?_
  rintro _ _ ⟨rfl,j,rfl⟩
  obtain⟨cf,aN,a⟩:=B0 a
  have bT:I0 bK:=T0 aN
  refine ifB a (λbc a=>?_) λbc a=>?_
  ·refine Or.inl ?_
   intro cp bY aD
   obtain⟨bs,aE,bi,rfl⟩:=S0.beside j.no aD
   obtain⟨ad,au,rfl,bB,E,b5⟩:=S0.out (r:=Wp.int.toRp) aE (show F2 (Wp.int.R e) ([[.int .i64 (-1)],[.int .i64 0],[.int .i64 1],[.int .i64 41]]:List (List Value)) [(-1),0,1,41] from⟨⟨rfl,(by decide)⟩,⟨⟨rfl,(by decide)⟩,⟨⟨rfl,(by decide)⟩,⟨⟨rfl,(by decide)⟩,trivial⟩⟩⟩⟩)
   have ak:=j.mono E bi
   obtain⟨bM,a0,a⟩:=B0 a
   obtain⟨X,cw⟩:=bM
   try dsimp only at a
   refine Tr.mono (C9 _ b c g d G ak ad ([(-1),0,1,41]).length au [(-1),0,1,41] bB _ a0) ?_
   rintro _ _ ⟨rfl,al,rfl⟩
   obtain⟨cg,aO,a⟩:=B0 a
   have bn:I0 X:=T0 aO
   obtain rfl:=oJ a
   exact⟨([.int .i64 n,.int .i64 X,.slice (some ⟨z,B,none⟩) x.length y]),bs,rfl,(New.pair (New.int l) (New.pair (New.int bn) (New.mono q E))),(f.trans E),al,rfl⟩
  ·refine ifB a (λbd a=>?_) λbd a=>?_
   ·refine Or.inl ?_
    intro cq bZ aF
    obtain⟨bt,aG,bj,rfl⟩:=S0.beside j.no aF
    obtain⟨ae,av,rfl,bC,F,b6⟩:=S0.out (r:=Wp.int.toRp) aG (show F2 (Wp.int.R e) ([[.int .i64 0],[.int .i64 1],[.int .i64 4]]:List (List Value)) [0,1,4] from⟨⟨rfl,(by decide)⟩,⟨⟨rfl,(by decide)⟩,⟨⟨rfl,(by decide)⟩,trivial⟩⟩⟩)
    have am:=j.mono F bj
    obtain⟨bO,a1,a⟩:=B0 a
    obtain⟨Y,cx⟩:=bO
    try dsimp only at a
    refine Tr.mono (C9 _ b c g d G am ae ([0,1,4]).length av [0,1,4] bC _ a1) ?_
    rintro _ _ ⟨rfl,an,rfl⟩
    obtain⟨ch,aP,a⟩:=B0 a
    have bo:I0 Y:=T0 aP
    obtain rfl:=oJ a
    exact⟨([.int .i64 Y,.int .i64 o,.slice (some ⟨z,B,none⟩) x.length y]),bt,rfl,(New.pair (New.int bo) (New.pair (New.int m) (New.mono q F))),(f.trans F),an,rfl⟩
   ·refine ifB a (λbe a=>?_) λbe a=>?_
    ·refine Or.inr (Or.inr (Or.inl (aI (aI (by kernel_rfl) (by kernel_rfl)) ?_)))
     refine Or.inr ?_
     refine Or.inr ?_
     refine Or.inr ?_
     refine Or.inr ?_
     refine Or.inr ?_
     refine Or.inl (eX 0 (aI (aI rfl rfl) ?_))
     obtain⟨bP,a2,a⟩:=B0 a
     obtain⟨p,bQ⟩:=bP
     try dsimp only at a
     refine Tr.mono (I1 _ b c g d G j 4 (by decide) _ a2) ?_
     rintro _ _ ⟨rfl,s,rfl⟩
     obtain⟨ci,aQ,a⟩:=B0 a
     have N:I0 p:=T0 aQ
     refine aT ?_
     refine aT ?_
     refine aT ?_
     obtain⟨cj,aR,a⟩:=B0 a
     obtain⟨bE,Q,P,Z⟩:=New.app q (Sub.refl _)
     refine eX bE (aI (x08.setB s.no Q) (aI (Z0 aR (by first|rw[P,F2.length (show F2 (M1.R e) ([[.int .i64 p,.int .i64 1,.int .i64 0]]:List (List Value)) [(p,1,0)] from⟨(E1 N (by decide) (by decide)),trivial⟩)]|(rw[P];rfl))) ?_))
     intro cr b0 a4
     obtain⟨O,aH,bk,rfl⟩:=w0a.beside s.no Q a4
     obtain⟨w,a3,bu,ca,aw,rfl⟩:=Z _ _ _ _ _ (F3.ofPlain (m09 _) (show F2 (M1.R e) ([[.int .i64 p,.int .i64 1,.int .i64 0]]:List (List Value)) [(p,1,0)] from⟨(E1 N (by decide) (by decide)),trivial⟩)) n4.ofPlain aH
     have bD:=w.r
     obtain⟨ax,b7⟩:=Sl.len bD
     subst ax
     have ao:w8 O b c d bQ:=⟨bk,Sl.mono (r:=Rp.u8) w.sub (I.rd),s.pl,s.nm⟩
     refine aT ?_
     refine aT ?_
     obtain rfl:=oJ a
     exact⟨([.int .i64 n,.int .i64 o,.slice (some ⟨a3,bu,none⟩) (x ++ [(p,1,0)]).length aw]),O,rfl,(New.pair (New.int l) (New.pair (New.int m) w)),w.sub,ao,rfl⟩
    ·obtain rfl:=oJ a
     exact⟨([.int .i64 n,.int .i64 o,.slice (some ⟨z,B,none⟩) x.length y]),e,rfl,(New.pair (New.int l) (New.pair (New.int m) q)),f,j,rfl⟩
theorem v0j(h:Hp)(b:Nat)(c:Value)(g:TypeId)(d:List Int)(f:Int×Int)(j:w8 h b c d f)(r:l0×(Int×Int))(a:d04 d f=some r):
  Tr Tryz.prog 209 #[ptr b 0] (h.set b (D02 c f g)) λv h'=>∃(l:List Value) (e:Hp),v = .agg l.toArray/\C0.R e l r.1/\Sub h e/\w8 e b c d r.2/\h'=e.set b (D02 c r.2 g):=by
 unfold d04 at a
 refine V1 (args:=[ptr b 0]) (fn:=Tryz.f209) rfl ?_
 refine Or.inl ?_
 intro aj ab f3
 obtain⟨ac,E,K,rfl⟩:=S0.beside j.no f3
 obtain⟨x,D,rfl,O,s,af⟩:=S0.out (r:=Wp.int.toRp) E (show F2 (Wp.int.R h) ([[.int .i64 1],[.int .i64 2],[.int .i64 2],[.int .i64 2],[.int .i64 2],[.int .i64 3]]:List (List Value)) [1,2,2,2,2,3] from⟨⟨rfl,(by decide)⟩,⟨⟨rfl,(by decide)⟩,⟨⟨rfl,(by decide)⟩,⟨⟨rfl,(by decide)⟩,⟨⟨rfl,(by decide)⟩,⟨⟨rfl,(by decide)⟩,trivial⟩⟩⟩⟩⟩⟩)
 have A:=j.mono s K
 obtain⟨X,I,a⟩:=B0 a
 obtain⟨i,Y⟩:=X
 try dsimp only at a
 refine Tr.mono (C9 _ b c g d f A x ([1,2,2,2,2,3]).length D [1,2,2,2,2,3] O _ I) ?_
 rintro _ _ ⟨rfl,y,rfl⟩
 obtain⟨ai,F,a⟩:=B0 a
 have m:I0 i:=T0 F
 obtain⟨S,G,a⟩:=B0 a
 obtain⟨t,al⟩:=S
 try dsimp only at a
 refine Tr.mono (y0g _ b c g d Y y i m _ G) ?_
 rintro _ _ ⟨u,ag,B,aa,rfl,Q,P,k,rfl⟩
 have n:=Q.r
 obtain⟨rfl,ad⟩:=Sl.len n
 obtain⟨T,H,a⟩:=B0 a
 refine Tr.beside k.no (f0c _ i m u t.length B t n _  H) ?_
 rintro ak N ⟨Z,rfl,o,q⟩ J
 obtain⟨am,an⟩:=T
 dsimp only at a o
 have z:=k.mono q J
 obtain⟨U,V,w,ah,C,W,rfl,rfl,L,M,p⟩:=H0 o
 obtain⟨rfl,ae⟩:=Sl.len p
 try dsimp only at a
 obtain rfl:=oJ a
 exact⟨([.int .i64 U,.int .i64 V,.slice w W.length C]),N,rfl,(j0 L M p),((s.trans P).trans q),z,rfl⟩
theorem w0j(h:Hp)(b:Nat)(c:Value)(e:TypeId)(d:List Int)(g:Int×Int)(p:w8 h b c d g)(r:l0×(Int×Int))(a:e04 d g=some r):
  Tr Tryz.prog 113 #[ptr b 0] (h.set b (D02 c g e)) λv h'=>∃(j:List Value) (f:Hp),v = .agg j.toArray/\C0.R f j r.1/\Sub h f/\w8 f b c d r.2/\h'=f.set b (D02 c r.2 e):=by
 unfold e04 at a
 refine V1 (args:=[ptr b 0]) (fn:=Tryz.f113) rfl ?_
 obtain⟨L,w,a⟩:=B0 a
 obtain⟨ab,m⟩:=L
 try dsimp only at a
 refine Tr.mono (D04 _ b c e d g p 8 (by decide) _ w) ?_
 rintro _ _ ⟨rfl,i,rfl⟩
 refine ifB a (λz a=>?_) λz a=>?_
 ·obtain⟨M,x,a⟩:=B0 a
  obtain⟨ac,ad⟩:=M
  try dsimp only at a
  refine Tr.mono (u0j _ b c e d m i _ x) ?_
  rintro _ _ ⟨V,E,rfl,K,I,s,rfl⟩
  have G:=K.r
  obtain⟨N,O,n,Z,t,P,rfl,rfl,A,B,k⟩:=H0 G
  obtain⟨rfl,X⟩:=Sl.len k
  try dsimp only at a
  obtain rfl:=oJ a
  exact⟨([.int .i64 N,.int .i64 O,.slice n P.length t]),E,rfl,(j0 A B k),I,s,rfl⟩
 ·obtain⟨Q,y,a⟩:=B0 a
  obtain⟨ae,af⟩:=Q
  try dsimp only at a
  refine Tr.mono (v0j _ b c e d m i _ y) ?_
  rintro _ _ ⟨W,F,rfl,H,J,q,rfl⟩
  obtain⟨S,T,o,aa,u,U,rfl,rfl,C,D,l⟩:=H0 H
  obtain⟨rfl,Y⟩:=Sl.len l
  try dsimp only at a
  obtain rfl:=oJ a
  exact⟨([.int .i64 S,.int .i64 T,.slice o U.length u]),F,rfl,(j0 C D l),J,q,rfl⟩
end Go.Proofs.YtmgikbbmpnbbjaaGreat
