/- Texts of the claim, joined: The walks of batch d30 and others. -/
import Derived.Test.YtfphndijjmdiiaaGreatPart18
import Derived.Test.YtfphndijjmdiiaaGreatChecked
import Derived.Test.YtfphndijjmdiiaaGreatH35
import Derived.Test.YtfphndijjmdiiaaGreatPart23
import Derived.Test.YtfphndijjmdiiaaGreatPart26
import Derived.Test.YtfphndijjmdiiaaGreatH45
import Derived.Test.YtfphndijjmdiiaaGreatH41
import Derived.Test.YtfphndijjmdiiaaGreatPart17
import Derived.Test.YtfphndijjmdiiaaGreatH36
import Derived.Test.YtfphndijjmdiiaaGreatH50
import Derived.Test.YtfphndijjmdiiaaGreatEQ
namespace Go.Proofs.YtfphndijjmdiiaaGreat
open Go.H
set_option linter.unusedVariables false
set_option linter.unusedSimpArgs false
set_option maxRecDepth 10000
set_option maxHeartbeats 0
theorem p03(h:Hp)(b:Nat)(d:Value)(i:TypeId)(e:List Int)(g:Int×Int)(cc:r00 h b d e g)(r:l0×(Int×Int))(a:p8 e g=some r):
  Tr Tryz.prog 29 #[ptr b 0] (h.set b (p04 d g i)) λv h'=>∃(o:List Value) (f:Hp),v = .agg o.toArray/\Q1.R f o r.1/\Sub h f/\r00 f b d e r.2/\h'=f.set b (p04 d r.2 i):=by
 unfold p8 at a
 refine T3 (args:=[ptr b 0]) (fn:=Tryz.f29) rfl ?_
 obtain⟨aR,ak,a⟩:=B0 a
 obtain⟨aS,aU⟩:=aR
 try dsimp only at a
 refine Tr.mono (G1 _ b d i e g cc 4 (by decide) _ ak) ?_
 rintro _ _ ⟨rfl,c,rfl⟩
 obtain⟨bg,aj,a⟩:=B0 a
 have aZ:H0 aS:=C1 aj
 refine ifB a (λap a=>?_) λap a=>?_
 ·intro bn a5 ai
  obtain⟨aG,X,aq,rfl⟩:=U0.beside c.no ai
  obtain⟨E,Q,rfl,aJ,u,a8⟩:=U0.out (r:=Wp.int.toRp) X (show F2 (Wp.int.R h) ([[.int .i64 1],[.int .i64 1],[.int .i64 2],[.int .i64 1],[.int .i64 2],[.int .i64 2],[.int .i64 1],[.int .i64 (-2)],[.int .i64 (-2)],[.int .i64 (-1)],[.int .i64 2],[.int .i64 (-1)],[.int .i64 (-1)],[.int .i64 (-2)]]:List (List Value)) [1,1,2,1,2,2,1,(-2),(-2),(-1),2,(-1),(-1),(-2)] from⟨⟨rfl,(by decide)⟩,⟨⟨rfl,(by decide)⟩,⟨⟨rfl,(by decide)⟩,⟨⟨rfl,(by decide)⟩,⟨⟨rfl,(by decide)⟩,⟨⟨rfl,(by decide)⟩,⟨⟨rfl,(by decide)⟩,⟨⟨rfl,(by decide)⟩,⟨⟨rfl,(by decide)⟩,⟨⟨rfl,(by decide)⟩,⟨⟨rfl,(by decide)⟩,⟨⟨rfl,(by decide)⟩,⟨⟨rfl,(by decide)⟩,⟨⟨rfl,(by decide)⟩,trivial⟩⟩⟩⟩⟩⟩⟩⟩⟩⟩⟩⟩⟩⟩)
  have k:=c.mono u aq
  intro bh a0 Y
  obtain⟨aA,Z,ar,rfl⟩:=U0.beside k.no Y
  obtain⟨F,S,rfl,aK,w,a9⟩:=U0.out (r:=C0.toRp) Z (show F2 (C0.R aG) ([[.slice E ([1,1,2,1,2,2,1,(-2),(-2),(-1),2,(-1),(-1),(-2)]).length Q]]:List (List Value)) [[1,1,2,1,2,2,1,(-2),(-2),(-1),2,(-1),(-1),(-2)]] from⟨aJ,trivial⟩)
  have K:=k.mono w ar
  obtain rfl:=oJ a
  exact⟨([.int .i64 2,.slice F ([[1,1,2,1,2,2,1,(-2),(-2),(-1),2,(-1),(-1),(-2)]]).length S]),aA,rfl,(M0 (by decide) aK),(u.trans w),K,rfl⟩
 ·refine ifB a (λan a=>?_) λan a=>?_
  ·intro bi a1 aa
   obtain⟨aB,ab,au,rfl⟩:=U0.beside c.no aa
   obtain⟨G,T,rfl,aL,x,ba⟩:=U0.out (r:=Wp.int.toRp) ab (show F2 (Wp.int.R h) ([[.int .i64 1],[.int .i64 2],[.int .i64 3],[.int .i64 (-1)],[.int .i64 (-2)],[.int .i64 (-3)],[.int .i64 1],[.int .i64 1],[.int .i64 2],[.int .i64 2],[.int .i64 3],[.int .i64 3]]:List (List Value)) [1,2,3,(-1),(-2),(-3),1,1,2,2,3,3] from⟨⟨rfl,(by decide)⟩,⟨⟨rfl,(by decide)⟩,⟨⟨rfl,(by decide)⟩,⟨⟨rfl,(by decide)⟩,⟨⟨rfl,(by decide)⟩,⟨⟨rfl,(by decide)⟩,⟨⟨rfl,(by decide)⟩,⟨⟨rfl,(by decide)⟩,⟨⟨rfl,(by decide)⟩,⟨⟨rfl,(by decide)⟩,⟨⟨rfl,(by decide)⟩,⟨⟨rfl,(by decide)⟩,trivial⟩⟩⟩⟩⟩⟩⟩⟩⟩⟩⟩⟩)
   have l:=c.mono x au
   intro bj a2 ac
   obtain⟨aC,ad,av,rfl⟩:=U0.beside l.no ac
   obtain⟨H,U,rfl,aM,y,bb⟩:=U0.out (r:=C0.toRp) ad (show F2 (C0.R aB) ([[.slice G ([1,2,3,(-1),(-2),(-3),1,1,2,2,3,3]).length T]]:List (List Value)) [[1,2,3,(-1),(-2),(-3),1,1,2,2,3,3]] from⟨aL,trivial⟩)
   have L:=l.mono y av
   obtain rfl:=oJ a
   exact⟨([.int .i64 3,.slice H ([[1,2,3,(-1),(-2),(-3),1,1,2,2,3,3]]).length U]),aC,rfl,(M0 (by decide) aM),(x.trans y),L,rfl⟩
  ·refine ifB a (λao a=>?_) λao a=>?_
   ·refine Or.inl ?_
    intro bk a3 ae
    obtain⟨aD,af,aw,rfl⟩:=U0.beside c.no ae
    obtain⟨I,V,rfl,aN,z,bc⟩:=U0.out (r:=Wp.int.toRp) af (show F2 (Wp.int.R h) ([[.int .i64 1]]:List (List Value)) [1] from⟨⟨rfl,(by decide)⟩,trivial⟩)
    have m:=c.mono z aw
    obtain⟨j,al,a⟩:=B0 a
    refine Tr.beside m.no (d6 _ I ([1]).length V [1] aN 7 (by decide) _  al) ?_
    rintro bl p ⟨C,be,O,rfl,B⟩ ax
    have t:Sub aD p:=B.sub
    have q:=B.r
    have n:=m.mono t ax
    obtain⟨rfl,a6⟩:=Sl.len q
    intro bm a4 ag
    obtain⟨aE,ah,ay,rfl⟩:=U0.beside n.no ag
    obtain⟨J,W,rfl,aO,A,bd⟩:=U0.out (r:=C0.toRp) ah (show F2 (C0.R p) ([[.slice C j.length O]]:List (List Value)) [j] from⟨q,trivial⟩)
    have M:=n.mono A ay
    obtain rfl:=oJ a
    exact⟨([.int .i64 1,.slice J ([j]).length W]),aE,rfl,(M0 (by decide) aO),((z.trans t).trans A),M,rfl⟩
   ·obtain⟨aV,am,a⟩:=B0 a
    obtain⟨bo,bp⟩:=aV
    try dsimp only at a
    refine Tr.mono (U0g _ b d i e aU c _ am) ?_
    rintro _ _ ⟨aY,aF,rfl,aQ,aP,N,rfl⟩
    have aH:=aQ.r
    obtain⟨aW,D,bf,P,aX,rfl,rfl,az,s⟩:=I1 aH
    obtain⟨rfl,a7⟩:=Sl.len s
    try dsimp only at a
    obtain rfl:=oJ a
    exact⟨([.int .i64 aW,.slice D aX.length P]),aF,rfl,(M0 az s),aP,N,rfl⟩
theorem v07(h:Hp)(q:Nat)(t:Value)(w:TypeId)(u:List Int)(ah:Int×Int)(cc:r00 h q t u ah)(al:List Value)(ap:l0)(aM:Q1.R h al ap)(r:C01×(Int×Int))(af:n00 u ah ap=some r):
  Tr Tryz.prog 30 #[ptr q 0,.agg al.toArray] (h.set q (p04 t ah w)) λv h'=>∃(aj:Option Addr) (ao ak:Nat) (ag:Hp),v = .slice aj ao ak/\New b08 h ag [.slice aj ao ak] r.1/\Sub h ag/\r00 ag q t u r.2/\h'=ag.set q (p04 t r.2 w):=by
 obtain⟨s,au,aZ,ay,M,rfl,rfl,ac,aN⟩:=I1 aM
 obtain⟨rfl,Y⟩:=Sl.len aN
 unfold n00 at af
 dsimp only at af
 refine T3 (args:=[ptr q 0,.agg #[.int .i64 s,.slice au M.length ay]]) (fn:=Tryz.f30) rfl ?_
 obtain⟨aP,aE,af⟩:=B0 af
 obtain⟨ar,aS⟩:=aP
 try dsimp only at af
 refine Tr.mono (G1 _ q t w u ah cc 4 (by decide) _ aE) ?_
 rintro _ _ ⟨rfl,aw,rfl⟩
 obtain⟨a1,aD,af⟩:=B0 af
 have aK:H0 ar:=C1 aD
 obtain⟨ai,aF,af⟩:=B0 af
 refine eX { vars:=[6],boxes:=[],owns:=[0],fuel:=true } (eX (λvs os aJ=>∃(y:Int) (z:List (List Value)) (x:List i00) (u8:Int×Int) (h':Hp),vs.tail = [.int .i64 y]/\os = [z]/\aJ=h'.set q (p04 t u8 w)/\Sub h h'/\H0 y/\F2 (I0.R h') z x/\(∃ Bs,F3 (I0.W h') z x Bs/\R4 h Bs.flatten)/\r00 h' q t u u8/\M5 u s M (W1 vs) y x u8=some ai) (eX (λ_ _=>0) ?_))
 refine aI (eX W0 ⟨ar,[],([]:C01),aS,h,rfl,rfl,rfl,(Sub.refl _),aK,(show F2 (I0.R h) ([]:List (List Value)) ([]:C01) from trivial),⟨_,(show F3 (I0.W h) [] [] [] from trivial),(R4.nil h)⟩,aw,aF⟩) ?_
 rintro a3 z A _ ⟨y,a4,x,u8,aX,aB,aA,rfl,l,aV,j,⟨aU,m,B⟩,aa,b⟩
 cases aB
 cases aA
 replace b:M5 u s M A y x u8=some ai:=b
 obtain _|A:=A
 ·cases b
 rw[M5.eq_2]at b
 refine ifB b (λaG b=>?_) λaG b=>?_
 ·refine Or.inr (Or.inr (Or.inl (aI (aI (by kernel_rfl) (by kernel_rfl)) ?_)))
  refine Or.inr ?_
  refine Or.inr ?_
  refine Or.inr ?_
  refine Or.inr ?_
  refine Or.inr ?_
  refine Or.inr ?_
  refine Or.inr ?_
  refine Or.inr ?_
  refine Or.inr (eX 99 (eX 0 (aI rfl ?_)))
  obtain⟨aQ,ab,b⟩:=B0 b
  obtain⟨c,Z⟩:=aQ
  try dsimp only at b
  obtain⟨aR,X,b⟩:=B0 b
  obtain⟨a,O⟩:=aR
  try dsimp only at b
  obtain⟨a0,V,b⟩:=B0 b
  refine aI ?_ ?_
  ·skip
   refine aT ?_
   refine aI ?_ ?_
   ·skip
    refine aT ?_
    refine aI ?_ ?_
    ·skip
     refine Tr.mono (H4 _ q t w u u8 aa (if(if 3<s then 3 else s)>1 then(if 3<s then 3 else s)else 1) (l3 (l3 (by decide) ac) (by decide)) 3 (by decide) _ ab) ?_
     rintro _ _ ⟨f,ae,g,i,rfl,n,d,N,rfl⟩
     have k:=n.r
     obtain⟨rfl,ad⟩:=Sl.len k
     refine aT ?_
     refine aI ?_ ?_
     ·skip
      refine aT ?_
      refine aI ?_ ?_
      ·skip
       refine Tr.mono (G1 _ q t w u Z N (if((M.length:Nat):Int)>1 then((M.length:Nat):Int)else 1) (l3 (q00 Y) (by decide)) _ X) ?_
       rintro _ _ ⟨rfl,L,rfl⟩
       have e:H0 a:=C1 V
       refine aT ?_
       refine aI ?_ ?_
       ·skip
        refine aT ?_
        refine aI ?_ ?_
        ·skip
         refine aT ?_
         refine aI ?_ ?_
         ·skip
          refine aT ?_
          obtain⟨K,G,b⟩:=B0 b
          obtain⟨U,p⟩:=K
          try dsimp only at b
          refine Tr.mono (Y1 _ q t w u O L 2 (by decide) _ G) ?_
          rintro _ _ ⟨rfl,o,rfl⟩
          refine ifB b (λH b=>?_) λH b=>?_
          ·obtain⟨S,E,b⟩:=B0 b
           refine aI (T0 E (by first|rw[F2.length (F2.up (r:=I0.toRp) d j),F2.length (show F2 (I0.R i) ([[.slice f c.length g,.int .i64 a,.int .i64 (-1)]]:List (List Value)) [(c,a,(-1))] from⟨(N0 k e (by decide)),trivial⟩)]|exact congrArg (·+1) (F2.length (F2.up (r:=I0.toRp) d j)))) ?_
           obtain⟨P,I,C,_⟩:=(New.pair n (New.pair (New.int e) (New.int (show H0 ((-1)) from(by decide)))))
           exact U1 A ⟨(IntKind.i64.wrap (y-1)),(z++([[.slice f c.length g,.int .i64 a,.int .i64 (-1)]]:List (List Value))),(x ++ [(c,a,(-1))]),p,i,rfl,rfl,rfl,(l.trans d),(F0 _),(F2.append (F2.up (r:=I0.toRp) d j) (show F2 (I0.R i) ([[.slice f c.length g,.int .i64 a,.int .i64 (-1)]]:List (List Value)) [(c,a,(-1))] from⟨(N0 k e (by decide)),trivial⟩)),⟨_,(F3.snoc I (M2 m d)),(V0 m l B C)⟩,o,b⟩
          ·obtain⟨T,F,b⟩:=B0 b
           refine aI (T0 F (by first|rw[F2.length (F2.up (r:=I0.toRp) d j),F2.length (show F2 (I0.R i) ([[.slice f c.length g,.int .i64 a,.int .i64 1]]:List (List Value)) [(c,a,1)] from⟨(N0 k e (by decide)),trivial⟩)]|exact congrArg (·+1) (F2.length (F2.up (r:=I0.toRp) d j)))) ?_
           obtain⟨Q,J,D,_⟩:=(New.pair n (New.pair (New.int e) (New.int (show H0 (1) from(by decide)))))
           exact U1 A ⟨(IntKind.i64.wrap (y-1)),(z++([[.slice f c.length g,.int .i64 a,.int .i64 1]]:List (List Value))),(x ++ [(c,a,1)]),p,i,rfl,rfl,rfl,(l.trans d),(F0 _),(F2.append (F2.up (r:=I0.toRp) d j) (show F2 (I0.R i) ([[.slice f c.length g,.int .i64 a,.int .i64 1]]:List (List Value)) [(c,a,1)] from⟨(N0 k e (by decide)),trivial⟩)),⟨_,(F3.snoc J (M2 m d)),(V0 m l B D)⟩,o,b⟩
         exact trivial
        exact trivial
       refine aI ?_ ?_
       ·skip
        refine aT ?_
        refine aI ?_ ?_
        ·skip
         refine aT ?_
         refine aI ?_ ?_
         ·skip
          refine aT ?_
          obtain⟨K,G,b⟩:=B0 b
          obtain⟨U,p⟩:=K
          try dsimp only at b
          refine Tr.mono (Y1 _ q t w u O L 2 (by decide) _ G) ?_
          rintro _ _ ⟨rfl,o,rfl⟩
          refine ifB b (λH b=>?_) λH b=>?_
          ·obtain⟨S,E,b⟩:=B0 b
           refine aI (T0 E (by first|rw[F2.length (F2.up (r:=I0.toRp) d j),F2.length (show F2 (I0.R i) ([[.slice f c.length g,.int .i64 a,.int .i64 (-1)]]:List (List Value)) [(c,a,(-1))] from⟨(N0 k e (by decide)),trivial⟩)]|exact congrArg (·+1) (F2.length (F2.up (r:=I0.toRp) d j)))) ?_
           obtain⟨P,I,C,_⟩:=(New.pair n (New.pair (New.int e) (New.int (show H0 ((-1)) from(by decide)))))
           exact U1 A ⟨(IntKind.i64.wrap (y-1)),(z++([[.slice f c.length g,.int .i64 a,.int .i64 (-1)]]:List (List Value))),(x ++ [(c,a,(-1))]),p,i,rfl,rfl,rfl,(l.trans d),(F0 _),(F2.append (F2.up (r:=I0.toRp) d j) (show F2 (I0.R i) ([[.slice f c.length g,.int .i64 a,.int .i64 (-1)]]:List (List Value)) [(c,a,(-1))] from⟨(N0 k e (by decide)),trivial⟩)),⟨_,(F3.snoc I (M2 m d)),(V0 m l B C)⟩,o,b⟩
          ·obtain⟨T,F,b⟩:=B0 b
           refine aI (T0 F (by first|rw[F2.length (F2.up (r:=I0.toRp) d j),F2.length (show F2 (I0.R i) ([[.slice f c.length g,.int .i64 a,.int .i64 1]]:List (List Value)) [(c,a,1)] from⟨(N0 k e (by decide)),trivial⟩)]|exact congrArg (·+1) (F2.length (F2.up (r:=I0.toRp) d j)))) ?_
           obtain⟨Q,J,D,_⟩:=(New.pair n (New.pair (New.int e) (New.int (show H0 (1) from(by decide)))))
           exact U1 A ⟨(IntKind.i64.wrap (y-1)),(z++([[.slice f c.length g,.int .i64 a,.int .i64 1]]:List (List Value))),(x ++ [(c,a,1)]),p,i,rfl,rfl,rfl,(l.trans d),(F0 _),(F2.append (F2.up (r:=I0.toRp) d j) (show F2 (I0.R i) ([[.slice f c.length g,.int .i64 a,.int .i64 1]]:List (List Value)) [(c,a,1)] from⟨(N0 k e (by decide)),trivial⟩)),⟨_,(F3.snoc J (M2 m d)),(V0 m l B D)⟩,o,b⟩
         exact trivial
        exact trivial
       exact trivial
      refine aI ?_ ?_
      ·skip
       refine aT ?_
       refine aI ?_ ?_
       ·skip
        refine Tr.mono (G1 _ q t w u Z N (if((M.length:Nat):Int)>1 then((M.length:Nat):Int)else 1) (l3 (q00 Y) (by decide)) _ X) ?_
        rintro _ _ ⟨rfl,L,rfl⟩
        have e:H0 a:=C1 V
        refine aT ?_
        refine aI ?_ ?_
        ·skip
         refine aT ?_
         refine aI ?_ ?_
         ·skip
          refine aT ?_
          obtain⟨K,G,b⟩:=B0 b
          obtain⟨U,p⟩:=K
          try dsimp only at b
          refine Tr.mono (Y1 _ q t w u O L 2 (by decide) _ G) ?_
          rintro _ _ ⟨rfl,o,rfl⟩
          refine ifB b (λH b=>?_) λH b=>?_
          ·obtain⟨S,E,b⟩:=B0 b
           refine aI (T0 E (by first|rw[F2.length (F2.up (r:=I0.toRp) d j),F2.length (show F2 (I0.R i) ([[.slice f c.length g,.int .i64 a,.int .i64 (-1)]]:List (List Value)) [(c,a,(-1))] from⟨(N0 k e (by decide)),trivial⟩)]|exact congrArg (·+1) (F2.length (F2.up (r:=I0.toRp) d j)))) ?_
           obtain⟨P,I,C,_⟩:=(New.pair n (New.pair (New.int e) (New.int (show H0 ((-1)) from(by decide)))))
           exact U1 A ⟨(IntKind.i64.wrap (y-1)),(z++([[.slice f c.length g,.int .i64 a,.int .i64 (-1)]]:List (List Value))),(x ++ [(c,a,(-1))]),p,i,rfl,rfl,rfl,(l.trans d),(F0 _),(F2.append (F2.up (r:=I0.toRp) d j) (show F2 (I0.R i) ([[.slice f c.length g,.int .i64 a,.int .i64 (-1)]]:List (List Value)) [(c,a,(-1))] from⟨(N0 k e (by decide)),trivial⟩)),⟨_,(F3.snoc I (M2 m d)),(V0 m l B C)⟩,o,b⟩
          ·obtain⟨T,F,b⟩:=B0 b
           refine aI (T0 F (by first|rw[F2.length (F2.up (r:=I0.toRp) d j),F2.length (show F2 (I0.R i) ([[.slice f c.length g,.int .i64 a,.int .i64 1]]:List (List Value)) [(c,a,1)] from⟨(N0 k e (by decide)),trivial⟩)]|exact congrArg (·+1) (F2.length (F2.up (r:=I0.toRp) d j)))) ?_
           obtain⟨Q,J,D,_⟩:=(New.pair n (New.pair (New.int e) (New.int (show H0 (1) from(by decide)))))
           exact U1 A ⟨(IntKind.i64.wrap (y-1)),(z++([[.slice f c.length g,.int .i64 a,.int .i64 1]]:List (List Value))),(x ++ [(c,a,1)]),p,i,rfl,rfl,rfl,(l.trans d),(F0 _),(F2.append (F2.up (r:=I0.toRp) d j) (show F2 (I0.R i) ([[.slice f c.length g,.int .i64 a,.int .i64 1]]:List (List Value)) [(c,a,1)] from⟨(N0 k e (by decide)),trivial⟩)),⟨_,(F3.snoc J (M2 m d)),(V0 m l B D)⟩,o,b⟩
         exact trivial
        exact trivial
       exact trivial
      exact trivial
     refine aI ?_ ?_
     ·skip
      refine aT ?_
      refine aI ?_ ?_
      ·skip
       refine aT ?_
       refine aI ?_ ?_
       ·skip
        refine Tr.mono (G1 _ q t w u Z N (if((M.length:Nat):Int)>1 then((M.length:Nat):Int)else 1) (l3 (q00 Y) (by decide)) _ X) ?_
        rintro _ _ ⟨rfl,L,rfl⟩
        have e:H0 a:=C1 V
        refine aT ?_
        refine aI ?_ ?_
        ·skip
         refine aT ?_
         refine aI ?_ ?_
         ·skip
          refine aT ?_
          obtain⟨K,G,b⟩:=B0 b
          obtain⟨U,p⟩:=K
          try dsimp only at b
          refine Tr.mono (Y1 _ q t w u O L 2 (by decide) _ G) ?_
          rintro _ _ ⟨rfl,o,rfl⟩
          refine ifB b (λH b=>?_) λH b=>?_
          ·obtain⟨S,E,b⟩:=B0 b
           refine aI (T0 E (by first|rw[F2.length (F2.up (r:=I0.toRp) d j),F2.length (show F2 (I0.R i) ([[.slice f c.length g,.int .i64 a,.int .i64 (-1)]]:List (List Value)) [(c,a,(-1))] from⟨(N0 k e (by decide)),trivial⟩)]|exact congrArg (·+1) (F2.length (F2.up (r:=I0.toRp) d j)))) ?_
           obtain⟨P,I,C,_⟩:=(New.pair n (New.pair (New.int e) (New.int (show H0 ((-1)) from(by decide)))))
           exact U1 A ⟨(IntKind.i64.wrap (y-1)),(z++([[.slice f c.length g,.int .i64 a,.int .i64 (-1)]]:List (List Value))),(x ++ [(c,a,(-1))]),p,i,rfl,rfl,rfl,(l.trans d),(F0 _),(F2.append (F2.up (r:=I0.toRp) d j) (show F2 (I0.R i) ([[.slice f c.length g,.int .i64 a,.int .i64 (-1)]]:List (List Value)) [(c,a,(-1))] from⟨(N0 k e (by decide)),trivial⟩)),⟨_,(F3.snoc I (M2 m d)),(V0 m l B C)⟩,o,b⟩
          ·obtain⟨T,F,b⟩:=B0 b
           refine aI (T0 F (by first|rw[F2.length (F2.up (r:=I0.toRp) d j),F2.length (show F2 (I0.R i) ([[.slice f c.length g,.int .i64 a,.int .i64 1]]:List (List Value)) [(c,a,1)] from⟨(N0 k e (by decide)),trivial⟩)]|exact congrArg (·+1) (F2.length (F2.up (r:=I0.toRp) d j)))) ?_
           obtain⟨Q,J,D,_⟩:=(New.pair n (New.pair (New.int e) (New.int (show H0 (1) from(by decide)))))
           exact U1 A ⟨(IntKind.i64.wrap (y-1)),(z++([[.slice f c.length g,.int .i64 a,.int .i64 1]]:List (List Value))),(x ++ [(c,a,1)]),p,i,rfl,rfl,rfl,(l.trans d),(F0 _),(F2.append (F2.up (r:=I0.toRp) d j) (show F2 (I0.R i) ([[.slice f c.length g,.int .i64 a,.int .i64 1]]:List (List Value)) [(c,a,1)] from⟨(N0 k e (by decide)),trivial⟩)),⟨_,(F3.snoc J (M2 m d)),(V0 m l B D)⟩,o,b⟩
         exact trivial
        exact trivial
       exact trivial
      exact trivial
     exact trivial
    refine aI ?_ ?_
    ·skip
     refine aT ?_
     refine aI ?_ ?_
     ·skip
      refine Tr.mono (H4 _ q t w u u8 aa (if(if 3<s then 3 else s)>1 then(if 3<s then 3 else s)else 1) (l3 (l3 (by decide) ac) (by decide)) 3 (by decide) _ ab) ?_
      rintro _ _ ⟨f,ae,g,i,rfl,n,d,N,rfl⟩
      have k:=n.r
      obtain⟨rfl,ad⟩:=Sl.len k
      refine aT ?_
      refine aI ?_ ?_
      ·skip
       refine Tr.mono (G1 _ q t w u Z N (if((M.length:Nat):Int)>1 then((M.length:Nat):Int)else 1) (l3 (q00 Y) (by decide)) _ X) ?_
       rintro _ _ ⟨rfl,L,rfl⟩
       have e:H0 a:=C1 V
       refine aT ?_
       refine aI ?_ ?_
       ·skip
        refine aT ?_
        refine aI ?_ ?_
        ·skip
         refine aT ?_
         refine aI ?_ ?_
         ·skip
          refine aT ?_
          obtain⟨K,G,b⟩:=B0 b
          obtain⟨U,p⟩:=K
          try dsimp only at b
          refine Tr.mono (Y1 _ q t w u O L 2 (by decide) _ G) ?_
          rintro _ _ ⟨rfl,o,rfl⟩
          refine ifB b (λH b=>?_) λH b=>?_
          ·obtain⟨S,E,b⟩:=B0 b
           refine aI (T0 E (by first|rw[F2.length (F2.up (r:=I0.toRp) d j),F2.length (show F2 (I0.R i) ([[.slice f c.length g,.int .i64 a,.int .i64 (-1)]]:List (List Value)) [(c,a,(-1))] from⟨(N0 k e (by decide)),trivial⟩)]|exact congrArg (·+1) (F2.length (F2.up (r:=I0.toRp) d j)))) ?_
           obtain⟨P,I,C,_⟩:=(New.pair n (New.pair (New.int e) (New.int (show H0 ((-1)) from(by decide)))))
           exact U1 A ⟨(IntKind.i64.wrap (y-1)),(z++([[.slice f c.length g,.int .i64 a,.int .i64 (-1)]]:List (List Value))),(x ++ [(c,a,(-1))]),p,i,rfl,rfl,rfl,(l.trans d),(F0 _),(F2.append (F2.up (r:=I0.toRp) d j) (show F2 (I0.R i) ([[.slice f c.length g,.int .i64 a,.int .i64 (-1)]]:List (List Value)) [(c,a,(-1))] from⟨(N0 k e (by decide)),trivial⟩)),⟨_,(F3.snoc I (M2 m d)),(V0 m l B C)⟩,o,b⟩
          ·obtain⟨T,F,b⟩:=B0 b
           refine aI (T0 F (by first|rw[F2.length (F2.up (r:=I0.toRp) d j),F2.length (show F2 (I0.R i) ([[.slice f c.length g,.int .i64 a,.int .i64 1]]:List (List Value)) [(c,a,1)] from⟨(N0 k e (by decide)),trivial⟩)]|exact congrArg (·+1) (F2.length (F2.up (r:=I0.toRp) d j)))) ?_
           obtain⟨Q,J,D,_⟩:=(New.pair n (New.pair (New.int e) (New.int (show H0 (1) from(by decide)))))
           exact U1 A ⟨(IntKind.i64.wrap (y-1)),(z++([[.slice f c.length g,.int .i64 a,.int .i64 1]]:List (List Value))),(x ++ [(c,a,1)]),p,i,rfl,rfl,rfl,(l.trans d),(F0 _),(F2.append (F2.up (r:=I0.toRp) d j) (show F2 (I0.R i) ([[.slice f c.length g,.int .i64 a,.int .i64 1]]:List (List Value)) [(c,a,1)] from⟨(N0 k e (by decide)),trivial⟩)),⟨_,(F3.snoc J (M2 m d)),(V0 m l B D)⟩,o,b⟩
         exact trivial
        exact trivial
       refine aI ?_ ?_
       ·skip
        refine aT ?_
        refine aI ?_ ?_
        ·skip
         refine aT ?_
         refine aI ?_ ?_
         ·skip
          refine aT ?_
          obtain⟨K,G,b⟩:=B0 b
          obtain⟨U,p⟩:=K
          try dsimp only at b
          refine Tr.mono (Y1 _ q t w u O L 2 (by decide) _ G) ?_
          rintro _ _ ⟨rfl,o,rfl⟩
          refine ifB b (λH b=>?_) λH b=>?_
          ·obtain⟨S,E,b⟩:=B0 b
           refine aI (T0 E (by first|rw[F2.length (F2.up (r:=I0.toRp) d j),F2.length (show F2 (I0.R i) ([[.slice f c.length g,.int .i64 a,.int .i64 (-1)]]:List (List Value)) [(c,a,(-1))] from⟨(N0 k e (by decide)),trivial⟩)]|exact congrArg (·+1) (F2.length (F2.up (r:=I0.toRp) d j)))) ?_
           obtain⟨P,I,C,_⟩:=(New.pair n (New.pair (New.int e) (New.int (show H0 ((-1)) from(by decide)))))
           exact U1 A ⟨(IntKind.i64.wrap (y-1)),(z++([[.slice f c.length g,.int .i64 a,.int .i64 (-1)]]:List (List Value))),(x ++ [(c,a,(-1))]),p,i,rfl,rfl,rfl,(l.trans d),(F0 _),(F2.append (F2.up (r:=I0.toRp) d j) (show F2 (I0.R i) ([[.slice f c.length g,.int .i64 a,.int .i64 (-1)]]:List (List Value)) [(c,a,(-1))] from⟨(N0 k e (by decide)),trivial⟩)),⟨_,(F3.snoc I (M2 m d)),(V0 m l B C)⟩,o,b⟩
          ·obtain⟨T,F,b⟩:=B0 b
           refine aI (T0 F (by first|rw[F2.length (F2.up (r:=I0.toRp) d j),F2.length (show F2 (I0.R i) ([[.slice f c.length g,.int .i64 a,.int .i64 1]]:List (List Value)) [(c,a,1)] from⟨(N0 k e (by decide)),trivial⟩)]|exact congrArg (·+1) (F2.length (F2.up (r:=I0.toRp) d j)))) ?_
           obtain⟨Q,J,D,_⟩:=(New.pair n (New.pair (New.int e) (New.int (show H0 (1) from(by decide)))))
           exact U1 A ⟨(IntKind.i64.wrap (y-1)),(z++([[.slice f c.length g,.int .i64 a,.int .i64 1]]:List (List Value))),(x ++ [(c,a,1)]),p,i,rfl,rfl,rfl,(l.trans d),(F0 _),(F2.append (F2.up (r:=I0.toRp) d j) (show F2 (I0.R i) ([[.slice f c.length g,.int .i64 a,.int .i64 1]]:List (List Value)) [(c,a,1)] from⟨(N0 k e (by decide)),trivial⟩)),⟨_,(F3.snoc J (M2 m d)),(V0 m l B D)⟩,o,b⟩
         exact trivial
        exact trivial
       exact trivial
      refine aI ?_ ?_
      ·skip
       refine aT ?_
       refine aI ?_ ?_
       ·skip
        refine Tr.mono (G1 _ q t w u Z N (if((M.length:Nat):Int)>1 then((M.length:Nat):Int)else 1) (l3 (q00 Y) (by decide)) _ X) ?_
        rintro _ _ ⟨rfl,L,rfl⟩
        have e:H0 a:=C1 V
        refine aT ?_
        refine aI ?_ ?_
        ·skip
         refine aT ?_
         refine aI ?_ ?_
         ·skip
          refine aT ?_
          obtain⟨K,G,b⟩:=B0 b
          obtain⟨U,p⟩:=K
          try dsimp only at b
          refine Tr.mono (Y1 _ q t w u O L 2 (by decide) _ G) ?_
          rintro _ _ ⟨rfl,o,rfl⟩
          refine ifB b (λH b=>?_) λH b=>?_
          ·obtain⟨S,E,b⟩:=B0 b
           refine aI (T0 E (by first|rw[F2.length (F2.up (r:=I0.toRp) d j),F2.length (show F2 (I0.R i) ([[.slice f c.length g,.int .i64 a,.int .i64 (-1)]]:List (List Value)) [(c,a,(-1))] from⟨(N0 k e (by decide)),trivial⟩)]|exact congrArg (·+1) (F2.length (F2.up (r:=I0.toRp) d j)))) ?_
           obtain⟨P,I,C,_⟩:=(New.pair n (New.pair (New.int e) (New.int (show H0 ((-1)) from(by decide)))))
           exact U1 A ⟨(IntKind.i64.wrap (y-1)),(z++([[.slice f c.length g,.int .i64 a,.int .i64 (-1)]]:List (List Value))),(x ++ [(c,a,(-1))]),p,i,rfl,rfl,rfl,(l.trans d),(F0 _),(F2.append (F2.up (r:=I0.toRp) d j) (show F2 (I0.R i) ([[.slice f c.length g,.int .i64 a,.int .i64 (-1)]]:List (List Value)) [(c,a,(-1))] from⟨(N0 k e (by decide)),trivial⟩)),⟨_,(F3.snoc I (M2 m d)),(V0 m l B C)⟩,o,b⟩
          ·obtain⟨T,F,b⟩:=B0 b
           refine aI (T0 F (by first|rw[F2.length (F2.up (r:=I0.toRp) d j),F2.length (show F2 (I0.R i) ([[.slice f c.length g,.int .i64 a,.int .i64 1]]:List (List Value)) [(c,a,1)] from⟨(N0 k e (by decide)),trivial⟩)]|exact congrArg (·+1) (F2.length (F2.up (r:=I0.toRp) d j)))) ?_
           obtain⟨Q,J,D,_⟩:=(New.pair n (New.pair (New.int e) (New.int (show H0 (1) from(by decide)))))
           exact U1 A ⟨(IntKind.i64.wrap (y-1)),(z++([[.slice f c.length g,.int .i64 a,.int .i64 1]]:List (List Value))),(x ++ [(c,a,1)]),p,i,rfl,rfl,rfl,(l.trans d),(F0 _),(F2.append (F2.up (r:=I0.toRp) d j) (show F2 (I0.R i) ([[.slice f c.length g,.int .i64 a,.int .i64 1]]:List (List Value)) [(c,a,1)] from⟨(N0 k e (by decide)),trivial⟩)),⟨_,(F3.snoc J (M2 m d)),(V0 m l B D)⟩,o,b⟩
         exact trivial
        exact trivial
       exact trivial
      exact trivial
     refine aI ?_ ?_
     ·skip
      refine aT ?_
      refine aI ?_ ?_
      ·skip
       refine Tr.mono (H4 _ q t w u u8 aa (if(if 3<s then 3 else s)>1 then(if 3<s then 3 else s)else 1) (l3 (l3 (by decide) ac) (by decide)) 3 (by decide) _ ab) ?_
       rintro _ _ ⟨f,ae,g,i,rfl,n,d,N,rfl⟩
       have k:=n.r
       obtain⟨rfl,ad⟩:=Sl.len k
       refine aT ?_
       refine aI ?_ ?_
       ·skip
        refine Tr.mono (G1 _ q t w u Z N (if((M.length:Nat):Int)>1 then((M.length:Nat):Int)else 1) (l3 (q00 Y) (by decide)) _ X) ?_
        rintro _ _ ⟨rfl,L,rfl⟩
        have e:H0 a:=C1 V
        refine aT ?_
        refine aI ?_ ?_
        ·skip
         refine aT ?_
         refine aI ?_ ?_
         ·skip
          refine aT ?_
          obtain⟨K,G,b⟩:=B0 b
          obtain⟨U,p⟩:=K
          try dsimp only at b
          refine Tr.mono (Y1 _ q t w u O L 2 (by decide) _ G) ?_
          rintro _ _ ⟨rfl,o,rfl⟩
          refine ifB b (λH b=>?_) λH b=>?_
          ·obtain⟨S,E,b⟩:=B0 b
           refine aI (T0 E (by first|rw[F2.length (F2.up (r:=I0.toRp) d j),F2.length (show F2 (I0.R i) ([[.slice f c.length g,.int .i64 a,.int .i64 (-1)]]:List (List Value)) [(c,a,(-1))] from⟨(N0 k e (by decide)),trivial⟩)]|exact congrArg (·+1) (F2.length (F2.up (r:=I0.toRp) d j)))) ?_
           obtain⟨P,I,C,_⟩:=(New.pair n (New.pair (New.int e) (New.int (show H0 ((-1)) from(by decide)))))
           exact U1 A ⟨(IntKind.i64.wrap (y-1)),(z++([[.slice f c.length g,.int .i64 a,.int .i64 (-1)]]:List (List Value))),(x ++ [(c,a,(-1))]),p,i,rfl,rfl,rfl,(l.trans d),(F0 _),(F2.append (F2.up (r:=I0.toRp) d j) (show F2 (I0.R i) ([[.slice f c.length g,.int .i64 a,.int .i64 (-1)]]:List (List Value)) [(c,a,(-1))] from⟨(N0 k e (by decide)),trivial⟩)),⟨_,(F3.snoc I (M2 m d)),(V0 m l B C)⟩,o,b⟩
          ·obtain⟨T,F,b⟩:=B0 b
           refine aI (T0 F (by first|rw[F2.length (F2.up (r:=I0.toRp) d j),F2.length (show F2 (I0.R i) ([[.slice f c.length g,.int .i64 a,.int .i64 1]]:List (List Value)) [(c,a,1)] from⟨(N0 k e (by decide)),trivial⟩)]|exact congrArg (·+1) (F2.length (F2.up (r:=I0.toRp) d j)))) ?_
           obtain⟨Q,J,D,_⟩:=(New.pair n (New.pair (New.int e) (New.int (show H0 (1) from(by decide)))))
           exact U1 A ⟨(IntKind.i64.wrap (y-1)),(z++([[.slice f c.length g,.int .i64 a,.int .i64 1]]:List (List Value))),(x ++ [(c,a,1)]),p,i,rfl,rfl,rfl,(l.trans d),(F0 _),(F2.append (F2.up (r:=I0.toRp) d j) (show F2 (I0.R i) ([[.slice f c.length g,.int .i64 a,.int .i64 1]]:List (List Value)) [(c,a,1)] from⟨(N0 k e (by decide)),trivial⟩)),⟨_,(F3.snoc J (M2 m d)),(V0 m l B D)⟩,o,b⟩
         exact trivial
        exact trivial
       exact trivial
      exact trivial
     exact trivial
    refine aI ?_ ?_
    ·skip
     refine aT ?_
     refine aI ?_ ?_
     ·skip
      refine Tr.mono (H4 _ q t w u u8 aa (if(if 3<s then 3 else s)>1 then(if 3<s then 3 else s)else 1) (l3 (l3 (by decide) ac) (by decide)) 3 (by decide) _ ab) ?_
      rintro _ _ ⟨f,ae,g,i,rfl,n,d,N,rfl⟩
      have k:=n.r
      obtain⟨rfl,ad⟩:=Sl.len k
      refine aT ?_
      refine aI ?_ ?_
      ·skip
       refine aT ?_
       refine aI ?_ ?_
       ·skip
        refine Tr.mono (G1 _ q t w u Z N (if((M.length:Nat):Int)>1 then((M.length:Nat):Int)else 1) (l3 (q00 Y) (by decide)) _ X) ?_
        rintro _ _ ⟨rfl,L,rfl⟩
        have e:H0 a:=C1 V
        refine aT ?_
        refine aI ?_ ?_
        ·skip
         refine aT ?_
         refine aI ?_ ?_
         ·skip
          refine aT ?_
          obtain⟨K,G,b⟩:=B0 b
          obtain⟨U,p⟩:=K
          try dsimp only at b
          refine Tr.mono (Y1 _ q t w u O L 2 (by decide) _ G) ?_
          rintro _ _ ⟨rfl,o,rfl⟩
          refine ifB b (λH b=>?_) λH b=>?_
          ·obtain⟨S,E,b⟩:=B0 b
           refine aI (T0 E (by first|rw[F2.length (F2.up (r:=I0.toRp) d j),F2.length (show F2 (I0.R i) ([[.slice f c.length g,.int .i64 a,.int .i64 (-1)]]:List (List Value)) [(c,a,(-1))] from⟨(N0 k e (by decide)),trivial⟩)]|exact congrArg (·+1) (F2.length (F2.up (r:=I0.toRp) d j)))) ?_
           obtain⟨P,I,C,_⟩:=(New.pair n (New.pair (New.int e) (New.int (show H0 ((-1)) from(by decide)))))
           exact U1 A ⟨(IntKind.i64.wrap (y-1)),(z++([[.slice f c.length g,.int .i64 a,.int .i64 (-1)]]:List (List Value))),(x ++ [(c,a,(-1))]),p,i,rfl,rfl,rfl,(l.trans d),(F0 _),(F2.append (F2.up (r:=I0.toRp) d j) (show F2 (I0.R i) ([[.slice f c.length g,.int .i64 a,.int .i64 (-1)]]:List (List Value)) [(c,a,(-1))] from⟨(N0 k e (by decide)),trivial⟩)),⟨_,(F3.snoc I (M2 m d)),(V0 m l B C)⟩,o,b⟩
          ·obtain⟨T,F,b⟩:=B0 b
           refine aI (T0 F (by first|rw[F2.length (F2.up (r:=I0.toRp) d j),F2.length (show F2 (I0.R i) ([[.slice f c.length g,.int .i64 a,.int .i64 1]]:List (List Value)) [(c,a,1)] from⟨(N0 k e (by decide)),trivial⟩)]|exact congrArg (·+1) (F2.length (F2.up (r:=I0.toRp) d j)))) ?_
           obtain⟨Q,J,D,_⟩:=(New.pair n (New.pair (New.int e) (New.int (show H0 (1) from(by decide)))))
           exact U1 A ⟨(IntKind.i64.wrap (y-1)),(z++([[.slice f c.length g,.int .i64 a,.int .i64 1]]:List (List Value))),(x ++ [(c,a,1)]),p,i,rfl,rfl,rfl,(l.trans d),(F0 _),(F2.append (F2.up (r:=I0.toRp) d j) (show F2 (I0.R i) ([[.slice f c.length g,.int .i64 a,.int .i64 1]]:List (List Value)) [(c,a,1)] from⟨(N0 k e (by decide)),trivial⟩)),⟨_,(F3.snoc J (M2 m d)),(V0 m l B D)⟩,o,b⟩
         exact trivial
        exact trivial
       exact trivial
      exact trivial
     refine aI ?_ ?_
     ·skip
      refine aT ?_
      refine aI ?_ ?_
      ·skip
       refine Tr.mono (H4 _ q t w u u8 aa (if(if 3<s then 3 else s)>1 then(if 3<s then 3 else s)else 1) (l3 (l3 (by decide) ac) (by decide)) 3 (by decide) _ ab) ?_
       rintro _ _ ⟨f,ae,g,i,rfl,n,d,N,rfl⟩
       have k:=n.r
       obtain⟨rfl,ad⟩:=Sl.len k
       refine aT ?_
       refine aI ?_ ?_
       ·skip
        refine Tr.mono (G1 _ q t w u Z N (if((M.length:Nat):Int)>1 then((M.length:Nat):Int)else 1) (l3 (q00 Y) (by decide)) _ X) ?_
        rintro _ _ ⟨rfl,L,rfl⟩
        have e:H0 a:=C1 V
        refine aT ?_
        refine aI ?_ ?_
        ·skip
         refine aT ?_
         refine aI ?_ ?_
         ·skip
          refine aT ?_
          obtain⟨K,G,b⟩:=B0 b
          obtain⟨U,p⟩:=K
          try dsimp only at b
          refine Tr.mono (Y1 _ q t w u O L 2 (by decide) _ G) ?_
          rintro _ _ ⟨rfl,o,rfl⟩
          refine ifB b (λH b=>?_) λH b=>?_
          ·obtain⟨S,E,b⟩:=B0 b
           refine aI (T0 E (by first|rw[F2.length (F2.up (r:=I0.toRp) d j),F2.length (show F2 (I0.R i) ([[.slice f c.length g,.int .i64 a,.int .i64 (-1)]]:List (List Value)) [(c,a,(-1))] from⟨(N0 k e (by decide)),trivial⟩)]|exact congrArg (·+1) (F2.length (F2.up (r:=I0.toRp) d j)))) ?_
           obtain⟨P,I,C,_⟩:=(New.pair n (New.pair (New.int e) (New.int (show H0 ((-1)) from(by decide)))))
           exact U1 A ⟨(IntKind.i64.wrap (y-1)),(z++([[.slice f c.length g,.int .i64 a,.int .i64 (-1)]]:List (List Value))),(x ++ [(c,a,(-1))]),p,i,rfl,rfl,rfl,(l.trans d),(F0 _),(F2.append (F2.up (r:=I0.toRp) d j) (show F2 (I0.R i) ([[.slice f c.length g,.int .i64 a,.int .i64 (-1)]]:List (List Value)) [(c,a,(-1))] from⟨(N0 k e (by decide)),trivial⟩)),⟨_,(F3.snoc I (M2 m d)),(V0 m l B C)⟩,o,b⟩
          ·obtain⟨T,F,b⟩:=B0 b
           refine aI (T0 F (by first|rw[F2.length (F2.up (r:=I0.toRp) d j),F2.length (show F2 (I0.R i) ([[.slice f c.length g,.int .i64 a,.int .i64 1]]:List (List Value)) [(c,a,1)] from⟨(N0 k e (by decide)),trivial⟩)]|exact congrArg (·+1) (F2.length (F2.up (r:=I0.toRp) d j)))) ?_
           obtain⟨Q,J,D,_⟩:=(New.pair n (New.pair (New.int e) (New.int (show H0 (1) from(by decide)))))
           exact U1 A ⟨(IntKind.i64.wrap (y-1)),(z++([[.slice f c.length g,.int .i64 a,.int .i64 1]]:List (List Value))),(x ++ [(c,a,1)]),p,i,rfl,rfl,rfl,(l.trans d),(F0 _),(F2.append (F2.up (r:=I0.toRp) d j) (show F2 (I0.R i) ([[.slice f c.length g,.int .i64 a,.int .i64 1]]:List (List Value)) [(c,a,1)] from⟨(N0 k e (by decide)),trivial⟩)),⟨_,(F3.snoc J (M2 m d)),(V0 m l B D)⟩,o,b⟩
         exact trivial
        exact trivial
       exact trivial
      exact trivial
     exact trivial
    exact trivial
   refine aI ?_ ?_
   ·skip
    refine aT ?_
    refine aI ?_ ?_
    ·skip
     refine aT ?_
     refine aI ?_ ?_
     ·skip
      refine Tr.mono (H4 _ q t w u u8 aa (if(if 3<s then 3 else s)>1 then(if 3<s then 3 else s)else 1) (l3 (l3 (by decide) ac) (by decide)) 3 (by decide) _ ab) ?_
      rintro _ _ ⟨f,ae,g,i,rfl,n,d,N,rfl⟩
      have k:=n.r
      obtain⟨rfl,ad⟩:=Sl.len k
      refine aT ?_
      refine aI ?_ ?_
      ·skip
       refine Tr.mono (G1 _ q t w u Z N (if((M.length:Nat):Int)>1 then((M.length:Nat):Int)else 1) (l3 (q00 Y) (by decide)) _ X) ?_
       rintro _ _ ⟨rfl,L,rfl⟩
       have e:H0 a:=C1 V
       refine aT ?_
       refine aI ?_ ?_
       ·skip
        refine aT ?_
        refine aI ?_ ?_
        ·skip
         refine aT ?_
         refine aI ?_ ?_
         ·skip
          refine aT ?_
          obtain⟨K,G,b⟩:=B0 b
          obtain⟨U,p⟩:=K
          try dsimp only at b
          refine Tr.mono (Y1 _ q t w u O L 2 (by decide) _ G) ?_
          rintro _ _ ⟨rfl,o,rfl⟩
          refine ifB b (λH b=>?_) λH b=>?_
          ·obtain⟨S,E,b⟩:=B0 b
           refine aI (T0 E (by first|rw[F2.length (F2.up (r:=I0.toRp) d j),F2.length (show F2 (I0.R i) ([[.slice f c.length g,.int .i64 a,.int .i64 (-1)]]:List (List Value)) [(c,a,(-1))] from⟨(N0 k e (by decide)),trivial⟩)]|exact congrArg (·+1) (F2.length (F2.up (r:=I0.toRp) d j)))) ?_
           obtain⟨P,I,C,_⟩:=(New.pair n (New.pair (New.int e) (New.int (show H0 ((-1)) from(by decide)))))
           exact U1 A ⟨(IntKind.i64.wrap (y-1)),(z++([[.slice f c.length g,.int .i64 a,.int .i64 (-1)]]:List (List Value))),(x ++ [(c,a,(-1))]),p,i,rfl,rfl,rfl,(l.trans d),(F0 _),(F2.append (F2.up (r:=I0.toRp) d j) (show F2 (I0.R i) ([[.slice f c.length g,.int .i64 a,.int .i64 (-1)]]:List (List Value)) [(c,a,(-1))] from⟨(N0 k e (by decide)),trivial⟩)),⟨_,(F3.snoc I (M2 m d)),(V0 m l B C)⟩,o,b⟩
          ·obtain⟨T,F,b⟩:=B0 b
           refine aI (T0 F (by first|rw[F2.length (F2.up (r:=I0.toRp) d j),F2.length (show F2 (I0.R i) ([[.slice f c.length g,.int .i64 a,.int .i64 1]]:List (List Value)) [(c,a,1)] from⟨(N0 k e (by decide)),trivial⟩)]|exact congrArg (·+1) (F2.length (F2.up (r:=I0.toRp) d j)))) ?_
           obtain⟨Q,J,D,_⟩:=(New.pair n (New.pair (New.int e) (New.int (show H0 (1) from(by decide)))))
           exact U1 A ⟨(IntKind.i64.wrap (y-1)),(z++([[.slice f c.length g,.int .i64 a,.int .i64 1]]:List (List Value))),(x ++ [(c,a,1)]),p,i,rfl,rfl,rfl,(l.trans d),(F0 _),(F2.append (F2.up (r:=I0.toRp) d j) (show F2 (I0.R i) ([[.slice f c.length g,.int .i64 a,.int .i64 1]]:List (List Value)) [(c,a,1)] from⟨(N0 k e (by decide)),trivial⟩)),⟨_,(F3.snoc J (M2 m d)),(V0 m l B D)⟩,o,b⟩
         exact trivial
        exact trivial
       refine aI ?_ ?_
       ·skip
        refine aT ?_
        refine aI ?_ ?_
        ·skip
         refine aT ?_
         refine aI ?_ ?_
         ·skip
          refine aT ?_
          obtain⟨K,G,b⟩:=B0 b
          obtain⟨U,p⟩:=K
          try dsimp only at b
          refine Tr.mono (Y1 _ q t w u O L 2 (by decide) _ G) ?_
          rintro _ _ ⟨rfl,o,rfl⟩
          refine ifB b (λH b=>?_) λH b=>?_
          ·obtain⟨S,E,b⟩:=B0 b
           refine aI (T0 E (by first|rw[F2.length (F2.up (r:=I0.toRp) d j),F2.length (show F2 (I0.R i) ([[.slice f c.length g,.int .i64 a,.int .i64 (-1)]]:List (List Value)) [(c,a,(-1))] from⟨(N0 k e (by decide)),trivial⟩)]|exact congrArg (·+1) (F2.length (F2.up (r:=I0.toRp) d j)))) ?_
           obtain⟨P,I,C,_⟩:=(New.pair n (New.pair (New.int e) (New.int (show H0 ((-1)) from(by decide)))))
           exact U1 A ⟨(IntKind.i64.wrap (y-1)),(z++([[.slice f c.length g,.int .i64 a,.int .i64 (-1)]]:List (List Value))),(x ++ [(c,a,(-1))]),p,i,rfl,rfl,rfl,(l.trans d),(F0 _),(F2.append (F2.up (r:=I0.toRp) d j) (show F2 (I0.R i) ([[.slice f c.length g,.int .i64 a,.int .i64 (-1)]]:List (List Value)) [(c,a,(-1))] from⟨(N0 k e (by decide)),trivial⟩)),⟨_,(F3.snoc I (M2 m d)),(V0 m l B C)⟩,o,b⟩
          ·obtain⟨T,F,b⟩:=B0 b
           refine aI (T0 F (by first|rw[F2.length (F2.up (r:=I0.toRp) d j),F2.length (show F2 (I0.R i) ([[.slice f c.length g,.int .i64 a,.int .i64 1]]:List (List Value)) [(c,a,1)] from⟨(N0 k e (by decide)),trivial⟩)]|exact congrArg (·+1) (F2.length (F2.up (r:=I0.toRp) d j)))) ?_
           obtain⟨Q,J,D,_⟩:=(New.pair n (New.pair (New.int e) (New.int (show H0 (1) from(by decide)))))
           exact U1 A ⟨(IntKind.i64.wrap (y-1)),(z++([[.slice f c.length g,.int .i64 a,.int .i64 1]]:List (List Value))),(x ++ [(c,a,1)]),p,i,rfl,rfl,rfl,(l.trans d),(F0 _),(F2.append (F2.up (r:=I0.toRp) d j) (show F2 (I0.R i) ([[.slice f c.length g,.int .i64 a,.int .i64 1]]:List (List Value)) [(c,a,1)] from⟨(N0 k e (by decide)),trivial⟩)),⟨_,(F3.snoc J (M2 m d)),(V0 m l B D)⟩,o,b⟩
         exact trivial
        exact trivial
       exact trivial
      refine aI ?_ ?_
      ·skip
       refine aT ?_
       refine aI ?_ ?_
       ·skip
        refine Tr.mono (G1 _ q t w u Z N (if((M.length:Nat):Int)>1 then((M.length:Nat):Int)else 1) (l3 (q00 Y) (by decide)) _ X) ?_
        rintro _ _ ⟨rfl,L,rfl⟩
        have e:H0 a:=C1 V
        refine aT ?_
        refine aI ?_ ?_
        ·skip
         refine aT ?_
         refine aI ?_ ?_
         ·skip
          refine aT ?_
          obtain⟨K,G,b⟩:=B0 b
          obtain⟨U,p⟩:=K
          try dsimp only at b
          refine Tr.mono (Y1 _ q t w u O L 2 (by decide) _ G) ?_
          rintro _ _ ⟨rfl,o,rfl⟩
          refine ifB b (λH b=>?_) λH b=>?_
          ·obtain⟨S,E,b⟩:=B0 b
           refine aI (T0 E (by first|rw[F2.length (F2.up (r:=I0.toRp) d j),F2.length (show F2 (I0.R i) ([[.slice f c.length g,.int .i64 a,.int .i64 (-1)]]:List (List Value)) [(c,a,(-1))] from⟨(N0 k e (by decide)),trivial⟩)]|exact congrArg (·+1) (F2.length (F2.up (r:=I0.toRp) d j)))) ?_
           obtain⟨P,I,C,_⟩:=(New.pair n (New.pair (New.int e) (New.int (show H0 ((-1)) from(by decide)))))
           exact U1 A ⟨(IntKind.i64.wrap (y-1)),(z++([[.slice f c.length g,.int .i64 a,.int .i64 (-1)]]:List (List Value))),(x ++ [(c,a,(-1))]),p,i,rfl,rfl,rfl,(l.trans d),(F0 _),(F2.append (F2.up (r:=I0.toRp) d j) (show F2 (I0.R i) ([[.slice f c.length g,.int .i64 a,.int .i64 (-1)]]:List (List Value)) [(c,a,(-1))] from⟨(N0 k e (by decide)),trivial⟩)),⟨_,(F3.snoc I (M2 m d)),(V0 m l B C)⟩,o,b⟩
          ·obtain⟨T,F,b⟩:=B0 b
           refine aI (T0 F (by first|rw[F2.length (F2.up (r:=I0.toRp) d j),F2.length (show F2 (I0.R i) ([[.slice f c.length g,.int .i64 a,.int .i64 1]]:List (List Value)) [(c,a,1)] from⟨(N0 k e (by decide)),trivial⟩)]|exact congrArg (·+1) (F2.length (F2.up (r:=I0.toRp) d j)))) ?_
           obtain⟨Q,J,D,_⟩:=(New.pair n (New.pair (New.int e) (New.int (show H0 (1) from(by decide)))))
           exact U1 A ⟨(IntKind.i64.wrap (y-1)),(z++([[.slice f c.length g,.int .i64 a,.int .i64 1]]:List (List Value))),(x ++ [(c,a,1)]),p,i,rfl,rfl,rfl,(l.trans d),(F0 _),(F2.append (F2.up (r:=I0.toRp) d j) (show F2 (I0.R i) ([[.slice f c.length g,.int .i64 a,.int .i64 1]]:List (List Value)) [(c,a,1)] from⟨(N0 k e (by decide)),trivial⟩)),⟨_,(F3.snoc J (M2 m d)),(V0 m l B D)⟩,o,b⟩
         exact trivial
        exact trivial
       exact trivial
      exact trivial
     refine aI ?_ ?_
     ·skip
      refine aT ?_
      refine aI ?_ ?_
      ·skip
       refine Tr.mono (H4 _ q t w u u8 aa (if(if 3<s then 3 else s)>1 then(if 3<s then 3 else s)else 1) (l3 (l3 (by decide) ac) (by decide)) 3 (by decide) _ ab) ?_
       rintro _ _ ⟨f,ae,g,i,rfl,n,d,N,rfl⟩
       have k:=n.r
       obtain⟨rfl,ad⟩:=Sl.len k
       refine aT ?_
       refine aI ?_ ?_
       ·skip
        refine Tr.mono (G1 _ q t w u Z N (if((M.length:Nat):Int)>1 then((M.length:Nat):Int)else 1) (l3 (q00 Y) (by decide)) _ X) ?_
        rintro _ _ ⟨rfl,L,rfl⟩
        have e:H0 a:=C1 V
        refine aT ?_
        refine aI ?_ ?_
        ·skip
         refine aT ?_
         refine aI ?_ ?_
         ·skip
          refine aT ?_
          obtain⟨K,G,b⟩:=B0 b
          obtain⟨U,p⟩:=K
          try dsimp only at b
          refine Tr.mono (Y1 _ q t w u O L 2 (by decide) _ G) ?_
          rintro _ _ ⟨rfl,o,rfl⟩
          refine ifB b (λH b=>?_) λH b=>?_
          ·obtain⟨S,E,b⟩:=B0 b
           refine aI (T0 E (by first|rw[F2.length (F2.up (r:=I0.toRp) d j),F2.length (show F2 (I0.R i) ([[.slice f c.length g,.int .i64 a,.int .i64 (-1)]]:List (List Value)) [(c,a,(-1))] from⟨(N0 k e (by decide)),trivial⟩)]|exact congrArg (·+1) (F2.length (F2.up (r:=I0.toRp) d j)))) ?_
           obtain⟨P,I,C,_⟩:=(New.pair n (New.pair (New.int e) (New.int (show H0 ((-1)) from(by decide)))))
           exact U1 A ⟨(IntKind.i64.wrap (y-1)),(z++([[.slice f c.length g,.int .i64 a,.int .i64 (-1)]]:List (List Value))),(x ++ [(c,a,(-1))]),p,i,rfl,rfl,rfl,(l.trans d),(F0 _),(F2.append (F2.up (r:=I0.toRp) d j) (show F2 (I0.R i) ([[.slice f c.length g,.int .i64 a,.int .i64 (-1)]]:List (List Value)) [(c,a,(-1))] from⟨(N0 k e (by decide)),trivial⟩)),⟨_,(F3.snoc I (M2 m d)),(V0 m l B C)⟩,o,b⟩
          ·obtain⟨T,F,b⟩:=B0 b
           refine aI (T0 F (by first|rw[F2.length (F2.up (r:=I0.toRp) d j),F2.length (show F2 (I0.R i) ([[.slice f c.length g,.int .i64 a,.int .i64 1]]:List (List Value)) [(c,a,1)] from⟨(N0 k e (by decide)),trivial⟩)]|exact congrArg (·+1) (F2.length (F2.up (r:=I0.toRp) d j)))) ?_
           obtain⟨Q,J,D,_⟩:=(New.pair n (New.pair (New.int e) (New.int (show H0 (1) from(by decide)))))
           exact U1 A ⟨(IntKind.i64.wrap (y-1)),(z++([[.slice f c.length g,.int .i64 a,.int .i64 1]]:List (List Value))),(x ++ [(c,a,1)]),p,i,rfl,rfl,rfl,(l.trans d),(F0 _),(F2.append (F2.up (r:=I0.toRp) d j) (show F2 (I0.R i) ([[.slice f c.length g,.int .i64 a,.int .i64 1]]:List (List Value)) [(c,a,1)] from⟨(N0 k e (by decide)),trivial⟩)),⟨_,(F3.snoc J (M2 m d)),(V0 m l B D)⟩,o,b⟩
         exact trivial
        exact trivial
       exact trivial
      exact trivial
     exact trivial
    refine aI ?_ ?_
    ·skip
     refine aT ?_
     refine aI ?_ ?_
     ·skip
      refine aT ?_
      refine aI ?_ ?_
      ·skip
       refine Tr.mono (H4 _ q t w u u8 aa (if(if 3<s then 3 else s)>1 then(if 3<s then 3 else s)else 1) (l3 (l3 (by decide) ac) (by decide)) 3 (by decide) _ ab) ?_
       rintro _ _ ⟨f,ae,g,i,rfl,n,d,N,rfl⟩
       have k:=n.r
       obtain⟨rfl,ad⟩:=Sl.len k
       refine aT ?_
       refine aI ?_ ?_
       ·skip
        refine Tr.mono (G1 _ q t w u Z N (if((M.length:Nat):Int)>1 then((M.length:Nat):Int)else 1) (l3 (q00 Y) (by decide)) _ X) ?_
        rintro _ _ ⟨rfl,L,rfl⟩
        have e:H0 a:=C1 V
        refine aT ?_
        refine aI ?_ ?_
        ·skip
         refine aT ?_
         refine aI ?_ ?_
         ·skip
          refine aT ?_
          obtain⟨K,G,b⟩:=B0 b
          obtain⟨U,p⟩:=K
          try dsimp only at b
          refine Tr.mono (Y1 _ q t w u O L 2 (by decide) _ G) ?_
          rintro _ _ ⟨rfl,o,rfl⟩
          refine ifB b (λH b=>?_) λH b=>?_
          ·obtain⟨S,E,b⟩:=B0 b
           refine aI (T0 E (by first|rw[F2.length (F2.up (r:=I0.toRp) d j),F2.length (show F2 (I0.R i) ([[.slice f c.length g,.int .i64 a,.int .i64 (-1)]]:List (List Value)) [(c,a,(-1))] from⟨(N0 k e (by decide)),trivial⟩)]|exact congrArg (·+1) (F2.length (F2.up (r:=I0.toRp) d j)))) ?_
           obtain⟨P,I,C,_⟩:=(New.pair n (New.pair (New.int e) (New.int (show H0 ((-1)) from(by decide)))))
           exact U1 A ⟨(IntKind.i64.wrap (y-1)),(z++([[.slice f c.length g,.int .i64 a,.int .i64 (-1)]]:List (List Value))),(x ++ [(c,a,(-1))]),p,i,rfl,rfl,rfl,(l.trans d),(F0 _),(F2.append (F2.up (r:=I0.toRp) d j) (show F2 (I0.R i) ([[.slice f c.length g,.int .i64 a,.int .i64 (-1)]]:List (List Value)) [(c,a,(-1))] from⟨(N0 k e (by decide)),trivial⟩)),⟨_,(F3.snoc I (M2 m d)),(V0 m l B C)⟩,o,b⟩
          ·obtain⟨T,F,b⟩:=B0 b
           refine aI (T0 F (by first|rw[F2.length (F2.up (r:=I0.toRp) d j),F2.length (show F2 (I0.R i) ([[.slice f c.length g,.int .i64 a,.int .i64 1]]:List (List Value)) [(c,a,1)] from⟨(N0 k e (by decide)),trivial⟩)]|exact congrArg (·+1) (F2.length (F2.up (r:=I0.toRp) d j)))) ?_
           obtain⟨Q,J,D,_⟩:=(New.pair n (New.pair (New.int e) (New.int (show H0 (1) from(by decide)))))
           exact U1 A ⟨(IntKind.i64.wrap (y-1)),(z++([[.slice f c.length g,.int .i64 a,.int .i64 1]]:List (List Value))),(x ++ [(c,a,1)]),p,i,rfl,rfl,rfl,(l.trans d),(F0 _),(F2.append (F2.up (r:=I0.toRp) d j) (show F2 (I0.R i) ([[.slice f c.length g,.int .i64 a,.int .i64 1]]:List (List Value)) [(c,a,1)] from⟨(N0 k e (by decide)),trivial⟩)),⟨_,(F3.snoc J (M2 m d)),(V0 m l B D)⟩,o,b⟩
         exact trivial
        exact trivial
       exact trivial
      exact trivial
     exact trivial
    exact trivial
   refine aI ?_ ?_
   ·skip
    refine aT ?_
    refine aI ?_ ?_
    ·skip
     refine aT ?_
     refine aI ?_ ?_
     ·skip
      refine Tr.mono (H4 _ q t w u u8 aa (if(if 3<s then 3 else s)>1 then(if 3<s then 3 else s)else 1) (l3 (l3 (by decide) ac) (by decide)) 3 (by decide) _ ab) ?_
      rintro _ _ ⟨f,ae,g,i,rfl,n,d,N,rfl⟩
      have k:=n.r
      obtain⟨rfl,ad⟩:=Sl.len k
      refine aT ?_
      refine aI ?_ ?_
      ·skip
       refine aT ?_
       refine aI ?_ ?_
       ·skip
        refine Tr.mono (G1 _ q t w u Z N (if((M.length:Nat):Int)>1 then((M.length:Nat):Int)else 1) (l3 (q00 Y) (by decide)) _ X) ?_
        rintro _ _ ⟨rfl,L,rfl⟩
        have e:H0 a:=C1 V
        refine aT ?_
        refine aI ?_ ?_
        ·skip
         refine aT ?_
         refine aI ?_ ?_
         ·skip
          refine aT ?_
          obtain⟨K,G,b⟩:=B0 b
          obtain⟨U,p⟩:=K
          try dsimp only at b
          refine Tr.mono (Y1 _ q t w u O L 2 (by decide) _ G) ?_
          rintro _ _ ⟨rfl,o,rfl⟩
          refine ifB b (λH b=>?_) λH b=>?_
          ·obtain⟨S,E,b⟩:=B0 b
           refine aI (T0 E (by first|rw[F2.length (F2.up (r:=I0.toRp) d j),F2.length (show F2 (I0.R i) ([[.slice f c.length g,.int .i64 a,.int .i64 (-1)]]:List (List Value)) [(c,a,(-1))] from⟨(N0 k e (by decide)),trivial⟩)]|exact congrArg (·+1) (F2.length (F2.up (r:=I0.toRp) d j)))) ?_
           obtain⟨P,I,C,_⟩:=(New.pair n (New.pair (New.int e) (New.int (show H0 ((-1)) from(by decide)))))
           exact U1 A ⟨(IntKind.i64.wrap (y-1)),(z++([[.slice f c.length g,.int .i64 a,.int .i64 (-1)]]:List (List Value))),(x ++ [(c,a,(-1))]),p,i,rfl,rfl,rfl,(l.trans d),(F0 _),(F2.append (F2.up (r:=I0.toRp) d j) (show F2 (I0.R i) ([[.slice f c.length g,.int .i64 a,.int .i64 (-1)]]:List (List Value)) [(c,a,(-1))] from⟨(N0 k e (by decide)),trivial⟩)),⟨_,(F3.snoc I (M2 m d)),(V0 m l B C)⟩,o,b⟩
          ·obtain⟨T,F,b⟩:=B0 b
           refine aI (T0 F (by first|rw[F2.length (F2.up (r:=I0.toRp) d j),F2.length (show F2 (I0.R i) ([[.slice f c.length g,.int .i64 a,.int .i64 1]]:List (List Value)) [(c,a,1)] from⟨(N0 k e (by decide)),trivial⟩)]|exact congrArg (·+1) (F2.length (F2.up (r:=I0.toRp) d j)))) ?_
           obtain⟨Q,J,D,_⟩:=(New.pair n (New.pair (New.int e) (New.int (show H0 (1) from(by decide)))))
           exact U1 A ⟨(IntKind.i64.wrap (y-1)),(z++([[.slice f c.length g,.int .i64 a,.int .i64 1]]:List (List Value))),(x ++ [(c,a,1)]),p,i,rfl,rfl,rfl,(l.trans d),(F0 _),(F2.append (F2.up (r:=I0.toRp) d j) (show F2 (I0.R i) ([[.slice f c.length g,.int .i64 a,.int .i64 1]]:List (List Value)) [(c,a,1)] from⟨(N0 k e (by decide)),trivial⟩)),⟨_,(F3.snoc J (M2 m d)),(V0 m l B D)⟩,o,b⟩
         exact trivial
        exact trivial
       exact trivial
      exact trivial
     refine aI ?_ ?_
     ·skip
      refine aT ?_
      refine aI ?_ ?_
      ·skip
       refine Tr.mono (H4 _ q t w u u8 aa (if(if 3<s then 3 else s)>1 then(if 3<s then 3 else s)else 1) (l3 (l3 (by decide) ac) (by decide)) 3 (by decide) _ ab) ?_
       rintro _ _ ⟨f,ae,g,i,rfl,n,d,N,rfl⟩
       have k:=n.r
       obtain⟨rfl,ad⟩:=Sl.len k
       refine aT ?_
       refine aI ?_ ?_
       ·skip
        refine Tr.mono (G1 _ q t w u Z N (if((M.length:Nat):Int)>1 then((M.length:Nat):Int)else 1) (l3 (q00 Y) (by decide)) _ X) ?_
        rintro _ _ ⟨rfl,L,rfl⟩
        have e:H0 a:=C1 V
        refine aT ?_
        refine aI ?_ ?_
        ·skip
         refine aT ?_
         refine aI ?_ ?_
         ·skip
          refine aT ?_
          obtain⟨K,G,b⟩:=B0 b
          obtain⟨U,p⟩:=K
          try dsimp only at b
          refine Tr.mono (Y1 _ q t w u O L 2 (by decide) _ G) ?_
          rintro _ _ ⟨rfl,o,rfl⟩
          refine ifB b (λH b=>?_) λH b=>?_
          ·obtain⟨S,E,b⟩:=B0 b
           refine aI (T0 E (by first|rw[F2.length (F2.up (r:=I0.toRp) d j),F2.length (show F2 (I0.R i) ([[.slice f c.length g,.int .i64 a,.int .i64 (-1)]]:List (List Value)) [(c,a,(-1))] from⟨(N0 k e (by decide)),trivial⟩)]|exact congrArg (·+1) (F2.length (F2.up (r:=I0.toRp) d j)))) ?_
           obtain⟨P,I,C,_⟩:=(New.pair n (New.pair (New.int e) (New.int (show H0 ((-1)) from(by decide)))))
           exact U1 A ⟨(IntKind.i64.wrap (y-1)),(z++([[.slice f c.length g,.int .i64 a,.int .i64 (-1)]]:List (List Value))),(x ++ [(c,a,(-1))]),p,i,rfl,rfl,rfl,(l.trans d),(F0 _),(F2.append (F2.up (r:=I0.toRp) d j) (show F2 (I0.R i) ([[.slice f c.length g,.int .i64 a,.int .i64 (-1)]]:List (List Value)) [(c,a,(-1))] from⟨(N0 k e (by decide)),trivial⟩)),⟨_,(F3.snoc I (M2 m d)),(V0 m l B C)⟩,o,b⟩
          ·obtain⟨T,F,b⟩:=B0 b
           refine aI (T0 F (by first|rw[F2.length (F2.up (r:=I0.toRp) d j),F2.length (show F2 (I0.R i) ([[.slice f c.length g,.int .i64 a,.int .i64 1]]:List (List Value)) [(c,a,1)] from⟨(N0 k e (by decide)),trivial⟩)]|exact congrArg (·+1) (F2.length (F2.up (r:=I0.toRp) d j)))) ?_
           obtain⟨Q,J,D,_⟩:=(New.pair n (New.pair (New.int e) (New.int (show H0 (1) from(by decide)))))
           exact U1 A ⟨(IntKind.i64.wrap (y-1)),(z++([[.slice f c.length g,.int .i64 a,.int .i64 1]]:List (List Value))),(x ++ [(c,a,1)]),p,i,rfl,rfl,rfl,(l.trans d),(F0 _),(F2.append (F2.up (r:=I0.toRp) d j) (show F2 (I0.R i) ([[.slice f c.length g,.int .i64 a,.int .i64 1]]:List (List Value)) [(c,a,1)] from⟨(N0 k e (by decide)),trivial⟩)),⟨_,(F3.snoc J (M2 m d)),(V0 m l B D)⟩,o,b⟩
         exact trivial
        exact trivial
       exact trivial
      exact trivial
     exact trivial
    refine aI ?_ ?_
    ·skip
     refine aT ?_
     refine aI ?_ ?_
     ·skip
      refine aT ?_
      refine aI ?_ ?_
      ·skip
       refine Tr.mono (H4 _ q t w u u8 aa (if(if 3<s then 3 else s)>1 then(if 3<s then 3 else s)else 1) (l3 (l3 (by decide) ac) (by decide)) 3 (by decide) _ ab) ?_
       rintro _ _ ⟨f,ae,g,i,rfl,n,d,N,rfl⟩
       have k:=n.r
       obtain⟨rfl,ad⟩:=Sl.len k
       refine aT ?_
       refine aI ?_ ?_
       ·skip
        refine Tr.mono (G1 _ q t w u Z N (if((M.length:Nat):Int)>1 then((M.length:Nat):Int)else 1) (l3 (q00 Y) (by decide)) _ X) ?_
        rintro _ _ ⟨rfl,L,rfl⟩
        have e:H0 a:=C1 V
        refine aT ?_
        refine aI ?_ ?_
        ·skip
         refine aT ?_
         refine aI ?_ ?_
         ·skip
          refine aT ?_
          obtain⟨K,G,b⟩:=B0 b
          obtain⟨U,p⟩:=K
          try dsimp only at b
          refine Tr.mono (Y1 _ q t w u O L 2 (by decide) _ G) ?_
          rintro _ _ ⟨rfl,o,rfl⟩
          refine ifB b (λH b=>?_) λH b=>?_
          ·obtain⟨S,E,b⟩:=B0 b
           refine aI (T0 E (by first|rw[F2.length (F2.up (r:=I0.toRp) d j),F2.length (show F2 (I0.R i) ([[.slice f c.length g,.int .i64 a,.int .i64 (-1)]]:List (List Value)) [(c,a,(-1))] from⟨(N0 k e (by decide)),trivial⟩)]|exact congrArg (·+1) (F2.length (F2.up (r:=I0.toRp) d j)))) ?_
           obtain⟨P,I,C,_⟩:=(New.pair n (New.pair (New.int e) (New.int (show H0 ((-1)) from(by decide)))))
           exact U1 A ⟨(IntKind.i64.wrap (y-1)),(z++([[.slice f c.length g,.int .i64 a,.int .i64 (-1)]]:List (List Value))),(x ++ [(c,a,(-1))]),p,i,rfl,rfl,rfl,(l.trans d),(F0 _),(F2.append (F2.up (r:=I0.toRp) d j) (show F2 (I0.R i) ([[.slice f c.length g,.int .i64 a,.int .i64 (-1)]]:List (List Value)) [(c,a,(-1))] from⟨(N0 k e (by decide)),trivial⟩)),⟨_,(F3.snoc I (M2 m d)),(V0 m l B C)⟩,o,b⟩
          ·obtain⟨T,F,b⟩:=B0 b
           refine aI (T0 F (by first|rw[F2.length (F2.up (r:=I0.toRp) d j),F2.length (show F2 (I0.R i) ([[.slice f c.length g,.int .i64 a,.int .i64 1]]:List (List Value)) [(c,a,1)] from⟨(N0 k e (by decide)),trivial⟩)]|exact congrArg (·+1) (F2.length (F2.up (r:=I0.toRp) d j)))) ?_
           obtain⟨Q,J,D,_⟩:=(New.pair n (New.pair (New.int e) (New.int (show H0 (1) from(by decide)))))
           exact U1 A ⟨(IntKind.i64.wrap (y-1)),(z++([[.slice f c.length g,.int .i64 a,.int .i64 1]]:List (List Value))),(x ++ [(c,a,1)]),p,i,rfl,rfl,rfl,(l.trans d),(F0 _),(F2.append (F2.up (r:=I0.toRp) d j) (show F2 (I0.R i) ([[.slice f c.length g,.int .i64 a,.int .i64 1]]:List (List Value)) [(c,a,1)] from⟨(N0 k e (by decide)),trivial⟩)),⟨_,(F3.snoc J (M2 m d)),(V0 m l B D)⟩,o,b⟩
         exact trivial
        exact trivial
       exact trivial
      exact trivial
     exact trivial
    exact trivial
   exact trivial
  refine aI ?_ ?_
  ·skip
   refine aT ?_
   refine aI ?_ ?_
   ·skip
    refine aT ?_
    refine aI ?_ ?_
    ·skip
     refine aT ?_
     refine aI ?_ ?_
     ·skip
      refine Tr.mono (H4 _ q t w u u8 aa (if(if 3<s then 3 else s)>1 then(if 3<s then 3 else s)else 1) (l3 (l3 (by decide) ac) (by decide)) 3 (by decide) _ ab) ?_
      rintro _ _ ⟨f,ae,g,i,rfl,n,d,N,rfl⟩
      have k:=n.r
      obtain⟨rfl,ad⟩:=Sl.len k
      refine aT ?_
      refine aI ?_ ?_
      ·skip
       refine Tr.mono (G1 _ q t w u Z N (if((M.length:Nat):Int)>1 then((M.length:Nat):Int)else 1) (l3 (q00 Y) (by decide)) _ X) ?_
       rintro _ _ ⟨rfl,L,rfl⟩
       have e:H0 a:=C1 V
       refine aT ?_
       refine aI ?_ ?_
       ·skip
        refine aT ?_
        refine aI ?_ ?_
        ·skip
         refine aT ?_
         refine aI ?_ ?_
         ·skip
          refine aT ?_
          obtain⟨K,G,b⟩:=B0 b
          obtain⟨U,p⟩:=K
          try dsimp only at b
          refine Tr.mono (Y1 _ q t w u O L 2 (by decide) _ G) ?_
          rintro _ _ ⟨rfl,o,rfl⟩
          refine ifB b (λH b=>?_) λH b=>?_
          ·obtain⟨S,E,b⟩:=B0 b
           refine aI (T0 E (by first|rw[F2.length (F2.up (r:=I0.toRp) d j),F2.length (show F2 (I0.R i) ([[.slice f c.length g,.int .i64 a,.int .i64 (-1)]]:List (List Value)) [(c,a,(-1))] from⟨(N0 k e (by decide)),trivial⟩)]|exact congrArg (·+1) (F2.length (F2.up (r:=I0.toRp) d j)))) ?_
           obtain⟨P,I,C,_⟩:=(New.pair n (New.pair (New.int e) (New.int (show H0 ((-1)) from(by decide)))))
           exact U1 A ⟨(IntKind.i64.wrap (y-1)),(z++([[.slice f c.length g,.int .i64 a,.int .i64 (-1)]]:List (List Value))),(x ++ [(c,a,(-1))]),p,i,rfl,rfl,rfl,(l.trans d),(F0 _),(F2.append (F2.up (r:=I0.toRp) d j) (show F2 (I0.R i) ([[.slice f c.length g,.int .i64 a,.int .i64 (-1)]]:List (List Value)) [(c,a,(-1))] from⟨(N0 k e (by decide)),trivial⟩)),⟨_,(F3.snoc I (M2 m d)),(V0 m l B C)⟩,o,b⟩
          ·obtain⟨T,F,b⟩:=B0 b
           refine aI (T0 F (by first|rw[F2.length (F2.up (r:=I0.toRp) d j),F2.length (show F2 (I0.R i) ([[.slice f c.length g,.int .i64 a,.int .i64 1]]:List (List Value)) [(c,a,1)] from⟨(N0 k e (by decide)),trivial⟩)]|exact congrArg (·+1) (F2.length (F2.up (r:=I0.toRp) d j)))) ?_
           obtain⟨Q,J,D,_⟩:=(New.pair n (New.pair (New.int e) (New.int (show H0 (1) from(by decide)))))
           exact U1 A ⟨(IntKind.i64.wrap (y-1)),(z++([[.slice f c.length g,.int .i64 a,.int .i64 1]]:List (List Value))),(x ++ [(c,a,1)]),p,i,rfl,rfl,rfl,(l.trans d),(F0 _),(F2.append (F2.up (r:=I0.toRp) d j) (show F2 (I0.R i) ([[.slice f c.length g,.int .i64 a,.int .i64 1]]:List (List Value)) [(c,a,1)] from⟨(N0 k e (by decide)),trivial⟩)),⟨_,(F3.snoc J (M2 m d)),(V0 m l B D)⟩,o,b⟩
         exact trivial
        exact trivial
       refine aI ?_ ?_
       ·skip
        refine aT ?_
        refine aI ?_ ?_
        ·skip
         refine aT ?_
         refine aI ?_ ?_
         ·skip
          refine aT ?_
          obtain⟨K,G,b⟩:=B0 b
          obtain⟨U,p⟩:=K
          try dsimp only at b
          refine Tr.mono (Y1 _ q t w u O L 2 (by decide) _ G) ?_
          rintro _ _ ⟨rfl,o,rfl⟩
          refine ifB b (λH b=>?_) λH b=>?_
          ·obtain⟨S,E,b⟩:=B0 b
           refine aI (T0 E (by first|rw[F2.length (F2.up (r:=I0.toRp) d j),F2.length (show F2 (I0.R i) ([[.slice f c.length g,.int .i64 a,.int .i64 (-1)]]:List (List Value)) [(c,a,(-1))] from⟨(N0 k e (by decide)),trivial⟩)]|exact congrArg (·+1) (F2.length (F2.up (r:=I0.toRp) d j)))) ?_
           obtain⟨P,I,C,_⟩:=(New.pair n (New.pair (New.int e) (New.int (show H0 ((-1)) from(by decide)))))
           exact U1 A ⟨(IntKind.i64.wrap (y-1)),(z++([[.slice f c.length g,.int .i64 a,.int .i64 (-1)]]:List (List Value))),(x ++ [(c,a,(-1))]),p,i,rfl,rfl,rfl,(l.trans d),(F0 _),(F2.append (F2.up (r:=I0.toRp) d j) (show F2 (I0.R i) ([[.slice f c.length g,.int .i64 a,.int .i64 (-1)]]:List (List Value)) [(c,a,(-1))] from⟨(N0 k e (by decide)),trivial⟩)),⟨_,(F3.snoc I (M2 m d)),(V0 m l B C)⟩,o,b⟩
          ·obtain⟨T,F,b⟩:=B0 b
           refine aI (T0 F (by first|rw[F2.length (F2.up (r:=I0.toRp) d j),F2.length (show F2 (I0.R i) ([[.slice f c.length g,.int .i64 a,.int .i64 1]]:List (List Value)) [(c,a,1)] from⟨(N0 k e (by decide)),trivial⟩)]|exact congrArg (·+1) (F2.length (F2.up (r:=I0.toRp) d j)))) ?_
           obtain⟨Q,J,D,_⟩:=(New.pair n (New.pair (New.int e) (New.int (show H0 (1) from(by decide)))))
           exact U1 A ⟨(IntKind.i64.wrap (y-1)),(z++([[.slice f c.length g,.int .i64 a,.int .i64 1]]:List (List Value))),(x ++ [(c,a,1)]),p,i,rfl,rfl,rfl,(l.trans d),(F0 _),(F2.append (F2.up (r:=I0.toRp) d j) (show F2 (I0.R i) ([[.slice f c.length g,.int .i64 a,.int .i64 1]]:List (List Value)) [(c,a,1)] from⟨(N0 k e (by decide)),trivial⟩)),⟨_,(F3.snoc J (M2 m d)),(V0 m l B D)⟩,o,b⟩
         exact trivial
        exact trivial
       exact trivial
      refine aI ?_ ?_
      ·skip
       refine aT ?_
       refine aI ?_ ?_
       ·skip
        refine Tr.mono (G1 _ q t w u Z N (if((M.length:Nat):Int)>1 then((M.length:Nat):Int)else 1) (l3 (q00 Y) (by decide)) _ X) ?_
        rintro _ _ ⟨rfl,L,rfl⟩
        have e:H0 a:=C1 V
        refine aT ?_
        refine aI ?_ ?_
        ·skip
         refine aT ?_
         refine aI ?_ ?_
         ·skip
          refine aT ?_
          obtain⟨K,G,b⟩:=B0 b
          obtain⟨U,p⟩:=K
          try dsimp only at b
          refine Tr.mono (Y1 _ q t w u O L 2 (by decide) _ G) ?_
          rintro _ _ ⟨rfl,o,rfl⟩
          refine ifB b (λH b=>?_) λH b=>?_
          ·obtain⟨S,E,b⟩:=B0 b
           refine aI (T0 E (by first|rw[F2.length (F2.up (r:=I0.toRp) d j),F2.length (show F2 (I0.R i) ([[.slice f c.length g,.int .i64 a,.int .i64 (-1)]]:List (List Value)) [(c,a,(-1))] from⟨(N0 k e (by decide)),trivial⟩)]|exact congrArg (·+1) (F2.length (F2.up (r:=I0.toRp) d j)))) ?_
           obtain⟨P,I,C,_⟩:=(New.pair n (New.pair (New.int e) (New.int (show H0 ((-1)) from(by decide)))))
           exact U1 A ⟨(IntKind.i64.wrap (y-1)),(z++([[.slice f c.length g,.int .i64 a,.int .i64 (-1)]]:List (List Value))),(x ++ [(c,a,(-1))]),p,i,rfl,rfl,rfl,(l.trans d),(F0 _),(F2.append (F2.up (r:=I0.toRp) d j) (show F2 (I0.R i) ([[.slice f c.length g,.int .i64 a,.int .i64 (-1)]]:List (List Value)) [(c,a,(-1))] from⟨(N0 k e (by decide)),trivial⟩)),⟨_,(F3.snoc I (M2 m d)),(V0 m l B C)⟩,o,b⟩
          ·obtain⟨T,F,b⟩:=B0 b
           refine aI (T0 F (by first|rw[F2.length (F2.up (r:=I0.toRp) d j),F2.length (show F2 (I0.R i) ([[.slice f c.length g,.int .i64 a,.int .i64 1]]:List (List Value)) [(c,a,1)] from⟨(N0 k e (by decide)),trivial⟩)]|exact congrArg (·+1) (F2.length (F2.up (r:=I0.toRp) d j)))) ?_
           obtain⟨Q,J,D,_⟩:=(New.pair n (New.pair (New.int e) (New.int (show H0 (1) from(by decide)))))
           exact U1 A ⟨(IntKind.i64.wrap (y-1)),(z++([[.slice f c.length g,.int .i64 a,.int .i64 1]]:List (List Value))),(x ++ [(c,a,1)]),p,i,rfl,rfl,rfl,(l.trans d),(F0 _),(F2.append (F2.up (r:=I0.toRp) d j) (show F2 (I0.R i) ([[.slice f c.length g,.int .i64 a,.int .i64 1]]:List (List Value)) [(c,a,1)] from⟨(N0 k e (by decide)),trivial⟩)),⟨_,(F3.snoc J (M2 m d)),(V0 m l B D)⟩,o,b⟩
         exact trivial
        exact trivial
       exact trivial
      exact trivial
     refine aI ?_ ?_
     ·skip
      refine aT ?_
      refine aI ?_ ?_
      ·skip
       refine Tr.mono (H4 _ q t w u u8 aa (if(if 3<s then 3 else s)>1 then(if 3<s then 3 else s)else 1) (l3 (l3 (by decide) ac) (by decide)) 3 (by decide) _ ab) ?_
       rintro _ _ ⟨f,ae,g,i,rfl,n,d,N,rfl⟩
       have k:=n.r
       obtain⟨rfl,ad⟩:=Sl.len k
       refine aT ?_
       refine aI ?_ ?_
       ·skip
        refine Tr.mono (G1 _ q t w u Z N (if((M.length:Nat):Int)>1 then((M.length:Nat):Int)else 1) (l3 (q00 Y) (by decide)) _ X) ?_
        rintro _ _ ⟨rfl,L,rfl⟩
        have e:H0 a:=C1 V
        refine aT ?_
        refine aI ?_ ?_
        ·skip
         refine aT ?_
         refine aI ?_ ?_
         ·skip
          refine aT ?_
          obtain⟨K,G,b⟩:=B0 b
          obtain⟨U,p⟩:=K
          try dsimp only at b
          refine Tr.mono (Y1 _ q t w u O L 2 (by decide) _ G) ?_
          rintro _ _ ⟨rfl,o,rfl⟩
          refine ifB b (λH b=>?_) λH b=>?_
          ·obtain⟨S,E,b⟩:=B0 b
           refine aI (T0 E (by first|rw[F2.length (F2.up (r:=I0.toRp) d j),F2.length (show F2 (I0.R i) ([[.slice f c.length g,.int .i64 a,.int .i64 (-1)]]:List (List Value)) [(c,a,(-1))] from⟨(N0 k e (by decide)),trivial⟩)]|exact congrArg (·+1) (F2.length (F2.up (r:=I0.toRp) d j)))) ?_
           obtain⟨P,I,C,_⟩:=(New.pair n (New.pair (New.int e) (New.int (show H0 ((-1)) from(by decide)))))
           exact U1 A ⟨(IntKind.i64.wrap (y-1)),(z++([[.slice f c.length g,.int .i64 a,.int .i64 (-1)]]:List (List Value))),(x ++ [(c,a,(-1))]),p,i,rfl,rfl,rfl,(l.trans d),(F0 _),(F2.append (F2.up (r:=I0.toRp) d j) (show F2 (I0.R i) ([[.slice f c.length g,.int .i64 a,.int .i64 (-1)]]:List (List Value)) [(c,a,(-1))] from⟨(N0 k e (by decide)),trivial⟩)),⟨_,(F3.snoc I (M2 m d)),(V0 m l B C)⟩,o,b⟩
          ·obtain⟨T,F,b⟩:=B0 b
           refine aI (T0 F (by first|rw[F2.length (F2.up (r:=I0.toRp) d j),F2.length (show F2 (I0.R i) ([[.slice f c.length g,.int .i64 a,.int .i64 1]]:List (List Value)) [(c,a,1)] from⟨(N0 k e (by decide)),trivial⟩)]|exact congrArg (·+1) (F2.length (F2.up (r:=I0.toRp) d j)))) ?_
           obtain⟨Q,J,D,_⟩:=(New.pair n (New.pair (New.int e) (New.int (show H0 (1) from(by decide)))))
           exact U1 A ⟨(IntKind.i64.wrap (y-1)),(z++([[.slice f c.length g,.int .i64 a,.int .i64 1]]:List (List Value))),(x ++ [(c,a,1)]),p,i,rfl,rfl,rfl,(l.trans d),(F0 _),(F2.append (F2.up (r:=I0.toRp) d j) (show F2 (I0.R i) ([[.slice f c.length g,.int .i64 a,.int .i64 1]]:List (List Value)) [(c,a,1)] from⟨(N0 k e (by decide)),trivial⟩)),⟨_,(F3.snoc J (M2 m d)),(V0 m l B D)⟩,o,b⟩
         exact trivial
        exact trivial
       exact trivial
      exact trivial
     exact trivial
    refine aI ?_ ?_
    ·skip
     refine aT ?_
     refine aI ?_ ?_
     ·skip
      refine aT ?_
      refine aI ?_ ?_
      ·skip
       refine Tr.mono (H4 _ q t w u u8 aa (if(if 3<s then 3 else s)>1 then(if 3<s then 3 else s)else 1) (l3 (l3 (by decide) ac) (by decide)) 3 (by decide) _ ab) ?_
       rintro _ _ ⟨f,ae,g,i,rfl,n,d,N,rfl⟩
       have k:=n.r
       obtain⟨rfl,ad⟩:=Sl.len k
       refine aT ?_
       refine aI ?_ ?_
       ·skip
        refine Tr.mono (G1 _ q t w u Z N (if((M.length:Nat):Int)>1 then((M.length:Nat):Int)else 1) (l3 (q00 Y) (by decide)) _ X) ?_
        rintro _ _ ⟨rfl,L,rfl⟩
        have e:H0 a:=C1 V
        refine aT ?_
        refine aI ?_ ?_
        ·skip
         refine aT ?_
         refine aI ?_ ?_
         ·skip
          refine aT ?_
          obtain⟨K,G,b⟩:=B0 b
          obtain⟨U,p⟩:=K
          try dsimp only at b
          refine Tr.mono (Y1 _ q t w u O L 2 (by decide) _ G) ?_
          rintro _ _ ⟨rfl,o,rfl⟩
          refine ifB b (λH b=>?_) λH b=>?_
          ·obtain⟨S,E,b⟩:=B0 b
           refine aI (T0 E (by first|rw[F2.length (F2.up (r:=I0.toRp) d j),F2.length (show F2 (I0.R i) ([[.slice f c.length g,.int .i64 a,.int .i64 (-1)]]:List (List Value)) [(c,a,(-1))] from⟨(N0 k e (by decide)),trivial⟩)]|exact congrArg (·+1) (F2.length (F2.up (r:=I0.toRp) d j)))) ?_
           obtain⟨P,I,C,_⟩:=(New.pair n (New.pair (New.int e) (New.int (show H0 ((-1)) from(by decide)))))
           exact U1 A ⟨(IntKind.i64.wrap (y-1)),(z++([[.slice f c.length g,.int .i64 a,.int .i64 (-1)]]:List (List Value))),(x ++ [(c,a,(-1))]),p,i,rfl,rfl,rfl,(l.trans d),(F0 _),(F2.append (F2.up (r:=I0.toRp) d j) (show F2 (I0.R i) ([[.slice f c.length g,.int .i64 a,.int .i64 (-1)]]:List (List Value)) [(c,a,(-1))] from⟨(N0 k e (by decide)),trivial⟩)),⟨_,(F3.snoc I (M2 m d)),(V0 m l B C)⟩,o,b⟩
          ·obtain⟨T,F,b⟩:=B0 b
           refine aI (T0 F (by first|rw[F2.length (F2.up (r:=I0.toRp) d j),F2.length (show F2 (I0.R i) ([[.slice f c.length g,.int .i64 a,.int .i64 1]]:List (List Value)) [(c,a,1)] from⟨(N0 k e (by decide)),trivial⟩)]|exact congrArg (·+1) (F2.length (F2.up (r:=I0.toRp) d j)))) ?_
           obtain⟨Q,J,D,_⟩:=(New.pair n (New.pair (New.int e) (New.int (show H0 (1) from(by decide)))))
           exact U1 A ⟨(IntKind.i64.wrap (y-1)),(z++([[.slice f c.length g,.int .i64 a,.int .i64 1]]:List (List Value))),(x ++ [(c,a,1)]),p,i,rfl,rfl,rfl,(l.trans d),(F0 _),(F2.append (F2.up (r:=I0.toRp) d j) (show F2 (I0.R i) ([[.slice f c.length g,.int .i64 a,.int .i64 1]]:List (List Value)) [(c,a,1)] from⟨(N0 k e (by decide)),trivial⟩)),⟨_,(F3.snoc J (M2 m d)),(V0 m l B D)⟩,o,b⟩
         exact trivial
        exact trivial
       exact trivial
      exact trivial
     exact trivial
    exact trivial
   refine aI ?_ ?_
   ·skip
    refine aT ?_
    refine aI ?_ ?_
    ·skip
     refine aT ?_
     refine aI ?_ ?_
     ·skip
      refine aT ?_
      refine aI ?_ ?_
      ·skip
       refine Tr.mono (H4 _ q t w u u8 aa (if(if 3<s then 3 else s)>1 then(if 3<s then 3 else s)else 1) (l3 (l3 (by decide) ac) (by decide)) 3 (by decide) _ ab) ?_
       rintro _ _ ⟨f,ae,g,i,rfl,n,d,N,rfl⟩
       have k:=n.r
       obtain⟨rfl,ad⟩:=Sl.len k
       refine aT ?_
       refine aI ?_ ?_
       ·skip
        refine Tr.mono (G1 _ q t w u Z N (if((M.length:Nat):Int)>1 then((M.length:Nat):Int)else 1) (l3 (q00 Y) (by decide)) _ X) ?_
        rintro _ _ ⟨rfl,L,rfl⟩
        have e:H0 a:=C1 V
        refine aT ?_
        refine aI ?_ ?_
        ·skip
         refine aT ?_
         refine aI ?_ ?_
         ·skip
          refine aT ?_
          obtain⟨K,G,b⟩:=B0 b
          obtain⟨U,p⟩:=K
          try dsimp only at b
          refine Tr.mono (Y1 _ q t w u O L 2 (by decide) _ G) ?_
          rintro _ _ ⟨rfl,o,rfl⟩
          refine ifB b (λH b=>?_) λH b=>?_
          ·obtain⟨S,E,b⟩:=B0 b
           refine aI (T0 E (by first|rw[F2.length (F2.up (r:=I0.toRp) d j),F2.length (show F2 (I0.R i) ([[.slice f c.length g,.int .i64 a,.int .i64 (-1)]]:List (List Value)) [(c,a,(-1))] from⟨(N0 k e (by decide)),trivial⟩)]|exact congrArg (·+1) (F2.length (F2.up (r:=I0.toRp) d j)))) ?_
           obtain⟨P,I,C,_⟩:=(New.pair n (New.pair (New.int e) (New.int (show H0 ((-1)) from(by decide)))))
           exact U1 A ⟨(IntKind.i64.wrap (y-1)),(z++([[.slice f c.length g,.int .i64 a,.int .i64 (-1)]]:List (List Value))),(x ++ [(c,a,(-1))]),p,i,rfl,rfl,rfl,(l.trans d),(F0 _),(F2.append (F2.up (r:=I0.toRp) d j) (show F2 (I0.R i) ([[.slice f c.length g,.int .i64 a,.int .i64 (-1)]]:List (List Value)) [(c,a,(-1))] from⟨(N0 k e (by decide)),trivial⟩)),⟨_,(F3.snoc I (M2 m d)),(V0 m l B C)⟩,o,b⟩
          ·obtain⟨T,F,b⟩:=B0 b
           refine aI (T0 F (by first|rw[F2.length (F2.up (r:=I0.toRp) d j),F2.length (show F2 (I0.R i) ([[.slice f c.length g,.int .i64 a,.int .i64 1]]:List (List Value)) [(c,a,1)] from⟨(N0 k e (by decide)),trivial⟩)]|exact congrArg (·+1) (F2.length (F2.up (r:=I0.toRp) d j)))) ?_
           obtain⟨Q,J,D,_⟩:=(New.pair n (New.pair (New.int e) (New.int (show H0 (1) from(by decide)))))
           exact U1 A ⟨(IntKind.i64.wrap (y-1)),(z++([[.slice f c.length g,.int .i64 a,.int .i64 1]]:List (List Value))),(x ++ [(c,a,1)]),p,i,rfl,rfl,rfl,(l.trans d),(F0 _),(F2.append (F2.up (r:=I0.toRp) d j) (show F2 (I0.R i) ([[.slice f c.length g,.int .i64 a,.int .i64 1]]:List (List Value)) [(c,a,1)] from⟨(N0 k e (by decide)),trivial⟩)),⟨_,(F3.snoc J (M2 m d)),(V0 m l B D)⟩,o,b⟩
         exact trivial
        exact trivial
       exact trivial
      exact trivial
     exact trivial
    exact trivial
   exact trivial
  refine aI ?_ ?_
  ·skip
   refine aT ?_
   refine aI ?_ ?_
   ·skip
    refine aT ?_
    refine aI ?_ ?_
    ·skip
     refine aT ?_
     refine aI ?_ ?_
     ·skip
      refine Tr.mono (H4 _ q t w u u8 aa (if(if 3<s then 3 else s)>1 then(if 3<s then 3 else s)else 1) (l3 (l3 (by decide) ac) (by decide)) 3 (by decide) _ ab) ?_
      rintro _ _ ⟨f,ae,g,i,rfl,n,d,N,rfl⟩
      have k:=n.r
      obtain⟨rfl,ad⟩:=Sl.len k
      refine aT ?_
      refine aI ?_ ?_
      ·skip
       refine aT ?_
       refine aI ?_ ?_
       ·skip
        refine Tr.mono (G1 _ q t w u Z N (if((M.length:Nat):Int)>1 then((M.length:Nat):Int)else 1) (l3 (q00 Y) (by decide)) _ X) ?_
        rintro _ _ ⟨rfl,L,rfl⟩
        have e:H0 a:=C1 V
        refine aT ?_
        refine aI ?_ ?_
        ·skip
         refine aT ?_
         refine aI ?_ ?_
         ·skip
          refine aT ?_
          obtain⟨K,G,b⟩:=B0 b
          obtain⟨U,p⟩:=K
          try dsimp only at b
          refine Tr.mono (Y1 _ q t w u O L 2 (by decide) _ G) ?_
          rintro _ _ ⟨rfl,o,rfl⟩
          refine ifB b (λH b=>?_) λH b=>?_
          ·obtain⟨S,E,b⟩:=B0 b
           refine aI (T0 E (by first|rw[F2.length (F2.up (r:=I0.toRp) d j),F2.length (show F2 (I0.R i) ([[.slice f c.length g,.int .i64 a,.int .i64 (-1)]]:List (List Value)) [(c,a,(-1))] from⟨(N0 k e (by decide)),trivial⟩)]|exact congrArg (·+1) (F2.length (F2.up (r:=I0.toRp) d j)))) ?_
           obtain⟨P,I,C,_⟩:=(New.pair n (New.pair (New.int e) (New.int (show H0 ((-1)) from(by decide)))))
           exact U1 A ⟨(IntKind.i64.wrap (y-1)),(z++([[.slice f c.length g,.int .i64 a,.int .i64 (-1)]]:List (List Value))),(x ++ [(c,a,(-1))]),p,i,rfl,rfl,rfl,(l.trans d),(F0 _),(F2.append (F2.up (r:=I0.toRp) d j) (show F2 (I0.R i) ([[.slice f c.length g,.int .i64 a,.int .i64 (-1)]]:List (List Value)) [(c,a,(-1))] from⟨(N0 k e (by decide)),trivial⟩)),⟨_,(F3.snoc I (M2 m d)),(V0 m l B C)⟩,o,b⟩
          ·obtain⟨T,F,b⟩:=B0 b
           refine aI (T0 F (by first|rw[F2.length (F2.up (r:=I0.toRp) d j),F2.length (show F2 (I0.R i) ([[.slice f c.length g,.int .i64 a,.int .i64 1]]:List (List Value)) [(c,a,1)] from⟨(N0 k e (by decide)),trivial⟩)]|exact congrArg (·+1) (F2.length (F2.up (r:=I0.toRp) d j)))) ?_
           obtain⟨Q,J,D,_⟩:=(New.pair n (New.pair (New.int e) (New.int (show H0 (1) from(by decide)))))
           exact U1 A ⟨(IntKind.i64.wrap (y-1)),(z++([[.slice f c.length g,.int .i64 a,.int .i64 1]]:List (List Value))),(x ++ [(c,a,1)]),p,i,rfl,rfl,rfl,(l.trans d),(F0 _),(F2.append (F2.up (r:=I0.toRp) d j) (show F2 (I0.R i) ([[.slice f c.length g,.int .i64 a,.int .i64 1]]:List (List Value)) [(c,a,1)] from⟨(N0 k e (by decide)),trivial⟩)),⟨_,(F3.snoc J (M2 m d)),(V0 m l B D)⟩,o,b⟩
         exact trivial
        exact trivial
       exact trivial
      exact trivial
     refine aI ?_ ?_
     ·skip
      refine aT ?_
      refine aI ?_ ?_
      ·skip
       refine Tr.mono (H4 _ q t w u u8 aa (if(if 3<s then 3 else s)>1 then(if 3<s then 3 else s)else 1) (l3 (l3 (by decide) ac) (by decide)) 3 (by decide) _ ab) ?_
       rintro _ _ ⟨f,ae,g,i,rfl,n,d,N,rfl⟩
       have k:=n.r
       obtain⟨rfl,ad⟩:=Sl.len k
       refine aT ?_
       refine aI ?_ ?_
       ·skip
        refine Tr.mono (G1 _ q t w u Z N (if((M.length:Nat):Int)>1 then((M.length:Nat):Int)else 1) (l3 (q00 Y) (by decide)) _ X) ?_
        rintro _ _ ⟨rfl,L,rfl⟩
        have e:H0 a:=C1 V
        refine aT ?_
        refine aI ?_ ?_
        ·skip
         refine aT ?_
         refine aI ?_ ?_
         ·skip
          refine aT ?_
          obtain⟨K,G,b⟩:=B0 b
          obtain⟨U,p⟩:=K
          try dsimp only at b
          refine Tr.mono (Y1 _ q t w u O L 2 (by decide) _ G) ?_
          rintro _ _ ⟨rfl,o,rfl⟩
          refine ifB b (λH b=>?_) λH b=>?_
          ·obtain⟨S,E,b⟩:=B0 b
           refine aI (T0 E (by first|rw[F2.length (F2.up (r:=I0.toRp) d j),F2.length (show F2 (I0.R i) ([[.slice f c.length g,.int .i64 a,.int .i64 (-1)]]:List (List Value)) [(c,a,(-1))] from⟨(N0 k e (by decide)),trivial⟩)]|exact congrArg (·+1) (F2.length (F2.up (r:=I0.toRp) d j)))) ?_
           obtain⟨P,I,C,_⟩:=(New.pair n (New.pair (New.int e) (New.int (show H0 ((-1)) from(by decide)))))
           exact U1 A ⟨(IntKind.i64.wrap (y-1)),(z++([[.slice f c.length g,.int .i64 a,.int .i64 (-1)]]:List (List Value))),(x ++ [(c,a,(-1))]),p,i,rfl,rfl,rfl,(l.trans d),(F0 _),(F2.append (F2.up (r:=I0.toRp) d j) (show F2 (I0.R i) ([[.slice f c.length g,.int .i64 a,.int .i64 (-1)]]:List (List Value)) [(c,a,(-1))] from⟨(N0 k e (by decide)),trivial⟩)),⟨_,(F3.snoc I (M2 m d)),(V0 m l B C)⟩,o,b⟩
          ·obtain⟨T,F,b⟩:=B0 b
           refine aI (T0 F (by first|rw[F2.length (F2.up (r:=I0.toRp) d j),F2.length (show F2 (I0.R i) ([[.slice f c.length g,.int .i64 a,.int .i64 1]]:List (List Value)) [(c,a,1)] from⟨(N0 k e (by decide)),trivial⟩)]|exact congrArg (·+1) (F2.length (F2.up (r:=I0.toRp) d j)))) ?_
           obtain⟨Q,J,D,_⟩:=(New.pair n (New.pair (New.int e) (New.int (show H0 (1) from(by decide)))))
           exact U1 A ⟨(IntKind.i64.wrap (y-1)),(z++([[.slice f c.length g,.int .i64 a,.int .i64 1]]:List (List Value))),(x ++ [(c,a,1)]),p,i,rfl,rfl,rfl,(l.trans d),(F0 _),(F2.append (F2.up (r:=I0.toRp) d j) (show F2 (I0.R i) ([[.slice f c.length g,.int .i64 a,.int .i64 1]]:List (List Value)) [(c,a,1)] from⟨(N0 k e (by decide)),trivial⟩)),⟨_,(F3.snoc J (M2 m d)),(V0 m l B D)⟩,o,b⟩
         exact trivial
        exact trivial
       exact trivial
      exact trivial
     exact trivial
    refine aI ?_ ?_
    ·skip
     refine aT ?_
     refine aI ?_ ?_
     ·skip
      refine aT ?_
      refine aI ?_ ?_
      ·skip
       refine Tr.mono (H4 _ q t w u u8 aa (if(if 3<s then 3 else s)>1 then(if 3<s then 3 else s)else 1) (l3 (l3 (by decide) ac) (by decide)) 3 (by decide) _ ab) ?_
       rintro _ _ ⟨f,ae,g,i,rfl,n,d,N,rfl⟩
       have k:=n.r
       obtain⟨rfl,ad⟩:=Sl.len k
       refine aT ?_
       refine aI ?_ ?_
       ·skip
        refine Tr.mono (G1 _ q t w u Z N (if((M.length:Nat):Int)>1 then((M.length:Nat):Int)else 1) (l3 (q00 Y) (by decide)) _ X) ?_
        rintro _ _ ⟨rfl,L,rfl⟩
        have e:H0 a:=C1 V
        refine aT ?_
        refine aI ?_ ?_
        ·skip
         refine aT ?_
         refine aI ?_ ?_
         ·skip
          refine aT ?_
          obtain⟨K,G,b⟩:=B0 b
          obtain⟨U,p⟩:=K
          try dsimp only at b
          refine Tr.mono (Y1 _ q t w u O L 2 (by decide) _ G) ?_
          rintro _ _ ⟨rfl,o,rfl⟩
          refine ifB b (λH b=>?_) λH b=>?_
          ·obtain⟨S,E,b⟩:=B0 b
           refine aI (T0 E (by first|rw[F2.length (F2.up (r:=I0.toRp) d j),F2.length (show F2 (I0.R i) ([[.slice f c.length g,.int .i64 a,.int .i64 (-1)]]:List (List Value)) [(c,a,(-1))] from⟨(N0 k e (by decide)),trivial⟩)]|exact congrArg (·+1) (F2.length (F2.up (r:=I0.toRp) d j)))) ?_
           obtain⟨P,I,C,_⟩:=(New.pair n (New.pair (New.int e) (New.int (show H0 ((-1)) from(by decide)))))
           exact U1 A ⟨(IntKind.i64.wrap (y-1)),(z++([[.slice f c.length g,.int .i64 a,.int .i64 (-1)]]:List (List Value))),(x ++ [(c,a,(-1))]),p,i,rfl,rfl,rfl,(l.trans d),(F0 _),(F2.append (F2.up (r:=I0.toRp) d j) (show F2 (I0.R i) ([[.slice f c.length g,.int .i64 a,.int .i64 (-1)]]:List (List Value)) [(c,a,(-1))] from⟨(N0 k e (by decide)),trivial⟩)),⟨_,(F3.snoc I (M2 m d)),(V0 m l B C)⟩,o,b⟩
          ·obtain⟨T,F,b⟩:=B0 b
           refine aI (T0 F (by first|rw[F2.length (F2.up (r:=I0.toRp) d j),F2.length (show F2 (I0.R i) ([[.slice f c.length g,.int .i64 a,.int .i64 1]]:List (List Value)) [(c,a,1)] from⟨(N0 k e (by decide)),trivial⟩)]|exact congrArg (·+1) (F2.length (F2.up (r:=I0.toRp) d j)))) ?_
           obtain⟨Q,J,D,_⟩:=(New.pair n (New.pair (New.int e) (New.int (show H0 (1) from(by decide)))))
           exact U1 A ⟨(IntKind.i64.wrap (y-1)),(z++([[.slice f c.length g,.int .i64 a,.int .i64 1]]:List (List Value))),(x ++ [(c,a,1)]),p,i,rfl,rfl,rfl,(l.trans d),(F0 _),(F2.append (F2.up (r:=I0.toRp) d j) (show F2 (I0.R i) ([[.slice f c.length g,.int .i64 a,.int .i64 1]]:List (List Value)) [(c,a,1)] from⟨(N0 k e (by decide)),trivial⟩)),⟨_,(F3.snoc J (M2 m d)),(V0 m l B D)⟩,o,b⟩
         exact trivial
        exact trivial
       exact trivial
      exact trivial
     exact trivial
    exact trivial
   refine aI ?_ ?_
   ·skip
    refine aT ?_
    refine aI ?_ ?_
    ·skip
     refine aT ?_
     refine aI ?_ ?_
     ·skip
      refine aT ?_
      refine aI ?_ ?_
      ·skip
       refine Tr.mono (H4 _ q t w u u8 aa (if(if 3<s then 3 else s)>1 then(if 3<s then 3 else s)else 1) (l3 (l3 (by decide) ac) (by decide)) 3 (by decide) _ ab) ?_
       rintro _ _ ⟨f,ae,g,i,rfl,n,d,N,rfl⟩
       have k:=n.r
       obtain⟨rfl,ad⟩:=Sl.len k
       refine aT ?_
       refine aI ?_ ?_
       ·skip
        refine Tr.mono (G1 _ q t w u Z N (if((M.length:Nat):Int)>1 then((M.length:Nat):Int)else 1) (l3 (q00 Y) (by decide)) _ X) ?_
        rintro _ _ ⟨rfl,L,rfl⟩
        have e:H0 a:=C1 V
        refine aT ?_
        refine aI ?_ ?_
        ·skip
         refine aT ?_
         refine aI ?_ ?_
         ·skip
          refine aT ?_
          obtain⟨K,G,b⟩:=B0 b
          obtain⟨U,p⟩:=K
          try dsimp only at b
          refine Tr.mono (Y1 _ q t w u O L 2 (by decide) _ G) ?_
          rintro _ _ ⟨rfl,o,rfl⟩
          refine ifB b (λH b=>?_) λH b=>?_
          ·obtain⟨S,E,b⟩:=B0 b
           refine aI (T0 E (by first|rw[F2.length (F2.up (r:=I0.toRp) d j),F2.length (show F2 (I0.R i) ([[.slice f c.length g,.int .i64 a,.int .i64 (-1)]]:List (List Value)) [(c,a,(-1))] from⟨(N0 k e (by decide)),trivial⟩)]|exact congrArg (·+1) (F2.length (F2.up (r:=I0.toRp) d j)))) ?_
           obtain⟨P,I,C,_⟩:=(New.pair n (New.pair (New.int e) (New.int (show H0 ((-1)) from(by decide)))))
           exact U1 A ⟨(IntKind.i64.wrap (y-1)),(z++([[.slice f c.length g,.int .i64 a,.int .i64 (-1)]]:List (List Value))),(x ++ [(c,a,(-1))]),p,i,rfl,rfl,rfl,(l.trans d),(F0 _),(F2.append (F2.up (r:=I0.toRp) d j) (show F2 (I0.R i) ([[.slice f c.length g,.int .i64 a,.int .i64 (-1)]]:List (List Value)) [(c,a,(-1))] from⟨(N0 k e (by decide)),trivial⟩)),⟨_,(F3.snoc I (M2 m d)),(V0 m l B C)⟩,o,b⟩
          ·obtain⟨T,F,b⟩:=B0 b
           refine aI (T0 F (by first|rw[F2.length (F2.up (r:=I0.toRp) d j),F2.length (show F2 (I0.R i) ([[.slice f c.length g,.int .i64 a,.int .i64 1]]:List (List Value)) [(c,a,1)] from⟨(N0 k e (by decide)),trivial⟩)]|exact congrArg (·+1) (F2.length (F2.up (r:=I0.toRp) d j)))) ?_
           obtain⟨Q,J,D,_⟩:=(New.pair n (New.pair (New.int e) (New.int (show H0 (1) from(by decide)))))
           exact U1 A ⟨(IntKind.i64.wrap (y-1)),(z++([[.slice f c.length g,.int .i64 a,.int .i64 1]]:List (List Value))),(x ++ [(c,a,1)]),p,i,rfl,rfl,rfl,(l.trans d),(F0 _),(F2.append (F2.up (r:=I0.toRp) d j) (show F2 (I0.R i) ([[.slice f c.length g,.int .i64 a,.int .i64 1]]:List (List Value)) [(c,a,1)] from⟨(N0 k e (by decide)),trivial⟩)),⟨_,(F3.snoc J (M2 m d)),(V0 m l B D)⟩,o,b⟩
         exact trivial
        exact trivial
       exact trivial
      exact trivial
     exact trivial
    exact trivial
   exact trivial
  exact trivial
 ·obtain rfl:=oJ b
  try dsimp only[Z0,D1]at af
  intro aO aW aC
  obtain⟨an,am,aH,rfl⟩:=U0.beside aa.no aC
  have aL:New (Wp.slice I0) h an [aO] x:=(U0.fresh (r:=I0) am m l B)
  obtain⟨av,az,rfl,a2,aq,aY⟩:=U0.out (r:=I0.toRp) am j
  have ax:=aa.mono aq aH
  obtain rfl:=oJ af
  exact⟨av,x.length,az,an,rfl,aL,(l.trans aq),ax,rfl⟩
theorem H0g(h:Hp)(d:Option Addr)(F e:Nat)(c:(List Int))(G:(Wp.slice Wp.u8).R h [.slice d F e] c)(r:l0×D0)(a:X01 c=some r):
  Tr Tryz.prog 47 #[.slice d F e] h λv h'=>∃(C:List Value) (x:Option Addr) (E z:Nat),v = .tuple #[.agg C.toArray,.slice x E z]/\Q1.R h' C r.1/\C0.R h' [.slice x E z] r.2/\Sub h h':=by
 obtain⟨rfl,aC⟩:=Sl.len G
 unfold X01 at a
 refine T3 (args:=[.slice d c.length e]) (fn:=Tryz.f47) rfl ?_
 refine trM a (o07 _ d c.length e c G) ?_
 rintro aj a _ _ ⟨l,m,rfl,rfl,S⟩
 obtain⟨ao,ab,a⟩:=B0 a
 obtain⟨aV,ap⟩:=ao
 try dsimp only at a
 refine Tr.mono (p03 _ l (.slice d c.length e) m c aj S _ ab) ?_
 rintro _ _ ⟨au,aA,rfl,ag,K,T,rfl⟩
 obtain⟨b,o,aM,q,n,rfl,rfl,f,g⟩:=I1 ag
 obtain⟨rfl,aG⟩:=Sl.len g
 try dsimp only at a
 refine Or.inr (Or.inr (Or.inl (aI (aI (by kernel_rfl) (by kernel_rfl)) ?_)))
 refine Or.inr ?_
 refine Or.inr ?_
 refine Or.inr ?_
 refine Or.inl (eX 0 (aI (aI rfl rfl) ?_))
 obtain⟨aq,ac,a⟩:=B0 a
 obtain⟨M,ar⟩:=aq
 try dsimp only at a
 refine Tr.mono (v07 _ l (.slice d c.length e) m c ap T _ _ (M0 f g) _ ac) ?_
 rintro _ _ ⟨P,aN,W,aB,rfl,ai,j,A,rfl⟩
 have J:=ai.r
 obtain⟨rfl,aH⟩:=Sl.len J
 refine aT ?_
 obtain⟨w,X,a⟩:=B0 a
 refine Tr.beside A.no (A06 _ [.int .i64 b,.slice o n.length q] (b,n) (M0 f (K1.mono j g)) P M.length W M J _  X) ?_
 rintro aQ av ⟨y,aJ,D,rfl,s,i⟩ ae
 have Q:=A.mono i ae
 obtain⟨rfl,aD⟩:=Sl.len s
 refine aT ?_
 refine aT ?_
 obtain⟨ak,Y,a⟩:=B0 a
 obtain⟨aS,al⟩:=ak
 try dsimp only at a
 refine Tr.mono (Y1 _ l (.slice d c.length e) m c ar Q 3 (by decide) _ Y) ?_
 rintro _ _ ⟨rfl,k,rfl⟩
 refine ifB a (λad a=>?_) λad a=>?_
 ·refine Or.inr (Or.inr (Or.inl (aI (aI (by kernel_rfl) (by kernel_rfl)) ?_)))
  refine Or.inl (eX (.val (.int .i64 (if 3<b then 3 else b))) (aI ?_ ?_))
  ·intro aw aO
   exact aI rfl (aI rfl rfl)
  refine Or.inl (eX (.val (.int .i64 (if(if 3<b then 3 else b)>1 then(if 3<b then 3 else b)else 1))) (aI ?_ ?_))
  ·intro ax aP
   exact aI rfl (aI rfl rfl)
  refine Or.inr ?_
  refine Or.inr ?_
  refine Or.inr ?_
  refine Or.inr ?_
  refine Or.inl (eX 0 (aI (aI rfl rfl) ?_))
  obtain⟨am,Z,a⟩:=B0 a
  obtain⟨L,aU⟩:=am
  try dsimp only at a
  refine Tr.mono (H4 _ l (.slice d c.length e) m c al k (if(if 3<b then 3 else b)>1 then(if 3<b then 3 else b)else 1) (l3 (l3 (by decide) f) (by decide)) 4 (by decide) _ Z) ?_
  rintro _ _ ⟨N,aK,U,ay,rfl,ah,t,B,rfl⟩
  have H:=ah.r
  obtain⟨rfl,aE⟩:=Sl.len H
  refine aT ?_
  obtain⟨an,aa,a⟩:=B0 a
  refine Tr.beside B.no (D6 _ y w.length D w (C0.mono t s) N L.length U L H _  aa) ?_
  rintro aR az ⟨O,aL,V,rfl,I,u⟩ af
  have p:=B.mono u af
  obtain⟨rfl,aF⟩:=Sl.len I
  refine aT ?_
  refine aT ?_
  refine aT ?_
  obtain rfl:=oJ a
  exact⟨([.int .i64 b,.slice o n.length q]),O,an.length,V,rfl,(Q1.mono (Sub.set p.no) (M0 f (K1.mono (((j.trans i).trans t).trans u) g))),(C0.mono (Sub.set p.no) I),(((((K.trans j).trans i).trans t).trans u).trans (Sub.set p.no))⟩
 ·obtain rfl:=oJ a
  exact⟨([.int .i64 b,.slice o n.length q]),y,w.length,D,rfl,(Q1.mono (Sub.set k.no) (M0 f (K1.mono (j.trans i) g))),(C0.mono (Sub.set k.no) s),(((K.trans j).trans i).trans (Sub.set k.no))⟩
theorem i09(h:Hp)(b:Option Addr)(k c:Nat)(d:(List Int))(l:(Wp.slice Wp.u8).R h [.slice b k c] d)(r:l0×D0)(a:E8 d=some r):
  Tr Tryz.prog 15 #[.slice b k c] h λv h'=>∃(i:List Value) (f:Option Addr) (j g:Nat),v = .tuple #[.agg i.toArray,.slice f j g]/\Q1.R h' i r.1/\C0.R h' [.slice f j g] r.2/\Sub h h':=by
 obtain⟨rfl,C⟩:=Sl.len l
 unfold E8 at a
 refine T3 (args:=[.slice b d.length c]) (fn:=Tryz.f15) rfl ?_
 refine trM a (H0g _ _ _ _ _ l) ?_
 rintro w a H B ⟨A,p,G,s,rfl,m,e,u⟩
 obtain⟨I,z⟩:=w
 dsimp only at a m e
 obtain⟨x,o,F,q,y,rfl,rfl,t,n⟩:=I1 m
 obtain⟨rfl,D⟩:=Sl.len n
 try dsimp only at a
 obtain⟨rfl,E⟩:=Sl.len e
 obtain rfl:=oJ a
 exact⟨([.int .i64 x,.slice o y.length q]),p,z.length,s,rfl,(M0 t n),e,u⟩
theorem v08(h:Hp)(c:Option Addr)(n d:Nat)(b:(List Int))(o:(Wp.slice Wp.u8).R h [.slice c n d] b)(r:l0×C01)(a:l9 b=some r):
  Tr Tryz.prog 5 #[.slice c n d] h λv h'=>∃(j:List Value) (g:Option Addr) (m i:Nat),v = .tuple #[.agg j.toArray,.slice g m i]/\Q1.R h' j r.1/\b08.R h' [.slice g m i] r.2/\Sub h h':=by
 obtain⟨rfl,P⟩:=Sl.len o
 unfold l9 at a
 refine T3 (args:=[.slice c b.length d]) (fn:=Tryz.f5) rfl ?_
 refine trM a (o07 _ c b.length d b o) ?_
 rintro F a _ _ ⟨l,s,rfl,rfl,w⟩
 obtain⟨G,A,a⟩:=B0 a
 obtain⟨V,J⟩:=G
 try dsimp only at a
 refine Tr.mono (p03 _ l (.slice c b.length d) s b F w _ A) ?_
 rintro _ _ ⟨M,N,rfl,C,D,x,rfl⟩
 obtain⟨H,t,T,y,I,rfl,rfl,k,f⟩:=I1 C
 obtain⟨rfl,Q⟩:=Sl.len f
 try dsimp only at a
 refine Or.inr (Or.inr (Or.inl (aI (aI (by kernel_rfl) (by kernel_rfl)) ?_)))
 refine Or.inr ?_
 refine Or.inr ?_
 refine Or.inr ?_
 refine Or.inl (eX 0 (aI (aI rfl rfl) ?_))
 obtain⟨K,B,a⟩:=B0 a
 obtain⟨L,W⟩:=K
 try dsimp only at a
 refine Tr.mono (v07 _ l (.slice c b.length d) s b J x _ _ (M0 k f) _ B) ?_
 rintro _ _ ⟨u,U,z,O,rfl,E,q,e,rfl⟩
 have p:=E.r
 obtain⟨rfl,S⟩:=Sl.len p
 refine aT ?_
 refine aT ?_
 refine aT ?_
 obtain rfl:=oJ a
 exact⟨([.int .i64 H,.slice t I.length y]),u,L.length,z,rfl,(Q1.mono (Sub.set e.no) (M0 k (K1.mono q f))),(b08.mono (Sub.set e.no) p),((D.trans q).trans (Sub.set e.no))⟩
theorem C06(h:Hp)(c:Option Addr)(g d:Nat)(b:(List Int))(i:(Wp.slice Wp.u8).R h [.slice c g d] b)(r:l0)(a:U7 b=some r):
  Tr Tryz.prog 20 #[.slice c g d] h λv h'=>∃(f:List Value),v = .agg f.toArray/\Q1.R h' f r/\Sub h h':=by
 obtain⟨rfl,B⟩:=Sl.len i
 unfold U7 at a
 refine T3 (args:=[.slice c b.length d]) (fn:=Tryz.f20) rfl ?_
 refine trM a (o07 _ c b.length d b i) ?_
 rintro u a _ _ ⟨p,t,rfl,rfl,l⟩
 obtain⟨w,n,a⟩:=B0 a
 obtain⟨E,F⟩:=w
 try dsimp only at a
 refine Tr.mono (p03 _ p (.slice c b.length d) t b u l _ n) ?_
 rintro _ _ ⟨z,A,rfl,q,s,e,rfl⟩
 obtain⟨x,k,D,m,y,rfl,rfl,o,j⟩:=I1 q
 obtain⟨rfl,C⟩:=Sl.len j
 try dsimp only at a
 obtain rfl:=oJ a
 exact⟨([.int .i64 x,.slice k y.length m]),rfl,(Q1.mono (Sub.set e.no) (M0 o j)),(s.trans (Sub.set e.no))⟩
theorem j0n(h:Hp)(a:Option Addr)(e b:Nat)(c:(List Int))(f:(Wp.slice Wp.u8).R h [.slice a e b] c)(r:Bool)(d:C03 c=some r):
  Tr Tryz.prog 4 #[.slice a e b] h λv h'=>v = .bool r/\h'=h:=by
 obtain⟨rfl,g⟩:=Sl.len f
 unfold C03 at d
 refine Tr.forget (T3 (args:=[.slice a c.length b]) (fn:=Tryz.f4) rfl ?_)
 obtain rfl:=oJ d
 exact aI rfl (Sub.refl _)
theorem y02(h:Hp)(i:Option Addr)(n k:Nat)(d:D0)(p:C0.R h [.slice i n k] d)(j:Option Addr)(o l:Nat)(e:D0)(q:C0.R h [.slice j o l] e)(r:Bool)(b:I8 d e=some r):
  Tr Tryz.prog 7 #[.slice i n k,.slice j o l] h λv h'=>v = .bool r/\h'=h:=by
 obtain⟨rfl,B⟩:=Sl.len p
 obtain⟨rfl,C⟩:=Sl.len q
 unfold I8 at b
 refine Tr.forget (T3 (args:=[.slice i d.length k,.slice j e.length l]) (fn:=Tryz.f7) rfl ?_)
 refine ifB b (λt b=>?_) λt b=>?_
 ·obtain rfl:=oJ b
  exact aI rfl (Sub.refl _)
 ·obtain⟨m,s,b⟩:=B0 b
  refine eX { vars:=[5],boxes:=[],owns:=[],fuel:=true } (eX (λvs os h'=>∃ c,vs.tail = [.int .i64 c]/\os = []/\Sub h h'/\H0 c/\j7 d e (W1 vs) c=some m) (eX (λ_ _=>0) (aI (eX W0 ⟨0,rfl,rfl,(Sub.refl _),(by decide),s⟩) ?_)))
  rintro _ g A ⟨c,⟨⟩,⟨⟩,f,x,a⟩
  replace a:j7 d e g c=some m:=a
  obtain _|g:=g
  ·cases a
  rw[j7.eq_2]at a
  refine ifB a (λu a=>?_) λu a=>?_
  ·refine Or.inl (aI (aI (by kernel_rfl) (by kernel_rfl)) ?_)
   refine ldI a (C0.mono f p) λD y a=>?_
   refine ldI a (C0.mono f q) λE z a=>?_
   refine ifB a (λw a=>?_) λw a=>?_
   ·obtain rfl:=oJ a
    try dsimp only[P2,Q2]at b
    obtain rfl:=oJ b
    exact aI rfl f
   ·exact U1 g ⟨(IntKind.i64.wrap (c+1)),rfl,rfl,f,(F0 _),a⟩
  ·obtain rfl:=oJ a
   try dsimp only[Z0,D1]at b
   obtain rfl:=oJ b
   exact aI rfl f
theorem g0d(h:Hp)(i:Option Addr)(p k:Nat)(d:L1)(s:K1.R h [.slice i p k] d)(j:Option Addr)(q l:Nat)(e:L1)(t:K1.R h [.slice j q l] e)(r:Bool)(b:T00 d e=some r):
  Tr Tryz.prog 21 #[.slice i p k,.slice j q l] h λv h'=>v = .bool r/\h'=h:=by
 obtain⟨rfl,J⟩:=Sl.len s
 obtain⟨rfl,K⟩:=Sl.len t
 unfold T00 at b
 refine Tr.forget (T3 (args:=[.slice i d.length k,.slice j e.length l]) (fn:=Tryz.f21) rfl ?_)
 refine ifB b (λx b=>?_) λx b=>?_
 ·obtain rfl:=oJ b
  exact aI rfl (Sub.refl _)
 ·obtain⟨o,w,b⟩:=B0 b
  refine eX { vars:=[5],boxes:=[],owns:=[],fuel:=true } (eX (λvs os h'=>∃ c,vs.tail = [.int .i64 c]/\os = []/\Sub h h'/\H0 c/\A6 d e (W1 vs) c=some o) (eX (λ_ _=>0) (aI (eX W0 ⟨0,rfl,rfl,(Sub.refl _),(by decide),w⟩) ?_)))
  rintro _ g I ⟨c,⟨⟩,⟨⟩,f,H,a⟩
  replace a:A6 d e g c=some o:=a
  obtain _|g:=g
  ·cases a
  rw[A6.eq_2]at a
  refine ifB a (λz a=>?_) λz a=>?_
  ·refine Or.inl (aI (aI (by kernel_rfl) (by kernel_rfl)) ?_)
   refine ld a (K1.mono f s) λP D m a=>?_
   obtain⟨B,N,F,rfl⟩:=Wp.slice_cell m
   obtain⟨rfl,L⟩:=Sl.len m
   refine ld a (K1.mono f t) λQ E n a=>?_
   obtain⟨C,O,G,rfl⟩:=Wp.slice_cell n
   obtain⟨rfl,M⟩:=Sl.len n
   obtain⟨A,u,a⟩:=B0 a
   refine eX (.bool A) (aI (y02 _ _ _ _ _ m _ _ _ _ n _  u) ?_)
   refine ifB a (λy a=>?_) λy a=>?_
   ·obtain rfl:=oJ a
    try dsimp only[P2,Q2]at b
    obtain rfl:=oJ b
    exact aI rfl f
   ·exact U1 g ⟨(IntKind.i64.wrap (c+1)),rfl,rfl,f,(F0 _),a⟩
  ·obtain rfl:=oJ a
   try dsimp only[Z0,D1]at b
   obtain rfl:=oJ b
   exact aI rfl f
theorem V0g(h:Hp)(J:Option Addr)(aD L:Nat)(E:(List Int))(X:(Wp.slice Wp.u8).R h [.slice J aD L] E)(r:Bool)(d:s02 E=some r):
  Tr Tryz.prog 3 #[.slice J aD L] h λv h'=>v = .bool r/\h'=h:=by
 obtain⟨rfl,dK⟩:=Sl.len X
 unfold s02 at d
 refine Tr.forget (f0v [9,5] (v := .slice J E.length L) (fn:=Tryz.f3) rfl ?_)
 obtain⟨aX,b,d⟩:=B0 d
 refine eX (aX = .inr ()) (aI ?_ ?_)
 ·unfold U00 at b
  refine trV b (j0n _ _ _ _ _ X) λe2 b=>?_
  refine ifB b (λbF b=>?_) λbF b=>?_
  ·obtain rfl:=oJ b
   try dsimp only[P2,Q2]at d
   obtain rfl:=oJ d
   exact aI rfl (Sub.refl _)
  ·refine trM b (v08 _ J E.length L E X) ?_
   rintro cp b eU bO ⟨cJ,aA,ek,aC,rfl,aK,ai,ac⟩
   obtain⟨fb,am⟩:=cp
   dsimp only at b aK ai
   obtain⟨i,A,ej,B,j,rfl,rfl,D,u⟩:=I1 aK
   obtain⟨rfl,dS⟩:=Sl.len u
   try dsimp only at b
   obtain⟨rfl,dT⟩:=Sl.len ai
   refine trM b (a0d _ [.int .i64 i,.slice A j.length B] (i,j) (M0 D u) aA am.length aC am ai) ?_
   rintro T b eV bP ⟨ao,en,ap,rfl,aR⟩
   have m:Sub bO bP:=aR.sub
   have aa:=aR.r
   obtain⟨rfl,dU⟩:=Sl.len aa
   refine trM b (A06 _ [.int .i64 i,.slice A j.length B] (i,j) (M0 D (K1.mono m u)) aA am.length aC am (b08.mono m ai)) ?_
   rintro eY b eO bK ⟨cw,eb,cL,rfl,aE,k⟩
   obtain⟨rfl,dL⟩:=Sl.len aE
   refine trV b (y02 _ _ _ _ _ (C0.mono k aa) _ _ _ _ aE) λeZ b=>?_
   refine ifB b (λbC b=>?_) λbC b=>?_
   ·obtain rfl:=oJ b
    try dsimp only[P2,Q2]at d
    obtain rfl:=oJ d
    exact aI rfl ((ac.trans m).trans k)
   ·refine trM b (K0b _ [.int .i64 i,.slice A j.length B] (i,j) (M0 D (K1.mono (m.trans k) u)) ao T.length ap T (C0.mono k aa)) ?_
    rintro cg b eP bL ⟨cx,ed,cM,rfl,ar⟩
    obtain⟨e0,ch⟩:=cg
    dsimp only at b ar
    have n:Sub bK bL:=ar.sub
    have aG:=ar.r
    obtain⟨rfl,dM⟩:=Sl.len aG
    obtain⟨ew,bh,b⟩:=B0 b
    have c0:H0 ch:=C1 bh
    refine trM b (L0b _ [.int .i64 i,.slice A j.length B] (i,j) (M0 D (K1.mono ((m.trans k).trans n) u)) ao T.length ap T (C0.mono (k.trans n) aa)) ?_
    rintro ci b eQ dk ⟨cy,ee,cN,rfl,aq,s⟩
    obtain⟨e1,cj⟩:=ci
    dsimp only at b aq
    obtain⟨rfl,dN⟩:=Sl.len aq
    obtain⟨ex,bi,b⟩:=B0 b
    have c1:H0 cj:=C1 bi
    refine Or.inl (aI (aI (by kernel_rfl) (by kernel_rfl)) ?_)
    obtain⟨ck,bp,b⟩:=B0 b
    refine eX (.bool ck) (aI (y02 _ _ _ _ _ (C0.mono s aG) _ _ _ _ aq _  bp) ?_)
    refine trG b (λq=>F0g _ [.int .i64 i,.slice A j.length B] (i,j) (M0 D (K1.mono (((m.trans k).trans n).trans s) u))) λe3 b=>?_
    refine trG b (λq=>r08 _ [.int .i64 i,.slice A j.length B] (i,j) (M0 D (K1.mono (((m.trans k).trans n).trans s) u))) λe4 b=>?_
    refine trG b (λq=>r08 _ [.int .i64 i,.slice A j.length B] (i,j) (M0 D (K1.mono (((m.trans k).trans n).trans s) u))) λe5 b=>?_
    refine ifB b (λbD b=>?_) λbD b=>?_
    ·obtain rfl:=oJ b
     try dsimp only[P2,Q2]at d
     obtain rfl:=oJ d
     exact aI rfl ((((ac.trans m).trans k).trans n).trans s)
    ·refine trG b (λq=>I5 _ [.int .i64 i,.slice A j.length B] (i,j) (M0 D (K1.mono (((m.trans k).trans n).trans s) u))) λe6 b=>?_
     refine ifB b (λbE b=>?_) λbE b=>?_
     ·obtain⟨cl,bq,b⟩:=B0 b
      obtain⟨e7,e8⟩:=cl
      try dsimp only at b
      refine Tr.val (F02 _ [.int .i64 i,.slice A j.length B] (i,j) (M0 D (K1.mono (((m.trans k).trans n).trans s) u)) ao T.length ap T (C0.mono ((k.trans n).trans s) aa) _  bq) ?_
      refine ifB b (λbG b=>?_) λbG b=>?_
      ·obtain rfl:=oJ b
       try dsimp only[P2,Q2]at d
       obtain rfl:=oJ d
       exact aI rfl ((((ac.trans m).trans k).trans n).trans s)
      ·obtain rfl:=oJ b
       exact aI (aI rfl rfl) (aI ((((ac.trans m).trans k).trans n).trans s) rfl)
     ·obtain rfl:=oJ b
      exact aI (aI rfl rfl) (aI ((((ac.trans m).trans k).trans n).trans s) rfl)
 ·rintro rfl dm ab
  try dsimp only[Z0]at d
  obtain⟨aY,b,d⟩:=B0 d
  refine eX (aY = .inr ()) (aI ?_ ?_)
  ·unfold f02 at b
   refine trM b (i09 _ J E.length L E ((Wp.slice Wp.u8).mono ab X)) ?_
   rintro cm b eR bM ⟨cI,V,eg,W,rfl,aH,G,ak⟩
   obtain⟨e9,z⟩:=cm
   dsimp only at b aH G
   obtain⟨y,ad,ef,ae,F,rfl,rfl,N,Y⟩:=I1 aH
   obtain⟨rfl,dO⟩:=Sl.len Y
   try dsimp only at b
   obtain⟨rfl,dP⟩:=Sl.len G
   refine trM b (Z0d _ [.int .i64 y,.slice ad F.length ae] (y,F) (M0 N Y) V z.length W z G) ?_
   rintro cn b eS bN ⟨cz,eh,cO,rfl,au⟩
   obtain⟨fa,co⟩:=cn
   dsimp only at b au
   have t:Sub bM bN:=au.sub
   have aJ:=au.r
   obtain⟨rfl,dQ⟩:=Sl.len aJ
   refine trM b (t07 _ [.int .i64 y,.slice ad F.length ae] (y,F) (M0 N (K1.mono t Y)) V z.length W z (C0.mono t G)) ?_
   rintro cq b eT dn ⟨az,ei,aB,rfl,Z,x⟩
   obtain⟨P,cr⟩:=cq
   dsimp only at b Z
   obtain⟨rfl,dR⟩:=Sl.len Z
   refine aI (by kernel_rfl) ?_
   refine Or.inl (eX (.val (.bool (!(co == cr)))) (aI ?_ ?_))
   ·intro dq eG
    exact aI rfl (aI rfl rfl)
   obtain⟨aU,br,b⟩:=B0 b
   refine Or.inl (eX (.val (.bool aU)) (aI ?_ ?_))
   ·intro ds aP f
    exact Tr.val (y02 _ _ _ _ _ (C0.mono (x.trans aP) aJ) _ _ _ _ (C0.mono aP Z) _ (r9 br f)) (aI rfl (aI rfl rfl))
   refine Or.inl (eX (.val (.bool (!aU))) (aI ?_ ?_))
   ·intro dt eH f
    exact aI rfl (aI rfl rfl)
   refine Or.inl (eX (.val (.int .i64 ((P.length:Nat):Int))) (aI ?_ ?_))
   ·intro du eI f
    exact aI rfl (aI rfl rfl)
   obtain⟨Q,bs,b⟩:=B0 b
   refine Or.inr (eX (λv C=>∃(a:Option Addr) (c:Nat),v = .slice a Q.length c/\C0.R C [.slice a Q.length c] Q/\Q.length<=9223372036854775807) (aI (λv af ag g q=>by obtain⟨a,c,e,r,l⟩:=q;exact⟨a,c,e,C0.mono g r,l⟩) (aI ?_ ?_)))
   ·intro dv b7 f
    refine Tr.mono (C6 _ V z.length W z (C0.mono ((t.trans x).trans b7) G) _ (r9 bs f)) ?_
    rintro _ ah ⟨a0,el,a7,rfl,aL,g⟩
    obtain⟨rfl,bR⟩:=Sl.len aL
    exact aI g01 (aI g ⟨a0,a7,rfl,aL,bR⟩)
   obtain⟨ey,cV,b⟩:=B0 b
   refine Or.inl (eX (.val (.int .i64 ((Q.length:Nat):Int))) (aI ?_ ?_))
   ·intro dw eJ f
    rintro _ ⟨cG,cT,rfl,eB,d1⟩
    exact aI rfl (aI rfl rfl)
   refine Or.inl (eX (.val (.bool (decide (((P.length:Nat):Int) ≥ ((Q.length:Nat):Int))))) (aI ?_ ?_))
   ·intro dx eK f
    exact aI rfl (aI rfl rfl)
   intro dy w
   dsimp only[G09,W08]
   refine ifB b (λbH b=>?_) λbH b=>?_
   ·obtain rfl:=oJ b
    try dsimp only[P2,Q2]at d
    obtain rfl:=oJ d
    exact aI rfl ((((ab.trans ak).trans t).trans x).trans w)
   ·refine Or.inr (Or.inr (Or.inr (Or.inl (aI (aI (by kernel_rfl) (by kernel_rfl)) ?_))))
    obtain⟨S,bt,b⟩:=B0 b
    refine Or.inr (eX (λv C=>∃(a:Option Addr) (c:Nat),v = .slice a S.length c/\C0.R C [.slice a S.length c] S/\S.length<=9223372036854775807) (aI (λv af ag g q=>by obtain⟨a,c,e,r,l⟩:=q;exact⟨a,c,e,C0.mono g r,l⟩) (aI ?_ ?_)))
    ·intro dz b8 f
     refine Tr.mono (C6 _ V z.length W z (C0.mono (((t.trans x).trans w).trans b8) G) _ (r9 bt f)) ?_
     rintro _ ah ⟨a1,em,a8,rfl,aM,g⟩
     obtain⟨rfl,bS⟩:=Sl.len aM
     exact aI g01 (aI g ⟨a1,a8,rfl,aM,bS⟩)
    obtain⟨cs,bu,b⟩:=B0 b
    refine Or.inl (eX (.val (.bool cs)) (aI ?_ ?_))
    ·intro dA eL f
     rintro _ ⟨a4,bb,rfl,bY,d2⟩
     exact Tr.val (t02 _ y N a4 S.length bb S bY _ (r9 bu f)) (aI rfl (aI rfl rfl))
    obtain⟨ct,bv,b⟩:=B0 b
    refine Or.inl (eX (.val (.bool ct)) (aI ?_ ?_))
    ·intro dB ca f
     exact Tr.val (t02 _ y N az P.length aB P (C0.mono (w.trans ca) Z) _ (r9 bv f)) (aI rfl (aI rfl rfl))
    intro dC I
    dsimp only[G09,W08]
    refine ifB b (λbI b=>?_) λbI b=>?_
    ·refine Or.inr (Or.inr (Or.inr (Or.inl (aI (aI (by kernel_rfl) (by kernel_rfl)) ?_))))
     obtain⟨U,bx,b⟩:=B0 b
     refine Or.inr (eX (λv C=>∃(a:Option Addr) (c:Nat),v = .slice a U.length c/\C0.R C [.slice a U.length c] U/\U.length<=9223372036854775807) (aI (λv af ag g q=>by obtain⟨a,c,e,r,l⟩:=q;exact⟨a,c,e,C0.mono g r,l⟩) (aI ?_ ?_)))
     ·intro dD cb
      refine Tr.mono (C6 _ V z.length W z (C0.mono ((((t.trans x).trans w).trans I).trans cb) G) _ bx) ?_
      rintro _ ah ⟨a2,eo,a9,rfl,aN,g⟩
      obtain⟨rfl,bT⟩:=Sl.len aN
      exact aI g01 (aI g ⟨a2,a9,rfl,aN,bT⟩)
     obtain⟨cu,bz,b⟩:=B0 b
     obtain⟨aV,aW⟩:=cu
     try dsimp only at b
     refine Or.inl (eX (.val (.tuple #[.bool aV,.bool aW])) (aI ?_ ?_))
     ·intro dE cd
      rintro _ ⟨a5,bc,rfl,bZ,d3⟩
      exact Tr.val (F02 _ [.int .i64 y,.slice ad F.length ae] (y,F) (M0 N (K1.mono ((((t.trans x).trans w).trans I).trans cd) Y)) a5 U.length bc U bZ _ bz) (aI rfl (aI rfl rfl))
     refine Or.inl (eX (.val (.bool aV)) (aI ?_ ?_))
     ·intro dF eM
      exact aI rfl (aI rfl rfl)
     refine Or.inl (eX (.val (.bool aW)) (aI ?_ ?_))
     ·intro dG eN
      exact aI rfl (aI rfl rfl)
     intro dH aj
     dsimp only[G09,W08]
     rintro _ ⟨cH,cU,rfl,eC,ea⟩
     obtain⟨cv,bA,b⟩:=B0 b
     obtain⟨fc,fd⟩:=cv
     try dsimp only at b
     refine Tr.val (F02 _ [.int .i64 y,.slice ad F.length ae] (y,F) (M0 N (K1.mono ((((t.trans x).trans w).trans I).trans aj) Y)) az P.length aB P (C0.mono ((w.trans I).trans aj) Z) _  bA) ?_
     refine ifB b (λbJ b=>?_) λbJ b=>?_
     ·obtain rfl:=oJ b
      try dsimp only[P2,Q2]at d
      obtain rfl:=oJ d
      exact aI rfl ((((((ab.trans ak).trans t).trans x).trans w).trans I).trans aj)
     ·obtain rfl:=oJ b
      exact aI (aI rfl rfl) (aI (((((ak.trans t).trans x).trans w).trans I).trans aj) rfl)
    ·obtain rfl:=oJ b
     exact aI (aI rfl rfl) (aI ((((ak.trans t).trans x).trans w).trans I) rfl)
  ·rintro rfl dI aQ
   try dsimp only[Z0]at d
   refine trM d (C06 _ J E.length L E ((Wp.slice Wp.u8).mono (ab.trans aQ) X)) ?_
   rintro fe d eW dJ ⟨cK,rfl,bV,ce⟩
   obtain⟨o,K,ep,M,p,rfl,rfl,O,H⟩:=I1 bV
   obtain⟨rfl,dV⟩:=Sl.len H
   try dsimp only at d
   refine Or.inr (Or.inr (Or.inr (Or.inl (aI (aI (by kernel_rfl) (by kernel_rfl)) ?_))))
   obtain⟨an,bB,d⟩:=B0 d
   refine Or.inr (eX (λv C=>∃(a:Option Addr) (c:Nat),v = .slice a an.length c/\K1.R C [.slice a an.length c] an/\an.length<=9223372036854775807) (aI (λv af ag g q=>by obtain⟨a,c,e,r,l⟩:=q;exact⟨a,c,e,K1.mono g r,l⟩) (aI ?_ ?_)))
   ·intro c2 b0
    refine Tr.mono (L8 _ [.int .i64 o,.slice K p.length M] (o,p) (M0 O (K1.mono b0 H)) _ bB) ?_
    rintro _ ah ⟨a3,eq,ba,rfl,aS⟩
    have g:=aS.sub
    have aO:=aS.r
    obtain⟨rfl,bU⟩:=Sl.len aO
    exact aI g01 (aI g ⟨a3,ba,rfl,aO,bU⟩)
   obtain⟨al,bj,d⟩:=B0 d
   refine Or.inr (eX (λv C=>∃(a:Option Addr) (c:Nat),v = .slice a al.length c/\K1.R C [.slice a al.length c] al/\al.length<=9223372036854775807) (aI (λv af ag g q=>by obtain⟨a,c,e,r,l⟩:=q;exact⟨a,c,e,K1.mono g r,l⟩) (aI ?_ ?_)))
   ·intro c3 b1
    refine Tr.mono (f00 _ [.int .i64 o,.slice K p.length M] (o,p) (M0 O (K1.mono b1 H)) _ bj) ?_
    rintro _ ah ⟨aZ,ec,a6,rfl,aF,g⟩
    obtain⟨rfl,bQ⟩:=Sl.len aF
    exact aI g01 (aI g ⟨aZ,a6,rfl,aF,bQ⟩)
   obtain⟨cf,bk,d⟩:=B0 d
   refine Or.inl (eX (.val (.bool cf)) (aI ?_ ?_))
   ·intro db eD
    rintro _ ⟨cA,cP,rfl,bW,dW⟩
    rintro _ ⟨cC,cQ,rfl,bX,dX⟩
    exact Tr.val (g0d _ _ _ _ _ bW _ _ _ _ bX _ bk) (aI rfl (aI rfl rfl))
   obtain⟨av,bl,d⟩:=B0 d
   obtain⟨er,bd,d⟩:=B0 d
   have cW:H0 av:=C1 bd
   refine Or.inl (eX (.val (.int .i64 av)) (aI ?_ ?_))
   ·intro dc b2 f
    exact Tr.val (f09 _ [.int .i64 o,.slice K p.length M] (o,p) (M0 O (K1.mono b2 H)) _ (r9 bl f)) (aI rfl (aI rfl rfl))
   obtain⟨aw,bm,d⟩:=B0 d
   obtain⟨es,be,d⟩:=B0 d
   have cX:H0 aw:=C1 be
   refine Or.inl (eX (.val (.int .i64 aw)) (aI ?_ ?_))
   ·intro dd b3 f
    exact Tr.val (e09 _ [.int .i64 o,.slice K p.length M] (o,p) (M0 O (K1.mono b3 H)) _ (r9 bm f)) (aI rfl (aI rfl rfl))
   refine Or.inl (eX (.val (.bool (decide (av=aw)))) (aI ?_ ?_))
   ·intro df eE f
    exact aI rfl (aI rfl rfl)
   obtain⟨ax,bn,d⟩:=B0 d
   obtain⟨et,bf,d⟩:=B0 d
   have cY:H0 ax:=C1 bf
   refine Or.inl (eX (.val (.int .i64 ax)) (aI ?_ ?_))
   ·intro dg b4 f
    exact Tr.val (n07 _ [.int .i64 o,.slice K p.length M] (o,p) (M0 O (K1.mono b4 H)) _ (r9 bn f)) (aI rfl (aI rfl rfl))
   obtain⟨ay,bo,d⟩:=B0 d
   obtain⟨eu,bg,d⟩:=B0 d
   have cZ:H0 ay:=C1 bg
   refine Or.inl (eX (.val (.int .i64 ay)) (aI ?_ ?_))
   ·intro dh b5 f
    exact Tr.val (m07 _ [.int .i64 o,.slice K p.length M] (o,p) (M0 O (K1.mono b5 H)) _ (r9 bo f)) (aI rfl (aI rfl rfl))
   refine Or.inl (eX (.val (.bool (decide (ax=ay)))) (aI ?_ ?_))
   ·intro di eF f
    exact aI rfl (aI rfl rfl)
   intro dj b6
   dsimp only[G09,W08]
   rintro _ ⟨cD,cR,rfl,ez,dY⟩
   rintro _ ⟨cE,cS,rfl,eA,dZ⟩
   obtain rfl:=oJ d
   exact aI rfl (((ab.trans aQ).trans ce).trans b6)
end Go.Proofs.YtfphndijjmdiiaaGreat
