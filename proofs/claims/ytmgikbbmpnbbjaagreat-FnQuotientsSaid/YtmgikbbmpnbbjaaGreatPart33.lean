/- Texts of the claim, joined: The walks of batch d4 and others. -/
import Derived.Test.YtmgikbbmpnbbjaaGreatPart22
import Derived.Test.YtmgikbbmpnbbjaaGreatChecked
import Derived.Test.YtmgikbbmpnbbjaaGreatH35
import Derived.Test.YtmgikbbmpnbbjaaGreatPart30
import Derived.Test.YtmgikbbmpnbbjaaGreatPart32
import Derived.Test.YtmgikbbmpnbbjaaGreatH41
import Derived.Test.YtmgikbbmpnbbjaaGreatH45
import Derived.Test.YtmgikbbmpnbbjaaGreatPart21
import Derived.Test.YtmgikbbmpnbbjaaGreatH36
import Derived.Test.YtmgikbbmpnbbjaaGreatPart25
import Derived.Test.YtmgikbbmpnbbjaaGreatH50
namespace Go.Proofs.YtmgikbbmpnbbjaaGreat
open Go.H
set_option linter.unusedVariables false
set_option linter.unusedSimpArgs false
set_option maxRecDepth 10000
theorem S09(h:Hp)(k:Nat)(o:Value)(H:TypeId)(x:List Int)(aj:Int×Int)(aq:L9 h k o x aj)(r:j0×(Int×Int))(F:E01 x aj=some r):
  Tr Tryz.prog 259 #[ptr k 0] (h.set k (N03 o aj H)) λv h'=>∃(ar:List Value) (ai:Hp),v = .agg ar.toArray/\New F1 h ai ar r.1/\Sub h ai/\L9 ai k o x r.2/\h'=ai.set k (N03 o r.2 H):=by
 unfold E01 at F
 refine G2 (args:=[ptr k 0]) (fn:=Tryz.f259) rfl ?_
 refine Or.inl ?_
 intro bk bb f3
 obtain⟨ax,aJ,aS,rfl⟩:=W0.beside aq.no f3
 obtain⟨a7,a8,rfl,aX,L,bd⟩:=W0.out (r:=Wp.int.toRp) aJ (show F2 (Wp.int.R h) ([[.int .i64 1],[.int .i64 2],[.int .i64 2],[.int .i64 2],[.int .i64 3]]:List (List Value)) [1,2,2,2,3] from⟨⟨rfl,(by decide)⟩,⟨⟨rfl,(by decide)⟩,⟨⟨rfl,(by decide)⟩,⟨⟨rfl,(by decide)⟩,⟨⟨rfl,(by decide)⟩,trivial⟩⟩⟩⟩⟩)
 have aF:=aq.mono L aS
 obtain⟨a5,aP,F⟩:=B0 F
 obtain⟨aB,a6⟩:=a5
 try dsimp only at F
 refine Tr.mono (I01 _ k o H x aj aF _ _ _ _ aX _ aP) ?_
 rintro _ _ ⟨rfl,aC,rfl⟩
 obtain⟨be,aK,F⟩:=B0 F
 have aW:H0 aB:=M0 aK
 obtain⟨aY,aN,F⟩:=B0 F
 obtain⟨az,aZ⟩:=aY
 try dsimp only at F
 refine Tr.mono (K1 _ k o H x a6 aC 5 (by decide) _ aN) ?_
 rintro _ _ ⟨rfl,aD,rfl⟩
 obtain⟨bf,aL,F⟩:=B0 F
 have ba:H0 az:=M0 aL
 obtain⟨a0,aO,F⟩:=B0 F
 obtain⟨aA,a1⟩:=a0
 try dsimp only at F
 refine Tr.mono (K1 _ k o H x aZ aD 9 (by decide) _ aO) ?_
 rintro _ _ ⟨rfl,aE,rfl⟩
 obtain⟨bg,aM,F⟩:=B0 F
 have aV:H0 aA:=M0 aM
 obtain⟨ap,aQ,F⟩:=B0 F
 refine eX { vars:=[4],boxes:=[1],owns:=[],fuel:=true } (eX (λvs os aU=>∃(I:Int) (ac:Int) (ad:Int) (af:Option Addr) (an ah:Nat) (ae:Z0) (ab:Int×Int) (h':Hp),vs.tail = [.int .i64 I,.int .i64 ac,.int .i64 ad,.slice af an ah]/\os = []/\aU=h'.set k (N03 o ab H)/\Sub ax h'/\H0 I/\H0 ac/\H0 ad/\New Q0 h h' [.slice af an ah] ae/\L9 h' k o x ab/\Y6 x (O1 vs) I ac ad ae ab=some ap) (eX (λ_ _=>0) ?_))
 refine aI (eX V0 ⟨aA,aB,(IntKind.i64.wrap (1+az)),none,0,0,[],a1,ax,rfl,rfl,rfl,(Sub.refl _),aV,aW,(K0 _),((New.nilSlice (r:=I1)).mono L),aE,aQ⟩) ?_
 rintro bl bm bn bo K _ ⟨I,ac,ad,af,an,ah,ae,ab,N,aH,aG,rfl,l,a9,J,m,ay,ak,a⟩
 cases aH
 cases aG
 replace a:Y6 x K I ac ad ae ab=some ap:=a
 obtain _|K:=K
 ·cases a
 rw[Y6.eq_2]at a
 have O:=ay.r
 obtain⟨rfl,bc⟩:=Sl.len O
 refine ifB a (λaR a=>?_) λaR a=>?_
 ·refine Or.inr (Or.inr (Or.inl (aI (aI (by kernel_rfl) (by kernel_rfl)) ?_)))
  refine Or.inr ?_
  refine Or.inr ?_
  refine Or.inr ?_
  refine Or.inr ?_
  refine Or.inr ?_
  refine Or.inr ?_
  refine Or.inr ?_
  refine Or.inr (eX 99 (eX 0 (aI rfl ?_)))
  obtain⟨a2,av,a⟩:=B0 a
  obtain⟨j,ao⟩:=a2
  try dsimp only at a
  obtain⟨bh,au,a⟩:=B0 a
  obtain⟨a3,am,a⟩:=B0 a
  obtain⟨i,aa⟩:=a3
  try dsimp only at a
  obtain⟨bi,al,a⟩:=B0 a
  obtain⟨a4,Z,a⟩:=B0 a
  obtain⟨f,P⟩:=a4
  try dsimp only at a
  obtain⟨bj,Y,a⟩:=B0 a
  refine aI ?_ ?_
  ·skip
   refine Tr.mono (K1 _ k o H x ab ak _ m _ av) ?_
   rintro _ _ ⟨rfl,ag,rfl⟩
   have M:H0 j:=M0 au
   refine aT ?_
   refine aI ?_ ?_
   ·skip
    refine Tr.mono (K1 _ k o H x ao ag _ J _ am) ?_
    rintro _ _ ⟨rfl,Q,rfl⟩
    have aw:H0 i:=M0 al
    refine aT ?_
    refine aI ?_ ?_
    ·skip
     refine aT ?_
     refine aI ?_ ?_
     ·skip
      refine Tr.mono (K1 _ k o H x aa Q _ m _ Z) ?_
      rintro _ _ ⟨rfl,g,rfl⟩
      have G:H0 f:=M0 Y
      refine aT ?_
      refine aI ?_ ?_
      ·skip
       refine aT ?_
       refine aI ?_ ?_
       ·skip
        refine aT ?_
        refine aI ?_ ?_
        ·skip
         refine aT ?_
         obtain⟨C,s,a⟩:=B0 a
         refine Tr.beside g.no (j5 _ _ _ (l0 J m O) [.int .i64 j,.int .i64 (IntKind.i64.wrap (1+i)),.int .i64 f] (j,(IntKind.i64.wrap (1+i)),f) (D1 M (K0 _) G) _  s) ?_
         rintro V c ⟨S,rfl,b⟩ t
         obtain⟨W,X⟩:=C
         dsimp only at a b
         have d:Sub N c:=b.sub
         have y:=b.r
         have p:=g.mono d t
         obtain⟨D,E,n,U,q,e,rfl,rfl,u,w,z⟩:=C0 y
         obtain⟨rfl,T⟩:=Sl.len z
         try dsimp only at a
         have A:=New.sndI (New.sndI (b))
         exact D2 K ⟨(IntKind.i64.wrap (I-1)),D,E,n,e.length,q,e,P,c,rfl,rfl,rfl,(l.trans d),(K0 _),u,w,(New.from A (L.trans l)),p,a⟩
        exact trivial
       exact trivial
      refine aI ?_ ?_
      ·skip
       refine aT ?_
       refine aI ?_ ?_
       ·skip
        refine aT ?_
        refine aI ?_ ?_
        ·skip
         refine aT ?_
         obtain⟨C,s,a⟩:=B0 a
         refine Tr.beside g.no (j5 _ _ _ (l0 J m O) [.int .i64 j,.int .i64 (IntKind.i64.wrap (1+i)),.int .i64 f] (j,(IntKind.i64.wrap (1+i)),f) (D1 M (K0 _) G) _  s) ?_
         rintro V c ⟨S,rfl,b⟩ t
         obtain⟨W,X⟩:=C
         dsimp only at a b
         have d:Sub N c:=b.sub
         have y:=b.r
         have p:=g.mono d t
         obtain⟨D,E,n,U,q,e,rfl,rfl,u,w,z⟩:=C0 y
         obtain⟨rfl,T⟩:=Sl.len z
         try dsimp only at a
         have A:=New.sndI (New.sndI (b))
         exact D2 K ⟨(IntKind.i64.wrap (I-1)),D,E,n,e.length,q,e,P,c,rfl,rfl,rfl,(l.trans d),(K0 _),u,w,(New.from A (L.trans l)),p,a⟩
        exact trivial
       exact trivial
      exact trivial
     refine aI ?_ ?_
     ·skip
      refine aT ?_
      refine aI ?_ ?_
      ·skip
       refine Tr.mono (K1 _ k o H x aa Q _ m _ Z) ?_
       rintro _ _ ⟨rfl,g,rfl⟩
       have G:H0 f:=M0 Y
       refine aT ?_
       refine aI ?_ ?_
       ·skip
        refine aT ?_
        refine aI ?_ ?_
        ·skip
         refine aT ?_
         obtain⟨C,s,a⟩:=B0 a
         refine Tr.beside g.no (j5 _ _ _ (l0 J m O) [.int .i64 j,.int .i64 (IntKind.i64.wrap (1+i)),.int .i64 f] (j,(IntKind.i64.wrap (1+i)),f) (D1 M (K0 _) G) _  s) ?_
         rintro V c ⟨S,rfl,b⟩ t
         obtain⟨W,X⟩:=C
         dsimp only at a b
         have d:Sub N c:=b.sub
         have y:=b.r
         have p:=g.mono d t
         obtain⟨D,E,n,U,q,e,rfl,rfl,u,w,z⟩:=C0 y
         obtain⟨rfl,T⟩:=Sl.len z
         try dsimp only at a
         have A:=New.sndI (New.sndI (b))
         exact D2 K ⟨(IntKind.i64.wrap (I-1)),D,E,n,e.length,q,e,P,c,rfl,rfl,rfl,(l.trans d),(K0 _),u,w,(New.from A (L.trans l)),p,a⟩
        exact trivial
       exact trivial
      exact trivial
     exact trivial
    refine aI ?_ ?_
    ·skip
     refine Tr.mono (K1 _ k o H x aa Q _ m _ Z) ?_
     rintro _ _ ⟨rfl,g,rfl⟩
     have G:H0 f:=M0 Y
     refine aT ?_
     refine aI ?_ ?_
     ·skip
      refine aT ?_
      refine aI ?_ ?_
      ·skip
       refine aT ?_
       refine aI ?_ ?_
       ·skip
        refine aT ?_
        refine aI ?_ ?_
        ·skip
         refine aT ?_
         obtain⟨C,s,a⟩:=B0 a
         refine Tr.beside g.no (j5 _ _ _ (l0 J m O) [.int .i64 j,.int .i64 (IntKind.i64.wrap (1+i)),.int .i64 f] (j,(IntKind.i64.wrap (1+i)),f) (D1 M (K0 _) G) _  s) ?_
         rintro V c ⟨S,rfl,b⟩ t
         obtain⟨W,X⟩:=C
         dsimp only at a b
         have d:Sub N c:=b.sub
         have y:=b.r
         have p:=g.mono d t
         obtain⟨D,E,n,U,q,e,rfl,rfl,u,w,z⟩:=C0 y
         obtain⟨rfl,T⟩:=Sl.len z
         try dsimp only at a
         have A:=New.sndI (New.sndI (b))
         exact D2 K ⟨(IntKind.i64.wrap (I-1)),D,E,n,e.length,q,e,P,c,rfl,rfl,rfl,(l.trans d),(K0 _),u,w,(New.from A (L.trans l)),p,a⟩
        exact trivial
       exact trivial
      refine aI ?_ ?_
      ·skip
       refine aT ?_
       refine aI ?_ ?_
       ·skip
        refine aT ?_
        refine aI ?_ ?_
        ·skip
         refine aT ?_
         obtain⟨C,s,a⟩:=B0 a
         refine Tr.beside g.no (j5 _ _ _ (l0 J m O) [.int .i64 j,.int .i64 (IntKind.i64.wrap (1+i)),.int .i64 f] (j,(IntKind.i64.wrap (1+i)),f) (D1 M (K0 _) G) _  s) ?_
         rintro V c ⟨S,rfl,b⟩ t
         obtain⟨W,X⟩:=C
         dsimp only at a b
         have d:Sub N c:=b.sub
         have y:=b.r
         have p:=g.mono d t
         obtain⟨D,E,n,U,q,e,rfl,rfl,u,w,z⟩:=C0 y
         obtain⟨rfl,T⟩:=Sl.len z
         try dsimp only at a
         have A:=New.sndI (New.sndI (b))
         exact D2 K ⟨(IntKind.i64.wrap (I-1)),D,E,n,e.length,q,e,P,c,rfl,rfl,rfl,(l.trans d),(K0 _),u,w,(New.from A (L.trans l)),p,a⟩
        exact trivial
       exact trivial
      exact trivial
     refine aI ?_ ?_
     ·skip
      refine aT ?_
      refine aI ?_ ?_
      ·skip
       refine aT ?_
       refine aI ?_ ?_
       ·skip
        refine aT ?_
        refine aI ?_ ?_
        ·skip
         refine aT ?_
         obtain⟨C,s,a⟩:=B0 a
         refine Tr.beside g.no (j5 _ _ _ (l0 J m O) [.int .i64 j,.int .i64 (IntKind.i64.wrap (1+i)),.int .i64 f] (j,(IntKind.i64.wrap (1+i)),f) (D1 M (K0 _) G) _  s) ?_
         rintro V c ⟨S,rfl,b⟩ t
         obtain⟨W,X⟩:=C
         dsimp only at a b
         have d:Sub N c:=b.sub
         have y:=b.r
         have p:=g.mono d t
         obtain⟨D,E,n,U,q,e,rfl,rfl,u,w,z⟩:=C0 y
         obtain⟨rfl,T⟩:=Sl.len z
         try dsimp only at a
         have A:=New.sndI (New.sndI (b))
         exact D2 K ⟨(IntKind.i64.wrap (I-1)),D,E,n,e.length,q,e,P,c,rfl,rfl,rfl,(l.trans d),(K0 _),u,w,(New.from A (L.trans l)),p,a⟩
        exact trivial
       exact trivial
      exact trivial
     exact trivial
    refine aI ?_ ?_
    ·skip
     refine aT ?_
     refine aI ?_ ?_
     ·skip
      refine aT ?_
      refine aI ?_ ?_
      ·skip
       refine Tr.mono (K1 _ k o H x aa Q _ m _ Z) ?_
       rintro _ _ ⟨rfl,g,rfl⟩
       have G:H0 f:=M0 Y
       refine aT ?_
       refine aI ?_ ?_
       ·skip
        refine aT ?_
        refine aI ?_ ?_
        ·skip
         refine aT ?_
         obtain⟨C,s,a⟩:=B0 a
         refine Tr.beside g.no (j5 _ _ _ (l0 J m O) [.int .i64 j,.int .i64 (IntKind.i64.wrap (1+i)),.int .i64 f] (j,(IntKind.i64.wrap (1+i)),f) (D1 M (K0 _) G) _  s) ?_
         rintro V c ⟨S,rfl,b⟩ t
         obtain⟨W,X⟩:=C
         dsimp only at a b
         have d:Sub N c:=b.sub
         have y:=b.r
         have p:=g.mono d t
         obtain⟨D,E,n,U,q,e,rfl,rfl,u,w,z⟩:=C0 y
         obtain⟨rfl,T⟩:=Sl.len z
         try dsimp only at a
         have A:=New.sndI (New.sndI (b))
         exact D2 K ⟨(IntKind.i64.wrap (I-1)),D,E,n,e.length,q,e,P,c,rfl,rfl,rfl,(l.trans d),(K0 _),u,w,(New.from A (L.trans l)),p,a⟩
        exact trivial
       exact trivial
      exact trivial
     refine aI ?_ ?_
     ·skip
      refine Tr.mono (K1 _ k o H x aa Q _ m _ Z) ?_
      rintro _ _ ⟨rfl,g,rfl⟩
      have G:H0 f:=M0 Y
      refine aT ?_
      refine aI ?_ ?_
      ·skip
       refine aT ?_
       refine aI ?_ ?_
       ·skip
        refine aT ?_
        refine aI ?_ ?_
        ·skip
         refine aT ?_
         obtain⟨C,s,a⟩:=B0 a
         refine Tr.beside g.no (j5 _ _ _ (l0 J m O) [.int .i64 j,.int .i64 (IntKind.i64.wrap (1+i)),.int .i64 f] (j,(IntKind.i64.wrap (1+i)),f) (D1 M (K0 _) G) _  s) ?_
         rintro V c ⟨S,rfl,b⟩ t
         obtain⟨W,X⟩:=C
         dsimp only at a b
         have d:Sub N c:=b.sub
         have y:=b.r
         have p:=g.mono d t
         obtain⟨D,E,n,U,q,e,rfl,rfl,u,w,z⟩:=C0 y
         obtain⟨rfl,T⟩:=Sl.len z
         try dsimp only at a
         have A:=New.sndI (New.sndI (b))
         exact D2 K ⟨(IntKind.i64.wrap (I-1)),D,E,n,e.length,q,e,P,c,rfl,rfl,rfl,(l.trans d),(K0 _),u,w,(New.from A (L.trans l)),p,a⟩
        exact trivial
       exact trivial
      exact trivial
     exact trivial
    exact trivial
   refine aI ?_ ?_
   ·skip
    refine aT ?_
    refine aI ?_ ?_
    ·skip
     refine Tr.mono (K1 _ k o H x ao ag _ J _ am) ?_
     rintro _ _ ⟨rfl,Q,rfl⟩
     have aw:H0 i:=M0 al
     refine aT ?_
     refine aI ?_ ?_
     ·skip
      refine aT ?_
      refine aI ?_ ?_
      ·skip
       refine Tr.mono (K1 _ k o H x aa Q _ m _ Z) ?_
       rintro _ _ ⟨rfl,g,rfl⟩
       have G:H0 f:=M0 Y
       refine aT ?_
       refine aI ?_ ?_
       ·skip
        refine aT ?_
        refine aI ?_ ?_
        ·skip
         refine aT ?_
         obtain⟨C,s,a⟩:=B0 a
         refine Tr.beside g.no (j5 _ _ _ (l0 J m O) [.int .i64 j,.int .i64 (IntKind.i64.wrap (1+i)),.int .i64 f] (j,(IntKind.i64.wrap (1+i)),f) (D1 M (K0 _) G) _  s) ?_
         rintro V c ⟨S,rfl,b⟩ t
         obtain⟨W,X⟩:=C
         dsimp only at a b
         have d:Sub N c:=b.sub
         have y:=b.r
         have p:=g.mono d t
         obtain⟨D,E,n,U,q,e,rfl,rfl,u,w,z⟩:=C0 y
         obtain⟨rfl,T⟩:=Sl.len z
         try dsimp only at a
         have A:=New.sndI (New.sndI (b))
         exact D2 K ⟨(IntKind.i64.wrap (I-1)),D,E,n,e.length,q,e,P,c,rfl,rfl,rfl,(l.trans d),(K0 _),u,w,(New.from A (L.trans l)),p,a⟩
        exact trivial
       exact trivial
      exact trivial
     refine aI ?_ ?_
     ·skip
      refine Tr.mono (K1 _ k o H x aa Q _ m _ Z) ?_
      rintro _ _ ⟨rfl,g,rfl⟩
      have G:H0 f:=M0 Y
      refine aT ?_
      refine aI ?_ ?_
      ·skip
       refine aT ?_
       refine aI ?_ ?_
       ·skip
        refine aT ?_
        refine aI ?_ ?_
        ·skip
         refine aT ?_
         obtain⟨C,s,a⟩:=B0 a
         refine Tr.beside g.no (j5 _ _ _ (l0 J m O) [.int .i64 j,.int .i64 (IntKind.i64.wrap (1+i)),.int .i64 f] (j,(IntKind.i64.wrap (1+i)),f) (D1 M (K0 _) G) _  s) ?_
         rintro V c ⟨S,rfl,b⟩ t
         obtain⟨W,X⟩:=C
         dsimp only at a b
         have d:Sub N c:=b.sub
         have y:=b.r
         have p:=g.mono d t
         obtain⟨D,E,n,U,q,e,rfl,rfl,u,w,z⟩:=C0 y
         obtain⟨rfl,T⟩:=Sl.len z
         try dsimp only at a
         have A:=New.sndI (New.sndI (b))
         exact D2 K ⟨(IntKind.i64.wrap (I-1)),D,E,n,e.length,q,e,P,c,rfl,rfl,rfl,(l.trans d),(K0 _),u,w,(New.from A (L.trans l)),p,a⟩
        exact trivial
       exact trivial
      exact trivial
     exact trivial
    exact trivial
   exact trivial
  refine aI ?_ ?_
  ·skip
   refine aT ?_
   refine aI ?_ ?_
   ·skip
    refine Tr.mono (K1 _ k o H x ab ak _ m _ av) ?_
    rintro _ _ ⟨rfl,ag,rfl⟩
    have M:H0 j:=M0 au
    refine aT ?_
    refine aI ?_ ?_
    ·skip
     refine Tr.mono (K1 _ k o H x ao ag _ J _ am) ?_
     rintro _ _ ⟨rfl,Q,rfl⟩
     have aw:H0 i:=M0 al
     refine aT ?_
     refine aI ?_ ?_
     ·skip
      refine aT ?_
      refine aI ?_ ?_
      ·skip
       refine Tr.mono (K1 _ k o H x aa Q _ m _ Z) ?_
       rintro _ _ ⟨rfl,g,rfl⟩
       have G:H0 f:=M0 Y
       refine aT ?_
       refine aI ?_ ?_
       ·skip
        refine aT ?_
        refine aI ?_ ?_
        ·skip
         refine aT ?_
         obtain⟨C,s,a⟩:=B0 a
         refine Tr.beside g.no (j5 _ _ _ (l0 J m O) [.int .i64 j,.int .i64 (IntKind.i64.wrap (1+i)),.int .i64 f] (j,(IntKind.i64.wrap (1+i)),f) (D1 M (K0 _) G) _  s) ?_
         rintro V c ⟨S,rfl,b⟩ t
         obtain⟨W,X⟩:=C
         dsimp only at a b
         have d:Sub N c:=b.sub
         have y:=b.r
         have p:=g.mono d t
         obtain⟨D,E,n,U,q,e,rfl,rfl,u,w,z⟩:=C0 y
         obtain⟨rfl,T⟩:=Sl.len z
         try dsimp only at a
         have A:=New.sndI (New.sndI (b))
         exact D2 K ⟨(IntKind.i64.wrap (I-1)),D,E,n,e.length,q,e,P,c,rfl,rfl,rfl,(l.trans d),(K0 _),u,w,(New.from A (L.trans l)),p,a⟩
        exact trivial
       exact trivial
      exact trivial
     refine aI ?_ ?_
     ·skip
      refine Tr.mono (K1 _ k o H x aa Q _ m _ Z) ?_
      rintro _ _ ⟨rfl,g,rfl⟩
      have G:H0 f:=M0 Y
      refine aT ?_
      refine aI ?_ ?_
      ·skip
       refine aT ?_
       refine aI ?_ ?_
       ·skip
        refine aT ?_
        refine aI ?_ ?_
        ·skip
         refine aT ?_
         obtain⟨C,s,a⟩:=B0 a
         refine Tr.beside g.no (j5 _ _ _ (l0 J m O) [.int .i64 j,.int .i64 (IntKind.i64.wrap (1+i)),.int .i64 f] (j,(IntKind.i64.wrap (1+i)),f) (D1 M (K0 _) G) _  s) ?_
         rintro V c ⟨S,rfl,b⟩ t
         obtain⟨W,X⟩:=C
         dsimp only at a b
         have d:Sub N c:=b.sub
         have y:=b.r
         have p:=g.mono d t
         obtain⟨D,E,n,U,q,e,rfl,rfl,u,w,z⟩:=C0 y
         obtain⟨rfl,T⟩:=Sl.len z
         try dsimp only at a
         have A:=New.sndI (New.sndI (b))
         exact D2 K ⟨(IntKind.i64.wrap (I-1)),D,E,n,e.length,q,e,P,c,rfl,rfl,rfl,(l.trans d),(K0 _),u,w,(New.from A (L.trans l)),p,a⟩
        exact trivial
       exact trivial
      exact trivial
     exact trivial
    exact trivial
   exact trivial
  exact trivial
 ·obtain rfl:=oJ a
  try dsimp only[Y0,C1]at F
  obtain rfl:=oJ F
  exact⟨([.int .i64 ac,.int .i64 ad,.slice af ae.length ah]),N,rfl,(New.pair (New.int J) (New.pair (New.int m) ay)),(L.trans l),ak,rfl⟩
theorem G0k(h:Hp)(b:Nat)(c:Value)(g:TypeId)(d:List Int)(u:Int×Int)(J:L9 h b c d u)(r:j0×(Int×Int))(a:V03 d u=some r):
  Tr Tryz.prog 208 #[ptr b 0] (h.set b (N03 c u g)) λv h'=>∃(M:List Value) (t:Hp),v = .agg M.toArray/\New F1 h t M r.1/\Sub h t/\L9 t b c d r.2/\h'=t.set b (N03 c r.2 g):=by
 unfold V03 at a
 refine G2 (args:=[ptr b 0]) (fn:=Tryz.f208) rfl ?_
 obtain⟨bs,aM,a⟩:=B0 a
 obtain⟨cq,W⟩:=bs
 try dsimp only at a
 refine Tr.mono (S09 _ b c g d u J _ aM) ?_
 rintro _ _ ⟨bL,e,rfl,U,f,K,rfl⟩
 have bk:=U.r
 obtain⟨n,o,bG,b5,y,x,rfl,rfl,l,m,bl⟩:=C0 bk
 obtain⟨rfl,bY⟩:=Sl.len bl
 try dsimp only at a
 have q:=New.sndI (New.sndI (U))
 rcases New.two q with⟨rfl,rfl,rfl⟩|⟨z,C,rfl⟩
 ·skip
  obtain⟨bA,aR,a⟩:=B0 a
  obtain⟨bC,I⟩:=bA
  try dsimp only at a
  refine Tr.mono (K1 _ b c g d W K 14 (by decide) _ aR) ?_
  rintro _ _ ⟨rfl,k,rfl⟩
  obtain⟨ch,aL,a⟩:=B0 a
  have bR:H0 bC:=M0 aL
  refine ifB a (λaY a=>?_) λaY a=>?_
  ·refine Or.inl ?_
   intro cj bS ap
   obtain⟨be,aq,a4,rfl⟩:=W0.beside k.no ap
   obtain⟨bH,bM,rfl,bm,D,bZ⟩:=W0.out (r:=Wp.int.toRp) aq (show F2 (Wp.int.R e) ([[.int .i64 (-1)],[.int .i64 0],[.int .i64 1],[.int .i64 41]]:List (List Value)) [(-1),0,1,41] from⟨⟨rfl,(by decide)⟩,⟨⟨rfl,(by decide)⟩,⟨⟨rfl,(by decide)⟩,⟨⟨rfl,(by decide)⟩,trivial⟩⟩⟩⟩)
   have ac:=k.mono D a4
   obtain⟨bt,aN,a⟩:=B0 a
   obtain⟨V,cp⟩:=bt
   try dsimp only at a
   refine Tr.mono (I01 _ b c g d I ac _ _ _ _ bm _ aN) ?_
   rintro _ _ ⟨rfl,ad,rfl⟩
   obtain⟨b7,aB,a⟩:=B0 a
   have ba:H0 V:=M0 aB
   obtain rfl:=oJ a
   exact⟨([.int .i64 n,.int .i64 V,.slice none 0 0]),be,rfl,(New.pair (New.int l) (New.pair (New.int ba) ((New.nilSlice (r:=I1)).mono (f.trans D)))),(f.trans D),ad,rfl⟩
  ·refine ifB a (λaZ a=>?_) λaZ a=>?_
   ·refine Or.inl ?_
    intro ck bT ar
    obtain⟨bf,au,a5,rfl⟩:=W0.beside k.no ar
    obtain⟨bI,bN,rfl,bn,E,b0⟩:=W0.out (r:=Wp.int.toRp) au (show F2 (Wp.int.R e) ([[.int .i64 0],[.int .i64 1],[.int .i64 4]]:List (List Value)) [0,1,4] from⟨⟨rfl,(by decide)⟩,⟨⟨rfl,(by decide)⟩,⟨⟨rfl,(by decide)⟩,trivial⟩⟩⟩)
    have ae:=k.mono E a5
    obtain⟨bu,aO,a⟩:=B0 a
    obtain⟨X,cr⟩:=bu
    try dsimp only at a
    refine Tr.mono (I01 _ b c g d I ae _ _ _ _ bn _ aO) ?_
    rintro _ _ ⟨rfl,af,rfl⟩
    obtain⟨b8,aC,a⟩:=B0 a
    have bb:H0 X:=M0 aC
    obtain rfl:=oJ a
    exact⟨([.int .i64 X,.int .i64 o,.slice none 0 0]),bf,rfl,(New.pair (New.int bb) (New.pair (New.int m) ((New.nilSlice (r:=I1)).mono (f.trans E)))),(f.trans E),af,rfl⟩
   ·refine ifB a (λa0 a=>?_) λa0 a=>?_
    ·refine Or.inr (Or.inr (Or.inl (aI (aI (by kernel_rfl) (by kernel_rfl)) ?_)))
     refine Or.inr ?_
     refine Or.inr ?_
     refine Or.inr ?_
     refine Or.inr ?_
     refine Or.inr ?_
     refine Or.inl (eX 0 (aI (aI rfl rfl) ?_))
     obtain⟨bv,aP,a⟩:=B0 a
     obtain⟨i,cs⟩:=bv
     try dsimp only at a
     refine Tr.mono (K1 _ b c g d I k 4 (by decide) _ aP) ?_
     rintro _ _ ⟨rfl,L,rfl⟩
     obtain⟨ca,aD,a⟩:=B0 a
     have A:H0 i:=M0 aD
     refine aT ?_
     refine aT ?_
     refine aT ?_
     refine Or.inl ?_
     obtain⟨cb,aE,a⟩:=B0 a
     refine aI (Q1 aE (F2.length (show F2 (I1.R e) ([[.int .i64 i,.int .i64 1,.int .i64 0]]:List (List Value)) [(i,1,0)] from⟨(D1 A (by decide) (by decide)),trivial⟩))) ?_
     refine aT ?_
     refine aT ?_
     intro cl bU av
     obtain⟨bg,N,a6,rfl⟩:=W0.beside L.no av
     obtain⟨ab,am,rfl,ci,T,b1⟩:=W0.out (r:=I1.toRp) N (show F2 (I1.R e) ([[.int .i64 i,.int .i64 1,.int .i64 0]]:List (List Value)) [(i,1,0)] from⟨(D1 A (by decide) (by decide)),trivial⟩)
     have ag:=L.mono T a6
     obtain rfl:=oJ a
     exact⟨([.int .i64 n,.int .i64 o,.slice ab ([(i,1,0)]).length am]),bg,rfl,(New.pair (New.int l) (New.pair (New.int m) (New.from (W0.newPlain (r:=I1) N (show F2 (I1.R e) ([[.int .i64 i,.int .i64 1,.int .i64 0]]:List (List Value)) [(i,1,0)] from⟨(D1 A (by decide) (by decide)),trivial⟩) (i06 _)) f))),(f.trans T),ag,rfl⟩
    ·obtain rfl:=oJ a
     exact⟨([.int .i64 n,.int .i64 o,.slice none 0 0]),e,rfl,(New.pair (New.int l) (New.pair (New.int m) ((New.nilSlice (r:=I1)).mono f))),f,k,rfl⟩
 ·skip
  obtain⟨bx,aQ,a⟩:=B0 a
  obtain⟨bz,H⟩:=bx
  try dsimp only at a
  refine Tr.mono (K1 _ b c g d W K 14 (by decide) _ aQ) ?_
  rintro _ _ ⟨rfl,j,rfl⟩
  obtain⟨cc,aF,a⟩:=B0 a
  have bQ:H0 bz:=M0 aF
  refine ifB a (λa1 a=>?_) λa1 a=>?_
  ·refine Or.inl ?_
   intro cm bV aw
   obtain⟨bh,ax,a7,rfl⟩:=W0.beside j.no aw
   obtain⟨bJ,bO,rfl,bo,F,b2⟩:=W0.out (r:=Wp.int.toRp) ax (show F2 (Wp.int.R e) ([[.int .i64 (-1)],[.int .i64 0],[.int .i64 1],[.int .i64 41]]:List (List Value)) [(-1),0,1,41] from⟨⟨rfl,(by decide)⟩,⟨⟨rfl,(by decide)⟩,⟨⟨rfl,(by decide)⟩,⟨⟨rfl,(by decide)⟩,trivial⟩⟩⟩⟩)
   have ah:=j.mono F a7
   obtain⟨bB,aS,a⟩:=B0 a
   obtain⟨Y,ct⟩:=bB
   try dsimp only at a
   refine Tr.mono (I01 _ b c g d H ah _ _ _ _ bo _ aS) ?_
   rintro _ _ ⟨rfl,ai,rfl⟩
   obtain⟨cd,aG,a⟩:=B0 a
   have bc:H0 Y:=M0 aG
   obtain rfl:=oJ a
   exact⟨([.int .i64 n,.int .i64 Y,.slice (some ⟨z,C,none⟩) x.length y]),bh,rfl,(New.pair (New.int l) (New.pair (New.int bc) (New.mono q F))),(f.trans F),ai,rfl⟩
  ·refine ifB a (λa2 a=>?_) λa2 a=>?_
   ·refine Or.inl ?_
    intro cn bW ay
    obtain⟨bi,az,a8,rfl⟩:=W0.beside j.no ay
    obtain⟨bK,bP,rfl,bp,G,b3⟩:=W0.out (r:=Wp.int.toRp) az (show F2 (Wp.int.R e) ([[.int .i64 0],[.int .i64 1],[.int .i64 4]]:List (List Value)) [0,1,4] from⟨⟨rfl,(by decide)⟩,⟨⟨rfl,(by decide)⟩,⟨⟨rfl,(by decide)⟩,trivial⟩⟩⟩)
    have aj:=j.mono G a8
    obtain⟨bD,aU,a⟩:=B0 a
    obtain⟨Z,cu⟩:=bD
    try dsimp only at a
    refine Tr.mono (I01 _ b c g d H aj _ _ _ _ bp _ aU) ?_
    rintro _ _ ⟨rfl,ak,rfl⟩
    obtain⟨ce,aH,a⟩:=B0 a
    have bd:H0 Z:=M0 aH
    obtain rfl:=oJ a
    exact⟨([.int .i64 Z,.int .i64 o,.slice (some ⟨z,C,none⟩) x.length y]),bi,rfl,(New.pair (New.int bd) (New.pair (New.int m) (New.mono q G))),(f.trans G),ak,rfl⟩
   ·refine ifB a (λa3 a=>?_) λa3 a=>?_
    ·refine Or.inr (Or.inr (Or.inl (aI (aI (by kernel_rfl) (by kernel_rfl)) ?_)))
     refine Or.inr ?_
     refine Or.inr ?_
     refine Or.inr ?_
     refine Or.inr ?_
     refine Or.inr ?_
     refine Or.inl (eX 0 (aI (aI rfl rfl) ?_))
     obtain⟨bE,aV,a⟩:=B0 a
     obtain⟨p,bF⟩:=bE
     try dsimp only at a
     refine Tr.mono (K1 _ b c g d H j 4 (by decide) _ aV) ?_
     rintro _ _ ⟨rfl,s,rfl⟩
     obtain⟨cf,aJ,a⟩:=B0 a
     have O:H0 p:=M0 aJ
     refine aT ?_
     refine aT ?_
     refine aT ?_
     obtain⟨cg,aK,a⟩:=B0 a
     obtain⟨br,S,Q,aa⟩:=New.app q (Sub.refl _)
     refine eX br (aI (Q0e.setB s.no S) (aI (Q1 aK (by first|rw[Q,F2.length (show F2 (I1.R e) ([[.int .i64 p,.int .i64 1,.int .i64 0]]:List (List Value)) [(p,1,0)] from⟨(D1 O (by decide) (by decide)),trivial⟩)]|(rw[Q];rfl))) ?_))
     intro co bX aX
     obtain⟨P,aA,a9,rfl⟩:=B0h.beside s.no S aX
     obtain⟨w,aW,bj,b6,an,rfl⟩:=aa _ _ _ _ _ (F3.ofPlain (i06 _) (show F2 (I1.R e) ([[.int .i64 p,.int .i64 1,.int .i64 0]]:List (List Value)) [(p,1,0)] from⟨(D1 O (by decide) (by decide)),trivial⟩)) L5.ofPlain aA
     have bq:=w.r
     obtain⟨ao,b4⟩:=Sl.len bq
     subst ao
     have al:L9 P b c d bF:=⟨a9,Sl.mono (r:=Rp.u8) w.sub (J.rd),s.pl,s.nm⟩
     refine aT ?_
     refine aT ?_
     obtain rfl:=oJ a
     exact⟨([.int .i64 n,.int .i64 o,.slice (some ⟨aW,bj,none⟩) (x ++ [(p,1,0)]).length an]),P,rfl,(New.pair (New.int l) (New.pair (New.int m) w)),w.sub,al,rfl⟩
    ·obtain rfl:=oJ a
     exact⟨([.int .i64 n,.int .i64 o,.slice (some ⟨z,C,none⟩) x.length y]),e,rfl,(New.pair (New.int l) (New.pair (New.int m) q)),f,j,rfl⟩
set_option maxHeartbeats 0
theorem T09(h:Hp)(b:Nat)(c:Value)(e:TypeId)(d:List Int)(g:Int×Int)(w:L9 h b c d g)(r:j0×(Int×Int))(a:H01 d g=some r):
  Tr Tryz.prog 227 #[ptr b 0] (h.set b (N03 c g e)) λv h'=>∃(k:List Value) (f:Hp),v = .agg k.toArray/\F1.R f k r.1/\Sub h f/\L9 f b c d r.2/\h'=f.set b (N03 c r.2 e):=by
 unfold H01 at a
 refine G2 (args:=[ptr b 0]) (fn:=Tryz.f227) rfl ?_
 obtain⟨X,C,a⟩:=B0 a
 obtain⟨aC,s⟩:=X
 try dsimp only at a
 refine Tr.mono (g07 _ b c e d g w 4 (by decide) _ C) ?_
 rintro _ _ ⟨rfl,j,rfl⟩
 refine ifB a (λG a=>?_) λG a=>?_
 ·obtain⟨ac,E,a⟩:=B0 a
  obtain⟨aD,aE⟩:=ac
  try dsimp only at a
  refine Tr.mono (G0k _ b c e d s j _ E) ?_
  rintro _ _ ⟨ak,P,rfl,V,T,y,rfl⟩
  have Q:=V.r
  obtain⟨ad,ae,u,ax,A,af,rfl,rfl,K,L,o⟩:=C0 Q
  obtain⟨rfl,ar⟩:=Sl.len o
  try dsimp only at a
  obtain rfl:=oJ a
  exact⟨([.int .i64 ad,.int .i64 ae,.slice u af.length A]),P,rfl,(l0 K L o),T,y,rfl⟩
 ·obtain⟨ag,F,a⟩:=B0 a
  obtain⟨aF,aK⟩:=ag
  try dsimp only at a
  refine Tr.mono (S09 _ b c e d s j _ F) ?_
  rintro _ _ ⟨al,ao,rfl,W,U,i,rfl⟩
  have S:=W.r
  obtain⟨aG,aH,ai,ay,an,aJ,rfl,rfl,M,N,p⟩:=C0 S
  obtain⟨rfl,au⟩:=Sl.len p
  try dsimp only at a
  obtain⟨Y,D,a⟩:=B0 a
  refine Tr.beside i.no (d04 _ _ _ (l0 M N p) _  D) ?_
  rintro az O ⟨aj,ah,aw,am,rfl,l,n,q⟩ H
  obtain⟨aA,aB⟩:=Y
  dsimp only at a l n
  have x:=i.mono q H
  obtain⟨Z,aa,t,av,z,ab,rfl,rfl,I,J,m⟩:=C0 l
  obtain⟨rfl,ap⟩:=Sl.len m
  try dsimp only at a
  obtain⟨rfl,aq⟩:=Sl.len n
  obtain rfl:=oJ a
  exact⟨([.int .i64 Z,.int .i64 aa,.slice t ab.length z]),O,rfl,(l0 I J m),(U.trans q),x,rfl⟩
theorem Z6(h:Hp)(j:Option Addr)(N k:Nat)(c:J0)(u:O0.R h [.slice j N k] c)(d:Int)(aJ:H0 d)(r:J0)(b:E4 c d=some r):
  Tr Tryz.prog 270 #[.slice j N k,.int .i64 d] h λv h'=>∃(D:Option Addr) (M E:Nat),v = .slice D M E/\New O0 h h' [.slice D M E] r:=by
 obtain⟨rfl,aO⟩:=Sl.len u
 unfold E4 at b
 refine G2 (args:=[.slice j c.length k,.int .i64 d]) (fn:=Tryz.f270) rfl ?_
 refine ifB b (λan b=>?_) λan b=>?_
 ·refine trM b (s03 _ j c.length k c u) ?_
  rintro z b bb J ⟨aG,aX,aH,rfl,S⟩
  have w:Sub h J:=S.sub
  have O:=S.r
  obtain⟨rfl,aP⟩:=Sl.len O
  obtain⟨C,am,b⟩:=B0 b
  refine eX { vars:=[6],boxes:=[],owns:=[0],fuel:=true } (eX (λvs os h'=>∃ i t f,vs.tail = [.int .i64 i]/\os = [t]/\Sub J h'/\H0 i/\F2 (Wp.int.R h') t f/\g6 d z (O1 vs) i f=some C) (eX (λ_ _=>0) (aI (eX V0 ⟨0,[],([]:J0),rfl,rfl,(Sub.refl _),(by decide),(F2.up (r:=Wp.int.toRp) w (show F2 (Wp.int.R h) ([]:List (List Value)) ([]:J0) from trivial)),am⟩) ?_)))
  rintro _ t o L ⟨i,bg,f,⟨⟩,⟨⟩,q,aL,m,a⟩
  replace a:g6 d z o i f=some C:=a
  obtain _|o:=o
  ·cases a
  rw[g6.eq_2]at a
  refine ifB a (λao a=>?_) λao a=>?_
  ·refine ifB a (λap a=>?_) λap a=>?_
   ·intro a8 aM F
    obtain⟨V,ab,rfl,a2,a6,aS⟩:=W0.out (r:=Wp.int.toRp) F (show F2 (Wp.int.R L) ([]:List (List Value)) ([]:J0) from trivial)
    obtain rfl:=oJ a
    try dsimp only[M2,N2]at b
    obtain rfl:=oJ b
    exact⟨V,(([]:J0)).length,ab,rfl,(New.from (W0.newPlain (r:=Wp.int) F (show F2 (Wp.int.R L) ([]:List (List Value)) ([]:J0) from trivial) (E06 _)) (w.trans q))⟩
   ·obtain⟨P,af,H⟩:=Sl.rows (r:=Wp.int.toRp) (O0.mono q O)
    refine eX P (aI af ?_)
    obtain⟨a0,aj,a⟩:=B0 a
    refine aI (Q1 aj (by first|rw[F2.length m,F2.length H]|exact congrArg (·+1) (F2.length m))) ?_
    exact D2 o ⟨(IntKind.i64.wrap (i+1)),(t++P),(f++z),rfl,rfl,q,(K0 _),(F2.append m H),a⟩
  ·obtain rfl:=oJ a
   try dsimp only[Y0,C1]at b
   refine Or.inl ?_
   intro a9 au ah
   obtain⟨W,ac,rfl,aA,aC,aU⟩:=W0.out (r:=Wp.int.toRp) ah m
   refine trM b (j9 _ W f.length ac f aA) ?_
   rintro aE b ba av ⟨T,aY,Z,rfl,x⟩
   have a4:Sub au av:=x.sub
   have ay:=x.r
   obtain⟨rfl,aQ⟩:=Sl.len ay
   obtain rfl:=oJ b
   exact⟨T,aE.length,Z,rfl,(New.from x ((w.trans q).trans aC))⟩
 ·obtain⟨A,al,b⟩:=B0 b
  refine eX { vars:=[6],boxes:=[],owns:=[0],fuel:=true } (eX (λvs os h'=>∃ g s e,vs.tail = [.int .i64 g]/\os = [s]/\Sub h h'/\H0 g/\F2 (Wp.int.R h') s e/\g6 d c (O1 vs) g e=some A) (eX (λ_ _=>0) (aI (eX V0 ⟨0,[],([]:J0),rfl,rfl,(Sub.refl _),(by decide),(show F2 (Wp.int.R h) ([]:List (List Value)) ([]:J0) from trivial),al⟩) ?_)))
  rintro _ s n K ⟨g,bf,e,⟨⟩,⟨⟩,p,aK,l,a⟩
  replace a:g6 d c n g e=some A:=a
  obtain _|n:=n
  ·cases a
  rw[g6.eq_2]at a
  refine ifB a (λaq a=>?_) λaq a=>?_
  ·refine ifB a (λar a=>?_) λar a=>?_
   ·intro bc aN G
    obtain⟨X,ad,rfl,a3,a7,aV⟩:=W0.out (r:=Wp.int.toRp) G (show F2 (Wp.int.R K) ([]:List (List Value)) ([]:J0) from trivial)
    obtain rfl:=oJ a
    try dsimp only[M2,N2]at b
    obtain rfl:=oJ b
    exact⟨X,(([]:J0)).length,ad,rfl,(New.from (W0.newPlain (r:=Wp.int) G (show F2 (Wp.int.R K) ([]:List (List Value)) ([]:J0) from trivial) (E06 _)) p)⟩
   ·obtain⟨Q,ag,I⟩:=Sl.rows (r:=Wp.int.toRp) (O0.mono p u)
    refine eX Q (aI ag ?_)
    obtain⟨a1,ak,a⟩:=B0 a
    refine aI (Q1 ak (by first|rw[F2.length l,F2.length I]|exact congrArg (·+1) (F2.length l))) ?_
    exact D2 n ⟨(IntKind.i64.wrap (g+1)),(s++Q),(e++c),rfl,rfl,p,(K0 _),(F2.append l I),a⟩
  ·obtain rfl:=oJ a
   try dsimp only[Y0,C1]at b
   refine Or.inl ?_
   intro bd aw ai
   obtain⟨Y,ae,rfl,aB,aD,aW⟩:=W0.out (r:=Wp.int.toRp) ai l
   refine trM b (j9 _ Y e.length ae e aB) ?_
   rintro aF b be ax ⟨U,aZ,aa,rfl,y⟩
   have a5:Sub aw ax:=y.sub
   have az:=y.r
   obtain⟨rfl,aR⟩:=Sl.len az
   obtain rfl:=oJ b
   exact⟨U,aF.length,aa,rfl,(New.from y (p.trans aD))⟩
theorem t0a(h:Hp)(d:Option Addr)(x f:Nat)(b:J0)(i:O0.R h [.slice d x f] b)(e:Option Addr)(y g:Nat)(c:J0)(j:O0.R h [.slice e y g] c)(r:J0)(a:t01 b c=some r):
  Tr Tryz.prog 271 #[.slice d x f,.slice e y g] h λv h'=>∃(o:Option Addr) (w p:Nat),v = .slice o w p/\New O0 h h' [.slice o w p] r:=by
 obtain⟨rfl,ab⟩:=Sl.len i
 obtain⟨rfl,ac⟩:=Sl.len j
 unfold t01 at a
 refine G2 (args:=[.slice d b.length f,.slice e c.length g]) (fn:=Tryz.f271) rfl ?_
 refine trM a (t02 _ d b.length f b i e c.length g c j) ?_
 rintro J a aq s ⟨N,ai,T,rfl,F⟩
 have k:Sub h s:=F.sub
 have z:=F.r
 obtain⟨rfl,ad⟩:=Sl.len z
 refine trM a (s03 _ d b.length f b (O0.mono k i)) ?_
 rintro L a ar t ⟨Q,al,W,rfl,H⟩
 have l:Sub s t:=H.sub
 have C:=H.r
 obtain⟨rfl,ag⟩:=Sl.len C
 refine trM a (s03 _ e c.length g c (O0.mono (k.trans l) j)) ?_
 rintro M a au u ⟨S,am,X,rfl,I⟩
 have m:Sub t u:=I.sub
 have D:=I.r
 obtain⟨rfl,ah⟩:=Sl.len D
 refine trM a (t02 _ Q L.length W L (O0.mono m C) S M.length X M D) ?_
 rintro K a ao q ⟨O,aj,U,rfl,G⟩
 have E:Sub u q:=G.sub
 have A:=G.r
 obtain⟨rfl,ae⟩:=Sl.len A
 refine trM a (t02 _ N J.length T J (O0.mono ((l.trans m).trans E) z) O K.length U K A) ?_
 rintro aa a ap Y ⟨P,ak,V,rfl,n⟩
 have an:Sub q Y:=n.sub
 have Z:=n.r
 obtain⟨rfl,af⟩:=Sl.len Z
 obtain rfl:=oJ a
 exact⟨P,aa.length,V,rfl,(New.from n (((k.trans l).trans m).trans E))⟩
theorem n0f(h:Hp)(c:Nat)(d:Value)(k:TypeId)(e:List Int)(U:Int×Int)(cg:L9 h c d e U)(r:D0×(Int×Int))(a:m02 e U=some r):
  Tr Tryz.prog 233 #[ptr c 0] (h.set c (N03 d U k)) λv h'=>∃(a3:List Value) (T:Hp),v = .agg a3.toArray/\New T1 h T a3 r.1/\Sub h T/\L9 T c d e r.2/\h'=T.set c (N03 d r.2 k):=by
 unfold m02 at a
 refine G2 (args:=[ptr c 0]) (fn:=Tryz.f233) rfl ?_
 obtain⟨fy,dM,a⟩:=B0 a
 obtain⟨fD,S⟩:=fy
 try dsimp only at a
 refine Tr.mono (K1 _ c d k e U cg 6 (by decide) _ dM) ?_
 rintro _ _ ⟨rfl,l,rfl⟩
 obtain⟨hH,dJ,a⟩:=B0 a
 have gt:H0 fD:=M0 dJ
 refine ifB a (λeh a=>?_) λeh a=>?_
 ·obtain⟨fJ,d3,a⟩:=B0 a
  obtain⟨bV,ik⟩:=fJ
  try dsimp only at a
  refine Tr.mono (K1 _ c d k e S l 6 (by decide) _ d3) ?_
  rintro _ _ ⟨rfl,a1,rfl⟩
  obtain⟨hJ,dL,a⟩:=B0 a
  have gw:H0 bV:=M0 dL
  refine Or.inl ?_
  intro hQ gy cR
  obtain⟨eS,cV,ep,rfl⟩:=W0.beside a1.no cR
  obtain⟨f6,gj,rfl,fc,H,hd⟩:=W0.out (r:=Wp.int.toRp) cV (show F2 (Wp.int.R h) ([[.int .i64 1]]:List (List Value)) [1] from⟨⟨rfl,(by decide)⟩,trivial⟩)
  have aM:=a1.mono H ep
  obtain⟨ad,dV,a⟩:=B0 a
  refine Tr.beside aM.no (Z6 _ _ _ _ _ fc (IntKind.i64.wrap (1+bV)) (K0 _) _  dV) ?_
  rintro h1 bi ⟨b1,hu,cx,rfl,ax⟩ ey
  have V:Sub eS bi:=ax.sub
  have bt:=ax.r
  have aR:=aM.mono V ey
  obtain⟨rfl,gW⟩:=Sl.len bt
  obtain⟨fS,fu,dz,_⟩:=(id ax)
  intro fm gL dc
  obtain⟨bl,ba,eD,rfl⟩:=W0.beside aR.no dc
  have e8:New (Wp.slice O0) h bl [fm] [ad]:=(W0.fresh (r:=O0) ba (F3.snoc fu (D9 (show F3 (O0.W h) [] [] [] from trivial) (H.trans V))) (H.trans V) (n9 (D9 (show F3 (O0.W h) [] [] [] from trivial) H) H (L5.nil h) dz))
  obtain⟨ce,cL,rfl,hO,bI,hj⟩:=W0.out (r:=O0.toRp) ba (show F2 (O0.R bi) ([[.slice b1 ad.length cx]]:List (List Value)) [ad] from⟨bt,trivial⟩)
  have cp:=aR.mono bI eD
  obtain rfl:=oJ a
  exact⟨([.int .i64 1,.slice ce ([ad]).length cL]),bl,rfl,(New.pair (New.int (by decide)) e8),((H.trans V).trans bI),cp,rfl⟩
 ·refine ifB a (λeg a=>?_) λeg a=>?_
  ·refine Or.inl ?_
   intro h4 gM dd
   obtain⟨eW,df,eE,rfl⟩:=W0.beside l.no dd
   obtain⟨f7,gk,rfl,ff,g,hk⟩:=W0.out (r:=Wp.int.toRp) df (show F2 (Wp.int.R h) ([[.int .i64 1]]:List (List Value)) [1] from⟨⟨rfl,(by decide)⟩,trivial⟩)
   have aV:=l.mono g eE
   obtain⟨ae,dZ,a⟩:=B0 a
   refine Tr.beside aV.no (Z6 _ _ _ _ _ ff 2 (by decide) _  dZ) ?_
   rintro h5 eY ⟨b3,hy,cz,rfl,ay⟩ eF
   have o:Sub eW eY:=ay.sub
   have bx:=ay.r
   have aW:=aV.mono o eF
   obtain⟨rfl,g0⟩:=Sl.len bx
   refine Or.inl ?_
   intro h6 gN dg
   obtain⟨eZ,dh,eG,rfl⟩:=W0.beside aW.no dg
   obtain⟨f9,gl,rfl,fg,s,hl⟩:=W0.out (r:=Wp.int.toRp) dh (F2.up (r:=Wp.int.toRp) (g.trans o) (show F2 (Wp.int.R h) ([[.int .i64 2]]:List (List Value)) [2] from⟨⟨rfl,(by decide)⟩,trivial⟩))
   have aX:=aW.mono s eG
   obtain⟨af,d1,a⟩:=B0 a
   refine Tr.beside aX.no (Z6 _ _ _ _ _ fg 2 (by decide) _  d1) ?_
   rintro h7 e0 ⟨b4,hz,cA,rfl,az⟩ eH
   have y:Sub eZ e0:=az.sub
   have bz:=az.r
   have cq:=aX.mono y eH
   obtain⟨rfl,g1⟩:=Sl.len bz
   obtain⟨fI,d2,a⟩:=B0 a
   obtain⟨bU,ij⟩:=fI
   try dsimp only at a
   refine Tr.mono (K1 _ c d k e S cq 4 (by decide) _ d2) ?_
   rintro _ _ ⟨rfl,aY,rfl⟩
   obtain⟨hI,dK,a⟩:=B0 a
   have gv:H0 bU:=M0 dK
   refine Or.inl ?_
   intro h8 gO di
   obtain⟨e1,dj,eI,rfl⟩:=W0.beside aY.no di
   obtain⟨ga,gm,rfl,fh,C,hm⟩:=W0.out (r:=Wp.int.toRp) dj (F2.up (r:=Wp.int.toRp) (((g.trans o).trans s).trans y) (show F2 (Wp.int.R h) ([[.int .i64 1],[.int .i64 2]]:List (List Value)) [1,2] from⟨⟨rfl,(by decide)⟩,⟨⟨rfl,(by decide)⟩,trivial⟩⟩))
   have aZ:=aY.mono C eI
   obtain⟨ag,d4,a⟩:=B0 a
   refine Tr.beside aZ.no (Z6 _ _ _ _ _ fh (IntKind.i64.wrap (1+bU)) (K0 _) _  d4) ?_
   rintro h9 bm ⟨b5,hA,cC,rfl,aA⟩ eJ
   have G:Sub e1 bm:=aA.sub
   have bA:=aA.r
   have a0:=aZ.mono G eJ
   obtain⟨rfl,g2⟩:=Sl.len bA
   obtain⟨fV,ap,dB,_⟩:=(id ay)
   obtain⟨fW,bN,dC,_⟩:=(id az)
   obtain⟨fX,fw,dD,_⟩:=(id aA)
   intro fp gP dk
   obtain⟨bn,bb,eK,rfl⟩:=W0.beside a0.no dk
   have e9:New (Wp.slice O0) h bn [fp] [ae,af,ag]:=(W0.fresh (r:=O0) bb (F3.snoc fw (D9 (F3.snoc bN (D9 (F3.snoc ap (D9 (show F3 (O0.W h) [] [] [] from trivial) (g.trans o))) (s.trans y))) (C.trans G))) (((((g.trans o).trans s).trans y).trans C).trans G) (n9 (D9 (F3.snoc bN (D9 (F3.snoc ap (D9 (show F3 (O0.W h) [] [] [] from trivial) (g.trans o))) (s.trans y))) C) ((((g.trans o).trans s).trans y).trans C) (n9 (D9 (F3.snoc ap (D9 (show F3 (O0.W h) [] [] [] from trivial) (g.trans o))) s) ((g.trans o).trans s) (n9 (D9 (show F3 (O0.W h) [] [] [] from trivial) g) g (L5.nil h) dB) dC) dD))
   obtain⟨cf,cM,rfl,hP,bJ,hn⟩:=W0.out (r:=O0.toRp) bb (show F2 (O0.R bm) ([[.slice b3 ae.length cz],[.slice b4 af.length cA],[.slice b5 ag.length cC]]:List (List Value)) [ae,af,ag] from⟨(O0.mono (((s.trans y).trans C).trans G) bx),⟨(O0.mono (C.trans G) bz),⟨bA,trivial⟩⟩⟩)
   have cr:=a0.mono bJ eK
   obtain rfl:=oJ a
   exact⟨([.int .i64 2,.slice cf ([ae,af,ag]).length cM]),bn,rfl,(New.pair (New.int (by decide)) e9),((((((g.trans o).trans s).trans y).trans C).trans G).trans bJ),cr,rfl⟩
  ·refine ifB a (λei a=>?_) λei a=>?_
   ·refine Or.inl ?_
    intro ia gQ dm
    obtain⟨e2,dn,eM,rfl⟩:=W0.beside l.no dm
    obtain⟨gb,gn,rfl,fi,i,ho⟩:=W0.out (r:=Wp.int.toRp) dn (show F2 (Wp.int.R h) ([[.int .i64 1]]:List (List Value)) [1] from⟨⟨rfl,(by decide)⟩,trivial⟩)
    have a2:=l.mono i eM
    obtain⟨ah,ea,a⟩:=B0 a
    refine Tr.beside a2.no (Z6 _ _ _ _ _ fi 2 (by decide) _  ea) ?_
    rintro ib e3 ⟨b6,hB,cD,rfl,aB⟩ eN
    have p:Sub e2 e3:=aB.sub
    have bB:=aB.r
    have aD:=a2.mono p eN
    obtain⟨rfl,g3⟩:=Sl.len bB
    refine Or.inl ?_
    intro hR gx cP
    obtain⟨eP,cQ,ej,rfl⟩:=W0.beside aD.no cP
    obtain⟨fZ,ge,rfl,fa,q,g4⟩:=W0.out (r:=Wp.int.toRp) cQ (F2.up (r:=Wp.int.toRp) (i.trans p) (show F2 (Wp.int.R h) ([[.int .i64 2]]:List (List Value)) [2] from⟨⟨rfl,(by decide)⟩,trivial⟩))
    have aE:=aD.mono q ej
    obtain⟨Y,dN,a⟩:=B0 a
    refine Tr.beside aE.no (Z6 _ _ _ _ _ fa 3 (by decide) _  dN) ?_
    rintro hS eQ ⟨bW,hp,cs,rfl,aq⟩ ek
    have w:Sub eP eQ:=aq.sub
    have bo:=aq.r
    have ch:=aE.mono w ek
    obtain⟨rfl,gR⟩:=Sl.len bo
    obtain⟨fz,dO,a⟩:=B0 a
    obtain⟨bO,ig⟩:=fz
    try dsimp only at a
    refine Tr.mono (K1 _ c d k e S ch 2 (by decide) _ dO) ?_
    rintro _ _ ⟨rfl,aF,rfl⟩
    obtain⟨hC,dE,a⟩:=B0 a
    have gq:H0 bO:=M0 dE
    refine Or.inl ?_
    intro hT gz cS
    obtain⟨eR,cT,el,rfl⟩:=W0.beside aF.no cS
    obtain⟨f0,gf,rfl,fb,z,g5⟩:=W0.out (r:=Wp.int.toRp) cT (F2.up (r:=Wp.int.toRp) (((i.trans p).trans q).trans w) (show F2 (Wp.int.R h) ([[.int .i64 1],[.int .i64 2]]:List (List Value)) [1,2] from⟨⟨rfl,(by decide)⟩,⟨⟨rfl,(by decide)⟩,trivial⟩⟩))
    have aG:=aF.mono z el
    obtain⟨Z,dP,a⟩:=B0 a
    refine Tr.beside aG.no (Z6 _ _ _ _ _ fb (IntKind.i64.wrap (2+bO)) (K0 _) _  dP) ?_
    rintro hU bc ⟨bX,hq,ct,rfl,ar⟩ em
    have E:Sub eR bc:=ar.sub
    have bp:=ar.r
    have aH:=aG.mono E em
    obtain⟨rfl,gS⟩:=Sl.len bp
    obtain⟨fK,an,dq,_⟩:=(id aB)
    obtain⟨fL,bK,ds,_⟩:=(id aq)
    obtain⟨fM,fq,dt,_⟩:=(id ar)
    intro fj gA cU
    obtain⟨bd,a4,en,rfl⟩:=W0.beside aH.no cU
    have e4:New (Wp.slice O0) h bd [fj] [ah,Y,Z]:=(W0.fresh (r:=O0) a4 (F3.snoc fq (D9 (F3.snoc bK (D9 (F3.snoc an (D9 (show F3 (O0.W h) [] [] [] from trivial) (i.trans p))) (q.trans w))) (z.trans E))) (((((i.trans p).trans q).trans w).trans z).trans E) (n9 (D9 (F3.snoc bK (D9 (F3.snoc an (D9 (show F3 (O0.W h) [] [] [] from trivial) (i.trans p))) (q.trans w))) z) ((((i.trans p).trans q).trans w).trans z) (n9 (D9 (F3.snoc an (D9 (show F3 (O0.W h) [] [] [] from trivial) (i.trans p))) q) ((i.trans p).trans q) (n9 (D9 (show F3 (O0.W h) [] [] [] from trivial) i) i (L5.nil h) dq) ds) dt))
    obtain⟨b7,cE,rfl,hK,bE,ha⟩:=W0.out (r:=O0.toRp) a4 (show F2 (O0.R bc) ([[.slice b6 ah.length cD],[.slice bW Y.length cs],[.slice bX Z.length ct]]:List (List Value)) [ah,Y,Z] from⟨(O0.mono (((q.trans w).trans z).trans E) bB),⟨(O0.mono (z.trans E) bo),⟨bp,trivial⟩⟩⟩)
    have ci:=aH.mono bE en
    obtain rfl:=oJ a
    exact⟨([.int .i64 2,.slice b7 ([ah,Y,Z]).length cE]),bd,rfl,(New.pair (New.int (by decide)) e4),((((((i.trans p).trans q).trans w).trans z).trans E).trans bE),ci,rfl⟩
   ·refine ifB a (λec a=>?_) λec a=>?_
    ·refine Or.inl ?_
     intro hV gB cW
     obtain⟨gC,cX,eo,rfl⟩:=W0.beside l.no cW
     obtain⟨f1,gg,rfl,bC,j,hb⟩:=W0.out (r:=Wp.int.toRp) cX (show F2 (Wp.int.R h) ([[.int .i64 1]]:List (List Value)) [1] from⟨⟨rfl,(by decide)⟩,trivial⟩)
     have aJ:=l.mono j eo
     intro hW gD cY
     obtain⟨eT,cZ,eq,rfl⟩:=W0.beside aJ.no cY
     obtain⟨f5,gh,rfl,bD,f,hc⟩:=W0.out (r:=Wp.int.toRp) cZ (F2.up (r:=Wp.int.toRp) j (show F2 (Wp.int.R h) ([[.int .i64 2]]:List (List Value)) [2] from⟨⟨rfl,(by decide)⟩,trivial⟩))
     have aK:=aJ.mono f eq
     obtain⟨aa,dQ,a⟩:=B0 a
     refine Tr.beside aK.no (t0a _ _ _ _ _ (O0.mono f bC) _ _ _ _ bD _  dQ) ?_
     rintro hX be ⟨bY,hr,cu,rfl,au⟩ er
     have m:Sub eT be:=au.sub
     have bq:=au.r
     have cj:=aK.mono m er
     obtain⟨rfl,gT⟩:=Sl.len bq
     obtain⟨fA,dR,a⟩:=B0 a
     obtain⟨bP,fB⟩:=fA
     try dsimp only at a
     refine Tr.mono (K1 _ c d k e S cj 3 (by decide) _ dR) ?_
     rintro _ _ ⟨rfl,aL,rfl⟩
     obtain⟨hD,dF,a⟩:=B0 a
     have gr:H0 bP:=M0 dF
     obtain⟨ab,dS,a⟩:=B0 a
     refine Tr.beside aL.no (Z6 _ _ _ _ _ (O0.mono (f.trans m) bC) (IntKind.i64.wrap (1+bP)) (K0 _) _  dS) ?_
     rintro hY bf ⟨bZ,hs,cv,rfl,av⟩ es
     have x:Sub be bf:=av.sub
     have br:=av.r
     have ck:=aL.mono x es
     obtain⟨rfl,gU⟩:=Sl.len br
     obtain⟨fC,dT,a⟩:=B0 a
     obtain⟨bQ,ih⟩:=fC
     try dsimp only at a
     refine Tr.mono (K1 _ c d k e fB ck 3 (by decide) _ dT) ?_
     rintro _ _ ⟨rfl,aN,rfl⟩
     obtain⟨hE,dG,a⟩:=B0 a
     have gs:H0 bQ:=M0 dG
     obtain⟨ac,dU,a⟩:=B0 a
     refine Tr.beside aN.no (Z6 _ _ _ _ _ (O0.mono (m.trans x) bD) (IntKind.i64.wrap (1+bQ)) (K0 _) _  dU) ?_
     rintro hZ bg ⟨b0,ht,cw,rfl,aw⟩ et
     have F:Sub bf bg:=aw.sub
     have bs:=aw.r
     have aO:=aN.mono F et
     obtain⟨rfl,gV⟩:=Sl.len bs
     obtain⟨fN,ao,du,_⟩:=(id au)
     obtain⟨fO,bL,dv,_⟩:=(id av)
     obtain⟨fP,fs,dw,_⟩:=(id aw)
     intro fk gE c0
     obtain⟨bh,a5,eu,rfl⟩:=W0.beside aO.no c0
     have e5:New (Wp.slice O0) h bh [fk] [aa,ab,ac]:=(W0.fresh (r:=O0) a5 (F3.snoc fs (D9 (F3.snoc bL (D9 (F3.snoc ao (D9 (show F3 (O0.W h) [] [] [] from trivial) ((j.trans f).trans m))) x)) F)) ((((j.trans f).trans m).trans x).trans F) (n9 (F3.snoc bL (D9 (F3.snoc ao (D9 (show F3 (O0.W h) [] [] [] from trivial) ((j.trans f).trans m))) x)) (((j.trans f).trans m).trans x) (n9 (F3.snoc ao (D9 (show F3 (O0.W h) [] [] [] from trivial) ((j.trans f).trans m))) ((j.trans f).trans m) (n9 (D9 (show F3 (O0.W h) [] [] [] from trivial) (j.trans f)) (j.trans f) (L5.nil h) du) dv) dw))
     obtain⟨b8,cG,rfl,hL,bF,he⟩:=W0.out (r:=O0.toRp) a5 (show F2 (O0.R bg) ([[.slice bY aa.length cu],[.slice bZ ab.length cv],[.slice b0 ac.length cw]]:List (List Value)) [aa,ab,ac] from⟨(O0.mono (x.trans F) bq),⟨(O0.mono F br),⟨bs,trivial⟩⟩⟩)
     have cl:=aO.mono bF eu
     obtain rfl:=oJ a
     exact⟨([.int .i64 2,.slice b8 ([aa,ab,ac]).length cG]),bh,rfl,(New.pair (New.int (by decide)) e5),(((((j.trans f).trans m).trans x).trans F).trans bF),cl,rfl⟩
    ·refine ifB a (λed a=>?_) λed a=>?_
     ·intro h0 gF c1
      obtain⟨gG,a6,ew,rfl⟩:=W0.beside l.no c1
      obtain⟨ca,cH,rfl,fd,A,hf⟩:=W0.out (r:=Wp.int.toRp) a6 (show F2 (Wp.int.R h) ([[.int .i64 1],[.int .i64 1],[.int .i64 2],[.int .i64 2]]:List (List Value)) [1,1,2,2] from⟨⟨rfl,(by decide)⟩,⟨⟨rfl,(by decide)⟩,⟨⟨rfl,(by decide)⟩,⟨⟨rfl,(by decide)⟩,trivial⟩⟩⟩⟩)
      have aP:=l.mono A ew
      intro h2 gH c2
      obtain⟨eU,a7,ex,rfl⟩:=W0.beside aP.no c2
      obtain⟨cb,cI,rfl,fe,P,hg⟩:=W0.out (r:=Wp.int.toRp) a7 (F2.up (r:=Wp.int.toRp) A (show F2 (Wp.int.R h) ([[.int .i64 1],[.int .i64 2],[.int .i64 1],[.int .i64 (-2)]]:List (List Value)) [1,2,1,(-2)] from⟨⟨rfl,(by decide)⟩,⟨⟨rfl,(by decide)⟩,⟨⟨rfl,(by decide)⟩,⟨⟨rfl,(by decide)⟩,trivial⟩⟩⟩⟩))
      have aQ:=aP.mono P ex
      obtain⟨fQ,bM,dx,_⟩:=(id (W0.newPlain (r:=Wp.int) a6 (show F2 (Wp.int.R h) ([[.int .i64 1],[.int .i64 1],[.int .i64 2],[.int .i64 2]]:List (List Value)) [1,1,2,2] from⟨⟨rfl,(by decide)⟩,⟨⟨rfl,(by decide)⟩,⟨⟨rfl,(by decide)⟩,⟨⟨rfl,(by decide)⟩,trivial⟩⟩⟩⟩) (E06 _)))
      obtain⟨fR,ft,dy,_⟩:=(id (W0.newPlain (r:=Wp.int) a7 (F2.up (r:=Wp.int.toRp) A (show F2 (Wp.int.R h) ([[.int .i64 1],[.int .i64 2],[.int .i64 1],[.int .i64 (-2)]]:List (List Value)) [1,2,1,(-2)] from⟨⟨rfl,(by decide)⟩,⟨⟨rfl,(by decide)⟩,⟨⟨rfl,(by decide)⟩,⟨⟨rfl,(by decide)⟩,trivial⟩⟩⟩⟩)) (E06 _)))
      intro fl gI c3
      obtain⟨bj,a8,ez,rfl⟩:=W0.beside aQ.no c3
      have e6:New (Wp.slice O0) h bj [fl] [[1,1,2,2],[1,2,1,(-2)]]:=(W0.fresh (r:=O0) a8 (F3.snoc ft (D9 (F3.snoc bM (D9 (show F3 (O0.W h) [] [] [] from trivial) A)) P)) (A.trans P) (n9 (F3.snoc bM (D9 (show F3 (O0.W h) [] [] [] from trivial) A)) A (n9 (show F3 (O0.W h) [] [] [] from trivial) (Sub.refl _) (L5.nil h) dx) dy))
      obtain⟨cc,cJ,rfl,hM,bG,hh⟩:=W0.out (r:=O0.toRp) a8 (show F2 (O0.R eU) ([[.slice ca ([1,1,2,2]).length cH],[.slice cb ([1,2,1,(-2)]).length cI]]:List (List Value)) [[1,1,2,2],[1,2,1,(-2)]] from⟨(O0.mono P fd),⟨fe,trivial⟩⟩)
      have cm:=aQ.mono bG ez
      obtain rfl:=oJ a
      exact⟨([.int .i64 2,.slice cc ([[1,1,2,2],[1,2,1,(-2)]]).length cJ]),bj,rfl,(New.pair (New.int (by decide)) e6),((A.trans P).trans bG),cm,rfl⟩
     ·obtain⟨fE,dW,a⟩:=B0 a
      obtain⟨bR,fF⟩:=fE
      try dsimp only at a
      refine Tr.mono (K1 _ c d k e S l 3 (by decide) _ dW) ?_
      rintro _ _ ⟨rfl,cn,rfl⟩
      obtain⟨hF,dH,a⟩:=B0 a
      have gu:H0 bR:=M0 dH
      obtain⟨aC,eb,a⟩:=B0 a
      refine eX { vars:=[7],boxes:=[],owns:=[3],fuel:=true } (eX (λvs os eO=>∃(D:Int) (J:List (List Value)) (u:List J0) (I:Int×Int) (h':Hp),vs.tail = [.int .i64 D]/\os = [J]/\eO=h'.set c (N03 d I k)/\Sub h h'/\H0 D/\F2 (O0.R h') J u/\(∃ Bs,F3 (O0.W h') J u Bs/\L5 h Bs.flatten)/\L9 h' c d e I/\E6 e (O1 vs) D u I=some aC) (eX (λ_ _=>0) ?_))
      refine aI (eX V0 ⟨(IntKind.i64.wrap (1+bR)),[],([]:O2),fF,h,rfl,rfl,rfl,(Sub.refl _),(K0 _),(show F2 (O0.R h) ([]:List (List Value)) ([]:O2) from trivial),⟨_,(show F3 (O0.W h) [] [] [] from trivial),(L5.nil h)⟩,cn,eb⟩) ?_
      rintro ic J N _ ⟨D,il,u,I,gJ,cO,cN,rfl,O,gp,L,⟨gc,X,al⟩,aj,b⟩
      cases cO
      cases cN
      replace b:E6 e N D u I=some aC:=b
      obtain _|N:=N
      ·cases b
      rw[E6.eq_2]at b
      refine ifB b (λee b=>?_) λee b=>?_
      ·obtain⟨fG,dX,b⟩:=B0 b
       obtain⟨bS,bT⟩:=fG
       try dsimp only at b
       refine Tr.mono (R09 _ c d k e I aj 2 (by decide) 4 (by decide) _ dX) ?_
       rintro _ _ ⟨b2,hv,cy,eV,rfl,fx,n,aS,rfl⟩
       have bu:=fx.r
       obtain⟨rfl,gX⟩:=Sl.len bu
       obtain⟨fH,dY,b⟩:=B0 b
       refine Tr.beside aS.no (D0b _ b2 bS.length cy bS bu _  dY) ?_
       rintro h3 M ⟨ai,hw,ak,fY,hx,gd,rfl,Q,bv⟩ eA
       obtain⟨K,ii⟩:=fH
       dsimp only at b Q bv
       have t:Sub eV M:=Q.sub
       have am:=Q.r
       have aU:=aS.mono t eA
       obtain⟨rfl,gY⟩:=Sl.len am
       obtain⟨rfl,gZ⟩:=Sl.len bv
       refine ifB b (λef b=>?_) λef b=>?_
       ·obtain⟨fT,ie,go,_⟩:=(id Q)
        obtain⟨hG,dI,b⟩:=B0 b
        refine aI (Q1 dI (by first|rw[F2.length (F2.up (r:=O0.toRp) (n.trans t) L),F2.length (show F2 (O0.R M) ([[.slice ai K.length ak]]:List (List Value)) [K] from⟨am,trivial⟩)]|exact congrArg (·+1) (F2.length (F2.up (r:=O0.toRp) (n.trans t) L)))) ?_
        obtain⟨fU,fv,dA,_⟩:=Q
        exact D2 N ⟨(IntKind.i64.wrap (D-1)),(J++([[.slice ai K.length ak]]:List (List Value))),(u ++ [K]),bT,M,rfl,rfl,rfl,((O.trans n).trans t),(K0 _),(F2.append (F2.up (r:=O0.toRp) (n.trans t) L) (show F2 (O0.R M) ([[.slice ai K.length ak]]:List (List Value)) [K] from⟨am,trivial⟩)),⟨_,(F3.snoc fv (D9 X (n.trans t))),(n9 (D9 X n) (O.trans n) al dA)⟩,aU,b⟩
       ·exact D2 N ⟨(IntKind.i64.wrap (D-1)),J,u,bT,M,rfl,rfl,rfl,((O.trans n).trans t),(K0 _),(F2.up (r:=O0.toRp) (n.trans t) L),⟨_,(D9 X (n.trans t)),al⟩,aU,b⟩
      ·obtain rfl:=oJ b
       try dsimp only[Y0,C1]at a
       intro fo gK db
       obtain⟨bk,a9,eC,rfl⟩:=W0.beside aj.no db
       have e7:New (Wp.slice O0) h bk [fo] u:=(W0.fresh (r:=O0) a9 X O al)
       obtain⟨cd,cK,rfl,hN,bH,hi⟩:=W0.out (r:=O0.toRp) a9 L
       have co:=aj.mono bH eC
       obtain rfl:=oJ a
       exact⟨([.int .i64 2,.slice cd u.length cK]),bk,rfl,(New.pair (New.int (by decide)) e7),(O.trans bH),co,rfl⟩
theorem H04(h:Hp)(b:Nat)(c:Value)(j:TypeId)(d:List Int)(o:Int×Int)(s:L9 h b c d o)(r:D0×(Int×Int))(a:q00 d o=some r):
  Tr Tryz.prog 160 #[ptr b 0] (h.set b (N03 c o j)) λv h'=>∃(D:List Value) (m:Hp),v = .agg D.toArray/\New T1 h m D r.1/\Sub h m/\L9 m b c d r.2/\h'=m.set b (N03 c r.2 j):=by
 unfold q00 at a
 refine G2 (args:=[ptr b 0]) (fn:=Tryz.f160) rfl ?_
 obtain⟨aF,ai,a⟩:=B0 a
 obtain⟨a9,aH⟩:=aF
 try dsimp only at a
 refine Tr.mono (n0f _ b c j d o s _ ai) ?_
 rintro _ _ ⟨aL,i,rfl,L,K,S,rfl⟩
 have ay:=L.r
 obtain⟨x,C,aX,E,y,rfl,rfl,u,az⟩:=J1 ay
 obtain⟨rfl,aS⟩:=Sl.len az
 try dsimp only at a
 have k:=New.sndI (L)
 obtain⟨aJ,ak,a⟩:=B0 a
 obtain⟨aK,z⟩:=aJ
 try dsimp only at a
 refine Tr.mono (K1 _ b c j d aH S 16 (by decide) _ ak) ?_
 rintro _ _ ⟨rfl,l,rfl⟩
 obtain⟨a4,ah,a⟩:=B0 a
 have aO:H0 aK:=M0 ah
 refine ifB a (λaq a=>?_) λaq a=>?_
 ·obtain⟨aG,aj,a⟩:=B0 a
  obtain⟨M,a8⟩:=aG
  try dsimp only at a
  refine Tr.mono (K1 _ b c j d z l 6 (by decide) _ aj) ?_
  rintro _ _ ⟨rfl,P,rfl⟩
  obtain⟨a1,ae,a⟩:=B0 a
  have aN:H0 M:=M0 ae
  obtain rfl:=oJ a
  exact⟨([.int .i64 (IntKind.i64.wrap (M-1)),.slice C y.length E]),i,rfl,(New.pair (New.int (K0 _)) k),K,P,rfl⟩
 ·refine ifB a (λap a=>?_) λap a=>?_
  ·intro a5 aP Z
   obtain⟨n,t,ar,rfl⟩:=W0.beside l.no Z
   obtain⟨f,g,rfl,J,w,aU⟩:=W0.out (r:=Wp.int.toRp) t (show F2 (Wp.int.R i) ([]:List (List Value)) ([]:J0) from trivial)
   have e:=l.mono w ar
   rcases New.two k with⟨rfl,rfl,rfl⟩|⟨aM,a0,rfl⟩
   ·skip
    refine Or.inr ?_
    obtain⟨a2,af,a⟩:=B0 a
    obtain⟨N,aD,ac,_⟩:=(W0.newPlain (r:=Wp.int) t (show F2 (Wp.int.R i) ([]:List (List Value)) ([]:J0) from trivial) (E06 _))
    refine aI (aI rfl (F0s af (F2.length (show F2 (O0.R n) ([[.slice f (([]:J0)).length g]]:List (List Value)) [([]:J0)] from⟨J,trivial⟩)))) ?_
    intro a6 aQ an
    obtain⟨F,aa,au,rfl⟩:=V0m.beside e.no an
    obtain⟨p,al,aw,aY,U,rfl⟩:=New.appN (r:=O0) k w (show F3 (O0.W n) ([[.slice f (([]:J0)).length g]]:List (List Value)) [([]:J0)] [N] from⟨aD,trivial⟩) (L5.older (Sub.refl _) ac) aa
    have aA:=p.r
    obtain⟨X,aV⟩:=Sl.len aA
    subst X
    have Q:L9 F b c d z:=⟨au,Sl.mono (r:=Rp.u8) p.sub (s.rd),e.pl,e.nm⟩
    obtain rfl:=oJ a
    exact⟨([.int .i64 x,.slice (some ⟨al,aw,none⟩) (([]:O2) ++ [([]:J0)]).length U]),F,rfl,(New.pair (New.int u) p),p.sub,Q,rfl⟩
   ·skip
    obtain⟨a3,ag,a⟩:=B0 a
    obtain⟨A,aE,ad,_⟩:=(W0.newPlain (r:=Wp.int) t (show F2 (Wp.int.R i) ([]:List (List Value)) ([]:J0) from trivial) (E06 _))
    obtain⟨aC,I,H,O⟩:=New.app k w
    refine eX aC (aI (Q0e.setB e.no I) (aI (Q1 ag (by first|rw[H,F2.length (show F2 (O0.R n) ([[.slice f (([]:J0)).length g]]:List (List Value)) [([]:J0)] from⟨J,trivial⟩)]|(rw[H];rfl))) ?_))
    intro a7 aR ao
    obtain⟨G,ab,av,rfl⟩:=B0h.beside e.no I ao
    obtain⟨q,am,ax,aZ,V,rfl⟩:=O ([[.slice f (([]:J0)).length g]]:List (List Value)) [([]:J0)] [A] _ _ (show F3 (O0.W n) ([[.slice f (([]:J0)).length g]]:List (List Value)) [([]:J0)] [A] from⟨aE,trivial⟩) (L5.older (Sub.refl _) ad) ab
    have aB:=q.r
    obtain⟨Y,aW⟩:=Sl.len aB
    subst Y
    have T:L9 G b c d z:=⟨av,Sl.mono (r:=Rp.u8) q.sub (s.rd),e.pl,e.nm⟩
    obtain rfl:=oJ a
    exact⟨([.int .i64 x,.slice (some ⟨am,ax,none⟩) (y ++ [([]:J0)]).length V]),G,rfl,(New.pair (New.int u) q),q.sub,T,rfl⟩
  ·obtain rfl:=oJ a
   exact⟨([.int .i64 x,.slice C y.length E]),i,rfl,(New.pair (New.int u) k),K,l,rfl⟩
theorem U09(h:Hp)(c:Option Addr)(z d:Nat)(b:(List Int))(A:(Wp.slice Wp.u8).R h [.slice c z d] b)(r:D0×j0)(a:Q00 b=some r):
  Tr Tryz.prog 149 #[.slice c z d] h λv h'=>∃(x:List Value) (y:List Value),v = .tuple #[.agg x.toArray,.agg y.toArray]/\T1.R h' x r.1/\F1.R h' y r.2/\Sub h h':=by
 obtain⟨rfl,aU⟩:=Sl.len A
 unfold Q00 at a
 refine G2 (args:=[.slice c b.length d]) (fn:=Tryz.f149) rfl ?_
 refine trM a (w05 _ c b.length d b A) ?_
 rintro ap a _ _ ⟨k,l,rfl,rfl,M⟩
 obtain⟨aE,X,a⟩:=B0 a
 obtain⟨bc,aF⟩:=aE
 try dsimp only at a
 refine Tr.mono (H04 _ k (.slice c b.length d) l b ap M _ X) ?_
 rintro _ _ ⟨aM,aj,rfl,ao,s,N,rfl⟩
 have am:=ao.r
 obtain⟨t,m,a3,q,u,rfl,rfl,j,f⟩:=J1 am
 obtain⟨rfl,aY⟩:=Sl.len f
 try dsimp only at a
 obtain⟨aG,Y,a⟩:=B0 a
 obtain⟨bd,I⟩:=aG
 try dsimp only at a
 refine Tr.mono (g07 _ k (.slice c b.length d) l b aF N 2 (by decide) _ Y) ?_
 rintro _ _ ⟨rfl,n,rfl⟩
 refine ifB a (λZ a=>?_) λZ a=>?_
 ·refine Or.inl ?_
  intro a4 aO S
  obtain⟨aP,T,ab,rfl⟩:=W0.beside n.no S
  obtain⟨aH,aN,rfl,an,e,aZ⟩:=W0.out (r:=O0.toRp) T (show F2 (O0.R aj) ([]:List (List Value)) ([]:O2) from trivial)
  have w:=n.mono e ab
  obtain⟨aq,U,a⟩:=B0 a
  refine Tr.beside w.no (k00 _ _ _ (S0 j (Q2.mono e f)) _ _ _ _ an _  U) ?_
  rintro a5 aQ ⟨aJ,rfl,C,g⟩ ac
  obtain⟨a6,a7⟩:=aq
  dsimp only at a C
  have i:=w.mono g ac
  obtain⟨ar,au,J,a0,O,av,rfl,rfl,ad,ae,D⟩:=C0 C
  obtain⟨rfl,aV⟩:=Sl.len D
  try dsimp only at a
  refine ifB a (λaa a=>?_) λaa a=>?_
  ·refine Or.inr (Or.inr (Or.inl (aI (aI (by kernel_rfl) (by kernel_rfl)) ?_)))
   refine Or.inr ?_
   refine Or.inr ?_
   refine Or.inl (eX 0 (aI (aI rfl rfl) ?_))
   refine aT ?_
   refine aT ?_
   obtain rfl:=oJ a
   exact⟨([.int .i64 t,.slice m u.length q]),([.int .i64 ar,.int .i64 au,.slice J av.length O]),rfl,(T1.mono (Sub.set i.no) (S0 j (Q2.mono (e.trans g) f))),(F1.mono (Sub.set i.no) (l0 ad ae D)),(((s.trans e).trans g).trans (Sub.set i.no))⟩
  ·refine Or.inr (Or.inr (Or.inl (aI (aI (by kernel_rfl) (by kernel_rfl)) ?_)))
   refine Or.inr ?_
   refine Or.inr ?_
   refine Or.inr ?_
   refine Or.inl (eX 0 (aI (aI rfl rfl) ?_))
   obtain⟨aw,V,a⟩:=B0 a
   obtain⟨a8,a9⟩:=aw
   try dsimp only at a
   refine Tr.mono (T09 _ k (.slice c b.length d) l b I i _ V) ?_
   rintro _ _ ⟨aK,aR,rfl,ak,G,o,rfl⟩
   obtain⟨ax,ay,K,a1,P,az,rfl,rfl,af,ag,E⟩:=C0 ak
   obtain⟨rfl,aW⟩:=Sl.len E
   try dsimp only at a
   refine aT ?_
   refine aT ?_
   refine aT ?_
   obtain rfl:=oJ a
   exact⟨([.int .i64 t,.slice m u.length q]),([.int .i64 ax,.int .i64 ay,.slice K az.length P]),rfl,(T1.mono (Sub.set o.no) (S0 j (Q2.mono ((e.trans g).trans G) f))),(F1.mono (Sub.set o.no) (l0 af ag E)),((((s.trans e).trans g).trans G).trans (Sub.set o.no))⟩
 ·refine Or.inr (Or.inr (Or.inl (aI (aI (by kernel_rfl) (by kernel_rfl)) ?_)))
  refine Or.inr ?_
  refine Or.inr ?_
  refine Or.inr ?_
  refine Or.inl (eX 0 (aI (aI rfl rfl) ?_))
  obtain⟨aA,W,a⟩:=B0 a
  obtain⟨ba,bb⟩:=aA
  try dsimp only at a
  refine Tr.mono (T09 _ k (.slice c b.length d) l b I n _ W) ?_
  rintro _ _ ⟨aL,aS,rfl,al,H,p,rfl⟩
  obtain⟨aB,aC,L,a2,Q,aD,rfl,rfl,ah,ai,F⟩:=C0 al
  obtain⟨rfl,aX⟩:=Sl.len F
  try dsimp only at a
  refine aT ?_
  refine aT ?_
  refine aT ?_
  obtain rfl:=oJ a
  exact⟨([.int .i64 t,.slice m u.length q]),([.int .i64 aB,.int .i64 aC,.slice L aD.length Q]),rfl,(T1.mono (Sub.set p.no) (S0 j (Q2.mono H f))),(F1.mono (Sub.set p.no) (l0 ah ai F)),((s.trans H).trans (Sub.set p.no))⟩
theorem A0h(h:Hp)(d:Option Addr)(J e:Nat)(b:(List Int))(K:(Wp.slice Wp.u8).R h [.slice d J e] b)(r:D0×O2)(a:Y03 b=some r):
  Tr Tryz.prog 133 #[.slice d J e] h λv h'=>∃(G:List Value) (E:Option Addr) (I F:Nat),v = .tuple #[.agg G.toArray,.slice E I F]/\T1.R h' G r.1/\Q2.R h' [.slice E I F] r.2/\Sub h h':=by
 obtain⟨rfl,aE⟩:=Sl.len K
 unfold Y03 at a
 refine G2 (args:=[.slice d b.length e]) (fn:=Tryz.f133) rfl ?_
 refine trM a (w05 _ d b.length e b K) ?_
 rintro ap a _ _ ⟨k,o,rfl,rfl,S⟩
 obtain⟨au,ad,a⟩:=B0 a
 obtain⟨aP,aw⟩:=au
 try dsimp only at a
 refine Tr.mono (H04 _ k (.slice d b.length e) o b ap S _ ad) ?_
 rintro _ _ ⟨az,x,rfl,ao,am,T,rfl⟩
 have ak:=ao.r
 obtain⟨C,N,aK,U,av,rfl,rfl,H,L⟩:=J1 ak
 obtain⟨rfl,aG⟩:=Sl.len L
 try dsimp only at a
 obtain⟨ax,ae,a⟩:=B0 a
 obtain⟨M,ay⟩:=ax
 try dsimp only at a
 refine Tr.mono (K1 _ k (.slice d b.length e) o b aw T 3 (by decide) _ ae) ?_
 rintro _ _ ⟨rfl,P,rfl⟩
 obtain⟨aL,aa,a⟩:=B0 a
 have aj:H0 M:=M0 aa
 obtain⟨D,af,a⟩:=B0 a
 refine eX { vars:=[7],boxes:=[],owns:=[0],fuel:=true } (eX (λvs os ai=>∃(f:Int) (p:List (List Value)) (g:List J0) (i:Int×Int) (h':Hp),vs.tail = [.int .i64 f]/\os = [p]/\ai=h'.set k (N03 (.slice d b.length e) i o)/\Sub x h'/\H0 f/\F2 (O0.R h') p g/\L9 h' k (.slice d b.length e) b i/\t8 b C (O1 vs) f g i=some D) (eX (λ_ _=>0) ?_))
 refine aI (eX V0 ⟨M,[],([]:O2),ay,x,rfl,rfl,rfl,(Sub.refl _),aj,(show F2 (O0.R x) ([]:List (List Value)) ([]:O2) from trivial),P,af⟩) ?_
 rintro aO p m _ ⟨f,aQ,g,i,aB,X,W,rfl,z,aA,l,t,c⟩
 cases X
 cases W
 replace c:t8 b C m f g i=some D:=c
 obtain _|m:=m
 ·cases c
 rw[t8.eq_2]at c
 refine ifB c (λag c=>?_) λag c=>?_
 ·obtain⟨aq,ac,c⟩:=B0 c
  obtain⟨j,ar⟩:=aq
  try dsimp only at c
  refine Tr.mono (R09 _ k (.slice d b.length e) o b i t _ (B8 (B8 (by decide) H) (by decide)) 3 (by decide) _ ac) ?_
  rintro _ _ ⟨q,aJ,u,w,rfl,an,n,Q,rfl⟩
  have y:=an.r
  obtain⟨rfl,aF⟩:=Sl.len y
  obtain⟨aM,ab,c⟩:=B0 c
  refine aI (Q1 ab (by first|rw[F2.length (F2.up (r:=O0.toRp) n l),F2.length (show F2 (O0.R w) ([[.slice q j.length u]]:List (List Value)) [j] from⟨y,trivial⟩)]|exact congrArg (·+1) (F2.length (F2.up (r:=O0.toRp) n l)))) ?_
  exact D2 m ⟨(IntKind.i64.wrap (f-1)),(p++([[.slice q j.length u]]:List (List Value))),(g ++ [j]),ar,w,rfl,rfl,rfl,(z.trans n),(K0 _),(F2.append (F2.up (r:=O0.toRp) n l) (show F2 (O0.R w) ([[.slice q j.length u]]:List (List Value)) [j] from⟨y,trivial⟩)),Q,c⟩
 ·obtain rfl:=oJ c
  try dsimp only[Y0,C1]at a
  intro aN aC Y
  obtain⟨aD,Z,ah,rfl⟩:=W0.beside t.no Y
  obtain⟨O,V,rfl,al,A,aH⟩:=W0.out (r:=O0.toRp) Z l
  have s:=t.mono A ah
  obtain rfl:=oJ a
  exact⟨([.int .i64 C,.slice N av.length U]),O,g.length,V,rfl,(T1.mono (Sub.set s.no) (S0 H (Q2.mono (z.trans A) L))),(Q2.mono (Sub.set s.no) al),(((am.trans z).trans A).trans (Sub.set s.no))⟩
theorem p06(h:Hp)(b:Option Addr)(k c:Nat)(d:(List Int))(l:(Wp.slice Wp.u8).R h [.slice b k c] d)(r:D0×O2)(a:N6 d=some r):
  Tr Tryz.prog 56 #[.slice b k c] h λv h'=>∃(i:List Value) (f:Option Addr) (j g:Nat),v = .tuple #[.agg i.toArray,.slice f j g]/\T1.R h' i r.1/\Q2.R h' [.slice f j g] r.2/\Sub h h':=by
 obtain⟨rfl,D⟩:=Sl.len l
 unfold N6 at a
 refine G2 (args:=[.slice b d.length c]) (fn:=Tryz.f56) rfl ?_
 refine trM a (A0h _ _ _ _ _ l) ?_
 rintro w a I C ⟨A,p,H,s,rfl,m,e,u⟩
 obtain⟨J,z⟩:=w
 dsimp only at a m e
 obtain⟨x,o,G,q,y,rfl,rfl,t,n⟩:=J1 m
 obtain⟨rfl,E⟩:=Sl.len n
 try dsimp only at a
 obtain⟨rfl,F⟩:=Sl.len e
 obtain rfl:=oJ a
 exact⟨([.int .i64 x,.slice o y.length q]),p,z.length,s,rfl,(S0 t n),e,u⟩
theorem C08(h:Hp)(b:Option Addr)(g c:Nat)(d:(List Int))(i:(Wp.slice Wp.u8).R h [.slice b g c] d)(r:D0×j0)(a:N8 d=some r):
  Tr Tryz.prog 70 #[.slice b g c] h λv h'=>∃(e:List Value) (f:List Value),v = .tuple #[.agg e.toArray,.agg f.toArray]/\T1.R h' e r.1/\F1.R h' f r.2/\Sub h h':=by
 obtain⟨rfl,H⟩:=Sl.len i
 unfold N8 at a
 refine G2 (args:=[.slice b d.length c]) (fn:=Tryz.f70) rfl ?_
 refine trM a (U09 _ _ _ _ _ i) ?_
 rintro x a M G ⟨E,F,rfl,j,l,w⟩
 obtain⟨N,O⟩:=x
 dsimp only at a j l
 obtain⟨y,n,K,p,z,rfl,rfl,s,k⟩:=J1 j
 obtain⟨rfl,I⟩:=Sl.len k
 try dsimp only at a
 obtain⟨A,C,o,L,q,D,rfl,rfl,t,u,m⟩:=C0 l
 obtain⟨rfl,J⟩:=Sl.len m
 try dsimp only at a
 refine Or.inr (Or.inr (Or.inl (aI (aI (by kernel_rfl) (by kernel_rfl)) ?_)))
 refine Or.inr ?_
 refine Or.inr ?_
 refine Or.inl (eX 0 (aI (aI rfl rfl) ?_))
 refine aT ?_
 refine aT ?_
 obtain rfl:=oJ a
 exact⟨([.int .i64 y,.slice n z.length p]),([.int .i64 A,.int .i64 C,.slice o D.length q]),rfl,(S0 s k),(l0 t u m),w⟩
theorem D08(h:Hp)(b:Option Addr)(g c:Nat)(d:(List Int))(i:(Wp.slice Wp.u8).R h [.slice b g c] d)(r:D0×j0)(a:O8 d=some r):
  Tr Tryz.prog 73 #[.slice b g c] h λv h'=>∃(e:List Value) (f:List Value),v = .tuple #[.agg e.toArray,.agg f.toArray]/\T1.R h' e r.1/\F1.R h' f r.2/\Sub h h':=by
 obtain⟨rfl,H⟩:=Sl.len i
 unfold O8 at a
 refine G2 (args:=[.slice b d.length c]) (fn:=Tryz.f73) rfl ?_
 refine trM a (U09 _ _ _ _ _ i) ?_
 rintro x a M G ⟨E,F,rfl,j,l,w⟩
 obtain⟨N,O⟩:=x
 dsimp only at a j l
 obtain⟨y,n,K,p,z,rfl,rfl,s,k⟩:=J1 j
 obtain⟨rfl,I⟩:=Sl.len k
 try dsimp only at a
 obtain⟨A,C,o,L,q,D,rfl,rfl,t,u,m⟩:=C0 l
 obtain⟨rfl,J⟩:=Sl.len m
 try dsimp only at a
 refine Or.inr (Or.inr (Or.inl (aI (aI (by kernel_rfl) (by kernel_rfl)) ?_)))
 refine Or.inr ?_
 refine Or.inr ?_
 refine Or.inl (eX 0 (aI (aI rfl rfl) ?_))
 refine aT ?_
 refine aT ?_
 obtain rfl:=oJ a
 exact⟨([.int .i64 y,.slice n z.length p]),([.int .i64 A,.int .i64 C,.slice o D.length q]),rfl,(S0 s k),(l0 t u m),w⟩
theorem E08(h:Hp)(c:Option Addr)(g d:Nat)(b:(List Int))(i:(Wp.slice Wp.u8).R h [.slice c g d] b)(r:D0)(a:P8 b=some r):
  Tr Tryz.prog 75 #[.slice c g d] h λv h'=>∃(f:List Value),v = .agg f.toArray/\T1.R h' f r/\Sub h h':=by
 obtain⟨rfl,D⟩:=Sl.len i
 unfold P8 at a
 refine G2 (args:=[.slice c b.length d]) (fn:=Tryz.f75) rfl ?_
 refine trM a (w05 _ c b.length d b i) ?_
 rintro w a _ _ ⟨p,t,rfl,rfl,l⟩
 obtain⟨x,n,a⟩:=B0 a
 obtain⟨G,H⟩:=x
 try dsimp only at a
 refine Tr.mono (H04 _ p (.slice c b.length d) t b w l _ n) ?_
 rintro _ _ ⟨A,C,rfl,u,s,e,rfl⟩
 have q:=u.r
 obtain⟨y,k,F,m,z,rfl,rfl,o,j⟩:=J1 q
 obtain⟨rfl,E⟩:=Sl.len j
 try dsimp only at a
 obtain rfl:=oJ a
 exact⟨([.int .i64 y,.slice k z.length m]),rfl,(T1.mono (Sub.set e.no) (S0 o j)),(s.trans (Sub.set e.no))⟩
theorem F08(h:Hp)(d:Option Addr)(n e:Nat)(b:(List Int))(o:(Wp.slice Wp.u8).R h [.slice d n e] b)(r:D0×J0)(a:Q8 b=some r):
  Tr Tryz.prog 76 #[.slice d n e] h λv h'=>∃(j:List Value) (g:Option Addr) (m i:Nat),v = .tuple #[.agg j.toArray,.slice g m i]/\T1.R h' j r.1/\O0.R h' [.slice g m i] r.2/\Sub h h':=by
 obtain⟨rfl,U⟩:=Sl.len o
 unfold Q8 at a
 refine G2 (args:=[.slice d b.length e]) (fn:=Tryz.f76) rfl ?_
 refine trM a (w05 _ d b.length e b o) ?_
 rintro I a _ _ ⟨l,t,rfl,rfl,x⟩
 obtain⟨L,D,a⟩:=B0 a
 obtain⟨ac,N⟩:=L
 try dsimp only at a
 refine Tr.mono (H04 _ l (.slice d b.length e) t b I x _ D) ?_
 rintro _ _ ⟨O,S,rfl,H,F,y,rfl⟩
 have E:=H.r
 obtain⟨c,w,Y,A,M,rfl,rfl,k,q⟩:=J1 E
 obtain⟨rfl,W⟩:=Sl.len q
 try dsimp only at a
 refine Or.inr (Or.inr (Or.inl (aI (aI (by kernel_rfl) (by kernel_rfl)) ?_)))
 refine Or.inl (eX (.val (.int .i64 (if 3<c then 3 else c))) (aI ?_ ?_))
 ·intro T aa
  exact aI rfl (aI rfl rfl)
 refine Or.inl (eX (.val (.int .i64 (if(if 3<c then 3 else c)>1 then(if 3<c then 3 else c)else 1))) (aI ?_ ?_))
 ·intro P Z
  exact aI rfl (aI rfl rfl)
 refine Or.inr ?_
 refine Or.inr ?_
 refine Or.inr ?_
 refine Or.inl (eX 0 (aI (aI rfl rfl) ?_))
 obtain⟨J,C,a⟩:=B0 a
 obtain⟨K,ab⟩:=J
 try dsimp only at a
 refine Tr.mono (R09 _ l (.slice d b.length e) t b N y _ (B8 (B8 (by decide) k) (by decide)) 6 (by decide) _ C) ?_
 rintro _ _ ⟨u,X,z,Q,rfl,G,s,f,rfl⟩
 have p:=G.r
 obtain⟨rfl,V⟩:=Sl.len p
 refine aT ?_
 refine aT ?_
 refine aT ?_
 obtain rfl:=oJ a
 exact⟨([.int .i64 c,.slice w M.length A]),u,K.length,z,rfl,(T1.mono (Sub.set f.no) (S0 k (Q2.mono s q))),(O0.mono (Sub.set f.no) p),((F.trans s).trans (Sub.set f.no))⟩
theorem m0o(h:Hp)(a:Option Addr)(e b:Nat)(c:(List Int))(f:(Wp.slice Wp.u8).R h [.slice a e b] c)(r:Bool)(d:x04 c=some r):
  Tr Tryz.prog 7 #[.slice a e b] h λv h'=>v = .bool r/\h'=h:=by
 obtain⟨rfl,g⟩:=Sl.len f
 unfold x04 at d
 refine Tr.forget (G2 (args:=[.slice a c.length b]) (fn:=Tryz.f7) rfl ?_)
 obtain rfl:=oJ d
 exact aI rfl (Sub.refl _)
theorem q0j(h:Hp)(c:Option Addr)(f d:Nat)(e:(List Int))(g:(Wp.slice Wp.u8).R h [.slice c f d] e)(b:Int)(m:H0 b)(r:Int)(a:D05 e b=some r):
  Tr Tryz.prog 86 #[.slice c f d,.int .i64 b] h λv h'=>v = .int .i64 r/\h'=h:=by
 obtain⟨rfl,n⟩:=Sl.len g
 unfold D05 at a
 refine Tr.forget (G2 (args:=[.slice c e.length d,.int .i64 b]) (fn:=Tryz.f86) rfl ?_)
 refine ifB a (λj a=>?_) λj a=>?_
 ·refine ld a g λp l k a=>?_
  obtain rfl:=k
  obtain rfl:=oJ a
  exact aI rfl (Sub.refl _)
 ·obtain⟨o,i,a⟩:=B0 a
  refine aI (M0 i) ?_
  obtain rfl:=oJ a
  exact aI rfl (Sub.refl _)
theorem S0m(h:Hp)(p:Option Addr)(y q:Nat)(l:(List Int))(s:(Wp.slice Wp.u8).R h [.slice p y q] l)(g:Int)(P:H0 g)(b:Int)(Y:H0 b)(i:Int)(Z:H0 i)(r:J0)(f:G03 l g b i=some r):
  Tr Tryz.prog 67 #[.slice p y q,.int .i64 g,.int .i64 b,.int .i64 i] h λv h'=>∃(u:Option Addr) (x w:Nat),v = .slice u x w/\O0.R h' [.slice u x w] r/\Sub h h':=by
 obtain⟨rfl,af⟩:=Sl.len s
 unfold G03 at f
 refine G2 (args:=[.slice p l.length q,.int .i64 g,.int .i64 b,.int .i64 i]) (fn:=Tryz.f67) rfl ?_
 obtain⟨t,M,f⟩:=B0 f
 refine eX { vars:=[10],boxes:=[],owns:=[0],fuel:=true } (eX (λvs os h'=>∃ d n j,vs.tail = [.int .i64 d]/\os = [n]/\Sub h h'/\H0 d/\F2 (Wp.int.R h') n j/\D8 l g i b (O1 vs) d j=some t) (eX (λ_ _=>0) (aI (eX V0 ⟨0,[],([]:J0),rfl,rfl,(Sub.refl _),(by decide),(show F2 (Wp.int.R h) ([]:List (List Value)) ([]:J0) from trivial),M⟩) ?_)))
 rintro _ n k o ⟨d,av,j,⟨⟩,⟨⟩,m,aa,e,a⟩
 replace a:D8 l g i b k d j=some t:=a
 obtain _|k:=k
 ·cases a
 rw[D8.eq_2]at a
 refine trV a (q0j _ _ _ _ _ ((Wp.slice Wp.u8).mono m s) _ P) λV a=>?_
 obtain⟨ap,K,a⟩:=B0 a
 have ac:H0 V:=M0 K
 obtain⟨aq,L,a⟩:=B0 a
 refine aI (M0 L) ?_
 refine ifB a (λO a=>?_) λO a=>?_
 ·refine trV a (q0j _ _ _ _ _ ((Wp.slice Wp.u8).mono m s) (IntKind.i64.wrap ((IntKind.i64.wrap (g+1))+d)) (K0 _)) λc a=>?_
  obtain⟨aj,E,a⟩:=B0 a
  have ab:H0 c:=M0 E
  obtain⟨ak,F,a⟩:=B0 a
  refine aI (M0 F) ?_
  obtain⟨al,G,a⟩:=B0 a
  refine aI (M0 G) ?_
  obtain⟨am,H,a⟩:=B0 a
  refine aI (M0 H) ?_
  refine ifB a (λN a=>?_) λN a=>?_
  ·obtain⟨an,I,a⟩:=B0 a
   refine aI (Q1 I (by first|rw[F2.length e,F2.length (show F2 (Wp.int.R o) ([[.int .i64 (IntKind.i64.wrap (0-(IntKind.i64.wrap (1+(Int.tmod c b)))))]]:List (List Value)) [(IntKind.i64.wrap (0-(IntKind.i64.wrap (1+(Int.tmod c b)))))] from⟨⟨rfl,(K0 _)⟩,trivial⟩)]|exact congrArg (·+1) (F2.length e))) ?_
   exact D2 k ⟨(IntKind.i64.wrap (d+1)),(n++([[.int .i64 (IntKind.i64.wrap (0-(IntKind.i64.wrap (1+(Int.tmod c b)))))]]:List (List Value))),(j ++ [(IntKind.i64.wrap (0-(IntKind.i64.wrap (1+(Int.tmod c b)))))]),rfl,rfl,m,(K0 _),(F2.append e (show F2 (Wp.int.R o) ([[.int .i64 (IntKind.i64.wrap (0-(IntKind.i64.wrap (1+(Int.tmod c b)))))]]:List (List Value)) [(IntKind.i64.wrap (0-(IntKind.i64.wrap (1+(Int.tmod c b)))))] from⟨⟨rfl,(K0 _)⟩,trivial⟩)),a⟩
  ·obtain⟨ao,J,a⟩:=B0 a
   refine aI (Q1 J (by first|rw[F2.length e,F2.length (show F2 (Wp.int.R o) ([[.int .i64 (IntKind.i64.wrap (1+(Int.tmod c b)))]]:List (List Value)) [(IntKind.i64.wrap (1+(Int.tmod c b)))] from⟨⟨rfl,(K0 _)⟩,trivial⟩)]|exact congrArg (·+1) (F2.length e))) ?_
   exact D2 k ⟨(IntKind.i64.wrap (d+1)),(n++([[.int .i64 (IntKind.i64.wrap (1+(Int.tmod c b)))]]:List (List Value))),(j ++ [(IntKind.i64.wrap (1+(Int.tmod c b)))]),rfl,rfl,m,(K0 _),(F2.append e (show F2 (Wp.int.R o) ([[.int .i64 (IntKind.i64.wrap (1+(Int.tmod c b)))]]:List (List Value)) [(IntKind.i64.wrap (1+(Int.tmod c b)))] from⟨⟨rfl,(K0 _)⟩,trivial⟩)),a⟩
 ·obtain rfl:=oJ a
  try dsimp only[Y0,C1]at f
  refine Or.inl ?_
  intro ar ad D
  obtain⟨W,X,rfl,Q,T,ah⟩:=W0.out (r:=Wp.int.toRp) D e
  refine trM f (H02 _ _ _ _ _ Q) ?_
  rintro U f au ae ⟨A,ai,C,rfl,z,S⟩
  obtain⟨rfl,ag⟩:=Sl.len z
  obtain rfl:=oJ f
  exact⟨A,U.length,C,rfl,z,((m.trans T).trans S)⟩
theorem E0b(h:Hp)(I:Option Addr)(ae J:Nat)(K:(List Int))(m:(Wp.slice Wp.u8).R h [.slice I ae J] K)(r:Bool)(d:R00 K=some r):
  Tr Tryz.prog 5 #[.slice I ae J] h λv h'=>v = .bool r/\h'=h:=by
 obtain⟨rfl,dc⟩:=Sl.len m
 unfold R00 at d
 refine Tr.forget (p0v [7] (v := .slice I K.length J) (fn:=Tryz.f5) rfl ?_)
 obtain⟨ax,b,d⟩:=B0 d
 refine eX (ax = .inr ()) (aI ?_ ?_)
 ·unfold d9 at b
  refine trV b (m0o _ _ _ _ _ m) λeu b=>?_
  refine ifB b (λa5 b=>?_) λa5 b=>?_
  ·obtain rfl:=oJ b
   try dsimp only[M2,N2]at d
   obtain rfl:=oJ d
   exact aI rfl (Sub.refl _)
  ·refine trM b (p06 _ _ _ _ _ m) ?_
   rintro bB b ee bg ⟨cb,bW,dD,cn,rfl,ai,n,o⟩
   obtain⟨ez,eC⟩:=bB
   dsimp only at b ai n
   obtain⟨eA,aA,dC,aD,V,rfl,rfl,j,i⟩:=J1 ai
   obtain⟨rfl,dh⟩:=Sl.len i
   try dsimp only at b
   obtain⟨rfl,di⟩:=Sl.len n
   refine trM b (V01 _ _ _ (S0 j i) _ _ _ _ n) ?_
   rintro bG b el bj ⟨ck,rfl,U⟩
   obtain⟨fc,fg⟩:=bG
   dsimp only at b U
   have f:Sub bg bj:=U.sub
   have bn:=U.r
   obtain⟨fd,fe,b6,dN,cx,ff,rfl,rfl,bd,be,ar⟩:=C0 bn
   obtain⟨rfl,dw⟩:=Sl.len ar
   try dsimp only at b
   refine trM b (k00 _ _ _ (S0 j (Q2.mono f i)) _ _ _ _ (Q2.mono f n)) ?_
   rintro br b ec cQ ⟨b8,rfl,af,g⟩
   obtain⟨em,eq⟩:=br
   dsimp only at b af
   obtain⟨en,eo,bU,dy,cl,ep,rfl,rfl,u,w,s⟩:=C0 af
   obtain⟨rfl,dd⟩:=Sl.len s
   try dsimp only at b
   refine Or.inl (aI (aI (by kernel_rfl) (by kernel_rfl)) ?_)
   refine trG b (λq=>q03 _ _ _ (l0 bd be (Q0.mono g ar)) _ _ (l0 u w s)) λer b=>?_
   refine trG b (λq=>o06 _ _ _ (S0 j (Q2.mono (f.trans g) i)) _ _ _ _ (Q2.mono (f.trans g) n)) λbs b=>?_
   obtain⟨dO,aE,b⟩:=B0 b
   have cC:H0 bs:=M0 aE
   refine trG b (λq=>m06 _ _ _ (S0 j (Q2.mono (f.trans g) i)) _ _ _ _ (Q2.mono (f.trans g) n)) λbt b=>?_
   obtain⟨dP,aF,b⟩:=B0 b
   have cD:H0 bt:=M0 aF
   refine trG b (λq=>i9 _ _ _ (S0 j (Q2.mono (f.trans g) i))) λes b=>?_
   refine trG b (λq=>g9 _ _ _ (S0 j (Q2.mono (f.trans g) i))) λet b=>?_
   refine ifB b (λa2 b=>?_) λa2 b=>?_
   ·obtain rfl:=oJ b
    try dsimp only[M2,N2]at d
    obtain rfl:=oJ d
    exact aI rfl ((o.trans f).trans g)
   ·refine ifB b (λa3 b=>?_) λa3 b=>?_
    ·obtain⟨bu,aU,b⟩:=B0 b
     obtain⟨bv,bx⟩:=bu
     try dsimp only at b
     refine Tr.val (p03 _ _ _ (S0 j (Q2.mono (f.trans g) i)) _ _ (l0 u w s) _  aU) ?_
     obtain⟨dQ,aG,b⟩:=B0 b
     have cE:H0 bv:=M0 aG
     obtain⟨dR,aH,b⟩:=B0 b
     have cG:H0 bx:=M0 aH
     refine trG b (λq=>Q09 _ _ _ (l0 u w s)) λew b=>?_
     refine trG b (λq=>C0b _ _ _ (l0 u w s) _ _ _ _ (Q2.mono (f.trans g) n)) λex b=>?_
     refine ifB b (λa4 b=>?_) λa4 b=>?_
     ·obtain rfl:=oJ b
      try dsimp only[M2,N2]at d
      obtain rfl:=oJ d
      exact aI rfl ((o.trans f).trans g)
     ·refine trV b (n06 _ _ _ (S0 j (Q2.mono (f.trans g) i))) λbz b=>?_
      obtain⟨dS,aJ,b⟩:=B0 b
      have cH:H0 bz:=M0 aJ
      obtain⟨dT,aK,b⟩:=B0 b
      refine aI (λq=>M0 (D00 aK q)) ?_
      refine ifB b (λa6 b=>?_) λa6 b=>?_
      ·obtain rfl:=oJ b
       try dsimp only[M2,N2]at d
       obtain rfl:=oJ d
       exact aI rfl ((o.trans f).trans g)
      ·refine trM b (S0m _ _ _ _ _ ((Wp.slice Wp.u8).mono ((o.trans f).trans g) m) 27 (by decide) _ j 3 (by decide)) ?_
       rintro ey b ed bf ⟨bV,dz,cm,rfl,ag,E⟩
       obtain⟨rfl,df⟩:=Sl.len ag
       refine Or.inr (Or.inr (Or.inr (Or.inl (aI (aI (by kernel_rfl) (by kernel_rfl)) ?_))))
       refine Or.inl (eX (.val (.int .i64 ((V.length:Nat):Int))) (aI ?_ ?_))
       ·intro cR d3
        exact aI rfl (aI rfl rfl)
       refine Or.inl (eX (.val (.bool (decide (((V.length:Nat):Int)>0)))) (aI ?_ ?_))
       ·intro cS d4
        exact aI rfl (aI rfl rfl)
       obtain⟨bA,aV,b⟩:=B0 b
       obtain⟨ca,W,L⟩:=Sl.getG (r:=O0.toRp) (Q2.mono ((f.trans g).trans E) i) aV (by decide) (y0v Wp.int bf)
       obtain⟨ay,dA,aB,rfl⟩:=Wp.slice_cell L
       obtain⟨rfl,dg⟩:=Sl.len L
       refine Or.inl (eX (.hel (.slice aA V.length aD) 0 1 0) (aI ?_ ?_))
       ·intro cT ea k
        exact aI (W k).1 (aI rfl (aI rfl rfl))
       refine Or.inl (eX (.val (.slice ay bA.length aB)) (aI ?_ ?_))
       ·intro cU bp k
        exact eX _ (aI (J7.up bp (W k).2) (aI rfl (aI rfl rfl)))
       obtain⟨H,aW,b⟩:=B0 b
       refine Or.inr (eX (λv a8=>∃(a:Option Addr) (c:Nat),v = .slice a H.length c/\O0.R a8 [.slice a H.length c] H/\H.length<=9223372036854775807) (aI (λv cz cA S q=>by obtain⟨a,c,e,r,l⟩:=q;exact⟨a,c,e,O0.mono S r,l⟩) (aI ?_ ?_)))
       ·intro cV au k
        refine Tr.mono (J09 _ _ _ _ _ (O0.mono au L) _ _ _ _ (O0.mono au ag) _ (D00 aW k)) ?_
        rintro _ db ⟨az,dB,aC,rfl,ah,S⟩
        obtain⟨rfl,bk⟩:=Sl.len ah
        exact aI y03 (aI S ⟨az,aC,rfl,ah,bk⟩)
       obtain⟨aw,aX,b⟩:=B0 b
       refine Or.inl (eX (.val (.bool aw)) (aI ?_ ?_))
       ·intro cW bq k
        rintro _ ⟨b7,cy,rfl,bo,dx⟩
        exact Tr.val (m0f _ _ _ (l0 u w (Q0.mono (E.trans bq) s)) _ _ _ _ bo _ (D00 aX k)) (aI rfl (aI rfl rfl))
       refine Or.inl (eX (.val (.bool (!aw))) (aI ?_ ?_))
       ·intro cX eb k
        exact aI rfl (aI rfl rfl)
       intro cY av
       refine ifB b (λa7 b=>?_) λa7 b=>?_
       ·obtain rfl:=oJ b
        try dsimp only[M2,N2]at d
        obtain rfl:=oJ d
        exact aI rfl ((((o.trans f).trans g).trans E).trans av)
       ·obtain rfl:=oJ b
        exact aI (aI rfl rfl) (aI ((((o.trans f).trans g).trans E).trans av) rfl)
    ·obtain rfl:=oJ b
     exact aI (aI rfl rfl) (aI ((o.trans f).trans g) rfl)
 ·rintro rfl cZ y
  try dsimp only[Y0]at d
  refine trM d (C08 _ _ _ _ _ ((Wp.slice Wp.u8).mono y m)) ?_
  rintro bC d ef bh ⟨cc,cd,rfl,aj,ak,F⟩
  obtain⟨eD,eG⟩:=bC
  dsimp only at d aj ak
  obtain⟨eE,bX,dE,co,eF,rfl,rfl,X,M⟩:=J1 aj
  obtain⟨rfl,dj⟩:=Sl.len M
  try dsimp only at d
  obtain⟨eH,eI,bY,dF,cp,eJ,rfl,rfl,Y,Z,N⟩:=C0 ak
  obtain⟨rfl,dk⟩:=Sl.len N
  try dsimp only at d
  refine trM d (l06 _ _ _ (S0 X M) _ _ (l0 Y Z N)) ?_
  rintro bD d eg bi ⟨ce,rfl,T⟩
  obtain⟨eK,eP,eQ⟩:=bD
  dsimp only at d T
  have t:Sub bh bi:=T.sub
  have bl:=T.r
  obtain⟨eM,eN,bZ,dG,cq,eO,rfl,rfl,a9,ba,al⟩:=C0 bl
  obtain⟨rfl,dm⟩:=Sl.len al
  try dsimp only at d
  refine trM d (j06 _ _ _ (S0 X (Q2.mono t M)) _ _ (l0 Y Z (Q0.mono t N))) ?_
  rintro bE d eh c0 ⟨cf,rfl,am,z⟩
  obtain⟨eR,eV,eW⟩:=bE
  dsimp only at d am
  obtain⟨eS,eT,b0,dH,cr,eU,rfl,rfl,bb,bc,an⟩:=C0 am
  obtain⟨rfl,dn⟩:=Sl.len an
  try dsimp only at d
  refine trM d (D08 _ _ _ _ _ ((Wp.slice Wp.u8).mono (((y.trans F).trans t).trans z) m)) ?_
  rintro bF d ei c1 ⟨cg,ch,rfl,ao,ap,A⟩
  obtain⟨eY,e1⟩:=bF
  dsimp only at d ao ap
  obtain⟨eZ,b1,dI,cs,e0,rfl,rfl,aa,O⟩:=J1 ao
  obtain⟨rfl,dq⟩:=Sl.len O
  try dsimp only at d
  obtain⟨e2,e3,b2,dJ,ct,e4,rfl,rfl,ab,ac,P⟩:=C0 ap
  obtain⟨rfl,ds⟩:=Sl.len P
  try dsimp only at d
  obtain⟨bH,aY,d⟩:=B0 d
  obtain⟨bI,bJ⟩:=bH
  try dsimp only at d
  refine Tr.val (p03 _ _ _ (S0 aa O) _ _ (l0 ab ac P) _  aY) ?_
  obtain⟨dU,aL,d⟩:=B0 d
  have cI:H0 bI:=M0 aL
  obtain⟨dV,aM,d⟩:=B0 d
  have cJ:H0 bJ:=M0 aM
  obtain⟨bK,aZ,d⟩:=B0 d
  obtain⟨bL,bM⟩:=bK
  try dsimp only at d
  refine Tr.val (h06 _ _ _ (S0 aa O) _ _ (l0 ab ac P) _  aZ) ?_
  obtain⟨dW,aN,d⟩:=B0 d
  have cK:H0 bL:=M0 aN
  obtain⟨dX,aO,d⟩:=B0 d
  have cL:H0 bM:=M0 aO
  refine trM d (E08 _ _ _ _ _ ((Wp.slice Wp.u8).mono ((((y.trans F).trans t).trans z).trans A) m)) ?_
  rintro e5 d ej c2 ⟨ci,rfl,bm,G⟩
  obtain⟨e6,b3,dK,cu,e7,rfl,rfl,C,x⟩:=J1 bm
  obtain⟨rfl,dt⟩:=Sl.len x
  try dsimp only at d
  refine trM d (F08 _ _ _ _ _ ((Wp.slice Wp.u8).mono (((((y.trans F).trans t).trans z).trans A).trans G) m)) ?_
  rintro bN d ek c3 ⟨cj,b5,dM,cw,rfl,aq,D,p⟩
  obtain⟨e8,fb⟩:=bN
  dsimp only at d aq D
  obtain⟨e9,b4,dL,cv,fa,rfl,rfl,ad,Q⟩:=J1 aq
  obtain⟨rfl,du⟩:=Sl.len Q
  try dsimp only at d
  obtain⟨rfl,dv⟩:=Sl.len D
  obtain⟨bO,a0,d⟩:=B0 d
  obtain⟨fh,fi⟩:=bO
  try dsimp only at d
  refine Tr.val (B0b _ _ _ (S0 ad Q) _ _ _ _ D _  a0) ?_
  obtain⟨bP,a1,d⟩:=B0 d
  obtain⟨fj,fk⟩:=bP
  try dsimp only at d
  refine Tr.val (z0b _ _ _ (S0 ad Q) _ _ _ _ D _  a1) ?_
  refine Or.inl (aI (aI (by kernel_rfl) (by kernel_rfl)) ?_)
  refine trG d (λq=>q03 _ _ _ (l0 a9 ba (Q0.mono (((z.trans A).trans G).trans p) al)) _ _ (l0 bb bc (Q0.mono ((A.trans G).trans p) an))) λfl d=>?_
  refine trG d (λq=>A0b _ _ _ (S0 C (Q2.mono p x))) λbQ d=>?_
  obtain⟨dY,aP,d⟩:=B0 d
  have cM:H0 bQ:=M0 aP
  refine trG d (λq=>n06 _ _ _ (S0 C (Q2.mono p x))) λbR d=>?_
  obtain⟨dZ,aQ,d⟩:=B0 d
  have cN:H0 bR:=M0 aQ
  refine trG d (λq=>r06 _ _ _ (S0 C (Q2.mono p x))) λbS d=>?_
  obtain⟨d1,aR,d⟩:=B0 d
  have cO:bS.size<=9223372036854775807:=M0 aR
  refine trG d (λq=>q06 _ _ _ (S0 C (Q2.mono p x))) λbT d=>?_
  obtain⟨d2,aS,d⟩:=B0 d
  have cP:bT.size<=9223372036854775807:=M0 aS
  obtain rfl:=oJ d
  exact aI rfl ((((((y.trans F).trans t).trans z).trans A).trans G).trans p)
end Go.Proofs.YtmgikbbmpnbbjaaGreat
