/- Texts of the claim, joined: The walks of batch mc2 and others. -/
import Derived.Test.YtmgikbbmpnbbjaaGreatPart21
import Derived.Test.YtmgikbbmpnbbjaaGreatChecked
import Derived.Test.YtmgikbbmpnbbjaaGreatH35
import Derived.Test.YtmgikbbmpnbbjaaGreatPart29
import Derived.Test.YtmgikbbmpnbbjaaGreatPart31
import Derived.Test.YtmgikbbmpnbbjaaGreatH41
import Derived.Test.YtmgikbbmpnbbjaaGreatPart24
import Derived.Test.YtmgikbbmpnbbjaaGreatHE
namespace Go.Proofs.YtmgikbbmpnbbjaaGreat
open Go.H
set_option linter.unusedVariables false
set_option linter.unusedSimpArgs false
set_option maxRecDepth 10000
set_option maxHeartbeats 0
theorem c03(h:Hp)(n:List Value)(s:l0)(U:G1.R h n s)(f:Option Addr)(p g:Nat)(j:M0)(k:P0.R h [.slice f p g] j)(r:l0×Bool)(a:Q01 s j=some r):
  Tr Tryz.prog 180 #[.agg n.toArray,.slice f p g] h λv h'=>∃(m:List Value),v = .tuple #[.agg m.toArray,.bool r.2]/\New G1 h h' m r.1:=by
 obtain⟨Q,S,x,au,z,T,rfl,rfl,b,i,c⟩:=H0 U
 obtain⟨rfl,an⟩:=Sl.len c
 obtain⟨rfl,ao⟩:=Sl.len k
 unfold Q01 at a
 dsimp only at a
 refine Z2 (args:=[.agg #[.int .i64 Q,.int .i64 S,.slice x T.length z],.slice f j.length g]) (fn:=Tryz.f180) rfl ?_
 refine trV a (r8 _ _ _ (B0 b i c)) λaE a=>?_
 refine trG a (λq=>L00 _ _ b _ _ _ _ k) λaG a=>?_
 refine ifB a (λG a=>?_) λG a=>?_
 ·obtain rfl:=oJ a
  exact⟨([.int .i64 0,.int .i64 0,.slice none 0 0]),rfl,(New.pair (New.int (by decide)) (New.pair (New.int (by decide)) ((New.nilSlice (r:=D1)).mono (Sub.refl _))))⟩
 ·refine ifB a (λH a=>?_) λH a=>?_
  ·refine trM a (B5 _ _ _ (B0 b i c)) ?_
   rintro ae a aC P ⟨E,aw,B,rfl,d⟩
   have az:Sub h P:=d.sub
   have t:=d.r
   obtain⟨af,ag,ah⟩:=ae
   dsimp only at a d t
   obtain⟨_,_,_,_,_,_,C,D,K,L,X⟩:=H0 t
   cases C
   cases D
   obtain⟨rfl,aq⟩:=Sl.len X
   try dsimp only at a
   have aa:=New.sndI (New.sndI (d))
   obtain rfl:=oJ a
   exact⟨([.int .i64 af,.int .i64 ag,.slice (some ⟨E,0,none⟩) ah.length B]),rfl,(New.pair (New.int K) (New.pair (New.int L) aa))⟩
  ·refine trM a (a08 _ _ _ (B0 b i c) _ _ _ _ k) ?_
   rintro ai a aA o ⟨al,rfl,e⟩
   obtain⟨aH,aM⟩:=ai
   dsimp only at a e
   have w:Sub h o:=e.sub
   have Y:=e.r
   obtain⟨aJ,aK,aj,ax,am,aL,rfl,rfl,M,N,u⟩:=H0 Y
   obtain⟨rfl,ar⟩:=Sl.len u
   try dsimp only at a
   have aD:=New.sndI (New.sndI (e))
   refine ifB a (λF a=>?_) λF a=>?_
   ·obtain rfl:=oJ a
    exact⟨([.int .i64 0,.int .i64 0,.slice none 0 0]),rfl,(New.pair (New.int (by decide)) (New.pair (New.int (by decide)) ((New.nilSlice (r:=D1)).mono w)))⟩
   ·refine trM a (k01 _ _ _ (B0 M N u)) ?_
    rintro aF a aB O ⟨ak,rfl,l⟩
    have ay:Sub o O:=l.sub
    have V:=l.r
    obtain⟨ab,ac,y,av,A,ad,rfl,rfl,I,J,W⟩:=H0 V
    obtain⟨rfl,ap⟩:=Sl.len W
    try dsimp only at a
    have Z:=New.sndI (New.sndI (l))
    obtain rfl:=oJ a
    exact⟨([.int .i64 ab,.int .i64 ac,.slice y ad.length A]),rfl,(New.pair (New.int I) (New.pair (New.int J) (New.from Z w)))⟩
theorem o07(h:Hp)(k:Int)(o:J0 k)(l:Int)(m:J0 l)(aQ:Option Addr)(cy aS:Nat)(bp:E2)(aj:I3.R h [.slice aQ cy aS] bp)(aR:Option Addr)(cz aU:Nat)(bq:M0)(u:P0.R h [.slice aR cz aU] bq)(r:L04×Bool)(a:i00 k l bp bq=some r):
  Tr Tryz.prog 89 #[.int .i64 k,.int .i64 l,.slice aQ cy aS,.slice aR cz aU] h λv h'=>∃(bV:List Value),v = .tuple #[.agg bV.toArray,.bool r.2]/\New Y0i h h' bV r.1:=by
 obtain⟨rfl,kf⟩:=Sl.len aj
 obtain⟨rfl,kg⟩:=Sl.len u
 unfold i00 at a
 refine Z2 (args:=[.int .i64 k,.int .i64 l,.slice aQ bp.length aS,.slice aR bq.length aU]) (fn:=Tryz.f89) rfl ?_
 refine trM a (V03 _ _ m _ _ _ _ aj) ?_
 rintro hr a ln bn ⟨j1,rfl,aG⟩
 obtain⟨lL,lM⟩:=hr
 dsimp only at a aG
 have b:Sub h bn:=aG.sub
 have gt:=aG.r
 obtain⟨C,D,x,kN,y,E,rfl,rfl,i,j,n⟩:=H0 gt
 obtain⟨rfl,kr⟩:=Sl.len n
 try dsimp only at a
 have A:=New.sndI (New.sndI (aG))
 refine trG a (λq=>L00 _ _ m _ _ _ _ (P0.mono b u)) λlZ a=>?_
 refine ifB a (λfo a=>?_) λfo a=>?_
 ·obtain rfl:=oJ a
  exact⟨([.int .i64 0,.int .i64 0,.slice none 0 0,.slice none 0 0,.slice none 0 0,.int .i64 0,.int .i64 0,.slice none 0 0,.int .i64 0]),rfl,(NB.fin (NB.pair (NB.int (by decide)) (NB.pair (NB.int (by decide)) (NB.pair (NB.nil (r:=P0)) (NB.pair (NB.nil (r:=Wp.int)) (NB.pair (NB.nil (r:=Wp.int)) (NB.pair (NB.pair (NB.int (by decide)) (NB.pair (NB.int (by decide)) (NB.nil (r:=D1)) NB.d0) NB.d0) (NB.int (by decide)) NB.de) NB.d0) NB.d0) NB.d0) NB.d0) NB.d0) b)⟩
 ·refine Or.inr (Or.inr (Or.inl (aI (aI (by kernel_rfl) (by kernel_rfl)) ?_)))
  refine Or.inr ?_
  refine Or.inr ?_
  refine Or.inr ?_
  refine Or.inr ?_
  refine Or.inr ?_
  refine Or.inr (eX 3 (eX 3 (aI (aI rfl (aI rfl rfl)) ?_)))
  refine aI ?_ ?_
  ·skip
   refine aT ?_
   refine trM a (n07 _ _ _ _ _ (I3.mono b aj)) ?_
   rintro T a lv cx ⟨N,kU,P,rfl,L⟩
   have e:Sub bn cx:=L.sub
   have gD:=L.r
   obtain⟨rfl,ky⟩:=Sl.len gD
   refine aT ?_
   obtain⟨S,H,a⟩:=C0 a
   refine Tr.mono (R01 _ _ _ _ _ (P0.mono (b.trans e) u) _  H) ?_
   rintro k8 V ⟨H,kD,O,rfl,K⟩
   have f:Sub cx V:=K.sub
   have ge:=K.r
   obtain⟨rfl,kh⟩:=Sl.len ge
   refine aT ?_
   refine aT ?_
   refine aT ?_
   refine ifB a (λeL a=>?_) λeL a=>?_
   ·refine trM a (K02 _ _ _ (B0 i j (N0.mono (e.trans f) n)) _ _ _ _ (P0.mono ((b.trans e).trans f) u)) ?_
    rintro hy a lg fZ ⟨dt,kI,dJ,rfl,aB⟩
    obtain⟨hD,lC⟩:=hy
    dsimp only at a aB
    have Y:Sub V fZ:=aB.sub
    have gm:=aB.r
    obtain⟨rfl,km⟩:=Sl.len gm
    refine ifB a (λeV a=>?_) λeV a=>?_
    ·obtain rfl:=oJ a
     exact⟨([.int .i64 0,.int .i64 0,.slice none 0 0,.slice none 0 0,.slice none 0 0,.int .i64 0,.int .i64 0,.slice none 0 0,.int .i64 0]),rfl,(NB.fin (NB.pair (NB.int (by decide)) (NB.pair (NB.int (by decide)) (NB.pair (NB.nil (r:=P0)) (NB.pair (NB.nil (r:=Wp.int)) (NB.pair (NB.nil (r:=Wp.int)) (NB.pair (NB.pair (NB.int (by decide)) (NB.pair (NB.int (by decide)) (NB.nil (r:=D1)) NB.d0) NB.d0) (NB.int (by decide)) NB.de) NB.d0) NB.d0) NB.d0) NB.d0) NB.d0) (((b.trans e).trans f).trans Y))⟩
    ·obtain rfl:=oJ a
     obtain⟨iW,bC,b6,_⟩:=L
     obtain⟨i3,cS,a7,_⟩:=K
     obtain⟨jc,hc,ah,_⟩:=aB
     obtain⟨jg,aw,eg,_⟩:=A
     exact⟨([.int .i64 k,.int .i64 l,.slice N T.length P,.slice (some ⟨H,0,none⟩) S.length O,.slice dt hD.length dJ,.int .i64 C,.int .i64 D,.slice x E.length y,.int .i64 0]),rfl,(NB.fin (NB.pair (NB.int o) (NB.pair (NB.int m) (NB.pair (NB.mk bC (f.trans Y) b6 b) (NB.pair (NB.mk cS Y a7 (b.trans e)) (NB.pair (NB.mk hc (Sub.refl _) ah ((b.trans e).trans f)) (NB.pair (NB.pair (NB.int i) (NB.pair (NB.int j) (NB.mk aw ((e.trans f).trans Y) eg (Sub.refl _)) NB.d0) NB.d0) (NB.int (by decide)) NB.de) (NB.da (NB.da NB.de (NB.da NB.de (NB.dr aw (e.trans f) ah))) NB.de)) (NB.da (NB.dl cS (Sub.refl _) ah) (NB.da (NB.da NB.de (NB.da NB.de (NB.dr aw e a7))) NB.de))) (NB.da (NB.dl bC (Sub.refl _) a7) (NB.da (NB.dl bC f ah) (NB.da (NB.da NB.de (NB.da NB.de (NB.dr aw (Sub.refl _) b6))) NB.de)))) NB.d0) NB.d0) (((b.trans e).trans f).trans Y))⟩
   ·refine ifB a (λe8 a=>?_) λe8 a=>?_
    ·refine trM a (N00 _ _ _ (B0 i j (N0.mono (e.trans f) n)) _ _ _ _ (P0.mono ((b.trans e).trans f) u)) ?_
     rintro h0 a lm f8 ⟨ka,rfl,aK⟩
     obtain⟨lS,lT⟩:=h0
     dsimp only at a aK
     have ap:Sub V f8:=aK.sub
     have gx:=aK.r
     obtain⟨h1,h2,dA,kQ,dQ,h3,rfl,rfl,fO,fP,gy⟩:=H0 gx
     obtain⟨rfl,ku⟩:=Sl.len gy
     try dsimp only at a
     have gQ:=New.sndI (New.sndI (aK))
     refine ifB a (λff a=>?_) λff a=>?_
     ·obtain rfl:=oJ a
      exact⟨([.int .i64 0,.int .i64 0,.slice none 0 0,.slice none 0 0,.slice none 0 0,.int .i64 0,.int .i64 0,.slice none 0 0,.int .i64 0]),rfl,(NB.fin (NB.pair (NB.int (by decide)) (NB.pair (NB.int (by decide)) (NB.pair (NB.nil (r:=P0)) (NB.pair (NB.nil (r:=Wp.int)) (NB.pair (NB.nil (r:=Wp.int)) (NB.pair (NB.pair (NB.int (by decide)) (NB.pair (NB.int (by decide)) (NB.nil (r:=D1)) NB.d0) NB.d0) (NB.int (by decide)) NB.de) NB.d0) NB.d0) NB.d0) NB.d0) NB.d0) (((b.trans e).trans f).trans ap))⟩
     ·obtain rfl:=oJ a
      obtain⟨jw,bM,em,_⟩:=L
      obtain⟨jx,c0,ch,_⟩:=K
      obtain⟨jy,hj,bf,_⟩:=gQ
      exact⟨([.int .i64 k,.int .i64 l,.slice N T.length P,.slice (some ⟨H,0,none⟩) S.length O,.slice none 0 0,.int .i64 h1,.int .i64 h2,.slice dA h3.length dQ,.int .i64 0]),rfl,(NB.fin (NB.pair (NB.int o) (NB.pair (NB.int m) (NB.pair (NB.mk bM (f.trans ap) em b) (NB.pair (NB.mk c0 ap ch (b.trans e)) (NB.pair (NB.nil (r:=Wp.int)) (NB.pair (NB.pair (NB.int fO) (NB.pair (NB.int fP) (NB.mk hj (Sub.refl _) bf ((b.trans e).trans f)) NB.d0) NB.d0) (NB.int (by decide)) NB.de) NB.d0) (NB.da NB.de (NB.da (NB.da NB.de (NB.da NB.de (NB.dl c0 (Sub.refl _) bf))) NB.de))) (NB.da (NB.dl bM (Sub.refl _) ch) (NB.da NB.de (NB.da (NB.da NB.de (NB.da NB.de (NB.dl bM f bf))) NB.de)))) NB.d0) NB.d0) (((b.trans e).trans f).trans ap))⟩
    ·refine ifB a (λfg a=>?_) λfg a=>?_
     ·refine trM a (c03 _ _ _ (B0 i j (N0.mono (e.trans f) n)) _ _ _ _ (P0.mono ((b.trans e).trans f) u)) ?_
      rintro h4 a lo f9 ⟨kb,rfl,aL⟩
      obtain⟨lU,lV⟩:=h4
      dsimp only at a aL
      have ac:Sub V f9:=aL.sub
      have gz:=aL.r
      obtain⟨h5,h6,dB,kR,dR,h7,rfl,rfl,ct,cu,cD⟩:=H0 gz
      obtain⟨rfl,kv⟩:=Sl.len cD
      try dsimp only at a
      have gR:=New.sndI (New.sndI (aL))
      refine trG a (λq=>W8 _ _ _ (B0 ct cu cD) _ _ (B0 i j (N0.mono ((e.trans f).trans ac) n))) λlW a=>?_
      refine ifB a (λfh a=>?_) λfh a=>?_
      ·obtain rfl:=oJ a
       exact⟨([.int .i64 0,.int .i64 0,.slice none 0 0,.slice none 0 0,.slice none 0 0,.int .i64 0,.int .i64 0,.slice none 0 0,.int .i64 0]),rfl,(NB.fin (NB.pair (NB.int (by decide)) (NB.pair (NB.int (by decide)) (NB.pair (NB.nil (r:=P0)) (NB.pair (NB.nil (r:=Wp.int)) (NB.pair (NB.nil (r:=Wp.int)) (NB.pair (NB.pair (NB.int (by decide)) (NB.pair (NB.int (by decide)) (NB.nil (r:=D1)) NB.d0) NB.d0) (NB.int (by decide)) NB.de) NB.d0) NB.d0) NB.d0) NB.d0) NB.d0) (((b.trans e).trans f).trans ac))⟩
      ·obtain rfl:=oJ a
       obtain⟨jz,bN,en,_⟩:=L
       obtain⟨jA,c1,ci,_⟩:=K
       obtain⟨jB,hk,bg,_⟩:=gR
       exact⟨([.int .i64 k,.int .i64 l,.slice N T.length P,.slice (some ⟨H,0,none⟩) S.length O,.slice none 0 0,.int .i64 h5,.int .i64 h6,.slice dB h7.length dR,.int .i64 0]),rfl,(NB.fin (NB.pair (NB.int o) (NB.pair (NB.int m) (NB.pair (NB.mk bN (f.trans ac) en b) (NB.pair (NB.mk c1 ac ci (b.trans e)) (NB.pair (NB.nil (r:=Wp.int)) (NB.pair (NB.pair (NB.int ct) (NB.pair (NB.int cu) (NB.mk hk (Sub.refl _) bg ((b.trans e).trans f)) NB.d0) NB.d0) (NB.int (by decide)) NB.de) NB.d0) (NB.da NB.de (NB.da (NB.da NB.de (NB.da NB.de (NB.dl c1 (Sub.refl _) bg))) NB.de))) (NB.da (NB.dl bN (Sub.refl _) ci) (NB.da NB.de (NB.da (NB.da NB.de (NB.da NB.de (NB.dl bN f bg))) NB.de)))) NB.d0) NB.d0) (((b.trans e).trans f).trans ac))⟩
     ·refine ifB a (λfi a=>?_) λfi a=>?_
      ·refine trM a (H7 _ _ _ (B0 i j (N0.mono (e.trans f) n)) _ _ _ _ (P0.mono ((b.trans e).trans f) u)) ?_
       rintro h8 a lp ga ⟨kc,rfl,aM⟩
       obtain⟨lX,lY⟩:=h8
       dsimp only at a aM
       have aq:Sub V ga:=aM.sub
       have gA:=aM.r
       obtain⟨h9,ia,dC,kS,dS,ib,rfl,rfl,fQ,fR,gB⟩:=H0 gA
       obtain⟨rfl,kw⟩:=Sl.len gB
       try dsimp only at a
       have gS:=New.sndI (New.sndI (aM))
       refine ifB a (λfj a=>?_) λfj a=>?_
       ·obtain rfl:=oJ a
        exact⟨([.int .i64 0,.int .i64 0,.slice none 0 0,.slice none 0 0,.slice none 0 0,.int .i64 0,.int .i64 0,.slice none 0 0,.int .i64 0]),rfl,(NB.fin (NB.pair (NB.int (by decide)) (NB.pair (NB.int (by decide)) (NB.pair (NB.nil (r:=P0)) (NB.pair (NB.nil (r:=Wp.int)) (NB.pair (NB.nil (r:=Wp.int)) (NB.pair (NB.pair (NB.int (by decide)) (NB.pair (NB.int (by decide)) (NB.nil (r:=D1)) NB.d0) NB.d0) (NB.int (by decide)) NB.de) NB.d0) NB.d0) NB.d0) NB.d0) NB.d0) (((b.trans e).trans f).trans aq))⟩
       ·obtain rfl:=oJ a
        obtain⟨jC,bO,eo,_⟩:=L
        obtain⟨jD,c2,cj,_⟩:=K
        obtain⟨jE,hl,bh,_⟩:=gS
        exact⟨([.int .i64 k,.int .i64 l,.slice N T.length P,.slice (some ⟨H,0,none⟩) S.length O,.slice none 0 0,.int .i64 h9,.int .i64 ia,.slice dC ib.length dS,.int .i64 0]),rfl,(NB.fin (NB.pair (NB.int o) (NB.pair (NB.int m) (NB.pair (NB.mk bO (f.trans aq) eo b) (NB.pair (NB.mk c2 aq cj (b.trans e)) (NB.pair (NB.nil (r:=Wp.int)) (NB.pair (NB.pair (NB.int fQ) (NB.pair (NB.int fR) (NB.mk hl (Sub.refl _) bh ((b.trans e).trans f)) NB.d0) NB.d0) (NB.int (by decide)) NB.de) NB.d0) (NB.da NB.de (NB.da (NB.da NB.de (NB.da NB.de (NB.dl c2 (Sub.refl _) bh))) NB.de))) (NB.da (NB.dl bO (Sub.refl _) cj) (NB.da NB.de (NB.da (NB.da NB.de (NB.da NB.de (NB.dl bO f bh))) NB.de)))) NB.d0) NB.d0) (((b.trans e).trans f).trans aq))⟩
      ·refine ifB a (λfk a=>?_) λfk a=>?_
       ·refine trV a (T02 _ _ _ (B0 i j (N0.mono (e.trans f) n))) λdk a=>?_
        obtain⟨k5,eC,a⟩:=C0 a
        have fS:J0 dk:=C1 eC
        refine ifB a (λfl a=>?_) λfl a=>?_
        ·obtain rfl:=oJ a
         exact⟨([.int .i64 0,.int .i64 0,.slice none 0 0,.slice none 0 0,.slice none 0 0,.int .i64 0,.int .i64 0,.slice none 0 0,.int .i64 0]),rfl,(NB.fin (NB.pair (NB.int (by decide)) (NB.pair (NB.int (by decide)) (NB.pair (NB.nil (r:=P0)) (NB.pair (NB.nil (r:=Wp.int)) (NB.pair (NB.nil (r:=Wp.int)) (NB.pair (NB.pair (NB.int (by decide)) (NB.pair (NB.int (by decide)) (NB.nil (r:=D1)) NB.d0) NB.d0) (NB.int (by decide)) NB.de) NB.d0) NB.d0) NB.d0) NB.d0) NB.d0) ((b.trans e).trans f))⟩
        ·obtain rfl:=oJ a
         obtain⟨jF,c3,ck,_⟩:=L
         obtain⟨jG,hm,bi,_⟩:=K
         obtain⟨jH,bP,ep,_⟩:=A
         exact⟨([.int .i64 k,.int .i64 l,.slice N T.length P,.slice (some ⟨H,0,none⟩) S.length O,.slice none 0 0,.int .i64 C,.int .i64 D,.slice x E.length y,.int .i64 dk]),rfl,(NB.fin (NB.pair (NB.int o) (NB.pair (NB.int m) (NB.pair (NB.mk c3 f ck b) (NB.pair (NB.mk hm (Sub.refl _) bi (b.trans e)) (NB.pair (NB.nil (r:=Wp.int)) (NB.pair (NB.pair (NB.int i) (NB.pair (NB.int j) (NB.mk bP (e.trans f) ep (Sub.refl _)) NB.d0) NB.d0) (NB.int fS) NB.de) NB.d0) (NB.da NB.de (NB.da (NB.da NB.de (NB.da NB.de (NB.dr bP e bi))) NB.de))) (NB.da (NB.dl c3 (Sub.refl _) bi) (NB.da NB.de (NB.da (NB.da NB.de (NB.da NB.de (NB.dr bP (Sub.refl _) ck))) NB.de)))) NB.d0) NB.d0) ((b.trans e).trans f))⟩
       ·refine ifB a (λfm a=>?_) λfm a=>?_
        ·refine trV a (t02 _ _ _ (B0 i j (N0.mono (e.trans f) n))) λdm a=>?_
         obtain⟨k6,eD,a⟩:=C0 a
         have fT:J0 dm:=C1 eD
         refine ifB a (λfp a=>?_) λfp a=>?_
         ·obtain rfl:=oJ a
          exact⟨([.int .i64 0,.int .i64 0,.slice none 0 0,.slice none 0 0,.slice none 0 0,.int .i64 0,.int .i64 0,.slice none 0 0,.int .i64 0]),rfl,(NB.fin (NB.pair (NB.int (by decide)) (NB.pair (NB.int (by decide)) (NB.pair (NB.nil (r:=P0)) (NB.pair (NB.nil (r:=Wp.int)) (NB.pair (NB.nil (r:=Wp.int)) (NB.pair (NB.pair (NB.int (by decide)) (NB.pair (NB.int (by decide)) (NB.nil (r:=D1)) NB.d0) NB.d0) (NB.int (by decide)) NB.de) NB.d0) NB.d0) NB.d0) NB.d0) NB.d0) ((b.trans e).trans f))⟩
         ·obtain rfl:=oJ a
          obtain⟨jI,c4,cl,_⟩:=L
          obtain⟨jJ,hn,bj,_⟩:=K
          obtain⟨jK,bQ,eq,_⟩:=A
          exact⟨([.int .i64 k,.int .i64 l,.slice N T.length P,.slice (some ⟨H,0,none⟩) S.length O,.slice none 0 0,.int .i64 C,.int .i64 D,.slice x E.length y,.int .i64 dm]),rfl,(NB.fin (NB.pair (NB.int o) (NB.pair (NB.int m) (NB.pair (NB.mk c4 f cl b) (NB.pair (NB.mk hn (Sub.refl _) bj (b.trans e)) (NB.pair (NB.nil (r:=Wp.int)) (NB.pair (NB.pair (NB.int i) (NB.pair (NB.int j) (NB.mk bQ (e.trans f) eq (Sub.refl _)) NB.d0) NB.d0) (NB.int fT) NB.de) NB.d0) (NB.da NB.de (NB.da (NB.da NB.de (NB.da NB.de (NB.dr bQ e bj))) NB.de))) (NB.da (NB.dl c4 (Sub.refl _) bj) (NB.da NB.de (NB.da (NB.da NB.de (NB.da NB.de (NB.dr bQ (Sub.refl _) cl))) NB.de)))) NB.d0) NB.d0) ((b.trans e).trans f))⟩
        ·refine ifB a (λfq a=>?_) λfq a=>?_
         ·obtain rfl:=oJ a
          exact⟨([.int .i64 0,.int .i64 0,.slice none 0 0,.slice none 0 0,.slice none 0 0,.int .i64 0,.int .i64 0,.slice none 0 0,.int .i64 0]),rfl,(NB.fin (NB.pair (NB.int (by decide)) (NB.pair (NB.int (by decide)) (NB.pair (NB.nil (r:=P0)) (NB.pair (NB.nil (r:=Wp.int)) (NB.pair (NB.nil (r:=Wp.int)) (NB.pair (NB.pair (NB.int (by decide)) (NB.pair (NB.int (by decide)) (NB.nil (r:=D1)) NB.d0) NB.d0) (NB.int (by decide)) NB.de) NB.d0) NB.d0) NB.d0) NB.d0) NB.d0) ((b.trans e).trans f))⟩
         ·obtain rfl:=oJ a
          obtain⟨jL,c6,cm,_⟩:=L
          obtain⟨jM,ho,bk,_⟩:=K
          obtain⟨jN,bR,er,_⟩:=A
          exact⟨([.int .i64 k,.int .i64 l,.slice N T.length P,.slice (some ⟨H,0,none⟩) S.length O,.slice none 0 0,.int .i64 C,.int .i64 D,.slice x E.length y,.int .i64 0]),rfl,(NB.fin (NB.pair (NB.int o) (NB.pair (NB.int m) (NB.pair (NB.mk c6 f cm b) (NB.pair (NB.mk ho (Sub.refl _) bk (b.trans e)) (NB.pair (NB.nil (r:=Wp.int)) (NB.pair (NB.pair (NB.int i) (NB.pair (NB.int j) (NB.mk bR (e.trans f) er (Sub.refl _)) NB.d0) NB.d0) (NB.int (by decide)) NB.de) NB.d0) (NB.da NB.de (NB.da (NB.da NB.de (NB.da NB.de (NB.dr bR e bk))) NB.de))) (NB.da (NB.dl c6 (Sub.refl _) bk) (NB.da NB.de (NB.da (NB.da NB.de (NB.da NB.de (NB.dr bR (Sub.refl _) cm))) NB.de)))) NB.d0) NB.d0) ((b.trans e).trans f))⟩
  ·skip
   refine trM a (n07 _ _ _ _ _ (I3.mono b aj)) ?_
   rintro w a lq bo ⟨s,kT,t,rfl,p⟩
   have c:Sub bn bo:=p.sub
   have gC:=p.r
   obtain⟨rfl,kx⟩:=Sl.len gC
   refine aT ?_
   refine aI ?_ ?_
   ·skip
    refine aT ?_
    obtain⟨U,I,a⟩:=C0 a
    refine Tr.mono (R01 _ _ _ _ _ (P0.mono (b.trans c) u) _  I) ?_
    rintro lr W ⟨I,kV,Q,rfl,M⟩
    have g:Sub bo W:=M.sub
    have gE:=M.r
    obtain⟨rfl,kz⟩:=Sl.len gE
    refine aT ?_
    refine aT ?_
    refine aT ?_
    refine ifB a (λfs a=>?_) λfs a=>?_
    ·refine trM a (K02 _ _ _ (B0 i j (N0.mono (c.trans g) n)) _ _ _ _ (P0.mono ((b.trans c).trans g) u)) ?_
     rintro ic a ls gb ⟨dD,kW,dT,rfl,aN⟩
     obtain⟨ie,l1⟩:=ic
     dsimp only at a aN
     have ad:Sub W gb:=aN.sub
     have gF:=aN.r
     obtain⟨rfl,kA⟩:=Sl.len gF
     refine ifB a (λft a=>?_) λft a=>?_
     ·obtain rfl:=oJ a
      exact⟨([.int .i64 0,.int .i64 0,.slice none 0 0,.slice none 0 0,.slice none 0 0,.int .i64 0,.int .i64 0,.slice none 0 0,.int .i64 0]),rfl,(NB.fin (NB.pair (NB.int (by decide)) (NB.pair (NB.int (by decide)) (NB.pair (NB.nil (r:=P0)) (NB.pair (NB.nil (r:=Wp.int)) (NB.pair (NB.nil (r:=Wp.int)) (NB.pair (NB.pair (NB.int (by decide)) (NB.pair (NB.int (by decide)) (NB.nil (r:=D1)) NB.d0) NB.d0) (NB.int (by decide)) NB.de) NB.d0) NB.d0) NB.d0) NB.d0) NB.d0) (((b.trans c).trans g).trans ad))⟩
     ·obtain rfl:=oJ a
      obtain⟨jO,bS,cn,_⟩:=p
      obtain⟨jP,db,bl,_⟩:=M
      obtain⟨jQ,hp,ai,_⟩:=aN
      obtain⟨jR,ax,es,_⟩:=A
      exact⟨([.int .i64 k,.int .i64 l,.slice s w.length t,.slice (some ⟨I,0,none⟩) U.length Q,.slice dD ie.length dT,.int .i64 C,.int .i64 D,.slice x E.length y,.int .i64 0]),rfl,(NB.fin (NB.pair (NB.int o) (NB.pair (NB.int m) (NB.pair (NB.mk bS (g.trans ad) cn b) (NB.pair (NB.mk db ad bl (b.trans c)) (NB.pair (NB.mk hp (Sub.refl _) ai ((b.trans c).trans g)) (NB.pair (NB.pair (NB.int i) (NB.pair (NB.int j) (NB.mk ax ((c.trans g).trans ad) es (Sub.refl _)) NB.d0) NB.d0) (NB.int (by decide)) NB.de) (NB.da (NB.da NB.de (NB.da NB.de (NB.dr ax (c.trans g) ai))) NB.de)) (NB.da (NB.dl db (Sub.refl _) ai) (NB.da (NB.da NB.de (NB.da NB.de (NB.dr ax c bl))) NB.de))) (NB.da (NB.dl bS (Sub.refl _) bl) (NB.da (NB.dl bS g ai) (NB.da (NB.da NB.de (NB.da NB.de (NB.dr ax (Sub.refl _) cn))) NB.de)))) NB.d0) NB.d0) (((b.trans c).trans g).trans ad))⟩
    ·refine ifB a (λfu a=>?_) λfu a=>?_
     ·refine trM a (N00 _ _ _ (B0 i j (N0.mono (c.trans g) n)) _ _ _ _ (P0.mono ((b.trans c).trans g) u)) ?_
      rintro ig a lu gc ⟨kd,rfl,aO⟩
      obtain⟨l2,ma⟩:=ig
      dsimp only at a aO
      have ar:Sub W gc:=aO.sub
      have gG:=aO.r
      obtain⟨ih,ii,dE,kX,dU,ij,rfl,rfl,fU,fV,gH⟩:=H0 gG
      obtain⟨rfl,kB⟩:=Sl.len gH
      try dsimp only at a
      have gT:=New.sndI (New.sndI (aO))
      refine ifB a (λfv a=>?_) λfv a=>?_
      ·obtain rfl:=oJ a
       exact⟨([.int .i64 0,.int .i64 0,.slice none 0 0,.slice none 0 0,.slice none 0 0,.int .i64 0,.int .i64 0,.slice none 0 0,.int .i64 0]),rfl,(NB.fin (NB.pair (NB.int (by decide)) (NB.pair (NB.int (by decide)) (NB.pair (NB.nil (r:=P0)) (NB.pair (NB.nil (r:=Wp.int)) (NB.pair (NB.nil (r:=Wp.int)) (NB.pair (NB.pair (NB.int (by decide)) (NB.pair (NB.int (by decide)) (NB.nil (r:=D1)) NB.d0) NB.d0) (NB.int (by decide)) NB.de) NB.d0) NB.d0) NB.d0) NB.d0) NB.d0) (((b.trans c).trans g).trans ar))⟩
      ·obtain rfl:=oJ a
       obtain⟨jS,bT,et,_⟩:=p
       obtain⟨jT,dc,co,_⟩:=M
       obtain⟨jU,hq,bm,_⟩:=gT
       exact⟨([.int .i64 k,.int .i64 l,.slice s w.length t,.slice (some ⟨I,0,none⟩) U.length Q,.slice none 0 0,.int .i64 ih,.int .i64 ii,.slice dE ij.length dU,.int .i64 0]),rfl,(NB.fin (NB.pair (NB.int o) (NB.pair (NB.int m) (NB.pair (NB.mk bT (g.trans ar) et b) (NB.pair (NB.mk dc ar co (b.trans c)) (NB.pair (NB.nil (r:=Wp.int)) (NB.pair (NB.pair (NB.int fU) (NB.pair (NB.int fV) (NB.mk hq (Sub.refl _) bm ((b.trans c).trans g)) NB.d0) NB.d0) (NB.int (by decide)) NB.de) NB.d0) (NB.da NB.de (NB.da (NB.da NB.de (NB.da NB.de (NB.dl dc (Sub.refl _) bm))) NB.de))) (NB.da (NB.dl bT (Sub.refl _) co) (NB.da NB.de (NB.da (NB.da NB.de (NB.da NB.de (NB.dl bT g bm))) NB.de)))) NB.d0) NB.d0) (((b.trans c).trans g).trans ar))⟩
     ·refine ifB a (λfw a=>?_) λfw a=>?_
      ·refine trM a (c03 _ _ _ (B0 i j (N0.mono (c.trans g) n)) _ _ _ _ (P0.mono ((b.trans c).trans g) u)) ?_
       rintro ik a lw gd ⟨ke,rfl,aP⟩
       obtain⟨mb,mc⟩:=ik
       dsimp only at a aP
       have ae:Sub W gd:=aP.sub
       have gI:=aP.r
       obtain⟨il,im,dF,kY,dV,io,rfl,rfl,cv,cw,cE⟩:=H0 gI
       obtain⟨rfl,kC⟩:=Sl.len cE
       try dsimp only at a
       have gU:=New.sndI (New.sndI (aP))
       refine trG a (λq=>W8 _ _ _ (B0 cv cw cE) _ _ (B0 i j (N0.mono ((c.trans g).trans ae) n))) λmd a=>?_
       refine ifB a (λfx a=>?_) λfx a=>?_
       ·obtain rfl:=oJ a
        exact⟨([.int .i64 0,.int .i64 0,.slice none 0 0,.slice none 0 0,.slice none 0 0,.int .i64 0,.int .i64 0,.slice none 0 0,.int .i64 0]),rfl,(NB.fin (NB.pair (NB.int (by decide)) (NB.pair (NB.int (by decide)) (NB.pair (NB.nil (r:=P0)) (NB.pair (NB.nil (r:=Wp.int)) (NB.pair (NB.nil (r:=Wp.int)) (NB.pair (NB.pair (NB.int (by decide)) (NB.pair (NB.int (by decide)) (NB.nil (r:=D1)) NB.d0) NB.d0) (NB.int (by decide)) NB.de) NB.d0) NB.d0) NB.d0) NB.d0) NB.d0) (((b.trans c).trans g).trans ae))⟩
       ·obtain rfl:=oJ a
        obtain⟨jV,bU,eu,_⟩:=p
        obtain⟨ip,cG,bW,_⟩:=M
        obtain⟨iq,gV,aV,_⟩:=gU
        exact⟨([.int .i64 k,.int .i64 l,.slice s w.length t,.slice (some ⟨I,0,none⟩) U.length Q,.slice none 0 0,.int .i64 il,.int .i64 im,.slice dF io.length dV,.int .i64 0]),rfl,(NB.fin (NB.pair (NB.int o) (NB.pair (NB.int m) (NB.pair (NB.mk bU (g.trans ae) eu b) (NB.pair (NB.mk cG ae bW (b.trans c)) (NB.pair (NB.nil (r:=Wp.int)) (NB.pair (NB.pair (NB.int cv) (NB.pair (NB.int cw) (NB.mk gV (Sub.refl _) aV ((b.trans c).trans g)) NB.d0) NB.d0) (NB.int (by decide)) NB.de) NB.d0) (NB.da NB.de (NB.da (NB.da NB.de (NB.da NB.de (NB.dl cG (Sub.refl _) aV))) NB.de))) (NB.da (NB.dl bU (Sub.refl _) bW) (NB.da NB.de (NB.da (NB.da NB.de (NB.da NB.de (NB.dl bU g aV))) NB.de)))) NB.d0) NB.d0) (((b.trans c).trans g).trans ae))⟩
      ·refine ifB a (λeE a=>?_) λeE a=>?_
       ·refine trM a (H7 _ _ _ (B0 i j (N0.mono (c.trans g) n)) _ _ _ _ (P0.mono ((b.trans c).trans g) u)) ?_
        rintro hs a k7 fW ⟨jW,rfl,ay⟩
        obtain⟨lx,ly⟩:=hs
        dsimp only at a ay
        have ak:Sub W fW:=ay.sub
        have gf:=ay.r
        obtain⟨ht,hu,dn,kE,dG,hv,rfl,rfl,fy,fz,gg⟩:=H0 gf
        obtain⟨rfl,ki⟩:=Sl.len gg
        try dsimp only at a
        have gJ:=New.sndI (New.sndI (ay))
        refine ifB a (λeF a=>?_) λeF a=>?_
        ·obtain rfl:=oJ a
         exact⟨([.int .i64 0,.int .i64 0,.slice none 0 0,.slice none 0 0,.slice none 0 0,.int .i64 0,.int .i64 0,.slice none 0 0,.int .i64 0]),rfl,(NB.fin (NB.pair (NB.int (by decide)) (NB.pair (NB.int (by decide)) (NB.pair (NB.nil (r:=P0)) (NB.pair (NB.nil (r:=Wp.int)) (NB.pair (NB.nil (r:=Wp.int)) (NB.pair (NB.pair (NB.int (by decide)) (NB.pair (NB.int (by decide)) (NB.nil (r:=D1)) NB.d0) NB.d0) (NB.int (by decide)) NB.de) NB.d0) NB.d0) NB.d0) NB.d0) NB.d0) (((b.trans c).trans g).trans ak))⟩
        ·obtain rfl:=oJ a
         obtain⟨ir,br,dW,_⟩:=p
         obtain⟨iu,cH,bX,_⟩:=M
         obtain⟨iv,gW,aW,_⟩:=gJ
         exact⟨([.int .i64 k,.int .i64 l,.slice s w.length t,.slice (some ⟨I,0,none⟩) U.length Q,.slice none 0 0,.int .i64 ht,.int .i64 hu,.slice dn hv.length dG,.int .i64 0]),rfl,(NB.fin (NB.pair (NB.int o) (NB.pair (NB.int m) (NB.pair (NB.mk br (g.trans ak) dW b) (NB.pair (NB.mk cH ak bX (b.trans c)) (NB.pair (NB.nil (r:=Wp.int)) (NB.pair (NB.pair (NB.int fy) (NB.pair (NB.int fz) (NB.mk gW (Sub.refl _) aW ((b.trans c).trans g)) NB.d0) NB.d0) (NB.int (by decide)) NB.de) NB.d0) (NB.da NB.de (NB.da (NB.da NB.de (NB.da NB.de (NB.dl cH (Sub.refl _) aW))) NB.de))) (NB.da (NB.dl br (Sub.refl _) bX) (NB.da NB.de (NB.da (NB.da NB.de (NB.da NB.de (NB.dl br g aW))) NB.de)))) NB.d0) NB.d0) (((b.trans c).trans g).trans ak))⟩
       ·refine ifB a (λeG a=>?_) λeG a=>?_
        ·refine trV a (T02 _ _ _ (B0 i j (N0.mono (c.trans g) n))) λdd a=>?_
         obtain⟨kZ,ew,a⟩:=C0 a
         have fA:J0 dd:=C1 ew
         refine ifB a (λeH a=>?_) λeH a=>?_
         ·obtain rfl:=oJ a
          exact⟨([.int .i64 0,.int .i64 0,.slice none 0 0,.slice none 0 0,.slice none 0 0,.int .i64 0,.int .i64 0,.slice none 0 0,.int .i64 0]),rfl,(NB.fin (NB.pair (NB.int (by decide)) (NB.pair (NB.int (by decide)) (NB.pair (NB.nil (r:=P0)) (NB.pair (NB.nil (r:=Wp.int)) (NB.pair (NB.nil (r:=Wp.int)) (NB.pair (NB.pair (NB.int (by decide)) (NB.pair (NB.int (by decide)) (NB.nil (r:=D1)) NB.d0) NB.d0) (NB.int (by decide)) NB.de) NB.d0) NB.d0) NB.d0) NB.d0) NB.d0) ((b.trans c).trans g))⟩
         ·obtain rfl:=oJ a
          obtain⟨iw,cI,bY,_⟩:=p
          obtain⟨ix,gX,aX,_⟩:=M
          obtain⟨iy,bs,dX,_⟩:=A
          exact⟨([.int .i64 k,.int .i64 l,.slice s w.length t,.slice (some ⟨I,0,none⟩) U.length Q,.slice none 0 0,.int .i64 C,.int .i64 D,.slice x E.length y,.int .i64 dd]),rfl,(NB.fin (NB.pair (NB.int o) (NB.pair (NB.int m) (NB.pair (NB.mk cI g bY b) (NB.pair (NB.mk gX (Sub.refl _) aX (b.trans c)) (NB.pair (NB.nil (r:=Wp.int)) (NB.pair (NB.pair (NB.int i) (NB.pair (NB.int j) (NB.mk bs (c.trans g) dX (Sub.refl _)) NB.d0) NB.d0) (NB.int fA) NB.de) NB.d0) (NB.da NB.de (NB.da (NB.da NB.de (NB.da NB.de (NB.dr bs c aX))) NB.de))) (NB.da (NB.dl cI (Sub.refl _) aX) (NB.da NB.de (NB.da (NB.da NB.de (NB.da NB.de (NB.dr bs (Sub.refl _) bY))) NB.de)))) NB.d0) NB.d0) ((b.trans c).trans g))⟩
        ·refine ifB a (λeI a=>?_) λeI a=>?_
         ·refine trV a (t02 _ _ _ (B0 i j (N0.mono (c.trans g) n))) λdf a=>?_
          obtain⟨k0,ex,a⟩:=C0 a
          have fB:J0 df:=C1 ex
          refine ifB a (λeJ a=>?_) λeJ a=>?_
          ·obtain rfl:=oJ a
           exact⟨([.int .i64 0,.int .i64 0,.slice none 0 0,.slice none 0 0,.slice none 0 0,.int .i64 0,.int .i64 0,.slice none 0 0,.int .i64 0]),rfl,(NB.fin (NB.pair (NB.int (by decide)) (NB.pair (NB.int (by decide)) (NB.pair (NB.nil (r:=P0)) (NB.pair (NB.nil (r:=Wp.int)) (NB.pair (NB.nil (r:=Wp.int)) (NB.pair (NB.pair (NB.int (by decide)) (NB.pair (NB.int (by decide)) (NB.nil (r:=D1)) NB.d0) NB.d0) (NB.int (by decide)) NB.de) NB.d0) NB.d0) NB.d0) NB.d0) NB.d0) ((b.trans c).trans g))⟩
          ·obtain rfl:=oJ a
           obtain⟨iz,cJ,bZ,_⟩:=p
           obtain⟨iA,gY,aY,_⟩:=M
           obtain⟨iB,bt,dY,_⟩:=A
           exact⟨([.int .i64 k,.int .i64 l,.slice s w.length t,.slice (some ⟨I,0,none⟩) U.length Q,.slice none 0 0,.int .i64 C,.int .i64 D,.slice x E.length y,.int .i64 df]),rfl,(NB.fin (NB.pair (NB.int o) (NB.pair (NB.int m) (NB.pair (NB.mk cJ g bZ b) (NB.pair (NB.mk gY (Sub.refl _) aY (b.trans c)) (NB.pair (NB.nil (r:=Wp.int)) (NB.pair (NB.pair (NB.int i) (NB.pair (NB.int j) (NB.mk bt (c.trans g) dY (Sub.refl _)) NB.d0) NB.d0) (NB.int fB) NB.de) NB.d0) (NB.da NB.de (NB.da (NB.da NB.de (NB.da NB.de (NB.dr bt c aY))) NB.de))) (NB.da (NB.dl cJ (Sub.refl _) aY) (NB.da NB.de (NB.da (NB.da NB.de (NB.da NB.de (NB.dr bt (Sub.refl _) bZ))) NB.de)))) NB.d0) NB.d0) ((b.trans c).trans g))⟩
         ·refine ifB a (λeK a=>?_) λeK a=>?_
          ·obtain rfl:=oJ a
           exact⟨([.int .i64 0,.int .i64 0,.slice none 0 0,.slice none 0 0,.slice none 0 0,.int .i64 0,.int .i64 0,.slice none 0 0,.int .i64 0]),rfl,(NB.fin (NB.pair (NB.int (by decide)) (NB.pair (NB.int (by decide)) (NB.pair (NB.nil (r:=P0)) (NB.pair (NB.nil (r:=Wp.int)) (NB.pair (NB.nil (r:=Wp.int)) (NB.pair (NB.pair (NB.int (by decide)) (NB.pair (NB.int (by decide)) (NB.nil (r:=D1)) NB.d0) NB.d0) (NB.int (by decide)) NB.de) NB.d0) NB.d0) NB.d0) NB.d0) NB.d0) ((b.trans c).trans g))⟩
          ·obtain rfl:=oJ a
           obtain⟨iC,cK,b0,_⟩:=p
           obtain⟨iD,gZ,aZ,_⟩:=M
           obtain⟨iE,bu,dZ,_⟩:=A
           exact⟨([.int .i64 k,.int .i64 l,.slice s w.length t,.slice (some ⟨I,0,none⟩) U.length Q,.slice none 0 0,.int .i64 C,.int .i64 D,.slice x E.length y,.int .i64 0]),rfl,(NB.fin (NB.pair (NB.int o) (NB.pair (NB.int m) (NB.pair (NB.mk cK g b0 b) (NB.pair (NB.mk gZ (Sub.refl _) aZ (b.trans c)) (NB.pair (NB.nil (r:=Wp.int)) (NB.pair (NB.pair (NB.int i) (NB.pair (NB.int j) (NB.mk bu (c.trans g) dZ (Sub.refl _)) NB.d0) NB.d0) (NB.int (by decide)) NB.de) NB.d0) (NB.da NB.de (NB.da (NB.da NB.de (NB.da NB.de (NB.dr bu c aZ))) NB.de))) (NB.da (NB.dl cK (Sub.refl _) aZ) (NB.da NB.de (NB.da (NB.da NB.de (NB.da NB.de (NB.dr bu (Sub.refl _) b0))) NB.de)))) NB.d0) NB.d0) ((b.trans c).trans g))⟩
   ·skip
    obtain⟨G,z,a⟩:=C0 a
    refine Tr.mono (R01 _ _ _ _ _ (P0.mono (b.trans c) u) _  z) ?_
    rintro k9 J ⟨z,kF,F,rfl,B⟩
    have d:Sub bo J:=B.sub
    have gh:=B.r
    obtain⟨rfl,kj⟩:=Sl.len gh
    refine aT ?_
    refine aI ?_ ?_
    ·skip
     refine aT ?_
     refine aT ?_
     refine aT ?_
     refine ifB a (λeM a=>?_) λeM a=>?_
     ·refine trM a (K02 _ _ _ (B0 i j (N0.mono (c.trans d) n)) _ _ _ _ (P0.mono ((b.trans c).trans d) u)) ?_
      rintro hw a la fX ⟨dq,kG,dH,rfl,az⟩
      obtain⟨hx,lz⟩:=hw
      dsimp only at a az
      have X:Sub J fX:=az.sub
      have gj:=az.r
      obtain⟨rfl,kk⟩:=Sl.len gj
      refine ifB a (λeN a=>?_) λeN a=>?_
      ·obtain rfl:=oJ a
       exact⟨([.int .i64 0,.int .i64 0,.slice none 0 0,.slice none 0 0,.slice none 0 0,.int .i64 0,.int .i64 0,.slice none 0 0,.int .i64 0]),rfl,(NB.fin (NB.pair (NB.int (by decide)) (NB.pair (NB.int (by decide)) (NB.pair (NB.nil (r:=P0)) (NB.pair (NB.nil (r:=Wp.int)) (NB.pair (NB.nil (r:=Wp.int)) (NB.pair (NB.pair (NB.int (by decide)) (NB.pair (NB.int (by decide)) (NB.nil (r:=D1)) NB.d0) NB.d0) (NB.int (by decide)) NB.de) NB.d0) NB.d0) NB.d0) NB.d0) NB.d0) (((b.trans c).trans d).trans X))⟩
      ·obtain rfl:=oJ a
       obtain⟨iF,bv,b1,_⟩:=p
       obtain⟨iG,cL,a0,_⟩:=B
       obtain⟨iH,g0,af,_⟩:=az
       obtain⟨iI,au,d1,_⟩:=A
       exact⟨([.int .i64 k,.int .i64 l,.slice s w.length t,.slice (some ⟨z,0,none⟩) G.length F,.slice dq hx.length dH,.int .i64 C,.int .i64 D,.slice x E.length y,.int .i64 0]),rfl,(NB.fin (NB.pair (NB.int o) (NB.pair (NB.int m) (NB.pair (NB.mk bv (d.trans X) b1 b) (NB.pair (NB.mk cL X a0 (b.trans c)) (NB.pair (NB.mk g0 (Sub.refl _) af ((b.trans c).trans d)) (NB.pair (NB.pair (NB.int i) (NB.pair (NB.int j) (NB.mk au ((c.trans d).trans X) d1 (Sub.refl _)) NB.d0) NB.d0) (NB.int (by decide)) NB.de) (NB.da (NB.da NB.de (NB.da NB.de (NB.dr au (c.trans d) af))) NB.de)) (NB.da (NB.dl cL (Sub.refl _) af) (NB.da (NB.da NB.de (NB.da NB.de (NB.dr au c a0))) NB.de))) (NB.da (NB.dl bv (Sub.refl _) a0) (NB.da (NB.dl bv d af) (NB.da (NB.da NB.de (NB.da NB.de (NB.dr au (Sub.refl _) b1))) NB.de)))) NB.d0) NB.d0) (((b.trans c).trans d).trans X))⟩
     ·refine ifB a (λeO a=>?_) λeO a=>?_
      ·refine trM a (N00 _ _ _ (B0 i j (N0.mono (c.trans d) n)) _ _ _ _ (P0.mono ((b.trans c).trans d) u)) ?_
       rintro hz a lb fY ⟨jX,rfl,aA⟩
       obtain⟨lA,lB⟩:=hz
       dsimp only at a aA
       have al:Sub J fY:=aA.sub
       have gk:=aA.r
       obtain⟨hA,hB,ds,kH,dI,hC,rfl,rfl,fC,fD,gl⟩:=H0 gk
       obtain⟨rfl,kl⟩:=Sl.len gl
       try dsimp only at a
       have gK:=New.sndI (New.sndI (aA))
       refine ifB a (λeP a=>?_) λeP a=>?_
       ·obtain rfl:=oJ a
        exact⟨([.int .i64 0,.int .i64 0,.slice none 0 0,.slice none 0 0,.slice none 0 0,.int .i64 0,.int .i64 0,.slice none 0 0,.int .i64 0]),rfl,(NB.fin (NB.pair (NB.int (by decide)) (NB.pair (NB.int (by decide)) (NB.pair (NB.nil (r:=P0)) (NB.pair (NB.nil (r:=Wp.int)) (NB.pair (NB.nil (r:=Wp.int)) (NB.pair (NB.pair (NB.int (by decide)) (NB.pair (NB.int (by decide)) (NB.nil (r:=D1)) NB.d0) NB.d0) (NB.int (by decide)) NB.de) NB.d0) NB.d0) NB.d0) NB.d0) NB.d0) (((b.trans c).trans d).trans al))⟩
       ·obtain rfl:=oJ a
        obtain⟨iJ,bx,d2,_⟩:=p
        obtain⟨iK,cM,b2,_⟩:=B
        obtain⟨iL,g1,a1,_⟩:=gK
        exact⟨([.int .i64 k,.int .i64 l,.slice s w.length t,.slice (some ⟨z,0,none⟩) G.length F,.slice none 0 0,.int .i64 hA,.int .i64 hB,.slice ds hC.length dI,.int .i64 0]),rfl,(NB.fin (NB.pair (NB.int o) (NB.pair (NB.int m) (NB.pair (NB.mk bx (d.trans al) d2 b) (NB.pair (NB.mk cM al b2 (b.trans c)) (NB.pair (NB.nil (r:=Wp.int)) (NB.pair (NB.pair (NB.int fC) (NB.pair (NB.int fD) (NB.mk g1 (Sub.refl _) a1 ((b.trans c).trans d)) NB.d0) NB.d0) (NB.int (by decide)) NB.de) NB.d0) (NB.da NB.de (NB.da (NB.da NB.de (NB.da NB.de (NB.dl cM (Sub.refl _) a1))) NB.de))) (NB.da (NB.dl bx (Sub.refl _) b2) (NB.da NB.de (NB.da (NB.da NB.de (NB.da NB.de (NB.dl bx d a1))) NB.de)))) NB.d0) NB.d0) (((b.trans c).trans d).trans al))⟩
      ·refine ifB a (λeQ a=>?_) λeQ a=>?_
       ·refine trM a (c03 _ _ _ (B0 i j (N0.mono (c.trans d) n)) _ _ _ _ (P0.mono ((b.trans c).trans d) u)) ?_
        rintro hE a lc f0 ⟨jY,rfl,aC⟩
        obtain⟨lD,lE⟩:=hE
        dsimp only at a aC
        have Z:Sub J f0:=aC.sub
        have gn:=aC.r
        obtain⟨hF,hG,du,kJ,dK,hH,rfl,rfl,cp,cq,cA⟩:=H0 gn
        obtain⟨rfl,kn⟩:=Sl.len cA
        try dsimp only at a
        have gL:=New.sndI (New.sndI (aC))
        refine trG a (λq=>W8 _ _ _ (B0 cp cq cA) _ _ (B0 i j (N0.mono ((c.trans d).trans Z) n))) λlF a=>?_
        refine ifB a (λeR a=>?_) λeR a=>?_
        ·obtain rfl:=oJ a
         exact⟨([.int .i64 0,.int .i64 0,.slice none 0 0,.slice none 0 0,.slice none 0 0,.int .i64 0,.int .i64 0,.slice none 0 0,.int .i64 0]),rfl,(NB.fin (NB.pair (NB.int (by decide)) (NB.pair (NB.int (by decide)) (NB.pair (NB.nil (r:=P0)) (NB.pair (NB.nil (r:=Wp.int)) (NB.pair (NB.nil (r:=Wp.int)) (NB.pair (NB.pair (NB.int (by decide)) (NB.pair (NB.int (by decide)) (NB.nil (r:=D1)) NB.d0) NB.d0) (NB.int (by decide)) NB.de) NB.d0) NB.d0) NB.d0) NB.d0) NB.d0) (((b.trans c).trans d).trans Z))⟩
        ·obtain rfl:=oJ a
         obtain⟨iM,bz,d3,_⟩:=p
         obtain⟨iN,cN,b3,_⟩:=B
         obtain⟨iO,g2,a2,_⟩:=gL
         exact⟨([.int .i64 k,.int .i64 l,.slice s w.length t,.slice (some ⟨z,0,none⟩) G.length F,.slice none 0 0,.int .i64 hF,.int .i64 hG,.slice du hH.length dK,.int .i64 0]),rfl,(NB.fin (NB.pair (NB.int o) (NB.pair (NB.int m) (NB.pair (NB.mk bz (d.trans Z) d3 b) (NB.pair (NB.mk cN Z b3 (b.trans c)) (NB.pair (NB.nil (r:=Wp.int)) (NB.pair (NB.pair (NB.int cp) (NB.pair (NB.int cq) (NB.mk g2 (Sub.refl _) a2 ((b.trans c).trans d)) NB.d0) NB.d0) (NB.int (by decide)) NB.de) NB.d0) (NB.da NB.de (NB.da (NB.da NB.de (NB.da NB.de (NB.dl cN (Sub.refl _) a2))) NB.de))) (NB.da (NB.dl bz (Sub.refl _) b3) (NB.da NB.de (NB.da (NB.da NB.de (NB.da NB.de (NB.dl bz d a2))) NB.de)))) NB.d0) NB.d0) (((b.trans c).trans d).trans Z))⟩
       ·refine ifB a (λeS a=>?_) λeS a=>?_
        ·refine trM a (H7 _ _ _ (B0 i j (N0.mono (c.trans d) n)) _ _ _ _ (P0.mono ((b.trans c).trans d) u)) ?_
         rintro hI a lh f1 ⟨jZ,rfl,aD⟩
         obtain⟨lG,lH⟩:=hI
         dsimp only at a aD
         have am:Sub J f1:=aD.sub
         have go:=aD.r
         obtain⟨hJ,hK,dv,kK,dL,hL,rfl,rfl,fE,fF,gp⟩:=H0 go
         obtain⟨rfl,ko⟩:=Sl.len gp
         try dsimp only at a
         have gM:=New.sndI (New.sndI (aD))
         refine ifB a (λeT a=>?_) λeT a=>?_
         ·obtain rfl:=oJ a
          exact⟨([.int .i64 0,.int .i64 0,.slice none 0 0,.slice none 0 0,.slice none 0 0,.int .i64 0,.int .i64 0,.slice none 0 0,.int .i64 0]),rfl,(NB.fin (NB.pair (NB.int (by decide)) (NB.pair (NB.int (by decide)) (NB.pair (NB.nil (r:=P0)) (NB.pair (NB.nil (r:=Wp.int)) (NB.pair (NB.nil (r:=Wp.int)) (NB.pair (NB.pair (NB.int (by decide)) (NB.pair (NB.int (by decide)) (NB.nil (r:=D1)) NB.d0) NB.d0) (NB.int (by decide)) NB.de) NB.d0) NB.d0) NB.d0) NB.d0) NB.d0) (((b.trans c).trans d).trans am))⟩
         ·obtain rfl:=oJ a
          obtain⟨iP,bA,ea,_⟩:=p
          obtain⟨iQ,cO,b4,_⟩:=B
          obtain⟨iS,g3,a3,_⟩:=gM
          exact⟨([.int .i64 k,.int .i64 l,.slice s w.length t,.slice (some ⟨z,0,none⟩) G.length F,.slice none 0 0,.int .i64 hJ,.int .i64 hK,.slice dv hL.length dL,.int .i64 0]),rfl,(NB.fin (NB.pair (NB.int o) (NB.pair (NB.int m) (NB.pair (NB.mk bA (d.trans am) ea b) (NB.pair (NB.mk cO am b4 (b.trans c)) (NB.pair (NB.nil (r:=Wp.int)) (NB.pair (NB.pair (NB.int fE) (NB.pair (NB.int fF) (NB.mk g3 (Sub.refl _) a3 ((b.trans c).trans d)) NB.d0) NB.d0) (NB.int (by decide)) NB.de) NB.d0) (NB.da NB.de (NB.da (NB.da NB.de (NB.da NB.de (NB.dl cO (Sub.refl _) a3))) NB.de))) (NB.da (NB.dl bA (Sub.refl _) b4) (NB.da NB.de (NB.da (NB.da NB.de (NB.da NB.de (NB.dl bA d a3))) NB.de)))) NB.d0) NB.d0) (((b.trans c).trans d).trans am))⟩
        ·refine ifB a (λeU a=>?_) λeU a=>?_
         ·refine trV a (T02 _ _ _ (B0 i j (N0.mono (c.trans d) n))) λdg a=>?_
          obtain⟨k1,ey,a⟩:=C0 a
          have fG:J0 dg:=C1 ey
          refine ifB a (λeW a=>?_) λeW a=>?_
          ·obtain rfl:=oJ a
           exact⟨([.int .i64 0,.int .i64 0,.slice none 0 0,.slice none 0 0,.slice none 0 0,.int .i64 0,.int .i64 0,.slice none 0 0,.int .i64 0]),rfl,(NB.fin (NB.pair (NB.int (by decide)) (NB.pair (NB.int (by decide)) (NB.pair (NB.nil (r:=P0)) (NB.pair (NB.nil (r:=Wp.int)) (NB.pair (NB.nil (r:=Wp.int)) (NB.pair (NB.pair (NB.int (by decide)) (NB.pair (NB.int (by decide)) (NB.nil (r:=D1)) NB.d0) NB.d0) (NB.int (by decide)) NB.de) NB.d0) NB.d0) NB.d0) NB.d0) NB.d0) ((b.trans c).trans d))⟩
          ·obtain rfl:=oJ a
           obtain⟨iT,cP,b5,_⟩:=p
           obtain⟨iU,g4,a4,_⟩:=B
           obtain⟨iV,bB,eb,_⟩:=A
           exact⟨([.int .i64 k,.int .i64 l,.slice s w.length t,.slice (some ⟨z,0,none⟩) G.length F,.slice none 0 0,.int .i64 C,.int .i64 D,.slice x E.length y,.int .i64 dg]),rfl,(NB.fin (NB.pair (NB.int o) (NB.pair (NB.int m) (NB.pair (NB.mk cP d b5 b) (NB.pair (NB.mk g4 (Sub.refl _) a4 (b.trans c)) (NB.pair (NB.nil (r:=Wp.int)) (NB.pair (NB.pair (NB.int i) (NB.pair (NB.int j) (NB.mk bB (c.trans d) eb (Sub.refl _)) NB.d0) NB.d0) (NB.int fG) NB.de) NB.d0) (NB.da NB.de (NB.da (NB.da NB.de (NB.da NB.de (NB.dr bB c a4))) NB.de))) (NB.da (NB.dl cP (Sub.refl _) a4) (NB.da NB.de (NB.da (NB.da NB.de (NB.da NB.de (NB.dr bB (Sub.refl _) b5))) NB.de)))) NB.d0) NB.d0) ((b.trans c).trans d))⟩
         ·refine ifB a (λeY a=>?_) λeY a=>?_
          ·refine trV a (t02 _ _ _ (B0 i j (N0.mono (c.trans d) n))) λdh a=>?_
           obtain⟨k2,ez,a⟩:=C0 a
           have fH:J0 dh:=C1 ez
           refine ifB a (λeZ a=>?_) λeZ a=>?_
           ·obtain rfl:=oJ a
            exact⟨([.int .i64 0,.int .i64 0,.slice none 0 0,.slice none 0 0,.slice none 0 0,.int .i64 0,.int .i64 0,.slice none 0 0,.int .i64 0]),rfl,(NB.fin (NB.pair (NB.int (by decide)) (NB.pair (NB.int (by decide)) (NB.pair (NB.nil (r:=P0)) (NB.pair (NB.nil (r:=Wp.int)) (NB.pair (NB.nil (r:=Wp.int)) (NB.pair (NB.pair (NB.int (by decide)) (NB.pair (NB.int (by decide)) (NB.nil (r:=D1)) NB.d0) NB.d0) (NB.int (by decide)) NB.de) NB.d0) NB.d0) NB.d0) NB.d0) NB.d0) ((b.trans c).trans d))⟩
           ·obtain rfl:=oJ a
            obtain⟨iX,cQ,b7,_⟩:=p
            obtain⟨iY,g5,a5,_⟩:=B
            obtain⟨iZ,bD,ec,_⟩:=A
            exact⟨([.int .i64 k,.int .i64 l,.slice s w.length t,.slice (some ⟨z,0,none⟩) G.length F,.slice none 0 0,.int .i64 C,.int .i64 D,.slice x E.length y,.int .i64 dh]),rfl,(NB.fin (NB.pair (NB.int o) (NB.pair (NB.int m) (NB.pair (NB.mk cQ d b7 b) (NB.pair (NB.mk g5 (Sub.refl _) a5 (b.trans c)) (NB.pair (NB.nil (r:=Wp.int)) (NB.pair (NB.pair (NB.int i) (NB.pair (NB.int j) (NB.mk bD (c.trans d) ec (Sub.refl _)) NB.d0) NB.d0) (NB.int fH) NB.de) NB.d0) (NB.da NB.de (NB.da (NB.da NB.de (NB.da NB.de (NB.dr bD c a5))) NB.de))) (NB.da (NB.dl cQ (Sub.refl _) a5) (NB.da NB.de (NB.da (NB.da NB.de (NB.da NB.de (NB.dr bD (Sub.refl _) b7))) NB.de)))) NB.d0) NB.d0) ((b.trans c).trans d))⟩
          ·refine ifB a (λe0 a=>?_) λe0 a=>?_
           ·obtain rfl:=oJ a
            exact⟨([.int .i64 0,.int .i64 0,.slice none 0 0,.slice none 0 0,.slice none 0 0,.int .i64 0,.int .i64 0,.slice none 0 0,.int .i64 0]),rfl,(NB.fin (NB.pair (NB.int (by decide)) (NB.pair (NB.int (by decide)) (NB.pair (NB.nil (r:=P0)) (NB.pair (NB.nil (r:=Wp.int)) (NB.pair (NB.nil (r:=Wp.int)) (NB.pair (NB.pair (NB.int (by decide)) (NB.pair (NB.int (by decide)) (NB.nil (r:=D1)) NB.d0) NB.d0) (NB.int (by decide)) NB.de) NB.d0) NB.d0) NB.d0) NB.d0) NB.d0) ((b.trans c).trans d))⟩
           ·obtain rfl:=oJ a
            obtain⟨i0,cR,b8,_⟩:=p
            obtain⟨i1,ha,a6,_⟩:=B
            obtain⟨i2,bE,ed,_⟩:=A
            exact⟨([.int .i64 k,.int .i64 l,.slice s w.length t,.slice (some ⟨z,0,none⟩) G.length F,.slice none 0 0,.int .i64 C,.int .i64 D,.slice x E.length y,.int .i64 0]),rfl,(NB.fin (NB.pair (NB.int o) (NB.pair (NB.int m) (NB.pair (NB.mk cR d b8 b) (NB.pair (NB.mk ha (Sub.refl _) a6 (b.trans c)) (NB.pair (NB.nil (r:=Wp.int)) (NB.pair (NB.pair (NB.int i) (NB.pair (NB.int j) (NB.mk bE (c.trans d) ed (Sub.refl _)) NB.d0) NB.d0) (NB.int (by decide)) NB.de) NB.d0) (NB.da NB.de (NB.da (NB.da NB.de (NB.da NB.de (NB.dr bE c a6))) NB.de))) (NB.da (NB.dl cR (Sub.refl _) a6) (NB.da NB.de (NB.da (NB.da NB.de (NB.da NB.de (NB.dr bE (Sub.refl _) b8))) NB.de)))) NB.d0) NB.d0) ((b.trans c).trans d))⟩
    ·skip
     refine aT ?_
     refine aT ?_
     refine aT ?_
     refine ifB a (λe1 a=>?_) λe1 a=>?_
     ·refine trM a (K02 _ _ _ (B0 i j (N0.mono (c.trans d) n)) _ _ _ _ (P0.mono ((b.trans c).trans d) u)) ?_
      rintro hM a li f4 ⟨dw,kL,dM,rfl,aE⟩
      obtain⟨hN,lI⟩:=hM
      dsimp only at a aE
      have aa:Sub J f4:=aE.sub
      have gq:=aE.r
      obtain⟨rfl,kp⟩:=Sl.len gq
      refine ifB a (λe2 a=>?_) λe2 a=>?_
      ·obtain rfl:=oJ a
       exact⟨([.int .i64 0,.int .i64 0,.slice none 0 0,.slice none 0 0,.slice none 0 0,.int .i64 0,.int .i64 0,.slice none 0 0,.int .i64 0]),rfl,(NB.fin (NB.pair (NB.int (by decide)) (NB.pair (NB.int (by decide)) (NB.pair (NB.nil (r:=P0)) (NB.pair (NB.nil (r:=Wp.int)) (NB.pair (NB.nil (r:=Wp.int)) (NB.pair (NB.pair (NB.int (by decide)) (NB.pair (NB.int (by decide)) (NB.nil (r:=D1)) NB.d0) NB.d0) (NB.int (by decide)) NB.de) NB.d0) NB.d0) NB.d0) NB.d0) NB.d0) (((b.trans c).trans d).trans aa))⟩
      ·obtain rfl:=oJ a
       obtain⟨i5,bF,ca,_⟩:=p
       obtain⟨i6,cT,a8,_⟩:=B
       obtain⟨ja,hb,ag,_⟩:=aE
       obtain⟨jb,av,ee,_⟩:=A
       exact⟨([.int .i64 k,.int .i64 l,.slice s w.length t,.slice (some ⟨z,0,none⟩) G.length F,.slice dw hN.length dM,.int .i64 C,.int .i64 D,.slice x E.length y,.int .i64 0]),rfl,(NB.fin (NB.pair (NB.int o) (NB.pair (NB.int m) (NB.pair (NB.mk bF (d.trans aa) ca b) (NB.pair (NB.mk cT aa a8 (b.trans c)) (NB.pair (NB.mk hb (Sub.refl _) ag ((b.trans c).trans d)) (NB.pair (NB.pair (NB.int i) (NB.pair (NB.int j) (NB.mk av ((c.trans d).trans aa) ee (Sub.refl _)) NB.d0) NB.d0) (NB.int (by decide)) NB.de) (NB.da (NB.da NB.de (NB.da NB.de (NB.dr av (c.trans d) ag))) NB.de)) (NB.da (NB.dl cT (Sub.refl _) ag) (NB.da (NB.da NB.de (NB.da NB.de (NB.dr av c a8))) NB.de))) (NB.da (NB.dl bF (Sub.refl _) a8) (NB.da (NB.dl bF d ag) (NB.da (NB.da NB.de (NB.da NB.de (NB.dr av (Sub.refl _) ca))) NB.de)))) NB.d0) NB.d0) (((b.trans c).trans d).trans aa))⟩
     ·refine ifB a (λe3 a=>?_) λe3 a=>?_
      ·refine trM a (N00 _ _ _ (B0 i j (N0.mono (c.trans d) n)) _ _ _ _ (P0.mono ((b.trans c).trans d) u)) ?_
       rintro hO a lj f5 ⟨j0,rfl,aF⟩
       obtain⟨lJ,lK⟩:=hO
       dsimp only at a aF
       have an:Sub J f5:=aF.sub
       have gr:=aF.r
       obtain⟨hP,hQ,dx,kM,dN,hR,rfl,rfl,fI,fJ,gs⟩:=H0 gr
       obtain⟨rfl,kq⟩:=Sl.len gs
       try dsimp only at a
       have gN:=New.sndI (New.sndI (aF))
       refine ifB a (λe4 a=>?_) λe4 a=>?_
       ·obtain rfl:=oJ a
        exact⟨([.int .i64 0,.int .i64 0,.slice none 0 0,.slice none 0 0,.slice none 0 0,.int .i64 0,.int .i64 0,.slice none 0 0,.int .i64 0]),rfl,(NB.fin (NB.pair (NB.int (by decide)) (NB.pair (NB.int (by decide)) (NB.pair (NB.nil (r:=P0)) (NB.pair (NB.nil (r:=Wp.int)) (NB.pair (NB.nil (r:=Wp.int)) (NB.pair (NB.pair (NB.int (by decide)) (NB.pair (NB.int (by decide)) (NB.nil (r:=D1)) NB.d0) NB.d0) (NB.int (by decide)) NB.de) NB.d0) NB.d0) NB.d0) NB.d0) NB.d0) (((b.trans c).trans d).trans an))⟩
       ·obtain rfl:=oJ a
        obtain⟨jd,bG,ef,_⟩:=p
        obtain⟨je,cU,cb,_⟩:=B
        obtain⟨jf,hd,a9,_⟩:=gN
        exact⟨([.int .i64 k,.int .i64 l,.slice s w.length t,.slice (some ⟨z,0,none⟩) G.length F,.slice none 0 0,.int .i64 hP,.int .i64 hQ,.slice dx hR.length dN,.int .i64 0]),rfl,(NB.fin (NB.pair (NB.int o) (NB.pair (NB.int m) (NB.pair (NB.mk bG (d.trans an) ef b) (NB.pair (NB.mk cU an cb (b.trans c)) (NB.pair (NB.nil (r:=Wp.int)) (NB.pair (NB.pair (NB.int fI) (NB.pair (NB.int fJ) (NB.mk hd (Sub.refl _) a9 ((b.trans c).trans d)) NB.d0) NB.d0) (NB.int (by decide)) NB.de) NB.d0) (NB.da NB.de (NB.da (NB.da NB.de (NB.da NB.de (NB.dl cU (Sub.refl _) a9))) NB.de))) (NB.da (NB.dl bG (Sub.refl _) cb) (NB.da NB.de (NB.da (NB.da NB.de (NB.da NB.de (NB.dl bG d a9))) NB.de)))) NB.d0) NB.d0) (((b.trans c).trans d).trans an))⟩
      ·refine ifB a (λe5 a=>?_) λe5 a=>?_
       ·refine trM a (c03 _ _ _ (B0 i j (N0.mono (c.trans d) n)) _ _ _ _ (P0.mono ((b.trans c).trans d) u)) ?_
        rintro hS a lk f6 ⟨j2,rfl,aH⟩
        obtain⟨lN,lO⟩:=hS
        dsimp only at a aH
        have ab:Sub J f6:=aH.sub
        have gu:=aH.r
        obtain⟨hT,hU,dy,kO,dO,hV,rfl,rfl,cr,cs,cC⟩:=H0 gu
        obtain⟨rfl,ks⟩:=Sl.len cC
        try dsimp only at a
        have gO:=New.sndI (New.sndI (aH))
        refine trG a (λq=>W8 _ _ _ (B0 cr cs cC) _ _ (B0 i j (N0.mono ((c.trans d).trans ab) n))) λlP a=>?_
        refine ifB a (λe6 a=>?_) λe6 a=>?_
        ·obtain rfl:=oJ a
         exact⟨([.int .i64 0,.int .i64 0,.slice none 0 0,.slice none 0 0,.slice none 0 0,.int .i64 0,.int .i64 0,.slice none 0 0,.int .i64 0]),rfl,(NB.fin (NB.pair (NB.int (by decide)) (NB.pair (NB.int (by decide)) (NB.pair (NB.nil (r:=P0)) (NB.pair (NB.nil (r:=Wp.int)) (NB.pair (NB.nil (r:=Wp.int)) (NB.pair (NB.pair (NB.int (by decide)) (NB.pair (NB.int (by decide)) (NB.nil (r:=D1)) NB.d0) NB.d0) (NB.int (by decide)) NB.de) NB.d0) NB.d0) NB.d0) NB.d0) NB.d0) (((b.trans c).trans d).trans ab))⟩
        ·obtain rfl:=oJ a
         obtain⟨jh,bH,eh,_⟩:=p
         obtain⟨ji,cV,cc,_⟩:=B
         obtain⟨jj,he,ba,_⟩:=gO
         exact⟨([.int .i64 k,.int .i64 l,.slice s w.length t,.slice (some ⟨z,0,none⟩) G.length F,.slice none 0 0,.int .i64 hT,.int .i64 hU,.slice dy hV.length dO,.int .i64 0]),rfl,(NB.fin (NB.pair (NB.int o) (NB.pair (NB.int m) (NB.pair (NB.mk bH (d.trans ab) eh b) (NB.pair (NB.mk cV ab cc (b.trans c)) (NB.pair (NB.nil (r:=Wp.int)) (NB.pair (NB.pair (NB.int cr) (NB.pair (NB.int cs) (NB.mk he (Sub.refl _) ba ((b.trans c).trans d)) NB.d0) NB.d0) (NB.int (by decide)) NB.de) NB.d0) (NB.da NB.de (NB.da (NB.da NB.de (NB.da NB.de (NB.dl cV (Sub.refl _) ba))) NB.de))) (NB.da (NB.dl bH (Sub.refl _) cc) (NB.da NB.de (NB.da (NB.da NB.de (NB.da NB.de (NB.dl bH d ba))) NB.de)))) NB.d0) NB.d0) (((b.trans c).trans d).trans ab))⟩
       ·refine ifB a (λe7 a=>?_) λe7 a=>?_
        ·refine trM a (H7 _ _ _ (B0 i j (N0.mono (c.trans d) n)) _ _ _ _ (P0.mono ((b.trans c).trans d) u)) ?_
         rintro hW a ll f7 ⟨j3,rfl,aJ⟩
         obtain⟨lQ,lR⟩:=hW
         dsimp only at a aJ
         have ao:Sub J f7:=aJ.sub
         have gv:=aJ.r
         obtain⟨hX,hY,dz,kP,dP,hZ,rfl,rfl,fK,fL,gw⟩:=H0 gv
         obtain⟨rfl,kt⟩:=Sl.len gw
         try dsimp only at a
         have gP:=New.sndI (New.sndI (aJ))
         refine ifB a (λe9 a=>?_) λe9 a=>?_
         ·obtain rfl:=oJ a
          exact⟨([.int .i64 0,.int .i64 0,.slice none 0 0,.slice none 0 0,.slice none 0 0,.int .i64 0,.int .i64 0,.slice none 0 0,.int .i64 0]),rfl,(NB.fin (NB.pair (NB.int (by decide)) (NB.pair (NB.int (by decide)) (NB.pair (NB.nil (r:=P0)) (NB.pair (NB.nil (r:=Wp.int)) (NB.pair (NB.nil (r:=Wp.int)) (NB.pair (NB.pair (NB.int (by decide)) (NB.pair (NB.int (by decide)) (NB.nil (r:=D1)) NB.d0) NB.d0) (NB.int (by decide)) NB.de) NB.d0) NB.d0) NB.d0) NB.d0) NB.d0) (((b.trans c).trans d).trans ao))⟩
         ·obtain rfl:=oJ a
          obtain⟨jk,bI,ei,_⟩:=p
          obtain⟨jl,cW,cd,_⟩:=B
          obtain⟨jm,hf,bb,_⟩:=gP
          exact⟨([.int .i64 k,.int .i64 l,.slice s w.length t,.slice (some ⟨z,0,none⟩) G.length F,.slice none 0 0,.int .i64 hX,.int .i64 hY,.slice dz hZ.length dP,.int .i64 0]),rfl,(NB.fin (NB.pair (NB.int o) (NB.pair (NB.int m) (NB.pair (NB.mk bI (d.trans ao) ei b) (NB.pair (NB.mk cW ao cd (b.trans c)) (NB.pair (NB.nil (r:=Wp.int)) (NB.pair (NB.pair (NB.int fK) (NB.pair (NB.int fL) (NB.mk hf (Sub.refl _) bb ((b.trans c).trans d)) NB.d0) NB.d0) (NB.int (by decide)) NB.de) NB.d0) (NB.da NB.de (NB.da (NB.da NB.de (NB.da NB.de (NB.dl cW (Sub.refl _) bb))) NB.de))) (NB.da (NB.dl bI (Sub.refl _) cd) (NB.da NB.de (NB.da (NB.da NB.de (NB.da NB.de (NB.dl bI d bb))) NB.de)))) NB.d0) NB.d0) (((b.trans c).trans d).trans ao))⟩
        ·refine ifB a (λfa a=>?_) λfa a=>?_
         ·refine trV a (T02 _ _ _ (B0 i j (N0.mono (c.trans d) n))) λdi a=>?_
          obtain⟨k3,eA,a⟩:=C0 a
          have fM:J0 di:=C1 eA
          refine ifB a (λfb a=>?_) λfb a=>?_
          ·obtain rfl:=oJ a
           exact⟨([.int .i64 0,.int .i64 0,.slice none 0 0,.slice none 0 0,.slice none 0 0,.int .i64 0,.int .i64 0,.slice none 0 0,.int .i64 0]),rfl,(NB.fin (NB.pair (NB.int (by decide)) (NB.pair (NB.int (by decide)) (NB.pair (NB.nil (r:=P0)) (NB.pair (NB.nil (r:=Wp.int)) (NB.pair (NB.nil (r:=Wp.int)) (NB.pair (NB.pair (NB.int (by decide)) (NB.pair (NB.int (by decide)) (NB.nil (r:=D1)) NB.d0) NB.d0) (NB.int (by decide)) NB.de) NB.d0) NB.d0) NB.d0) NB.d0) NB.d0) ((b.trans c).trans d))⟩
          ·obtain rfl:=oJ a
           obtain⟨jn,cX,ce,_⟩:=p
           obtain⟨jo,hg,bc,_⟩:=B
           obtain⟨jp,bJ,ej,_⟩:=A
           exact⟨([.int .i64 k,.int .i64 l,.slice s w.length t,.slice (some ⟨z,0,none⟩) G.length F,.slice none 0 0,.int .i64 C,.int .i64 D,.slice x E.length y,.int .i64 di]),rfl,(NB.fin (NB.pair (NB.int o) (NB.pair (NB.int m) (NB.pair (NB.mk cX d ce b) (NB.pair (NB.mk hg (Sub.refl _) bc (b.trans c)) (NB.pair (NB.nil (r:=Wp.int)) (NB.pair (NB.pair (NB.int i) (NB.pair (NB.int j) (NB.mk bJ (c.trans d) ej (Sub.refl _)) NB.d0) NB.d0) (NB.int fM) NB.de) NB.d0) (NB.da NB.de (NB.da (NB.da NB.de (NB.da NB.de (NB.dr bJ c bc))) NB.de))) (NB.da (NB.dl cX (Sub.refl _) bc) (NB.da NB.de (NB.da (NB.da NB.de (NB.da NB.de (NB.dr bJ (Sub.refl _) ce))) NB.de)))) NB.d0) NB.d0) ((b.trans c).trans d))⟩
         ·refine ifB a (λfc a=>?_) λfc a=>?_
          ·refine trV a (t02 _ _ _ (B0 i j (N0.mono (c.trans d) n))) λdj a=>?_
           obtain⟨k4,eB,a⟩:=C0 a
           have fN:J0 dj:=C1 eB
           refine ifB a (λfd a=>?_) λfd a=>?_
           ·obtain rfl:=oJ a
            exact⟨([.int .i64 0,.int .i64 0,.slice none 0 0,.slice none 0 0,.slice none 0 0,.int .i64 0,.int .i64 0,.slice none 0 0,.int .i64 0]),rfl,(NB.fin (NB.pair (NB.int (by decide)) (NB.pair (NB.int (by decide)) (NB.pair (NB.nil (r:=P0)) (NB.pair (NB.nil (r:=Wp.int)) (NB.pair (NB.nil (r:=Wp.int)) (NB.pair (NB.pair (NB.int (by decide)) (NB.pair (NB.int (by decide)) (NB.nil (r:=D1)) NB.d0) NB.d0) (NB.int (by decide)) NB.de) NB.d0) NB.d0) NB.d0) NB.d0) NB.d0) ((b.trans c).trans d))⟩
           ·obtain rfl:=oJ a
            obtain⟨jq,cY,cf,_⟩:=p
            obtain⟨jr,hh,bd,_⟩:=B
            obtain⟨js,bK,ek,_⟩:=A
            exact⟨([.int .i64 k,.int .i64 l,.slice s w.length t,.slice (some ⟨z,0,none⟩) G.length F,.slice none 0 0,.int .i64 C,.int .i64 D,.slice x E.length y,.int .i64 dj]),rfl,(NB.fin (NB.pair (NB.int o) (NB.pair (NB.int m) (NB.pair (NB.mk cY d cf b) (NB.pair (NB.mk hh (Sub.refl _) bd (b.trans c)) (NB.pair (NB.nil (r:=Wp.int)) (NB.pair (NB.pair (NB.int i) (NB.pair (NB.int j) (NB.mk bK (c.trans d) ek (Sub.refl _)) NB.d0) NB.d0) (NB.int fN) NB.de) NB.d0) (NB.da NB.de (NB.da (NB.da NB.de (NB.da NB.de (NB.dr bK c bd))) NB.de))) (NB.da (NB.dl cY (Sub.refl _) bd) (NB.da NB.de (NB.da (NB.da NB.de (NB.da NB.de (NB.dr bK (Sub.refl _) cf))) NB.de)))) NB.d0) NB.d0) ((b.trans c).trans d))⟩
          ·refine ifB a (λfe a=>?_) λfe a=>?_
           ·obtain rfl:=oJ a
            exact⟨([.int .i64 0,.int .i64 0,.slice none 0 0,.slice none 0 0,.slice none 0 0,.int .i64 0,.int .i64 0,.slice none 0 0,.int .i64 0]),rfl,(NB.fin (NB.pair (NB.int (by decide)) (NB.pair (NB.int (by decide)) (NB.pair (NB.nil (r:=P0)) (NB.pair (NB.nil (r:=Wp.int)) (NB.pair (NB.nil (r:=Wp.int)) (NB.pair (NB.pair (NB.int (by decide)) (NB.pair (NB.int (by decide)) (NB.nil (r:=D1)) NB.d0) NB.d0) (NB.int (by decide)) NB.de) NB.d0) NB.d0) NB.d0) NB.d0) NB.d0) ((b.trans c).trans d))⟩
           ·obtain rfl:=oJ a
            obtain⟨jt,cZ,cg,_⟩:=p
            obtain⟨ju,hi,be,_⟩:=B
            obtain⟨jv,bL,el,_⟩:=A
            exact⟨([.int .i64 k,.int .i64 l,.slice s w.length t,.slice (some ⟨z,0,none⟩) G.length F,.slice none 0 0,.int .i64 C,.int .i64 D,.slice x E.length y,.int .i64 0]),rfl,(NB.fin (NB.pair (NB.int o) (NB.pair (NB.int m) (NB.pair (NB.mk cZ d cg b) (NB.pair (NB.mk hi (Sub.refl _) be (b.trans c)) (NB.pair (NB.nil (r:=Wp.int)) (NB.pair (NB.pair (NB.int i) (NB.pair (NB.int j) (NB.mk bL (c.trans d) el (Sub.refl _)) NB.d0) NB.d0) (NB.int (by decide)) NB.de) NB.d0) (NB.da NB.de (NB.da (NB.da NB.de (NB.da NB.de (NB.dr bL c be))) NB.de))) (NB.da (NB.dl cZ (Sub.refl _) be) (NB.da NB.de (NB.da (NB.da NB.de (NB.da NB.de (NB.dr bL (Sub.refl _) cg))) NB.de)))) NB.d0) NB.d0) ((b.trans c).trans d))⟩
theorem j0n(h:Hp)(a:Option Addr)(e b:Nat)(c:(List Int))(f:(Wp.slice Wp.u8).R h [.slice a e b] c)(r:Bool)(d:m04 c=some r):
  Tr Tryz.prog 7 #[.slice a e b] h λv h'=>v = .bool r/\h'=h:=by
 obtain⟨rfl,g⟩:=Sl.len f
 unfold m04 at d
 refine Tr.forget (Z2 (args:=[.slice a c.length b]) (fn:=Tryz.f7) rfl ?_)
 obtain rfl:=oJ d
 exact aI rfl (Sub.refl _)
theorem c0d(h:Hp)(c:Option Addr)(f d:Nat)(e:(List Int))(g:(Wp.slice Wp.u8).R h [.slice c f d] e)(b:Int)(m:J0 b)(r:Int)(a:n04 e b=some r):
  Tr Tryz.prog 86 #[.slice c f d,.int .i64 b] h λv h'=>v = .int .i64 r/\h'=h:=by
 obtain⟨rfl,n⟩:=Sl.len g
 unfold n04 at a
 refine Tr.forget (Z2 (args:=[.slice c e.length d,.int .i64 b]) (fn:=Tryz.f86) rfl ?_)
 refine ifB a (λj a=>?_) λj a=>?_
 ·refine ld a g λp l k a=>?_
  obtain rfl:=k
  obtain rfl:=oJ a
  exact aI rfl (Sub.refl _)
 ·obtain⟨o,i,a⟩:=C0 a
  refine aI (C1 i) ?_
  obtain rfl:=oJ a
  exact aI rfl (Sub.refl _)
theorem T0l(h:Hp)(p:Option Addr)(y q:Nat)(l:(List Int))(s:(Wp.slice Wp.u8).R h [.slice p y q] l)(g:Int)(O:J0 g)(b:Int)(X:J0 b)(i:Int)(Y:J0 i)(r:M0)(f:I04 l g b i=some r):
  Tr Tryz.prog 67 #[.slice p y q,.int .i64 g,.int .i64 b,.int .i64 i] h λv h'=>∃(u:Option Addr) (x w:Nat),v = .slice u x w/\P0.R h' [.slice u x w] r/\Sub h h':=by
 obtain⟨rfl,ae⟩:=Sl.len s
 unfold I04 at f
 refine Z2 (args:=[.slice p l.length q,.int .i64 g,.int .i64 b,.int .i64 i]) (fn:=Tryz.f67) rfl ?_
 obtain⟨t,L,f⟩:=C0 f
 refine eX { vars:=[10],boxes:=[],owns:=[0],fuel:=true } (eX (λvs os h'=>∃ d n j,vs.tail = [.int .i64 d]/\os = [n]/\Sub h h'/\J0 d/\F2 (Wp.int.R h') n j/\o8 l g i b (U1 vs) d j=some t) (eX (λ_ _=>0) (aI (eX W0 ⟨0,[],([]:M0),rfl,rfl,(Sub.refl _),(by decide),(show F2 (Wp.int.R h) ([]:List (List Value)) ([]:M0) from trivial),L⟩) ?_)))
 rintro _ n k o ⟨d,au,j,⟨⟩,⟨⟩,m,Z,e,a⟩
 replace a:o8 l g i b k d j=some t:=a
 obtain _|k:=k
 ·cases a
 rw[o8.eq_2]at a
 refine trV a (c0d _ _ _ _ _ ((Wp.slice Wp.u8).mono m s) _ O) λU a=>?_
 obtain⟨ao,J,a⟩:=C0 a
 have ab:J0 U:=C1 J
 obtain⟨ap,K,a⟩:=C0 a
 refine aI (C1 K) ?_
 refine ifB a (λN a=>?_) λN a=>?_
 ·refine trV a (c0d _ _ _ _ _ ((Wp.slice Wp.u8).mono m s) (IntKind.i64.wrap ((IntKind.i64.wrap (g+1))+d)) (O0 _)) λc a=>?_
  obtain⟨ai,D,a⟩:=C0 a
  have aa:J0 c:=C1 D
  obtain⟨aj,E,a⟩:=C0 a
  refine aI (C1 E) ?_
  obtain⟨ak,F,a⟩:=C0 a
  refine aI (C1 F) ?_
  obtain⟨al,G,a⟩:=C0 a
  refine aI (C1 G) ?_
  refine ifB a (λM a=>?_) λM a=>?_
  ·obtain⟨am,H,a⟩:=C0 a
   refine aI (P1 H (by first|rw[F2.length e,F2.length (show F2 (Wp.int.R o) ([[.int .i64 (IntKind.i64.wrap (0-(IntKind.i64.wrap (1+(Int.tmod c b)))))]]:List (List Value)) [(IntKind.i64.wrap (0-(IntKind.i64.wrap (1+(Int.tmod c b)))))] from⟨⟨rfl,(O0 _)⟩,trivial⟩)]|exact congrArg (·+1) (F2.length e))) ?_
   exact I2 k ⟨(IntKind.i64.wrap (d+1)),(n++([[.int .i64 (IntKind.i64.wrap (0-(IntKind.i64.wrap (1+(Int.tmod c b)))))]]:List (List Value))),(j ++ [(IntKind.i64.wrap (0-(IntKind.i64.wrap (1+(Int.tmod c b)))))]),rfl,rfl,m,(O0 _),(F2.append e (show F2 (Wp.int.R o) ([[.int .i64 (IntKind.i64.wrap (0-(IntKind.i64.wrap (1+(Int.tmod c b)))))]]:List (List Value)) [(IntKind.i64.wrap (0-(IntKind.i64.wrap (1+(Int.tmod c b)))))] from⟨⟨rfl,(O0 _)⟩,trivial⟩)),a⟩
  ·obtain⟨an,I,a⟩:=C0 a
   refine aI (P1 I (by first|rw[F2.length e,F2.length (show F2 (Wp.int.R o) ([[.int .i64 (IntKind.i64.wrap (1+(Int.tmod c b)))]]:List (List Value)) [(IntKind.i64.wrap (1+(Int.tmod c b)))] from⟨⟨rfl,(O0 _)⟩,trivial⟩)]|exact congrArg (·+1) (F2.length e))) ?_
   exact I2 k ⟨(IntKind.i64.wrap (d+1)),(n++([[.int .i64 (IntKind.i64.wrap (1+(Int.tmod c b)))]]:List (List Value))),(j ++ [(IntKind.i64.wrap (1+(Int.tmod c b)))]),rfl,rfl,m,(O0 _),(F2.append e (show F2 (Wp.int.R o) ([[.int .i64 (IntKind.i64.wrap (1+(Int.tmod c b)))]]:List (List Value)) [(IntKind.i64.wrap (1+(Int.tmod c b)))] from⟨⟨rfl,(O0 _)⟩,trivial⟩)),a⟩
 ·obtain rfl:=oJ a
  try dsimp only[Y0,Z0]at f
  refine Or.inl ?_
  intro aq ac C
  obtain⟨V,W,rfl,P,S,ag⟩:=E1.out (r:=Wp.int.toRp) C e
  refine trM f (J04 _ _ _ _ _ P) ?_
  rintro T f ar ad ⟨A,ah,B,rfl,z,Q⟩
  obtain⟨rfl,af⟩:=Sl.len z
  obtain rfl:=oJ f
  exact⟨A,T.length,B,rfl,z,((m.trans S).trans Q)⟩
theorem G0j(h:Hp)(J:Option Addr)(X K:Nat)(u:(List Int))(w:(Wp.slice Wp.u8).R h [.slice J X K] u)(r:Bool)(a:G02 u=some r):
  Tr Tryz.prog 6 #[.slice J X K] h λv h'=>v = .bool r/\h'=h:=by
 obtain⟨rfl,cx⟩:=Sl.len w
 unfold G02 at a
 refine Tr.forget (Z2 (args:=[.slice J u.length K]) (fn:=Tryz.f6) rfl ?_)
 refine trV a (j0n _ _ _ _ _ w) λdx a=>?_
 refine ifB a (λaL a=>?_) λaL a=>?_
 ·obtain rfl:=oJ a
  exact aI rfl (Sub.refl _)
 ·refine trM a (e08 _ _ _ _ _ w) ?_
  rintro bt a ds bd ⟨bG,cW,b5,rfl,k,n⟩
  obtain⟨bx,dO⟩:=bt
  dsimp only at a k
  obtain⟨dg,aD,a⟩:=C0 a
  have s:J0 bx:=C1 aD
  obtain⟨rfl,cD⟩:=Sl.len k
  refine trM a (V03 _ _ s _ _ _ _ k) ?_
  rintro bB a dw bg ⟨b0,rfl,P⟩
  obtain⟨em,eq⟩:=bB
  dsimp only at a P
  have f:Sub bd bg:=P.sub
  have bm:=P.r
  obtain⟨en,eo,bQ,db,cg,ep,rfl,rfl,a5,a6,al⟩:=H0 bm
  obtain⟨rfl,cO⟩:=Sl.len al
  try dsimp only at a
  refine trM a (W0b _ _ s _ _ _ _ (I3.mono f k)) ?_
  rintro br a dk cp ⟨bU,rfl,Y,d⟩
  obtain⟨dy,dC⟩:=br
  dsimp only at a Y
  obtain⟨dz,dA,bC,cS,b1,dB,rfl,rfl,D,E,x⟩:=H0 Y
  obtain⟨rfl,cy⟩:=Sl.len x
  try dsimp only at a
  refine trG a (λq=>i03 _ _ _ (B0 a5 a6 (N0.mono d al)) _ _ (B0 D E x)) λdD a=>?_
  refine ifB a (λaJ a=>?_) λaJ a=>?_
  ·obtain rfl:=oJ a
   exact aI rfl ((n.trans f).trans d)
  ·refine ifB a (λaK a=>?_) λaK a=>?_
   ·obtain rfl:=oJ a
    exact aI rfl ((n.trans f).trans d)
   ·refine trM a (Z07 _ _ s _ _ _ _ (I3.mono (f.trans d) k)) ?_
    rintro bs a dm U ⟨bV,rfl,Z,g⟩
    obtain⟨dE,dI⟩:=bs
    dsimp only at a Z
    obtain⟨dF,dG,bD,cT,b2,dH,rfl,rfl,aQ,aR,aa⟩:=H0 Z
    obtain⟨rfl,cz⟩:=Sl.len aa
    try dsimp only at a
    obtain⟨Q,aH,a⟩:=C0 a
    refine eX { vars:=[12],boxes:=[],owns:=[0],fuel:=true } (eX (λvs os h'=>∃ o H z,vs.tail = [.int .i64 o]/\os = [H]/\Sub U h'/\J0 o/\F2 (Wp.int.R h') H z/\F8 u (U1 vs) o z=some Q) (eX (λ_ _=>0) (aI (eX W0 ⟨0,[],([]:M0),rfl,rfl,(Sub.refl _),(by decide),(show F2 (Wp.int.R U) ([]:List (List Value)) ([]:M0) from trivial),aH⟩) ?_)))
    rintro _ H F V ⟨o,eu,z,⟨⟩,⟨⟩,c,cm,C,b⟩
    replace b:F8 u F o z=some Q:=b
    obtain _|F:=F
    ·cases b
    rw[F8.eq_2]at b
    refine ifB b (λaM b=>?_) λaM b=>?_
    ·refine trV b (c0d _ _ _ _ _ ((Wp.slice Wp.u8).mono ((((n.trans f).trans d).trans g).trans c) w) (IntKind.i64.wrap (3*o)) (O0 _)) λp b=>?_
     obtain⟨dd,aB,b⟩:=C0 b
     have T:J0 p:=C1 aB
     obtain⟨df,aC,b⟩:=C0 b
     refine aI (P1 aC (by first|rw[F2.length C,F2.length (show F2 (Wp.int.R V) ([[.int .i64 p]]:List (List Value)) [p] from⟨⟨rfl,T⟩,trivial⟩)]|exact congrArg (·+1) (F2.length C))) ?_
     exact I2 F ⟨(IntKind.i64.wrap (o+1)),(H++([[.int .i64 p]]:List (List Value))),(z ++ [p]),rfl,rfl,c,(O0 _),(F2.append C (show F2 (Wp.int.R V) ([[.int .i64 p]]:List (List Value)) [p] from⟨⟨rfl,T⟩,trivial⟩)),b⟩
    ·obtain rfl:=oJ b
     try dsimp only[Y0,Z0]at a
     refine Or.inl ?_
     intro dn bb aA
     obtain⟨bR,ch,rfl,bn,i,cP⟩:=E1.out (r:=Wp.int.toRp) aA C
     refine trM a (H0a _ _ _ (B0 aQ aR (N0.mono (c.trans i) aa)) _ _ _ _ bn) ?_
     rintro bu a dq bc ⟨bW,bF,cV,b4,rfl,M,ac⟩
     obtain⟨dJ,dN⟩:=bu
     dsimp only at a M ac
     have j:Sub bb bc:=M.sub
     have bi:=M.r
     obtain⟨dK,dL,bE,cU,b3,dM,rfl,rfl,aS,aU,ab⟩:=H0 bi
     obtain⟨rfl,cA⟩:=Sl.len ab
     try dsimp only at a
     obtain⟨rfl,cC⟩:=Sl.len ac
     refine Or.inr (Or.inr (Or.inr (Or.inl (aI (aI (by kernel_rfl) (by kernel_rfl)) ?_))))
     obtain⟨bv,aE,a⟩:=C0 a
     obtain⟨ap,aq,I⟩:=bv
     try dsimp only at a
     refine Or.inr (eX (λv aP=>∃(A:Option Addr) (B:Nat),v = .agg #[.int .i64 ap,.int .i64 aq,.slice A I.length B]/\J0 ap/\J0 aq/\N0.R aP [.slice A I.length B] I/\I.length<=9223372036854775807) (aI (λv ck cl L q=>by obtain⟨A,B,e,ay,az,f2,f3⟩:=q;exact⟨A,B,e,ay,az,N0.mono L f2,f3⟩) (aI ?_ ?_)))
     ·intro cq bp
      refine Tr.mono (k01 _ _ _ (B0 aS aU (N0.mono bp ab)) _ aE) ?_
      rintro _ cw ⟨bX,rfl,ao⟩
      have L:=ao.sub
      have bj:=ao.r
      obtain⟨er,es,av,dc,aw,et,rfl,ax,a7,a8,am⟩:=H0 bj
      cases ax
      obtain⟨rfl,bh⟩:=Sl.len am
      exact aI M00 (aI L ⟨av,aw,rfl,a7,a8,am,bh⟩)
     obtain⟨ar,aF,a⟩:=C0 a
     refine Or.inl (eX (.val (.bool ar)) (aI ?_ ?_))
     ·intro cr bq
      rintro _ ⟨bS,ci,rfl,a9,ba,bo,cQ⟩
      exact Tr.val (i03 _ _ _ (B0 a9 ba bo) _ _ (B0 D E (N0.mono ((((g.trans c).trans i).trans j).trans bq) x)) _ aF) (aI rfl (aI rfl rfl))
     refine Or.inl (eX (.val (.bool (!ar))) (aI ?_ ?_))
     ·intro cs di
      exact aI rfl (aI rfl rfl)
     obtain⟨au,aG,a⟩:=C0 a
     refine Or.inl (eX (.val (.bool au)) (aI ?_ ?_))
     ·intro ct an S
      exact Tr.val (U05 _ _ _ (B0 D E (N0.mono ((((g.trans c).trans i).trans j).trans an) x)) _ _ _ _ (I3.mono ((((((f.trans d).trans g).trans c).trans i).trans j).trans an) k) _ (P9 aG S)) (aI rfl (aI rfl rfl))
     refine Or.inl (eX (.val (.bool (!au))) (aI ?_ ?_))
     ·intro cu dj S
      exact aI rfl (aI rfl rfl)
     intro cv m
     rintro _ ⟨bT,cj,rfl,cn,co,dh,cR⟩
     refine ifB a (λaN a=>?_) λaN a=>?_
     ·obtain rfl:=oJ a
      exact aI rfl (((((((n.trans f).trans d).trans g).trans c).trans i).trans j).trans m)
     ·refine trM a (T0l _ _ _ _ _ ((Wp.slice Wp.u8).mono (((((((n.trans f).trans d).trans g).trans c).trans i).trans j).trans m) w) 40 (by decide) _ s 6 (by decide)) ?_
      rintro dP a dt be ⟨bH,cX,b6,rfl,G,y⟩
      obtain⟨rfl,cE⟩:=Sl.len G
      refine trM a (o07 _ 1 (by decide) _ s _ _ _ _ (I3.mono (((((((f.trans d).trans g).trans c).trans i).trans j).trans m).trans y) k) _ _ _ _ G) ?_
      rintro bz a du W ⟨bY,rfl,N⟩
      obtain⟨dQ,d1⟩:=bz
      dsimp only at a N
      have t:Sub be W:=N.sub
      have bk:=N.r
      obtain⟨dR,dS,bI,cY,b7,dT,bJ,cZ,b8,dU,bK,c0,ca,dV,dW,dX,bL,c1,cb,dY,dZ,rfl,rfl,aV,aW,ad,ae,af,aX,aY,ag,aZ⟩:=y0c bk
      obtain⟨rfl,cG⟩:=Sl.len ad
      obtain⟨rfl,cH⟩:=Sl.len ae
      obtain⟨rfl,cI⟩:=Sl.len af
      obtain⟨rfl,cJ⟩:=Sl.len ag
      try dsimp only at a
      refine trM a (o07 _ 2 (by decide) _ s _ _ _ _ (I3.mono ((((((((f.trans d).trans g).trans c).trans i).trans j).trans m).trans y).trans t) k) _ _ _ _ (P0.mono t G)) ?_
      rintro bA a dv bf ⟨bZ,rfl,O⟩
      obtain⟨d2,ei⟩:=bA
      dsimp only at a O
      have l:Sub W bf:=O.sub
      have bl:=O.r
      obtain⟨d3,ea,bM,c2,cc,eb,bN,c3,cd,ec,bO,c4,ce,ed,ee,ef,bP,c6,cf,eg,eh,rfl,rfl,a0,a1,ah,ai,aj,a2,a3,ak,a4⟩:=y0c bl
      obtain⟨rfl,cK⟩:=Sl.len ah
      obtain⟨rfl,cL⟩:=Sl.len ai
      obtain⟨rfl,cM⟩:=Sl.len aj
      obtain⟨rfl,cN⟩:=Sl.len ak
      try dsimp only at a
      refine trV a (Z0d _ _ _ (B0 D E (N0.mono (((((((g.trans c).trans i).trans j).trans m).trans y).trans t).trans l) x)) _ _ _ _ (P0.mono (t.trans l) G)) λej a=>?_
      refine trG a (λq=>t06 _ _ _ (X0e aV aW (I3.mono l ad) (P0.mono l ae) (P0.mono l af) aX aY (N0.mono l ag) aZ)) λek a=>?_
      refine trG a (λq=>t06 _ _ _ (X0e a0 a1 ah ai aj a2 a3 ak a4)) λel a=>?_
      refine ifB a (λaO a=>?_) λaO a=>?_
      ·obtain rfl:=oJ a
       exact aI rfl ((((((((((n.trans f).trans d).trans g).trans c).trans i).trans j).trans m).trans y).trans t).trans l)
      ·obtain rfl:=oJ a
       exact aI rfl ((((((((((n.trans f).trans d).trans g).trans c).trans i).trans j).trans m).trans y).trans t).trans l)
end Go.Proofs.YtmgikbbmpnbbjaaGreat
