/- Plain laws over the model: what a function's code asks: regions with guards, regions that draw their order, branches and loops. -/
import Derived.Test.YtfphndijjmdiiaaGreatH2
namespace Go.H
set_option linter.unusedVariables false
structure BE where
 j:Nat
 d:Nat
 e:Bool
 ch:List (Nat×Bool)
structure RS where
 st:St
 h:Hp
 gf:List (Nat×List (Nat×Bool)×AV)
 bs:List BE
def z0e:List (Nat×List (Nat×Bool)×AV)->Nat->Option (List (Nat×Bool)×AV)
 | [],_=>none
 |(k,x)::r,s=>match Nat.beq k s with
  |true=>some x
  |false=>z0e r s
def eqB(a b:Bool):Bool:=match a,b with
 |true,true=>true
 |false,false=>true
 |_,_=>false
def P0p:List (Nat×Bool)->List (Nat×Bool)->Bool
 | [],[]=>true
 |(j,w)::r,(a,c)::b=>match Nat.beq j a,eqB w c with
  |true,true=>P0p r b
  |_,_=>false
 |_,_=>false
def T0j(a:List (Nat×Bool)):List (Nat×Bool)->Bool
 | []=>P0p a []
 |x::r=>match P0p a (x::r)with
  |true=>true
  |false=>T0j a r
def rdG(rs:RS)(ch:List (Nat×Bool)):Operand->AV
 | .tmp t=>match z0e rs.gf t with
  |some (a,av)=>match T0j a ch with
   |true=>rdA rs.st av
   |false => .dead
  |none=>rdA rs.st (G3 rs.st.fr t)
 |x=>rdO rs.st x
def I02:List BE->Nat->Option BE
 | [],_=>none
 |b::r,j=>match Nat.beq b.j j with
  |true=>some b
  |false=>I02 r j
def q0a:List BE->Nat->Option BE
 | [],_=>none
 |b::r,s=>match Nat.beq b.d s with
  |true=>some b
  |false=>q0a r s
def lit(w e:Bool):Bool:=match w with
 |true=>e
 |false => !e
def cB(bs:List BE):List (Nat×Bool)->Option Bool
 | []=>some true
 |(j,w)::r=>match I02 bs j with
  |some b=>match r with
   | []=>some (lit w b.e)
   |_=>match cB bs r with
    |some c=>some (lit w b.e&&c)
    |none=>none
  |none=>none
def d00(bs:List BE):Option (Nat×Bool)->Option (List (Nat×Bool))
 |none=>some []
 |some (j,w)=>match I02 bs j with
  |some b=>some ((j,w)::b.ch)
  |none=>none
def imp(ch:List (Nat×Bool))(c:Bool)(X:Prop):Prop:=match ch with
 | []=>X
 |_=>c=true->X
def U0j(rs:RS)(ch:List (Nat×Bool)):List Operand->Option (List (Nat×Value))
 | []=>some []
 | .tmp t::r=>match A04 (rdG rs ch (.tmp t))with
  |some v=>match U0j rs ch r with
   |some vs=>some ((t,v)::vs)
   |none=>none
  |none=>none
 | .global _::_=>none
 |_::r=>U0j rs ch r
def e0s(rs:RS)(ch:List (Nat×Bool)):List Operand->St->Hp->(List (Nat×Value)->St->Hp->Prop)->Prop
 | [],st,h,K=>K [] st h
 | .tmp t::r,st,h,K=>rfy (rdA st (rdG rs ch (.tmp t))) st h λv st h=>e0s rs ch r st h λvs st h=>K ((t,v)::vs) st h
 | .global _::_,_,_,_=>False
 |_::r,st,h,K=>e0s rs ch r st h K
def C0i(P:Program)(o:Oper)(ch:List (Nat×Bool))(c:Bool)(rs:RS)(K:AV->Prop):Prop :=
 match n0a o.op,U0j rs ch o.op.operands.toList with
 |false,some vs=>match B07 (rho vs) o with
  |some (f,l)=>match okF P f with
   |true=>∃ v,imp ch c (Tr P f l.toArray rs.h λa h'=>a=v/\h'=rs.h)/\K (.val v)
   |false=>False
  |none=>match evP P (W0g (rho vs) o)with
   |some (.value v)=>K (.val v)
   |_=>False
 |false,none=>∃ r,imp ch c (e0s rs ch o.op.operands.toList rs.st rs.h λvs _ hf=>match B07 (rho vs) o with
  |some (f,l)=>match okF P f with
   |true=>Tr P f l.toArray hf λv h'=>v=r/\h'=hf
   |false=>False
  |none=>False)/\K (.val r)
 |_,_=>False
def evG(P:Program)(o:Oper)(ch:List (Nat×Bool))(c:Bool)(rs:RS)(K:AV->Prop):Prop :=
 match o.op with
 | .move x | .assign x=>match rdG rs ch x with
  | .dead=>False
  |a=>K a
 | .pick (.tmp d) a b=>match rdG rs ch (.tmp d),q0a rs.bs d with
  | .val (.bool e),some q=>match T0j q.ch ch with
   |true=>match rdG rs ((q.j,true)::q.ch) a,rdG rs ((q.j,false)::q.ch) b with
    | .val (.bool x),.val (.bool y)=>K (.val (.bool (cond e x y)))
    |_,_=>False
   |false=>False
  |_,_=>False
 | .fieldAddr t x k=>match rdG rs ch x,y0i P t k with
  | .box i off,some g=>K (.box i (off+g))
  | .hel d i sz k,some g=>K (.hel d i sz (k+g))
  | .oel i d j sz k,some g=>K (.oel i d j sz (k+g))
  |_,_=>False
 | .indexAddr t x i=>match rdG rs ch i with
  | .val (.int _ j)=>match V00 P t with
   |some e=>match W5 P e with
    |some sz=>match rdG rs ch x with
     | .val (.slice a n f)=>imp ch c (InB (.slice a n f) j)/\K (.hel (.slice a n f) j sz 0)
     | .own i k=>match nth rs.st.ow i with
      |some ⟨_,.live _ p _ _ xs⟩=>match Nat.beq p sz with
       |true=>imp ch c (0<=j/\j<(xs.length:Int))/\K (.oel i k j sz 0)
       |false=>False
      |_=>False
     |_=>False
    |none=>False
   |none=>False
  |_=>False
 | .load t x=>match rdG rs ch x with
  | .box i off=>match nth rs.st.bx i with
   |some (.live cs _)=>y04 P t cs off K
   |_=>False
  | .hel d idx sz k=>∃ e,imp ch c (Z7 rs.h d sz idx e)/\y04 P t (vals e) k K
  | .oel i _ idx sz k=>match nth rs.st.ow i with
   |some ⟨_,.live _ p _ _ xs⟩=>match Nat.beq p sz with
    |true=>∃ e,imp ch c (xs[idx.toNat]?=some e)/\y04 P t (vals e) k K
    |false=>False
   |_=>False
  |_=>False
 | .build t ps=>match P.underlying t,K00 P t with
  |some (.struct u),some z=>match U05 P u.toList with
   |true=>E07 P u (rdG rs ch) ps.toList (vals z.cells.toList) λcs=>K (.agg cs)
   |false=>False
  |_,_=>False
 | .index t x i=>match rdG rs ch x,rdG rs ch i,P.underlying t with
  | .val (.string d),.val (.int _ j),some .string=>∃ e,imp ch c (0<=j/\d[j.toNat]?=some e)/\K (.val (.int .u8 e.toNat))
  |_,_,_=>False
 | .slice t x lo hi none=>match rdG rs ch x,P.underlying t with
  | .val (.string d),some .string=>match k05 0 (lo.map (rdG rs ch)),k05 d.size (hi.map (rdG rs ch))with
   |some l,some m=>imp ch c (0<=l/\l<=m/\m<=(d.size:Int))/\K (.val (.string (d.extract l.toNat m.toNat)))
   |_,_=>False
  | .val (.slice w n f),_=>match V00 P t with
   |some e=>match W5 P e with
    |some sz=>match k05 0 (lo.map (rdG rs ch)),k05 n (hi.map (rdG rs ch))with
     |some l,some m=>∃ v,imp ch c ((0<=l/\l<=m/\m<=(n:Int)/\n<=f)/\S0j sz (.slice w n f) l.toNat m.toNat v)/\K (.val v)
     |_,_=>False
    |none=>False
   |none=>False
  |_,_=>False
 | .binOp .eql t x y yt=>match A04 (rdG rs ch x),A04 (rdG rs ch y)with
  |some (.agg xs),some (.agg s)=>∃ b,imp ch c (y0e P o x y (.agg xs) (.agg s) b)/\K (.val (.bool b))
  |some (.slice a n m),some (.slice none 0 0)=>∃ b,imp ch c (y0e P o x y (.slice a n m) (.slice none 0 0) b)/\K (.val (.bool b))
  |_,_=>C0i P o ch c rs K
 | .binOp .neq t x y yt=>match A04 (rdG rs ch x),A04 (rdG rs ch y)with
  |some (.agg xs),some (.agg s)=>∃ b,imp ch c (y0e P o x y (.agg xs) (.agg s) b)/\K (.val (.bool b))
  |_,_=>C0i P o ch c rs K
 | .binOp .add t x y yt=>match rdG rs ch x,rdG rs ch y with
  | .val (.string a),.val (.string b)=>imp ch c (a.size+b.size<=9223372036854775807)/\K (.val (.string (a++b)))
  |_,_=>C0i P o ch c rs K
 | .binOp .quo t x y yt=>match rdG rs ch x,rdG rs ch y with
  | .val (.int .i64 a),.val (.int .i64 b)=>imp ch c (b≠0)/\K (.val (.int .i64 (IntKind.i64.wrap (a.tdiv b))))
  |_,_=>C0i P o ch c rs K
 | .binOp .rem t x y yt=>match rdG rs ch x,rdG rs ch y with
  | .val (.int .i64 a),.val (.int .i64 b)=>imp ch c (b≠0)/\K (.val (.int .i64 (a.tmod b)))
  |_,_=>C0i P o ch c rs K
 | .call { callee := .builtin .len,args:=as,argTypes:=ts }=>match as.toList,ts.toList with
  | [x],[t]=>match rdG rs ch x with
   | .own i _=>match nth rs.st.ow i,V00 P t with
    |some ⟨_,.live _ _ _ _ xs⟩,some _=>K (.val (.int .i64 xs.length))
    |_,_=>False
   |_=>C0i P o ch c rs K
  |_,_=>False
 |_=>C0i P o ch c rs K
def G07(rs:RS)(d:Nat):Bool:=match z0e rs.gf d,q0a rs.bs d with
 |none,none=>false
 |_,_=>true
def V0j(i d:Nat)(ch:List (Nat×Bool))(av:AV)(bs:List BE):List BE:=match av with
 | .val (.bool e)=>⟨i,d,e,ch⟩::bs
 |_=>bs
def A0e(d:Option Tmp)(i:Nat)(ch:List (Nat×Bool))(av:AV)(rs:RS)(K:RS->Prop):Prop :=
 match d with
 |none=>K rs
 |some d=>match Nat.blt d rs.st.n,G07 rs d with
  |true,false=>match ch with
   | []=>K { rs with st := { rs.st with fr:=(d,av)::rs.st.fr },bs:=V0j i d ch av rs.bs }
   |_=>K { rs with st := { rs.st with fr:=(d,.dead)::rs.st.fr },gf:=(d,ch,av)::rs.gf,bs:=V0j i d ch av rs.bs }
  |_,_=>False
def j0m:Op->Bool
 | .pick ..=>true
 |_=>false
def h0d(P:Program):List Oper->Nat->RS->(RS->Prop)->Prop
 | [],_,rs,K=>K rs
 |o::r,i,rs,K=>match o.guard,j0m o.op with
  |none,false=>c8 P o rs.st rs.h λav st h=>A0e o.dst i [] av { rs with st:=st,h:=h } λrs=>h0d P r (i+1) rs K
  |_,_=>match d00 rs.bs o.guard with
   |some ch=>match cB rs.bs ch with
    |some c=>evG P o ch c rs λav=>A0e o.dst i ch av rs λrs=>h0d P r (i+1) rs K
    |none=>False
   |none=>False
def evQ(P:Program):List Oper->Nat->RS->(RS->Prop)->Prop
 | [],_,rs,K=>K rs
 |o::r,i,rs,K=>match d00 rs.bs o.guard with
  |some ch=>match cB rs.bs ch with
   |some c=>evG P o ch c rs λav=>A0e o.dst i ch av rs λrs=>evQ P r (i+1) rs K
   |none=>False
  |none=>False
def Sub(h h':Hp):Prop:=∀ b o,h b=some o->h' b=some o
def Q0p(v:Value)(K:Value->Prop):Prop:=match v with
 | .bool b=>K (.bool b)
 | .int k n=>K (.int k n)
 | .string s=>K (.string s)
 | .pointer a=>K (.pointer a)
 | .slice a n c=>K (.slice a n c)
 | .func f x y=>K (.func f x y)
 | .agg cs=>K (.agg cs)
 | .tuple vs=>K (.tuple vs)
 |v=>K v
theorem H0o(v:Value)(K:Value->Prop):Q0p v K=K v:=by cases v<;>rfl
def d8{a:Type}:List a->(List a->Prop)->Prop
 | [],K=>K []
 |x::r,K=>d8 r λr=>K (x::r)
theorem Y01{a:Type}:∀(l:List a) (K:List a->Prop),d8 l K=K l
 | [],K=>rfl
 |x::r,K=>by simp only[d8,Y01 r]
def B04:Nat->(Nat->Prop)->Prop
 |0,K=>K 0
 |n+1,K=>B04 n λm=>K (m+1)
theorem H07:∀(n:Nat) (K:Nat->Prop),B04 n K=K n
 |0,K=>rfl
 |n+1,K=>by simp only[B04,H07 n]
def Y00(av:AV)(K:AV->Prop):Prop:=match av with
 | .val v=>Q0p v λv=>K (.val v)
 | .own i k=>K (.own i k)
 | .box i k=>K (.box i k)
 | .hel s i z k=>B04 z λz=>B04 k λk=>K (.hel s i z k)
 | .oel j s i z k=>B04 z λz=>B04 k λk=>K (.oel j s i z k)
 | .agg cs=>d8 cs λcs=>K (.agg cs)
 | .dead=>K .dead
theorem J02(av:AV)(K:AV->Prop):Y00 av K=K av:=by
 cases av with
 |val v=>exact H0o v (λv=>K (.val v))
 |hel s i z k=>simp only[Y00,H07]
 |oel j s i z k=>simp only[Y00,H07]
 |agg cs=>simp only[Y00,Y01]
 |_=>rfl
inductive o6 where
 |pu (av:AV)
 |ef (F:Value->Hp->Prop)
def V3:List (Nat×o6)->Nat->Option o6
 | [],_=>none
 |(k,x)::r,s=>match Nat.beq k s with
  |true=>some x
  |false=>V3 r s
def rdS(L:List (Nat×o6))(st:St):Operand->AV
 | .tmp t=>match V3 L t with
  |some (.pu av)=>rdA st av
  |some (.ef _) => .dead
  |none=>rdA st (G3 st.fr t)
 |x=>rdO st x
def B0e(P:Program)(t:TypeId)(cs:List N5)(off:Nat):Option AV :=
 match x0i P t with
 |some true=>match W5 P t with
  |some n=>match D06 ((cs.drop off).take n) n with
   |true=>some (.agg ((cs.drop off).take n))
   |false=>none
  |none=>none
 |some false=>match nth cs off with
  |some c=>some (ofCell c)
  |none=>none
 |none=>none
def k0m(P:Program)(L:List (Nat×o6))(o:Oper)(st:St):Option AV:=match o.op with
 | .move x | .assign x=>match rdS L st x with
  | .dead=>none
  |a=>some a
 | .load t x=>match rdS L st x with
  | .box i off=>match nth st.bx i with
   |some (.live cs _)=>B0e P t cs off
   |_=>none
  |_=>none
 |_=>none
def C0e(L:List (Nat×o6))(st:St)(h:Hp):List Operand->List (Nat×AV)->(List (Nat×AV)->Prop)->Prop
 | [],acc,K=>K acc
 | .tmp t::r,acc,K=>match V3 L t with
  |some (.pu av)=>C0e L st h r ((t,av)::acc) K
  |some (.ef F)=>∀ v,F v h->C0e L st h r ((t,.val v)::acc) K
  |none=>C0e L st h r ((t,G3 st.fr t)::acc) K
 |_::r,acc,K=>C0e L st h r acc K
def E06(d:Option Tmp)(f:o6)(L:List (Nat×o6)):List (Nat×o6):=match d with
 |some d=>(d,f)::L
 |none=>L
def F0u(st:St)(h:Hp)(F:Value->Hp->Prop):AV->St->Hp->Prop
 | .val v,st',h'=>st'=st/\Sub h h'/\F v h'
 |_,_,_=>False
def V7(i:Nat)(o:Oper):Bool:=o.after.toList.any λe=>Region.binds .any e&&Nat.beq e.on i
def Z01(o:Oper)(t:Nat):List Oper->Nat->Bool
 | [],_=>true
 |x::r,i=>match x.dst with
  |some d=>match Nat.beq d t with
   |true=>V7 i o&&Z01 o t r (i+1)
   |false=>Z01 o t r (i+1)
  |none=>Z01 o t r (i+1)
def r0a(o:Oper)(ops:List Oper):List Operand->Bool
 | []=>true
 | .tmp t::r=>Z01 o t ops 0&&r0a o ops r
 |_::r=>r0a o ops r
def I07(d:Nat):List Oper->Bool
 | []=>true
 |o::r=>match o.dst with
  |some a => !Nat.beq d a&&I07 d r
  |none=>I07 d r
def W0j(n:Nat):List Oper->Bool
 | []=>true
 |o::r=>match o.dst with
  |some d=>Nat.blt d n&&I07 d r&&W0j n r
  |none=>W0j n r
def i0d:List Oper->Nat->Bool
 | [],_=>true
 |o::r,j=>(o.after.toList.all λe => !Region.binds .any e || Nat.blt e.on j)&&i0d r (j+1)
def l0n(ops:List Oper):List Oper->Bool
 | []=>true
 |o::r=>r0a o ops o.op.operands.toList&&l0n ops r
def w02(n:Nat)(ops:List Oper):Bool:=W0j n ops&&i0d ops 0&&l0n ops ops
def m0n:List N5->Bool
 | []=>true
 | .val _::r=>m0n r
 | .own _ _::_=>false
def D0i:AV->Bool
 | .val _=>true
 | .box _ _=>true
 | .own _ _=>true
 | .agg cs=>m0n cs
 |_=>false
def E05(L:List (Nat×o6))(st:St):Operand->AV
 | .tmp t=>match V3 L t with
  |some (.pu av)=>av
  |some (.ef _) => .dead
  |none=>G3 st.fr t
 | .const v => .val v
 |_ => .dead
def j0d(L:List (Nat×o6))(st:St):List Operand->Option (List (Nat×Value))
 | []=>some []
 | .tmp t::r=>match E05 L st (.tmp t)with
  | .val v=>match j0d L st r with
   |some vs=>some ((t,v)::vs)
   |none=>none
  |_=>none
 | .global _::_=>none
 |_::r=>j0d L st r
def l0m(P:Program)(L:List (Nat×o6))(o:Oper)(st:St):Option AV:=match n0a o.op,j0d L st o.op.operands.toList with
 |false,some vs=>match B07 (rho vs) o with
  |some _=>none
  |none=>match evP P (W0g (rho vs) o)with
   |some (.value v)=>some (.val v)
   |_=>none
 |_,_=>none
def G0u:AV->Bool
 | .val (.int _ _)=>true
 |_=>false
def g0v:BinOp->Bool
 | .lss=>true
 | .leq=>true
 | .gtr=>true
 | .geq=>true
 | .eql=>true
 | .neq=>true
 | .add=>true
 | .sub=>true
 | .mul=>true
 |_=>false
def j09(P:Program)(L:List (Nat×o6))(o:Oper)(st:St):Option AV:=match o.op with
 | .move x=>match D0i (E05 L st x)with
  |true=>some (E05 L st x)
  |false=>none
 | .assign x=>match D0i (E05 L st x)with
  |true=>some (E05 L st x)
  |false=>none
 | .load t x=>match E05 L st x with
  | .box i off=>match nth st.bx i with
   |some (.live cs _)=>match B0e P t cs off with
    |some av=>match D0i av with
     |true=>some av
     |false=>none
    |none=>none
   |_=>none
  |_=>none
 | .fieldAddr t x k=>match E05 L st x,y0i P t k with
  | .box i off,some a=>some (.box i (off+a))
  |_,_=>none
 | .binOp op _ x y _=>match g0v op,G0u (E05 L st x),G0u (E05 L st y)with
  |true,true,true=>l0m P L o st
  |_,_,_=>none
 | .call { callee := .builtin .len,args:=as,argTypes:=_ }=>match as.toList with
  | [x]=>match E05 L st x with
   | .val (.slice _ _ _)=>l0m P L o st
   |_=>none
  |_=>none
 |_=>none
def A9(L:List (Nat×o6))(st:St):List Oper->List Nat
 | []=>[]
 |o::r=>match o.op with
  | .load _ x=>match E05 L st x with
   | .box i _=>i::A9 L st r
   |_=>A9 L st r
  |_=>A9 L st r
def k09(bx:List BSt):List Nat->List (Option BSt)
 | []=>[]
 |i::r=>nth bx i::k09 bx r
def f04(L:List (Nat×o6))(a:List (Nat×AV)):List Operand->List (Nat×AV)->(List (Nat×AV)->Prop)->Prop
 | [],acc,K=>K acc
 | .tmp t::r,acc,K=>match V3 L t with
  |some (.pu av)=>f04 L a r ((t,av)::acc) K
  |some (.ef _)=>f04 L a r ((t,.dead)::acc) K
  |none=>f04 L a r ((t,G3 a t)::acc) K
 |_::r,acc,K=>f04 L a r acc K
def X0j:List (Nat×o6)->List (Nat×AV)->List (Nat×AV)
 | [],fr=>fr
 |(d,.pu av)::r,fr=>(d,av)::X0j r fr
 |(d,.ef _)::r,fr=>(d,.dead)::X0j r fr
def n0n(av:AV)(st:St)(h:Hp):AV->St->Hp->Prop:=λa st' h'=>a=av/\st'=st/\h'=h
def Y0j(P:Program)(st:St)(h:Hp)(L:List (Nat×o6))(o:Oper)(av:AV):Prop :=
 match st with
 |⟨n,fr,bx,ow⟩=>∀ h',Sub h h'->f04 L fr o.op.operands.toList [] λfr=>c8 P o ⟨n,fr,bx,ow⟩ h' (n0n av ⟨n,fr,bx,ow⟩ h')
def v03(P:Program)(st:St)(h:Hp):List Oper->Nat->List (Nat×o6)->List (Nat×Oper)->List (Nat×Oper)->(List (Nat×o6)->List (Nat×Oper)->List (Nat×Oper)->Prop)->Prop
 | [],_,L,X,E,K=>K L X E
 |o::r,i,L,X,E,K=>match o.guard with
  |some _=>False
  |none=>match j09 P L o st with
   |some av=>Y00 av λav=>v03 P st h r (i+1) (E06 o.dst (.pu av) L) X E K
   |none=>(∃ av,Y0j P st h L o av/\Y00 av λav=>v03 P st h r (i+1) (E06 o.dst (.pu av) L) (X ++ [(i,o)]) E K) ∨
     v03 P st h r (i+1) (E06 o.dst (.ef λ_ _=>True) L) X (E ++ [(i,o)]) K
def E0i(X:List (Nat×Oper)):Nat->Nat->Oper->Bool
 |0,i,q=>V7 i q
 |n+1,i,q=>V7 i q || X.any λy=>V7 y.1 q&&E0i X n i y.2
def D0e(X Y:List (Nat×Oper)):List (Nat×Oper)->Bool
 | []=>true
 |(_,q)::_=>X.all λx=>E0i Y 8 x.1 q
def C04:List (Nat×Oper)->Bool
 |(i,o)::(j,a)::r=>V7 i a&&C04 ((j,a)::r)
 |_=>true
def J07:Nat->Nat->Oper->Bool
 |0,_,_=>true
 |k+1,i,o=>(Nat.beq k i || V7 k o)&&J07 k i o
def K07(d:Nat):List Operand->Bool
 | []=>false
 | .tmp t::r=>Nat.beq t d || K07 d r
 |_::r=>K07 d r
def E0e(d:Nat):List Oper->Bool
 | []=>false
 |o::r=>K07 d o.op.operands.toList || E0e d r
def W00:List Oper->List Oper
 | []=>[]
 |o::r=>match r with
  | []=>[]
  |_::_=>o::W00 r
def F0e:List Oper->Option Oper
 | []=>none
 |o::r=>match r with
  | []=>some o
  |_::_=>F0e r
def R0p(ops:List Oper):Option Oper:=match F0e ops with
 |some o=>match o.guard,o.dst with
  |none,some d=>match E0e d (W00 ops)&&J07 (W00 ops).length (W00 ops).length o with
   |true=>some o
   |false=>none
  |_,_=>none
 |none=>none
def K03(P:Program)(o:Oper)(st:St)(h:Hp)(K:St->Hp->Prop):Prop :=
 c8 P o st h λav st h=>A0e o.dst 0 [] av ⟨st,h,[],[]⟩ λrs=>K rs.st rs.h
def inK(k:Nat):List Nat->Bool
 | []=>false
 |x::r=>Nat.beq k x || inK k r
def L07(es:List Nat):Nat->Nat->Oper->Bool
 |0,_,_=>true
 |k+1,i,o=>((Nat.beq k i || V7 k o) || inK k es)&&L07 es k i o
def V08:List (Nat×Oper)->List Nat
 | []=>[]
 |x::r=>x.1::V08 r
def s0a(N:Nat×List Nat)(i:Nat)(o:Oper):Bool:=L07 N.2 N.1 i o
def X0g(c:Nat)(b:Bool)(rd:List Nat)(bx a:List BSt):Prop:=match b with
 |true=>True
 |false=>match c with
  |0=>k09 a rd=k09 bx rd
  |_+1=>a=bx
def T0b:Nat->List Own->List Own->Hp->Hp->Prop
 |0,_,_,_,_=>True
 |_+1,ow,a,h,h'=>a=ow/\Sub h h'
def evC(rd:List Nat)(d:Nat×List Nat)(P:Program):Nat->List (Nat×Oper)->List (Nat×o6)->St->Hp->(St->Hp->Prop)->Prop
 |_,[],L,⟨n,fr,bx,ow⟩,h,K=>d8 (X0j L fr) λfr=>K ⟨n,fr,bx,ow⟩ h
 |c,(i,o)::r,L,⟨n,fr,bx,ow⟩,h,K=>f04 L fr o.op.operands.toList [] λe=>c8 P o ⟨n,e,bx,ow⟩ h λav st' h'=>match st' with
  |⟨_,_,a,b⟩=>T0b c ow b h h'/\X0g c (s0a d i o) rd bx a/\Y00 av λav=>d8 a λa=>d8 b λb=>evC rd d P (c-1) r (E06 o.dst (.pu av) L) ⟨n,fr,a,b⟩ h' K
def f0s(f:Nat×Oper)(rd:List Nat)(a:Nat×List Nat)(P:Program):Nat->List (Nat×Oper)->List (Nat×o6)->St->Hp->(St->Hp->Prop)->Prop
 |0,E,L,st,h,K=>evC rd a P 0 (f::E) L st h K
 |p+1,E,L,st,h,K=>evC rd a P 0 (f::E) L st h K/\match E with
  | []=>False
  |(i,o)::r=>match st with
   |⟨n,fr,bx,ow⟩=>f04 L fr o.op.operands.toList [] λd=>c8 P o ⟨n,d,bx,ow⟩ h λav st' h'=>match st' with
    |⟨_,_,b,c⟩=>T0b 0 ow c h h'/\X0g 0 (s0a a i o) rd bx b/\Y00 av λav=>d8 b λb=>d8 c λc=>f0s f rd a P p r (E06 o.dst (.pu av) L) ⟨n,fr,b,c⟩ h' K
def I0o(f:Nat×Oper):Nat->List (Nat×Oper)->Bool
 |_,[]=>false
 |0,(_,q)::_=>V7 f.1 q
 |p+1,_::r=>I0o f p r
def Y0g:Nat->List (Nat×Oper)->Option ((Nat×Oper)×List (Nat×Oper))
 |_,[]=>none
 |0,x::r=>some (x,r)
 |k+1,x::r=>match Y0g k r with
  |some (f,a)=>some (f,x::a)
  |none=>none
def noX:List (Nat×Oper)->Bool
 | []=>true
 |_::_=>false
def U0b:List (Nat×Oper)->List (Nat×Oper)->List ((Nat×Oper)×List (Nat×Oper))
 |_,[]=>[]
 |A,x::B=>(x,A++B)::U0b (A ++ [x]) B
def F0i(x:Nat×Oper):List (Nat×Oper)->Bool
 | []=>true
 |y::r => !V7 y.1 x.2&&F0i x r
def m0m(f:(Nat×Oper)->List (Nat×Oper)->Prop):List ((Nat×Oper)×List (Nat×Oper))->Prop
 | []=>True
 |p::l=>match F0i p.1 p.2 with
  |true=>f p.1 p.2/\m0m f l
  |false=>m0m f l
def Z0j(rd:List Nat)(c:Nat×List Nat)(P:Program):Nat->List (Nat×Oper)->List (Nat×o6)->St->Hp->(St->Hp->Prop)->Prop
 |0,_,L,⟨n,fr,bx,ow⟩,h,K=>d8 (X0j L fr) λfr=>K ⟨n,fr,bx,ow⟩ h
 |m+1,E,L,⟨n,fr,bx,ow⟩,h,K=>m0m (λx r=>f04 L fr x.2.op.operands.toList [] λd=>c8 P x.2 ⟨n,d,bx,ow⟩ h λav st' h'=>match st' with
  |⟨_,_,a,b⟩=>T0b 0 ow b h h'/\X0g 0 (s0a c x.1 x.2) rd bx a/\Y00 av λav=>d8 a λa=>d8 b λb=>Z0j rd c P m r (E06 x.2.dst (.pu av) L) ⟨n,fr,a,b⟩ h' K) (U0b [] E)
def I0g:List (Nat×Oper)->Nat
 | []=>0
 |_::r=>I0g r+1
def evD(rd:List Nat)(N:Nat)(P:Program)(X E:List (Nat×Oper))(L:List (Nat×o6))(st:St)(h:Hp)(K:St->Hp->Prop):Prop :=
 (∃ c,(C04 E=true/\D0e X (X++E) (E.drop c)=true)/\evC rd (N,V08 E) P c E L st h K) ∨
 (∃ k p,match Y0g k E with
  |some (f,E')=>(noX X=true/\C04 E'=true/\I0o f p E'=true)/\f0s f rd (N,V08 E) P p E' L st h K
  |none=>noX X=true/\Z0j rd (N,V08 E) P (I0g E) E L st h K)
abbrev FL:=List (Nat×List (Nat×Bool)×o6)
def q03:FL->Nat->Option (List (Nat×Bool)×o6)
 | [],_=>none
 |(k,x)::r,s=>match Nat.beq k s with
  |true=>some x
  |false=>q03 r s
def rdU(L:FL)(st:St)(ch:List (Nat×Bool)):Operand->AV
 | .tmp t=>match q03 L t with
  |some (a,.pu av)=>match T0j a ch with
   |true=>rdA st av
   |false => .dead
  |some (_,.ef _) => .dead
  |none=>rdA st (G3 st.fr t)
 |x=>rdO st x
def l09(P:Program)(L:FL)(bs:List BE)(ch:List (Nat×Bool))(o:Oper)(st:St):Option AV:=match o.op with
 | .move x | .assign x=>match rdU L st ch x with
  | .dead=>none
  |a=>some a
 | .load t x=>match rdU L st ch x with
  | .box i off=>match nth st.bx i with
   |some (.live cs _)=>B0e P t cs off
   |_=>none
  |_=>none
 | .fieldAddr t x k=>match rdU L st ch x,y0i P t k with
  | .box i off,some d=>some (.box i (off+d))
  | .hel c i sz k,some d=>some (.hel c i sz (k+d))
  |_,_=>none
 | .pick (.tmp c) a b=>match rdU L st ch (.tmp c),q0a bs c with
  | .val (.bool e),some q=>match T0j q.ch ch with
   |true=>match rdU L st ((q.j,true)::q.ch) a,rdU L st ((q.j,false)::q.ch) b with
    | .val (.bool x),.val (.bool y)=>some (.val (.bool (cond e x y)))
    |_,_=>none
   |false=>none
  |_,_=>none
 |_=>none
def p07(L:FL)(st:St)(h:Hp)(ch:List (Nat×Bool)):List Operand->List (Nat×AV)->(List (Nat×AV)->Prop)->Prop
 | [],acc,K=>K acc
 | .tmp t::r,acc,K=>match q03 L t with
  |some (a,f)=>match T0j a ch with
   |true=>match f with
    | .pu av=>p07 L st h ch r ((t,av)::acc) K
    | .ef F=>∀ v,F v h->p07 L st h ch r ((t,.val v)::acc) K
   |false=>False
  |none=>p07 L st h ch r ((t,G3 st.fr t)::acc) K
 |_::r,acc,K=>p07 L st h ch r acc K
def W08(h:Hp):FL->List (Nat×AV)->(List (Nat×AV)->Prop)->Prop
 | [],fr,K=>K fr
 |(d,[],.pu av)::r,fr,K=>W08 h r ((d,av)::fr) K
 |(d,[],.ef F)::r,fr,K=>∀ v,F v h->W08 h r ((d,.val v)::fr) K
 |(d,_::_,_)::r,fr,K=>W08 h r ((d,.dead)::fr) K
def G09(d:Option Tmp)(ch:List (Nat×Bool))(f:o6)(L:FL):FL:=match d with
 |some d=>(d,ch,f)::L
 |none=>L
def G0i(i:Nat)(d:Option Tmp)(ch:List (Nat×Bool))(av:AV)(bs:List BE):List BE:=match d with
 |some d=>match av with
  | .val (.bool e)=>⟨i,d,e,ch⟩::bs
  |_=>bs
 |none=>bs
def n0m(st st':St):Prop:=st'.n=st.n/\st'.fr=st.fr/\st'.bx=st.bx/\∃ t,st'.ow=st.ow++t
def S0p(st:St)(h:Hp)(F:Value->Hp->Prop):AV->St->Hp->Prop:=λav st' h'=>rfy av st' h' λv b a=>n0m st b/\Sub h a/\F v a
def T0p(P:Program)(t n:Nat)(st:St)(h:Hp)(K:AV->St->Hp->Prop):Prop :=
 match V00 P t with
 |some e=>match W5 P e,Nat.beq n 0 with
  |some (_+1),true=>∀ g,h g=none->K (.val (.slice (some ⟨g,0,none⟩) 0 0)) st (h.set g (.cells #[] e (0,0)))
  |_,_=>False
 |none=>False
def U0p(P:Program)(t:TypeId)(a b:Operand)(st:St)(h:Hp)(K:AV->St->Hp->Prop):Prop :=
 match V00 P t with
 |some e=>match W5 P e,F09 P e,K00 P e with
  |some (sz+1),some (by_+1),some z=>match D06 z.cells.toList (sz+1)with
   |true=>match rdO st a with
    | .val (.slice (some ⟨g,o,none⟩) 0 0)=>v0e st h (sz+1) (rdO st b) λc=>V05 c.length (by_+1) /\
      ((c = []->K (.val (.slice (some ⟨g,o,none⟩) 0 0)) st h)/\∀ v h',U0 h h' v e (sz+1) true c->K (.val v) st h')
    |_=>False
   |false=>False
  |_,_,_=>False
 |none=>False
def a0k(P:Program)(o:Oper)(st:St)(h:Hp)(K:AV->St->Hp->Prop):Prop :=
 match o.op with
 | .buildSlice t n ps=>match ps.toList with
  | []=>T0p P t n st h K
  |_::_=>c8 P o st h K
 | .call { callee := .builtin .append,args:=as,argTypes:=ts }=>match as.toList,ts.toList with
  | [a,b],[t,c]=>match Nat.beq t c with
   |true=>U0p P t a b st h K
   |false=>False
  |_,_=>False
 |_=>c8 P o st h K
def evU(P:Program)(l:List Oper):Nat->FL->List BE->St->Hp->(St->Hp->Prop)->Prop :=
  List.rec (motive:=λ_=>Nat->FL->List BE->St->Hp->(St->Hp->Prop)->Prop)
    (λ_ L _ st h K=>match st with
      |⟨n,fr,bx,ow⟩=>∀ h',Sub h h'->W08 h' L fr λfr=>K ⟨n,fr,bx,ow⟩ h')
    (λo _ a i L bs st h K=>match st with
      |⟨n,fr,bx,ow⟩=>match d00 bs o.guard with
        |some ch=>match cB bs ch with
          |some c=>match l09 P L bs ch o ⟨n,fr,bx,ow⟩with
            |some av=>Y00 av λav=>a (i+1) (G09 o.dst ch (.pu av) L) (G0i i o.dst ch av bs) ⟨n,fr,bx,ow⟩ h K
            |none=>(∃ av,(∀ h',Sub h h'->imp ch c (p07 L ⟨n,fr,bx,ow⟩ h' ch o.op.operands.toList [] λfr=>c8 P o ⟨n,fr,bx,ow⟩ h' (n0n av ⟨n,fr,bx,ow⟩ h'))) /\
                  Y00 av λav=>a (i+1) (G09 o.dst ch (.pu av) L) (G0i i o.dst ch av bs) ⟨n,fr,bx,ow⟩ h K) ∨
                (∃ F:Value->Hp->Prop,(∀ v b d,Sub b d->F v b->F v d) /\
                  (∀ h',Sub h h'->imp ch c (p07 L ⟨n,fr,bx,ow⟩ h' ch o.op.operands.toList [] λfr=>a0k P o ⟨n,fr,bx,ow⟩ h' (S0p ⟨n,fr,bx,ow⟩ h' F))) /\
                  a (i+1) (G09 o.dst ch (.ef F) L) bs ⟨n,fr,bx,ow⟩ h K)
          |none=>False
        |none=>False) l
def h0e:List Oper->Bool
 | []=>true
 |o::r=>(match o.guard with
  |some (j,_)=>V7 j o
  |none=>true)&&h0e r
def E03(n:Nat)(ops:List Oper):Bool:=w02 n ops&&h0e ops
def g0s(P:Program):List Oper->Bool
 | []=>false
 |o::r=>(match o.guard,o.op with
  |some _,.call { callee := .value _,args:=_,argTypes:=_ }=>match P.underlying o.type with
   |some (.slice _)=>true
   |some (.struct _)=>true
   |some (.tuple _)=>true
   |_=>false
  |_,_=>false) || g0s P r
def D04(o:Oper):Bool:=match o.op with
 | .alloc _=>true
 |_=>false
def p00(o:Oper):Oper:=match o.op with
 | .alloc _ => { o with op := .move (.const undef) }
 |_=>o
def Y5:List Oper->List Oper
 | []=>[]
 |o::r=>p00 o::Y5 r
def okA(P:Program)(all:List Oper):List Oper->Bool
 | []=>true
 |o::r=>(match o.op with
  | .alloc t=>(match o.guard,o.dst,K00 P t with
   |none,some d,some _ => !E0e d all
   |_,_,_=>false)
  |_=>true)&&okA P all r
def o0m(x:Nat):List Nat->Bool
 | []=>false
 |y::r=>Nat.beq x y || o0m x r
def h0s(ops:List Oper)(i:Nat):List Nat->Bool
 | []=>false
 |j::r=>(match nth ops j with
  |some o=>V7 i o
  |none=>false) || h0s ops i r
def Z0g(ops:List Oper):Nat->List Nat->List Nat
 |0,acc=>acc
 |i+1,acc=>match h0s ops i acc with
  |true=>Z0g ops i (i::acc)
  |false=>Z0g ops i acc
def V0b:Operand->List Nat
 | .tmp t=>[t]
 |_=>[]
def m09(o:Oper):Option (List Nat):=match o.guard with
 |some _=>none
 |none=>match o.op with
  | .extract x _=>some (V0b x)
  | .move x=>some (V0b x)
  | .assign x=>some (V0b x)
  | .pick c x y=>some (V0b c++(V0b x++V0b y))
  |_=>none
def n09(d:Nat):List Oper->Bool
 | []=>false
 |o::r=>(match o.dst with
  |some e=>Nat.beq e d
  |none=>false) || n09 d r
def E04(a:List Nat)(t:Nat):List Oper->Nat->Bool
 | [],_=>true
 |o::r,i=>(match o.dst with
  |some e => !Nat.beq e t || o0m i a
  |none=>true)&&E04 a t r (i+1)
def W05(i d:Nat):List Oper->Bool
 | []=>true
 |o::r=>(!K07 d o.op.operands.toList || V7 i o)&&W05 i d r
def o0n(b c:List Oper)(a:List Nat):List Nat->Bool
 | []=>true
 |t::r=>(!n09 t c&&E04 a t b 0)&&o0n b c a r
def p0n(c a:List Oper)(b:List Nat)(i:Nat)(o:Oper):Bool:=match m09 o,o.dst with
 |some ts,some d => !n09 d a&&o0n c a b ts&&W05 i d a
 |_,_=>false
def i0e(b c:List Oper)(a:List Nat):List Oper->Nat->Bool
 | [],_=>true
 |o::r,i=>(o0m i a || p0n b c a i o)&&i0e b c a r (i+1)
def b0k:List Oper->Bool
 | []=>true
 |o::r => !n0a o.op&&b0k r
def V0p:Nat->List Oper->Bool
 |_,[]=>true
 |k,o::r=>(match o.guard with
  |none=>true
  |some _=>false)&&(match r with
  | []=>true
  |o'::_=>V7 k o')&&V0p (k+1) r
def H0u:List Oper->Bool
 | []=>true
 |_::_=>false
def okZ(P:Program)(n m:Nat)(ops:List Oper):Bool :=
 E03 n (Y5 (ops.take m))&&okA P (ops.take m) (ops.take m)&&i0d ops 0&&V0p m (ops.drop m)&&(H0u (ops.drop m) || (i0e (ops.take m) (ops.drop m) (Z0g ops m [m]) (ops.take m) 0&&b0k (ops.drop m)))
abbrev O0t:=Oper->St->Hp->(St->Hp->Prop)->Prop
def doA(R:O0t)(l:List Oper):St->Hp->(St->Hp->Prop)->Prop :=
 List.rec (motive:=λ_=>St->Hp->(St->Hp->Prop)->Prop) (λst h K=>K st h) (λo _ a st h K=>match D04 o with
  |true=>R o st h λst h=>a st h K
  |false=>a st h K) l
def doT(R:O0t)(l:List Oper):St->Hp->(St->Hp->Prop)->Prop :=
 List.rec (motive:=λ_=>St->Hp->(St->Hp->Prop)->Prop) (λst h K=>K st h) (λo _ a st h K=>R o st h λst h=>a st h K) l
def evT(P:Program)(R:O0t)(m:Nat)(ops:List Oper)(st:St)(h:Hp)(K:St->Hp->Prop):Prop :=
 evU P (Y5 (ops.take m)) 0 [] [] st h λst h=>doA R (ops.take m) st h λst h=>doT R (ops.drop m) st h K
inductive Ex where
 |normal|ret
 |exit (i:Nat)
structure Ann where
 vars:List Nat
 boxes:List Nat
 owns:List Nat
 nils:List (Nat×Nat×Nat×Nat):=[]
 nilsB:List (Nat×Nat×Nat×Nat×Nat):=[]
 kept:List Nat:=[]
 fuel:Bool:=false
 pubs:List Nat:=[]
def c0k:List (Nat×Nat×Nat×Nat)->St->(St->Prop)->Prop
 | [],st,K=>K st
 |(s,e,sz,by_)::r,⟨n,fr,bx,ow⟩,K=>match rdA ⟨n,fr,bx,ow⟩ (G3 fr s),Nat.blt s n with
  | .val (.slice none 0 0),true=>f0m ow λk=>c0k r ⟨n,(s,.own k 0)::fr,bx,ow ++ [⟨0,.live e sz by_ false []⟩]⟩ K
  |_,_=>False
def G0e:List (Nat×Nat×Nat×Nat×Nat)->St->(St->Prop)->Prop
 | [],st,K=>K st
 |(i,k,e,sz,by_)::r,⟨n,fr,bx,ow⟩,K=>match nth bx i with
  |some (.live cs ty)=>match nth cs k with
   |some (.val (.slice none 0 0))=>f0m ow λj=>G0e r ⟨n,fr,B00 bx i (.live (B00 cs k (.own j 0)) ty),ow ++ [⟨0,.live e sz by_ false []⟩]⟩ K
   |_=>False
  |_=>False
def d0k:List Nat->St->Hp->(St->Hp->Prop)->Prop
 | [],st,h,K=>K st h
 |s::r,st,h,K=>rfy (rdA st (G3 st.fr s)) st h λv st h=>match st with
  |⟨n,fr,bx,ow⟩=>match Nat.blt s n with
   |true=>d0k r ⟨n,(s,.val v)::fr,bx,ow⟩ h K
   |false=>False
def X08(x:Nat):List Nat->Bool
 | []=>false
 |y::r=>match Nat.beq x y with
  |true=>true
  |false=>X08 x r
def P0t:List Oper->List Nat->List Nat
 | [],acc=>acc
 |o::r,acc=>match o.dst with
  |some d=>P0t r (d::acc)
  |none=>P0t r acc
def J0g:Code->List Nat->List Nat
 | .region _ ops _,acc=>P0t ops.toList acc
 | .seq a b,acc=>J0g a (J0g b acc)
 | .cond _ a b,acc=>J0g a (J0g b acc)
 | .block _ a,acc=>J0g a acc
 | .loop a,acc=>J0g a acc
 | .scope a,acc=>J0g a acc
 |_,acc=>acc
def W0b:List Nat->(List Nat->Prop)->Prop
 | [],K=>K []
 |x::r,K=>W0b r λr=>K (x::r)
def i0s:List Nat->St->(List Value->Prop)->Prop
 | [],_,K=>K []
 |s::r,st,K=>match rdA st (G3 st.fr s)with
  | .val v=>i0s r st λvs=>K (v::vs)
  |_=>False
def e0k:List N5->St->(List Value->Prop)->Prop
 | [],_,K=>K []
 | .val v::r,st,K=>e0k r st λvs=>K (v::vs)
 | .own _ _::r,st,K=>e0k r st K
def H0e:List Nat->St->(List Value->Prop)->Prop
 | [],_,K=>K []
 |i::r,st,K=>match nth st.bx i with
  |some (.live cs _)=>e0k cs st λvs=>H0e r st λa=>K (vs++a)
  |_=>False
def a0h:List Nat->St->(List (List (List Value))->Prop)->Prop
 | [],_,K=>K []
 |i::r,st,K=>match nth st.ow i with
  |some ⟨_,.live _ _ _ _ xs⟩=>a0h r st λos=>K (xs::os)
  |_=>False
def p0m(A:Ann)(st:St)(K:List Value->List (List (List Value))->Prop):Prop :=
 i0s A.vars st λvs=>H0e A.boxes st λa=>a0h A.owns st λos=>K (vs++a) os
def F03:List N5->List Value->(List N5->List Value->Prop)->Prop
 | [],vs,K=>K [] vs
 | .val _::r,v::vs,K=>F03 r vs λcs a=>K (.val v::cs) a
 | .val _::_,[],_=>False
 | .own i k::r,vs,K=>F03 r vs λcs a=>K (.own i k::cs) a
def X05:List Nat->List Value->List BSt->(List BSt->Prop)->Prop
 | [],_,bx,K=>K bx
 |i::r,vs,bx,K=>match nth bx i with
  |some (.live cs ty)=>F03 cs vs λcs a=>X05 r a (B00 bx i (.live cs ty)) K
  |_=>False
def Y05:List Nat->List (List (List Value))->List Own->(List Own->Prop)->Prop
 | [],_,ow,K=>K ow
 |i::r,xs::os,ow,K=>match nth ow i with
  |some ⟨s,.live e sz by_ nn _⟩=>Y05 r os (B00 ow i ⟨s,.live e sz by_ nn xs⟩) K
  |_=>False
 |_::_,[],_,_=>False
def M07{c:Type}:Nat->List c->(List c->List c->Prop)->Prop
 |0,l,K=>K [] l
 |n+1,x::l,K=>M07 n l λa b=>K (x::a) b
 |_+1,[],_=>False
def headD(A:Ann)(st:St):List Nat->List (Nat×AV)->(List (Nat×AV)->Prop)->Prop
 | [],acc,K=>K acc
 |s::r,acc,K=>match X08 s A.vars with
  |true=>headD A st r acc K
  |false=>match rdA st (G3 st.fr s)with
   | .own i k=>headD A st r ((s,.own i k)::acc) K
   | .box i o=>headD A st r ((s,.box i o)::acc) K
   |_=>headD A st r ((s,.dead)::acc) K
def q0n:List N5->Bool
 | []=>true
 | .val _::r=>q0n r
 | .own _ _::_=>false
def Z05(A:Ann)(ds:List Nat)(st:St):List (Nat×AV)->(List (Nat×AV)->Prop)->Prop
 | [],K=>K []
 |(s,av)::r,K=>match X08 s ds with
  |true=>Z05 A ds st r K
  |false=>match rdA st av with
   | .own i k=>match X08 i A.owns,X08 i A.kept with
    |true,false=>Z05 A (s::ds) st r λl=>K ((s,.dead)::l)
    |_,_=>Z05 A (s::ds) st r λl=>K ((s,.own i k)::l)
   | .oel _ _ _ _ _=>Z05 A (s::ds) st r λl=>K ((s,.dead)::l)
   | .agg cs=>match q0n cs with
    |true=>Z05 A (s::ds) st r λl=>K ((s,.agg cs)::l)
    |false=>Z05 A (s::ds) st r λl=>K ((s,.dead)::l)
   |a=>Z05 A (s::ds) st r λl=>K ((s,a)::l)
def X0b:List Nat->List Value->List (Nat×AV)->List (Nat×AV)
 |s::r,v::vs,acc=>X0b r vs ((s,.val v)::acc)
 |_,_,acc=>acc
def k0d(b a:St):List (Nat×AV)->Bool
 | []=>true
 |(c,av)::r=>match av with
  | .own i _=>match rdA a (G3 a.fr c)with
   | .own j _=>match Nat.beq i j with
    |true=>k0d b a r
    |false=>false
   |_=>false
  | .box i o=>match rdA a (G3 a.fr c)with
   | .box j p=>match Nat.beq i j,Nat.beq o p with
    |true,true=>k0d b a r
    |_,_=>false
   |_=>false
  |_=>k0d b a r
def q0m:AV->Bool
 | .dead=>true
 |_=>false
def J0o:List (Nat×AV)->List AV
 | []=>[]
 |(_,av)::r=>match q0m av with
  |true=>J0o r
  |false=>av::J0o r
def b0h(fr:List (Nat×AV)):List (Nat×AV)->List AV
 | []=>[]
 |(s,av)::r=>match q0m av with
  |true=>b0h fr r
  |false=>G3 fr s::b0h fr r
def a06(c a:St):List N5->List N5->Bool
 | [],[]=>true
 | .val _::r,.val _::b=>a06 c a r b
 | .own i _::r,.own j d::b=>match Nat.beq i j,rdA a (.own j d)with
  |true,.own _ _=>a06 c a r b
  |_,_=>false
 |_,_=>false
def t0a(os:List Nat):List N5->Bool
 | []=>true
 | .val _::r=>t0a os r
 | .own i _::r=>match X08 i os with
  |true=>false
  |false=>t0a os r
def r0m(os:List Nat):BSt->Bool
 | .live cs _=>t0a os cs
 | .publ _=>true
def Y0b(A:Ann)(c a:St):Nat->List BSt->List BSt->Prop
 |_,[],_=>True
 |i,b::r,d::e=>match X08 i A.boxes with
  |true=>match b,d with
   | .live cs ty,.live cs' f=>match Nat.beq ty f,a06 c a cs cs' with
    |true,true=>Y0b A c a (i+1) r e
    |_,_=>False
   |_,_=>False
  |false=>match r0m A.owns b with
   |true=>d=b/\Y0b A c a (i+1) r e
   |false=>False
 |_,_::_,[]=>False
def leB(a b:Bool):Bool:=match a with
 |true=>b
 |false=>true
def Z0b(A:Ann):Nat->List Own->List Own->Prop
 |_,[],_=>True
 |i,b::r,a::c=>match X08 i A.owns with
  |true=>match b,a with
   |⟨h,.live e sz by_ nn _⟩,⟨j,.live f k d g _⟩=>match Nat.beq e f,Nat.beq sz k,Nat.beq by_ d,leB nn g,leB (X08 i A.kept) (Nat.beq h j)with
    |true,true,true,true,true=>Z0b A (i+1) r c
    |_,_,_,_,_=>False
   |_,_=>False
  |false=>a=b/\Z0b A (i+1) r c
 |_,_::_,[]=>False
def u0a:Nat->(List Value->Prop)->Prop
 |0,K=>K []
 |n+1,K=>∀ v,u0a n λvs=>K (v::vs)
def v0a:Nat->(List (List (List Value))->Prop)->Prop
 |0,K=>K []
 |n+1,K=>∀ xs,v0a n λos=>K (xs::os)
abbrev a0c:=List Value->List (List (List Value))->Hp->Prop
abbrev q07:=List Value->List (List (List Value))->Nat
def j0s:List Value->List Value->Bool
 | [],[]=>true
 |_::r,_::a=>j0s r a
 |_,_=>false
def f0k(A:Ann)(I:a0c)(vs:List Value)(os:List (List (List Value)))(h:Hp):Prop:=match A.fuel with
 |false=>I vs os h
 |true=>∃ m:Nat,I (.int .i64 m::vs) os h
def g0k(A:Ann)(I:a0c)(μ:q07)(vs:List Value)(os:List (List (List Value)))(X:Nat->Hp->Prop):Prop:=match A.fuel with
 |false=>∀ h',I vs os h'->X (μ vs os) h'
 |true=>∀(m:Nat) (h':Hp),I (.int .i64 m::vs) os h'->X m h'
def k0s(A:Ann)(a:a0c)(μ:q07)(m:Nat)(vs:List Value)(os:List (List (List Value)))(h:Hp):Prop:=match A.fuel with
 |false=>a vs os h/\μ vs os<m
 |true=>∃ b:Nat,a (.int .i64 b::vs) os h/\b<m
def atI(A:Ann)(I:a0c)(μ:q07)(m:Nat)(vs:List Value)(os:List (List (List Value)))(h:Hp):Prop:=match A.fuel with
 |false=>I vs os h/\m=μ vs os
 |true=>I (.int .i64 m::vs) os h
theorem W0p{A:Ann}{b:a0c}{μ:q07}{vs:List Value}{os:List (List (List Value))}{h:Hp}(a:f0k A b vs os h):∃ m,atI A b μ m vs os h:=by
 unfold f0k at a
 unfold atI
 cases hf:A.fuel with
 |false=>rw[hf]at a;exact⟨_,a,rfl⟩
 |true=>rw[hf]at a;exact a
theorem X0p{A:Ann}{c:a0c}{μ:q07}{vs:List Value}{os:List (List (List Value))}{X:Nat->Hp->Prop}(b:g0k A c μ vs os X){m:Nat}{h:Hp}(a:atI A c μ m vs os h):X m h:=by
 unfold g0k at b
 unfold atI at a
 cases hf:A.fuel with
 |false=>rw[hf]at b a;rw[a.2];exact b _ a.1
 |true=>rw[hf]at b a;exact b _ _ a
theorem l0s{A:Ann}{b:a0c}{μ:q07}{m:Nat}{vs:List Value}{os:List (List (List Value))}{h:Hp}(a:k0s A b μ m vs os h):∃ c,atI A b μ c vs os h/\c<m:=by
 unfold k0s at a
 unfold atI
 cases hf:A.fuel with
 |false=>rw[hf]at a;exact⟨_,⟨a.1,rfl⟩,a.2⟩
 |true=>rw[hf]at a;exact a
def Y0p(A:Ann)(d b:List (Nat×AV))(a:St)(c:a0c)(μ:q07)(f:List Value)(m:Nat)(st:St)(h:Hp):Prop :=
 match Nat.beq st.n a.n,k0d a st d with
 |true,true=>b0h st.fr b=J0o b/\Y0b A a st 0 a.bx st.bx/\Z0b A 0 a.ow st.ow /\
   p0m A st λvs os=>match j0s vs f with
    |true=>M07 A.vars.length vs λ_ e=>X05 A.boxes e a.bx λ_=>Y05 A.owns os a.ow λ_=>k0s A c μ m vs os h
    |false=>False
 |_,_=>False
def r0n(i:(Ex->St->Hp->Prop)->St->Hp->Prop)(j:List Nat)(Q:Ex->St->Hp->Prop)(st:St)(h:Hp):Prop :=
 ∃(A:Ann) (b:a0c) (μ:q07),c0k A.nils st λst=>G0e A.nilsB st λst=>d0k A.pubs st h λst h=>p0m A st λg d=>f0k A b g d h /\
  W0b j λds=>headD A st ds [] λc=>Z05 A ds st st.fr λf =>
   u0a g.length λvs=>v0a d.length λos=>g0k A b μ vs os λm h' =>
    M07 A.vars.length vs λk l=>X05 A.boxes l st.bx λbx=>Y05 A.owns os st.ow λow =>
     i (λe st' a=>match e with
      | .normal=>d0k A.pubs st' a λst' a=>Y0p A c f st b μ vs m st' a
      |e=>Q e st' a) ⟨st.n,X0b A.vars k (c++f),bx,ow⟩ h'
def Z0p(b:Bool)(X Y:Prop):Prop:=(b=true->X)/\(b=false->Y)
def ev(P:Program):Code->(Ex->St->Hp->Prop)->St->Hp->Prop
 | .skip,Q,st,h=>Q .normal st h
 | .region _ ops false,Q,st,h=>match g0s P ops.toList with
  |true=>E03 st.n ops.toList=true/\evU P ops.toList 0 [] [] st h λst h=>Q .normal st h
  |false=>h0d P ops.toList 0 ⟨st,h,[],[]⟩ λrs=>Q .normal rs.st rs.h
 | .region _ ops true,Q,st,h=>((P.follows .mixedOrders=true/\Region.lexB .any ops=true) /\
   evQ P ops.toList 0 ⟨st,h,[],[]⟩ λrs=>Q .normal rs.st rs.h) ∨
   False ∨
   (match R0p ops.toList with
    |none=>(P.follows .mixedOrders=true/\w02 st.n ops.toList=true)/\v03 P st h ops.toList 0 [] [] [] λL X E=>evD (A9 L st ops.toList) ops.size P X E L st h λst h=>Q .normal st h
    |some o=>(P.follows .mixedOrders=true/\(w02 st.n (W00 ops.toList)&&i0d ops.toList 0)=true)/\v03 P st h (W00 ops.toList) 0 [] [] [] λL X E=>evD (A9 L st (W00 ops.toList)) (W00 ops.toList).length P X E L st h λst h=>K03 P o st h λst h=>Q .normal st h) ∨
   ((P.follows .mixedOrders=true/\E03 st.n ops.toList=true)/\evU P ops.toList 0 [] [] st h λst h=>Q .normal st h) ∨
   (∃ m,(P.follows .mixedOrders=true/\okZ P st.n m ops.toList=true)/\evT P (K03 P) m ops.toList st h λst h=>Q .normal st h)
 | .seq a b,Q,st,h=>ev P a (λe st h=>match e with
  | .normal=>ev P b Q st h
  |e=>Q e st h) st h
 | .cond c t e,Q,st,h=>match rdO st c with
  | .val (.bool b)=>Z0p b (ev P t Q st h) (ev P e Q st h)
  |_=>False
 | .block id c,Q,st,h=>ev P c (λe st h=>match e with
  | .exit i=>match Nat.beq i id with
   |true=>Q .normal st h
   |false=>Q (.exit i) st h
  |e=>Q e st h) st h
 | .loop d,Q,st,h=>r0n (λQ=>ev P d Q) (J0g d []) Q st h
 | .exit id,Q,st,h=>Q (.exit id) st h
 | .ret,Q,st,h=>Q .ret st h
 |_,_,_,_=>False
def H0i(P:Program):List ResultVar->St->Hp->(List Value->St->Hp->Prop)->Prop
 | [],st,h,K=>K [] st h
 | .tmp t::r,st,h,K=>rfy (rdA st (G3 st.fr t)) st h λv st h=>H0i P r st h λvs st h=>K (v::vs) st h
 | .cell t ty::r,st,h,K=>match rdA st (G3 st.fr t)with
  | .box i off=>match nth st.bx i with
   |some (.live cs _)=>y04 P ty cs off λav=>rfy av st h λv st h=>H0i P r st h λvs st h=>K (v::vs) st h
   |_=>False
  |_=>False
def w0a:List Value->Value
 | [v]=>v
 |vs => .tuple vs.toArray
def x0a:Nat->List Value->List (Nat×AV)
 |_,[]=>[]
 |i,v::r=>(i,.val v)::x0a (i+1) r
def Q0t(P:Program)(fn:Func)(args:List Value)(h:Hp)(T:Value->Hp->Prop):Prop :=
 match fn.body with
 |some c=>match Nat.ble args.length fn.ntmps with
  |true=>ev P c (λe st h=>match e with
   | .exit _=>False
   |_=>H0i P fn.results.toList st h λvs _ h=>T (w0a vs) h) ⟨fn.ntmps,x0a 0 args,[],[]⟩ h
  |false=>False
 |none=>False
end Go.H
