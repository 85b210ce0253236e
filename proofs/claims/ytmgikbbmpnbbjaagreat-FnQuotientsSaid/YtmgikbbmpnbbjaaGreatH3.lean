/- Plain laws over the model: what a function's code asks: regions with guards, regions that draw their order, branches and loops. -/
import Derived.Test.YtmgikbbmpnbbjaaGreatH2
namespace Go.H
set_option linter.unusedVariables false
structure BE where
 j:Nat
 d:Nat
 e:Bool
 ch:List (Nat×Bool)
structure RS where
 st:St
 h:Hp
 gf:List (Nat×List (Nat×Bool)×AV)
 bs:List BE
def D0f:List (Nat×List (Nat×Bool)×AV)->Nat->Option (List (Nat×Bool)×AV)
 | [],_=>none
 |(k,x)::r,s=>match Nat.beq k s with
  |true=>some x
  |false=>D0f r s
def eqB(a b:Bool):Bool:=match a,b with
 |true,true=>true
 |false,false=>true
 |_,_=>false
def L0q:List (Nat×Bool)->List (Nat×Bool)->Bool
 | [],[]=>true
 |(j,w)::r,(a,c)::b=>match Nat.beq j a,eqB w c with
  |true,true=>L0q r b
  |_,_=>false
 |_,_=>false
def I0k(a:List (Nat×Bool)):List (Nat×Bool)->Bool
 | []=>L0q a []
 |x::r=>match L0q a (x::r)with
  |true=>true
  |false=>I0k a r
def rdG(rs:RS)(ch:List (Nat×Bool)):Operand->AV
 | .tmp t=>match D0f rs.gf t with
  |some (a,av)=>match I0k a ch with
   |true=>rdA rs.st av
   |false => .dead
  |none=>rdA rs.st (E3 rs.st.fr t)
 |x=>rdO rs.st x
def t03:List BE->Nat->Option BE
 | [],_=>none
 |b::r,j=>match Nat.beq b.j j with
  |true=>some b
  |false=>t03 r j
def J0b:List BE->Nat->Option BE
 | [],_=>none
 |b::r,s=>match Nat.beq b.d s with
  |true=>some b
  |false=>J0b r s
def lit(w e:Bool):Bool:=match w with
 |true=>e
 |false => !e
def cB(bs:List BE):List (Nat×Bool)->Option Bool
 | []=>some true
 |(j,w)::r=>match t03 bs j with
  |some b=>match r with
   | []=>some (lit w b.e)
   |_=>match cB bs r with
    |some c=>some (lit w b.e&&c)
    |none=>none
  |none=>none
def U00(bs:List BE):Option (Nat×Bool)->Option (List (Nat×Bool))
 |none=>some []
 |some (j,w)=>match t03 bs j with
  |some b=>some ((j,w)::b.ch)
  |none=>none
def imp(ch:List (Nat×Bool))(c:Bool)(X:Prop):Prop:=match ch with
 | []=>X
 |_=>c=true->X
def J0k(rs:RS)(ch:List (Nat×Bool)):List Operand->Option (List (Nat×Value))
 | []=>some []
 | .tmp t::r=>match G05 (rdG rs ch (.tmp t))with
  |some v=>match J0k rs ch r with
   |some vs=>some ((t,v)::vs)
   |none=>none
  |none=>none
 | .global _::_=>none
 |_::r=>J0k rs ch r
def L0s(rs:RS)(ch:List (Nat×Bool)):List Operand->St->Hp->(List (Nat×Value)->St->Hp->Prop)->Prop
 | [],st,h,K=>K [] st h
 | .tmp t::r,st,h,K=>rfy (rdA st (rdG rs ch (.tmp t))) st h λv st h=>L0s rs ch r st h λvs st h=>K ((t,v)::vs) st h
 | .global _::_,_,_,_=>False
 |_::r,st,h,K=>L0s rs ch r st h K
def w0j(P:Program)(o:Oper)(ch:List (Nat×Bool))(c:Bool)(rs:RS)(K:AV->Prop):Prop :=
 match F0b o.op,J0k rs ch o.op.operands.toList with
 |false,some vs=>match W08 (rho vs) o with
  |some (f,l)=>match okF P f with
   |true=>∃ v,imp ch c (Tr P f l.toArray rs.h λa h'=>a=v/\h'=rs.h)/\K (.val v)
   |false=>False
  |none=>match evP P (R0h (rho vs) o)with
   |some (.value v)=>K (.val v)
   |_=>False
 |false,none=>∃ r,imp ch c (L0s rs ch o.op.operands.toList rs.st rs.h λvs _ hf=>match W08 (rho vs) o with
  |some (f,l)=>match okF P f with
   |true=>Tr P f l.toArray hf λv h'=>v=r/\h'=hf
   |false=>False
  |none=>False)/\K (.val r)
 |_,_=>False
def evG(P:Program)(o:Oper)(ch:List (Nat×Bool))(c:Bool)(rs:RS)(K:AV->Prop):Prop :=
 match o.op with
 | .move x | .assign x=>match rdG rs ch x with
  | .dead=>False
  |a=>K a
 | .pick (.tmp d) a b=>match rdG rs ch (.tmp d),J0b rs.bs d with
  | .val (.bool e),some q=>match I0k q.ch ch with
   |true=>match rdG rs ((q.j,true)::q.ch) a,rdG rs ((q.j,false)::q.ch) b with
    | .val (.bool x),.val (.bool y)=>K (.val (.bool (cond e x y)))
    |_,_=>False
   |false=>False
  |_,_=>False
 | .fieldAddr t x k=>match rdG rs ch x,t0j P t k with
  | .box i off,some g=>K (.box i (off+g))
  | .hel d i sz k,some g=>K (.hel d i sz (k+g))
  | .oel i d j sz k,some g=>K (.oel i d j sz (k+g))
  |_,_=>False
 | .indexAddr t x i=>match rdG rs ch i with
  | .val (.int _ j)=>match J01 P t with
   |some e=>match i6 P e with
    |some sz=>match rdG rs ch x with
     | .val (.slice a n f)=>imp ch c (InB (.slice a n f) j)/\K (.hel (.slice a n f) j sz 0)
     | .own i k=>match nth rs.st.ow i with
      |some ⟨_,.live _ p _ _ xs⟩=>match Nat.beq p sz with
       |true=>imp ch c (0<=j/\j<(xs.length:Int))/\K (.oel i k j sz 0)
       |false=>False
      |_=>False
     |_=>False
    |none=>False
   |none=>False
  |_=>False
 | .load t x=>match rdG rs ch x with
  | .box i off=>match nth rs.st.bx i with
   |some (.live cs _)=>E05 P t cs off K
   |_=>False
  | .hel d idx sz k=>∃ e,imp ch c (J7 rs.h d sz idx e)/\E05 P t (vals e) k K
  | .oel i _ idx sz k=>match nth rs.st.ow i with
   |some ⟨_,.live _ p _ _ xs⟩=>match Nat.beq p sz with
    |true=>∃ e,imp ch c (xs[idx.toNat]?=some e)/\E05 P t (vals e) k K
    |false=>False
   |_=>False
  |_=>False
 | .build t ps=>match P.underlying t,u01 P t with
  |some (.struct u),some z=>match j07 P u.toList with
   |true=>Z08 P u (rdG rs ch) ps.toList (vals z.cells.toList) λcs=>K (.agg cs)
   |false=>False
  |_,_=>False
 | .index t x i=>match rdG rs ch x,rdG rs ch i,P.underlying t with
  | .val (.string d),.val (.int _ j),some .string=>∃ e,imp ch c (0<=j/\d[j.toNat]?=some e)/\K (.val (.int .u8 e.toNat))
  |_,_,_=>False
 | .slice t x lo hi none=>match rdG rs ch x,P.underlying t with
  | .val (.string d),some .string=>match t06 0 (lo.map (rdG rs ch)),t06 d.size (hi.map (rdG rs ch))with
   |some l,some m=>imp ch c (0<=l/\l<=m/\m<=(d.size:Int))/\K (.val (.string (d.extract l.toNat m.toNat)))
   |_,_=>False
  | .val (.slice w n f),_=>match J01 P t with
   |some e=>match i6 P e with
    |some sz=>match t06 0 (lo.map (rdG rs ch)),t06 n (hi.map (rdG rs ch))with
     |some l,some m=>∃ v,imp ch c ((0<=l/\l<=m/\m<=(n:Int)/\n<=f)/\X0m sz (.slice w n f) l.toNat m.toNat v)/\K (.val v)
     |_,_=>False
    |none=>False
   |none=>False
  |_,_=>False
 | .binOp .eql t x y yt=>match G05 (rdG rs ch x),G05 (rdG rs ch y)with
  |some (.agg xs),some (.agg s)=>∃ b,imp ch c (I0b P o x y (.agg xs) (.agg s) b)/\K (.val (.bool b))
  |some (.slice a n m),some (.slice none 0 0)=>∃ b,imp ch c (I0b P o x y (.slice a n m) (.slice none 0 0) b)/\K (.val (.bool b))
  |_,_=>w0j P o ch c rs K
 | .binOp .neq t x y yt=>match G05 (rdG rs ch x),G05 (rdG rs ch y)with
  |some (.agg xs),some (.agg s)=>∃ b,imp ch c (I0b P o x y (.agg xs) (.agg s) b)/\K (.val (.bool b))
  |_,_=>w0j P o ch c rs K
 | .binOp .add t x y yt=>match rdG rs ch x,rdG rs ch y with
  | .val (.string a),.val (.string b)=>imp ch c (a.size+b.size<=9223372036854775807)/\K (.val (.string (a++b)))
  |_,_=>w0j P o ch c rs K
 | .binOp .quo t x y yt=>match rdG rs ch x,rdG rs ch y with
  | .val (.int .i64 a),.val (.int .i64 b)=>imp ch c (b≠0)/\K (.val (.int .i64 (IntKind.i64.wrap (a.tdiv b))))
  |_,_=>w0j P o ch c rs K
 | .binOp .rem t x y yt=>match rdG rs ch x,rdG rs ch y with
  | .val (.int .i64 a),.val (.int .i64 b)=>imp ch c (b≠0)/\K (.val (.int .i64 (a.tmod b)))
  |_,_=>w0j P o ch c rs K
 | .call { callee := .builtin .len,args:=as,argTypes:=A }=>match as.toList,A.toList with
  | [x],[t]=>match rdG rs ch x with
   | .own i _=>match nth rs.st.ow i,J01 P t with
    |some ⟨_,.live _ _ _ _ xs⟩,some _=>K (.val (.int .i64 xs.length))
    |_,_=>False
   |_=>w0j P o ch c rs K
  |_,_=>False
 |_=>w0j P o ch c rs K
def b09(rs:RS)(d:Nat):Bool:=match D0f rs.gf d,J0b rs.bs d with
 |none,none=>false
 |_,_=>true
def K0k(i d:Nat)(ch:List (Nat×Bool))(av:AV)(bs:List BE):List BE:=match av with
 | .val (.bool e)=>⟨i,d,e,ch⟩::bs
 |_=>bs
def E0f(d:Option Tmp)(i:Nat)(ch:List (Nat×Bool))(av:AV)(rs:RS)(K:RS->Prop):Prop :=
 match d with
 |none=>K rs
 |some d=>match Nat.blt d rs.st.n,b09 rs d with
  |true,false=>match ch with
   | []=>K { rs with st := { rs.st with fr:=(d,av)::rs.st.fr },bs:=K0k i d ch av rs.bs }
   |_=>K { rs with st := { rs.st with fr:=(d,.dead)::rs.st.fr },gf:=(d,ch,av)::rs.gf,bs:=K0k i d ch av rs.bs }
  |_,_=>False
def Z0m:Op->Bool
 | .pick ..=>true
 |_=>false
def l0e(P:Program):List Oper->Nat->RS->(RS->Prop)->Prop
 | [],_,rs,K=>K rs
 |o::r,i,rs,K=>match o.guard,Z0m o.op with
  |none,false=>F8 P o rs.st rs.h λav st h=>E0f o.dst i [] av { rs with st:=st,h:=h } λrs=>l0e P r (i+1) rs K
  |_,_=>match U00 rs.bs o.guard with
   |some ch=>match cB rs.bs ch with
    |some c=>evG P o ch c rs λav=>E0f o.dst i ch av rs λrs=>l0e P r (i+1) rs K
    |none=>False
   |none=>False
def evQ(P:Program):List Oper->Nat->RS->(RS->Prop)->Prop
 | [],_,rs,K=>K rs
 |o::r,i,rs,K=>match U00 rs.bs o.guard with
  |some ch=>match cB rs.bs ch with
   |some c=>evG P o ch c rs λav=>E0f o.dst i ch av rs λrs=>evQ P r (i+1) rs K
   |none=>False
  |none=>False
def Sub(h h':Hp):Prop:=∀ b o,h b=some o->h' b=some o
def M0q(v:Value)(K:Value->Prop):Prop:=match v with
 | .bool b=>K (.bool b)
 | .int k n=>K (.int k n)
 | .string s=>K (.string s)
 | .pointer a=>K (.pointer a)
 | .slice a n c=>K (.slice a n c)
 | .func f x y=>K (.func f x y)
 | .agg cs=>K (.agg cs)
 | .tuple vs=>K (.tuple vs)
 |v=>K v
theorem G0p(v:Value)(K:Value->Prop):M0q v K=K v:=by cases v<;>rfl
def G8{a:Type}:List a->(List a->Prop)->Prop
 | [],K=>K []
 |x::r,K=>G8 r λr=>K (x::r)
theorem J02{a:Type}:∀(l:List a) (K:List a->Prop),G8 l K=K l
 | [],K=>rfl
 |x::r,K=>by simp only[G8,J02 r]
def H05:Nat->(Nat->Prop)->Prop
 |0,K=>K 0
 |n+1,K=>H05 n λm=>K (m+1)
theorem c09:∀(n:Nat) (K:Nat->Prop),H05 n K=K n
 |0,K=>rfl
 |n+1,K=>by simp only[H05,c09 n]
def N01(av:AV)(K:AV->Prop):Prop:=match av with
 | .val v=>M0q v λv=>K (.val v)
 | .own i k=>K (.own i k)
 | .box i k=>K (.box i k)
 | .hel s i z k=>H05 z λz=>H05 k λk=>K (.hel s i z k)
 | .oel j s i z k=>H05 z λz=>H05 k λk=>K (.oel j s i z k)
 | .agg cs=>G8 cs λcs=>K (.agg cs)
 | .dead=>K .dead
theorem u03(av:AV)(K:AV->Prop):N01 av K=K av:=by
 cases av with
 |val v=>exact G0p v (λv=>K (.val v))
 |hel s i z k=>simp only[N01,c09]
 |oel j s i z k=>simp only[N01,c09]
 |agg cs=>simp only[N01,J02]
 |_=>rfl
inductive C6 where
 |pu (av:AV)
 |ef (F:Value->Hp->Prop)
def Q3:List (Nat×C6)->Nat->Option C6
 | [],_=>none
 |(k,x)::r,s=>match Nat.beq k s with
  |true=>some x
  |false=>Q3 r s
def rdS(L:List (Nat×C6))(st:St):Operand->AV
 | .tmp t=>match Q3 L t with
  |some (.pu av)=>rdA st av
  |some (.ef _) => .dead
  |none=>rdA st (E3 st.fr t)
 |x=>rdO st x
def F0f(P:Program)(t:TypeId)(cs:List P5)(off:Nat):Option AV :=
 match s0j P t with
 |some true=>match i6 P t with
  |some n=>match R07 ((cs.drop off).take n) n with
   |true=>some (.agg ((cs.drop off).take n))
   |false=>none
  |none=>none
 |some false=>match nth cs off with
  |some c=>some (ofCell c)
  |none=>none
 |none=>none
def a0n(P:Program)(L:List (Nat×C6))(o:Oper)(st:St):Option AV:=match o.op with
 | .move x | .assign x=>match rdS L st x with
  | .dead=>none
  |a=>some a
 | .load t x=>match rdS L st x with
  | .box i off=>match nth st.bx i with
   |some (.live cs _)=>F0f P t cs off
   |_=>none
  |_=>none
 |_=>none
def G0f(L:List (Nat×C6))(st:St)(h:Hp):List Operand->List (Nat×AV)->(List (Nat×AV)->Prop)->Prop
 | [],acc,K=>K acc
 | .tmp t::r,acc,K=>match Q3 L t with
  |some (.pu av)=>G0f L st h r ((t,av)::acc) K
  |some (.ef F)=>∀ v,F v h->G0f L st h r ((t,.val v)::acc) K
  |none=>G0f L st h r ((t,E3 st.fr t)::acc) K
 |_::r,acc,K=>G0f L st h r acc K
def S07(d:Option Tmp)(f:C6)(L:List (Nat×C6)):List (Nat×C6):=match d with
 |some d=>(d,f)::L
 |none=>L
def U0u(st:St)(h:Hp)(F:Value->Hp->Prop):AV->St->Hp->Prop
 | .val v,st',h'=>st'=st/\Sub h h'/\F v h'
 |_,_,_=>False
def w8(i:Nat)(o:Oper):Bool:=o.after.toList.any λe=>Region.binds .any e&&Nat.beq e.on i
def K02(o:Oper)(t:Nat):List Oper->Nat->Bool
 | [],_=>true
 |x::r,i=>match x.dst with
  |some d=>match Nat.beq d t with
   |true=>w8 i o&&K02 o t r (i+1)
   |false=>K02 o t r (i+1)
  |none=>K02 o t r (i+1)
def K0b(o:Oper)(ops:List Oper):List Operand->Bool
 | []=>true
 | .tmp t::r=>K02 o t ops 0&&K0b o ops r
 |_::r=>K0b o ops r
def d09(d:Nat):List Oper->Bool
 | []=>true
 |o::r=>match o.dst with
  |some a => !Nat.beq d a&&d09 d r
  |none=>d09 d r
def L0k(n:Nat):List Oper->Bool
 | []=>true
 |o::r=>match o.dst with
  |some d=>Nat.blt d n&&d09 d r&&L0k n r
  |none=>L0k n r
def m0e:List Oper->Nat->Bool
 | [],_=>true
 |o::r,j=>(o.after.toList.all λe => !Region.binds .any e || Nat.blt e.on j)&&m0e r (j+1)
def o0o(ops:List Oper):List Oper->Bool
 | []=>true
 |o::r=>K0b o ops o.op.operands.toList&&o0o ops r
def f03(n:Nat)(ops:List Oper):Bool:=L0k n ops&&m0e ops 0&&o0o ops ops
def p0o:List P5->Bool
 | []=>true
 | .val _::r=>p0o r
 | .own _ _::_=>false
def x0j:AV->Bool
 | .val _=>true
 | .box _ _=>true
 | .own _ _=>true
 | .agg cs=>p0o cs
 |_=>false
def T06(L:List (Nat×C6))(st:St):Operand->AV
 | .tmp t=>match Q3 L t with
  |some (.pu av)=>av
  |some (.ef _) => .dead
  |none=>E3 st.fr t
 | .const v => .val v
 |_ => .dead
def n0e(L:List (Nat×C6))(st:St):List Operand->Option (List (Nat×Value))
 | []=>some []
 | .tmp t::r=>match T06 L st (.tmp t)with
  | .val v=>match n0e L st r with
   |some vs=>some ((t,v)::vs)
   |none=>none
  |_=>none
 | .global _::_=>none
 |_::r=>n0e L st r
def b0n(P:Program)(L:List (Nat×C6))(o:Oper)(st:St):Option AV:=match F0b o.op,n0e L st o.op.operands.toList with
 |false,some vs=>match W08 (rho vs) o with
  |some _=>none
  |none=>match evP P (R0h (rho vs) o)with
   |some (.value v)=>some (.val v)
   |_=>none
 |_,_=>none
def V0u:AV->Bool
 | .val (.int _ _)=>true
 |_=>false
def r0v:BinOp->Bool
 | .lss=>true
 | .leq=>true
 | .gtr=>true
 | .geq=>true
 | .eql=>true
 | .neq=>true
 | .add=>true
 | .sub=>true
 | .mul=>true
 |_=>false
def u0a(P:Program)(L:List (Nat×C6))(o:Oper)(st:St):Option AV:=match o.op with
 | .move x=>match x0j (T06 L st x)with
  |true=>some (T06 L st x)
  |false=>none
 | .assign x=>match x0j (T06 L st x)with
  |true=>some (T06 L st x)
  |false=>none
 | .load t x=>match T06 L st x with
  | .box i off=>match nth st.bx i with
   |some (.live cs _)=>match F0f P t cs off with
    |some av=>match x0j av with
     |true=>some av
     |false=>none
    |none=>none
   |_=>none
  |_=>none
 | .fieldAddr t x k=>match T06 L st x,t0j P t k with
  | .box i off,some a=>some (.box i (off+a))
  |_,_=>none
 | .binOp op _ x y _=>match r0v op,V0u (T06 L st x),V0u (T06 L st y)with
  |true,true,true=>b0n P L o st
  |_,_,_=>none
 | .call { callee := .builtin .len,args:=as,argTypes:=_ }=>match as.toList with
  | [x]=>match T06 L st x with
   | .val (.slice _ _ _)=>b0n P L o st
   |_=>none
  |_=>none
 |_=>none
def i00(L:List (Nat×C6))(st:St):List Oper->List Nat
 | []=>[]
 |o::r=>match o.op with
  | .load _ x=>match T06 L st x with
   | .box i _=>i::i00 L st r
   |_=>i00 L st r
  |_=>i00 L st r
def v0a(bx:List BSt):List Nat->List (Option BSt)
 | []=>[]
 |i::r=>nth bx i::v0a bx r
def h05(L:List (Nat×C6))(a:List (Nat×AV)):List Operand->List (Nat×AV)->(List (Nat×AV)->Prop)->Prop
 | [],acc,K=>K acc
 | .tmp t::r,acc,K=>match Q3 L t with
  |some (.pu av)=>h05 L a r ((t,av)::acc) K
  |some (.ef _)=>h05 L a r ((t,.dead)::acc) K
  |none=>h05 L a r ((t,E3 a t)::acc) K
 |_::r,acc,K=>h05 L a r acc K
def M0k:List (Nat×C6)->List (Nat×AV)->List (Nat×AV)
 | [],fr=>fr
 |(d,.pu av)::r,fr=>(d,av)::M0k r fr
 |(d,.ef _)::r,fr=>(d,.dead)::M0k r fr
def q0o(av:AV)(st:St)(h:Hp):AV->St->Hp->Prop:=λa st' h'=>a=av/\st'=st/\h'=h
def N0k(P:Program)(st:St)(h:Hp)(L:List (Nat×C6))(o:Oper)(av:AV):Prop :=
 match st with
 |⟨n,fr,bx,ow⟩=>∀ h',Sub h h'->h05 L fr o.op.operands.toList [] λfr=>F8 P o ⟨n,fr,bx,ow⟩ h' (q0o av ⟨n,fr,bx,ow⟩ h')
def m04(P:Program)(st:St)(h:Hp):List Oper->Nat->List (Nat×C6)->List (Nat×Oper)->List (Nat×Oper)->(List (Nat×C6)->List (Nat×Oper)->List (Nat×Oper)->Prop)->Prop
 | [],_,L,X,E,K=>K L X E
 |o::r,i,L,X,E,K=>match o.guard with
  |some _=>False
  |none=>match u0a P L o st with
   |some av=>N01 av λav=>m04 P st h r (i+1) (S07 o.dst (.pu av) L) X E K
   |none=>(∃ av,N0k P st h L o av/\N01 av λav=>m04 P st h r (i+1) (S07 o.dst (.pu av) L) (X ++ [(i,o)]) E K) ∨
     m04 P st h r (i+1) (S07 o.dst (.ef λ_ _=>True) L) X (E ++ [(i,o)]) K
def y0j(X:List (Nat×Oper)):Nat->Nat->Oper->Bool
 |0,i,q=>w8 i q
 |n+1,i,q=>w8 i q || X.any λy=>w8 y.1 q&&y0j X n i y.2
def H0f(X Y:List (Nat×Oper)):List (Nat×Oper)->Bool
 | []=>true
 |(_,q)::_=>X.all λx=>y0j Y 8 x.1 q
def I05:List (Nat×Oper)->Bool
 |(i,o)::(j,a)::r=>w8 i a&&I05 ((j,a)::r)
 |_=>true
def e09:Nat->Nat->Oper->Bool
 |0,_,_=>true
 |k+1,i,o=>(Nat.beq k i || w8 k o)&&e09 k i o
def f09(d:Nat):List Operand->Bool
 | []=>false
 | .tmp t::r=>Nat.beq t d || f09 d r
 |_::r=>f09 d r
def I0f(d:Nat):List Oper->Bool
 | []=>false
 |o::r=>f09 d o.op.operands.toList || I0f d r
def K01:List Oper->List Oper
 | []=>[]
 |o::r=>match r with
  | []=>[]
  |_::_=>o::K01 r
def J0f:List Oper->Option Oper
 | []=>none
 |o::r=>match r with
  | []=>some o
  |_::_=>J0f r
def N0q(ops:List Oper):Option Oper:=match J0f ops with
 |some o=>match o.guard,o.dst with
  |none,some d=>match I0f d (K01 ops)&&e09 (K01 ops).length (K01 ops).length o with
   |true=>some o
   |false=>none
  |_,_=>none
 |none=>none
def J04(P:Program)(o:Oper)(st:St)(h:Hp)(K:St->Hp->Prop):Prop :=
 F8 P o st h λav st h=>E0f o.dst 0 [] av ⟨st,h,[],[]⟩ λrs=>K rs.st rs.h
def inK(k:Nat):List Nat->Bool
 | []=>false
 |x::r=>Nat.beq k x || inK k r
def g09(es:List Nat):Nat->Nat->Oper->Bool
 |0,_,_=>true
 |k+1,i,o=>((Nat.beq k i || w8 k o) || inK k es)&&g09 es k i o
def l0a:List (Nat×Oper)->List Nat
 | []=>[]
 |x::r=>x.1::l0a r
def L0b(N:Nat×List Nat)(i:Nat)(o:Oper):Bool:=g09 N.2 N.1 i o
def S0h(c:Nat)(b:Bool)(rd:List Nat)(bx a:List BSt):Prop:=match b with
 |true=>True
 |false=>match c with
  |0=>v0a a rd=v0a bx rd
  |_+1=>a=bx
def c0d:Nat->List Own->List Own->Hp->Hp->Prop
 |0,_,_,_,_=>True
 |_+1,ow,a,h,h'=>a=ow/\Sub h h'
def evC(rd:List Nat)(d:Nat×List Nat)(P:Program):Nat->List (Nat×Oper)->List (Nat×C6)->St->Hp->(St->Hp->Prop)->Prop
 |_,[],L,⟨n,fr,bx,ow⟩,h,K=>G8 (M0k L fr) λfr=>K ⟨n,fr,bx,ow⟩ h
 |c,(i,o)::r,L,⟨n,fr,bx,ow⟩,h,K=>h05 L fr o.op.operands.toList [] λe=>F8 P o ⟨n,e,bx,ow⟩ h λav st' h'=>match st' with
  |⟨_,_,a,b⟩=>c0d c ow b h h'/\S0h c (L0b d i o) rd bx a/\N01 av λav=>G8 a λa=>G8 b λb=>evC rd d P (c-1) r (S07 o.dst (.pu av) L) ⟨n,fr,a,b⟩ h' K
def M0s(f:Nat×Oper)(rd:List Nat)(a:Nat×List Nat)(P:Program):Nat->List (Nat×Oper)->List (Nat×C6)->St->Hp->(St->Hp->Prop)->Prop
 |0,E,L,st,h,K=>evC rd a P 0 (f::E) L st h K
 |p+1,E,L,st,h,K=>evC rd a P 0 (f::E) L st h K/\match E with
  | []=>False
  |(i,o)::r=>match st with
   |⟨n,fr,bx,ow⟩=>h05 L fr o.op.operands.toList [] λd=>F8 P o ⟨n,d,bx,ow⟩ h λav st' h'=>match st' with
    |⟨_,_,b,c⟩=>c0d 0 ow c h h'/\S0h 0 (L0b a i o) rd bx b/\N01 av λav=>G8 b λb=>G8 c λc=>M0s f rd a P p r (S07 o.dst (.pu av) L) ⟨n,fr,b,c⟩ h' K
def H0p(f:Nat×Oper):Nat->List (Nat×Oper)->Bool
 |_,[]=>false
 |0,(_,q)::_=>w8 f.1 q
 |p+1,_::r=>H0p f p r
def T0h:Nat->List (Nat×Oper)->Option ((Nat×Oper)×List (Nat×Oper))
 |_,[]=>none
 |0,x::r=>some (x,r)
 |k+1,x::r=>match T0h k r with
  |some (f,a)=>some (f,x::a)
  |none=>none
def noX:List (Nat×Oper)->Bool
 | []=>true
 |_::_=>false
def d0d:List (Nat×Oper)->List (Nat×Oper)->List ((Nat×Oper)×List (Nat×Oper))
 |_,[]=>[]
 |A,x::B=>(x,A++B)::d0d (A ++ [x]) B
def z0j(x:Nat×Oper):List (Nat×Oper)->Bool
 | []=>true
 |y::r => !w8 y.1 x.2&&z0j x r
def c0n(f:(Nat×Oper)->List (Nat×Oper)->Prop):List ((Nat×Oper)×List (Nat×Oper))->Prop
 | []=>True
 |p::l=>match z0j p.1 p.2 with
  |true=>f p.1 p.2/\c0n f l
  |false=>c0n f l
def O0k(rd:List Nat)(c:Nat×List Nat)(P:Program):Nat->List (Nat×Oper)->List (Nat×C6)->St->Hp->(St->Hp->Prop)->Prop
 |0,_,L,⟨n,fr,bx,ow⟩,h,K=>G8 (M0k L fr) λfr=>K ⟨n,fr,bx,ow⟩ h
 |m+1,E,L,⟨n,fr,bx,ow⟩,h,K=>c0n (λx r=>h05 L fr x.2.op.operands.toList [] λd=>F8 P x.2 ⟨n,d,bx,ow⟩ h λav st' h'=>match st' with
  |⟨_,_,a,b⟩=>c0d 0 ow b h h'/\S0h 0 (L0b c x.1 x.2) rd bx a/\N01 av λav=>G8 a λa=>G8 b λb=>O0k rd c P m r (S07 x.2.dst (.pu av) L) ⟨n,fr,a,b⟩ h' K) (d0d [] E)
def C0h:List (Nat×Oper)->Nat
 | []=>0
 |_::r=>C0h r+1
def evD(rd:List Nat)(N:Nat)(P:Program)(X E:List (Nat×Oper))(L:List (Nat×C6))(st:St)(h:Hp)(K:St->Hp->Prop):Prop :=
 (∃ c,(I05 E=true/\H0f X (X++E) (E.drop c)=true)/\evC rd (N,l0a E) P c E L st h K) ∨
 (∃ k p,match T0h k E with
  |some (f,E')=>(noX X=true/\I05 E'=true/\H0p f p E'=true)/\M0s f rd (N,l0a E) P p E' L st h K
  |none=>noX X=true/\O0k rd (N,l0a E) P (C0h E) E L st h K)
abbrev FL:=List (Nat×List (Nat×Bool)×C6)
def f04:FL->Nat->Option (List (Nat×Bool)×C6)
 | [],_=>none
 |(k,x)::r,s=>match Nat.beq k s with
  |true=>some x
  |false=>f04 r s
def rdU(L:FL)(st:St)(ch:List (Nat×Bool)):Operand->AV
 | .tmp t=>match f04 L t with
  |some (a,.pu av)=>match I0k a ch with
   |true=>rdA st av
   |false => .dead
  |some (_,.ef _) => .dead
  |none=>rdA st (E3 st.fr t)
 |x=>rdO st x
def w0a(P:Program)(L:FL)(bs:List BE)(ch:List (Nat×Bool))(o:Oper)(st:St):Option AV:=match o.op with
 | .move x | .assign x=>match rdU L st ch x with
  | .dead=>none
  |a=>some a
 | .load t x=>match rdU L st ch x with
  | .box i off=>match nth st.bx i with
   |some (.live cs _)=>F0f P t cs off
   |_=>none
  |_=>none
 | .fieldAddr t x k=>match rdU L st ch x,t0j P t k with
  | .box i off,some d=>some (.box i (off+d))
  | .hel c i sz k,some d=>some (.hel c i sz (k+d))
  |_,_=>none
 | .pick (.tmp c) a b=>match rdU L st ch (.tmp c),J0b bs c with
  | .val (.bool e),some q=>match I0k q.ch ch with
   |true=>match rdU L st ((q.j,true)::q.ch) a,rdU L st ((q.j,false)::q.ch) b with
    | .val (.bool x),.val (.bool y)=>some (.val (.bool (cond e x y)))
    |_,_=>none
   |false=>none
  |_,_=>none
 |_=>none
def G08(L:FL)(st:St)(h:Hp)(ch:List (Nat×Bool)):List Operand->List (Nat×AV)->(List (Nat×AV)->Prop)->Prop
 | [],acc,K=>K acc
 | .tmp t::r,acc,K=>match f04 L t with
  |some (a,f)=>match I0k a ch with
   |true=>match f with
    | .pu av=>G08 L st h ch r ((t,av)::acc) K
    | .ef F=>∀ v,F v h->G08 L st h ch r ((t,.val v)::acc) K
   |false=>False
  |none=>G08 L st h ch r ((t,E3 st.fr t)::acc) K
 |_::r,acc,K=>G08 L st h ch r acc K
def D0h(h:Hp):FL->List (Nat×AV)->(List (Nat×AV)->Prop)->Prop
 | [],fr,K=>K fr
 |(d,[],.pu av)::r,fr,K=>D0h h r ((d,av)::fr) K
 |(d,[],.ef F)::r,fr,K=>∀ v,F v h->D0h h r ((d,.val v)::fr) K
 |(d,_::_,_)::r,fr,K=>D0h h r ((d,.dead)::fr) K
def A0j(d:Option Tmp)(ch:List (Nat×Bool))(f:C6)(L:FL):FL:=match d with
 |some d=>(d,ch,f)::L
 |none=>L
def B0j(i:Nat)(d:Option Tmp)(ch:List (Nat×Bool))(av:AV)(bs:List BE):List BE:=match d with
 |some d=>match av with
  | .val (.bool e)=>⟨i,d,e,ch⟩::bs
  |_=>bs
 |none=>bs
def d0n(st st':St):Prop:=st'.n=st.n/\st'.fr=st.fr/\st'.bx=st.bx/\∃ t,st'.ow=st.ow++t
def O0q(st:St)(h:Hp)(F:Value->Hp->Prop):AV->St->Hp->Prop:=λav st' h'=>rfy av st' h' λv b a=>d0n st b/\Sub h a/\F v a
def P0q(P:Program)(t n:Nat)(st:St)(h:Hp)(K:AV->St->Hp->Prop):Prop :=
 match J01 P t with
 |some e=>match i6 P e,Nat.beq n 0 with
  |some (_+1),true=>∀ g,h g=none->K (.val (.slice (some ⟨g,0,none⟩) 0 0)) st (h.set g (.cells #[] e (0,0)))
  |_,_=>False
 |none=>False
def Q0q(P:Program)(t:TypeId)(a b:Operand)(st:St)(h:Hp)(K:AV->St->Hp->Prop):Prop :=
 match J01 P t with
 |some e=>match i6 P e,R0a P e,u01 P e with
  |some (sz+1),some (by_+1),some z=>match R07 z.cells.toList (sz+1)with
   |true=>match rdO st a with
    | .val (.slice (some ⟨g,o,none⟩) 0 0)=>B0f st h (sz+1) (rdO st b) λc=>k07 c.length (by_+1) /\
      ((c = []->K (.val (.slice (some ⟨g,o,none⟩) 0 0)) st h)/\∀ v h',W0 h h' v e (sz+1) true c->K (.val v) st h')
    |_=>False
   |false=>False
  |_,_,_=>False
 |none=>False
def P0k(P:Program)(o:Oper)(st:St)(h:Hp)(K:AV->St->Hp->Prop):Prop :=
 match o.op with
 | .buildSlice t n ps=>match ps.toList with
  | []=>P0q P t n st h K
  |_::_=>F8 P o st h K
 | .call { callee := .builtin .append,args:=as,argTypes:=d }=>match as.toList,d.toList with
  | [a,b],[t,c]=>match Nat.beq t c with
   |true=>Q0q P t a b st h K
   |false=>False
  |_,_=>False
 |_=>F8 P o st h K
def evU(P:Program)(l:List Oper):Nat->FL->List BE->St->Hp->(St->Hp->Prop)->Prop :=
  List.rec (motive:=λ_=>Nat->FL->List BE->St->Hp->(St->Hp->Prop)->Prop)
    (λ_ L _ st h K=>match st with
      |⟨n,fr,bx,ow⟩=>∀ h',Sub h h'->D0h h' L fr λfr=>K ⟨n,fr,bx,ow⟩ h')
    (λo _ a i L bs st h K=>match st with
      |⟨n,fr,bx,ow⟩=>match U00 bs o.guard with
        |some ch=>match cB bs ch with
          |some c=>match w0a P L bs ch o ⟨n,fr,bx,ow⟩with
            |some av=>N01 av λav=>a (i+1) (A0j o.dst ch (.pu av) L) (B0j i o.dst ch av bs) ⟨n,fr,bx,ow⟩ h K
            |none=>(∃ av,(∀ h',Sub h h'->imp ch c (G08 L ⟨n,fr,bx,ow⟩ h' ch o.op.operands.toList [] λfr=>F8 P o ⟨n,fr,bx,ow⟩ h' (q0o av ⟨n,fr,bx,ow⟩ h'))) /\
                  N01 av λav=>a (i+1) (A0j o.dst ch (.pu av) L) (B0j i o.dst ch av bs) ⟨n,fr,bx,ow⟩ h K) ∨
                (∃ F:Value->Hp->Prop,(∀ v b d,Sub b d->F v b->F v d) /\
                  (∀ h',Sub h h'->imp ch c (G08 L ⟨n,fr,bx,ow⟩ h' ch o.op.operands.toList [] λfr=>P0k P o ⟨n,fr,bx,ow⟩ h' (O0q ⟨n,fr,bx,ow⟩ h' F))) /\
                  a (i+1) (A0j o.dst ch (.ef F) L) bs ⟨n,fr,bx,ow⟩ h K)
          |none=>False
        |none=>False) l
def o0f:List Oper->Bool
 | []=>true
 |o::r=>(match o.guard with
  |some (j,_)=>w8 j o
  |none=>true)&&o0f r
def y04(n:Nat)(ops:List Oper):Bool:=f03 n ops&&o0f ops
def N0s(P:Program):List Oper->Bool
 | []=>false
 |o::r=>(match o.guard,o.op with
  |some _,.call { callee := .value _,args:=_,argTypes:=_ }=>match P.underlying o.type with
   |some (.slice _)=>true
   |some (.struct _)=>true
   |some (.tuple _)=>true
   |_=>false
  |_,_=>false) || N0s P r
def J05(o:Oper):Bool:=match o.op with
 | .alloc _=>true
 |_=>false
def h01(o:Oper):Oper:=match o.op with
 | .alloc _ => { o with op := .move (.const undef) }
 |_=>o
def j6:List Oper->List Oper
 | []=>[]
 |o::r=>h01 o::j6 r
def okA(P:Program)(all:List Oper):List Oper->Bool
 | []=>true
 |o::r=>(match o.op with
  | .alloc t=>(match o.guard,o.dst,u01 P t with
   |none,some d,some _ => !I0f d all
   |_,_,_=>false)
  |_=>true)&&okA P all r
def e0n(x:Nat):List Nat->Bool
 | []=>false
 |y::r=>Nat.beq x y || e0n x r
def O0s(ops:List Oper)(i:Nat):List Nat->Bool
 | []=>false
 |j::r=>(match nth ops j with
  |some o=>w8 i o
  |none=>false) || O0s ops i r
def U0h(ops:List Oper):Nat->List Nat->List Nat
 |0,acc=>acc
 |i+1,acc=>match O0s ops i acc with
  |true=>U0h ops i (i::acc)
  |false=>U0h ops i acc
def e0d:Operand->List Nat
 | .tmp t=>[t]
 |_=>[]
def x0a(o:Oper):Option (List Nat):=match o.guard with
 |some _=>none
 |none=>match o.op with
  | .extract x _=>some (e0d x)
  | .move x=>some (e0d x)
  | .assign x=>some (e0d x)
  | .pick c x y=>some (e0d c++(e0d x++e0d y))
  |_=>none
def y0a(d:Nat):List Oper->Bool
 | []=>false
 |o::r=>(match o.dst with
  |some e=>Nat.beq e d
  |none=>false) || y0a d r
def K05(a:List Nat)(t:Nat):List Oper->Nat->Bool
 | [],_=>true
 |o::r,i=>(match o.dst with
  |some e => !Nat.beq e t || e0n i a
  |none=>true)&&K05 a t r (i+1)
def m07(i d:Nat):List Oper->Bool
 | []=>true
 |o::r=>(!f09 d o.op.operands.toList || w8 i o)&&m07 i d r
def r0o(b c:List Oper)(a:List Nat):List Nat->Bool
 | []=>true
 |t::r=>(!y0a t c&&K05 a t b 0)&&r0o b c a r
def s0o(c a:List Oper)(b:List Nat)(i:Nat)(o:Oper):Bool:=match x0a o,o.dst with
 |some e,some d => !y0a d a&&r0o c a b e&&m07 i d a
 |_,_=>false
def p0f(b c:List Oper)(a:List Nat):List Oper->Nat->Bool
 | [],_=>true
 |o::r,i=>(e0n i a || s0o b c a i o)&&p0f b c a r (i+1)
def Q0k:List Oper->Bool
 | []=>true
 |o::r => !F0b o.op&&Q0k r
def R0q:Nat->List Oper->Bool
 |_,[]=>true
 |k,o::r=>(match o.guard with
  |none=>true
  |some _=>false)&&(match r with
  | []=>true
  |o'::_=>w8 k o')&&R0q (k+1) r
def W0u:List Oper->Bool
 | []=>true
 |_::_=>false
def okZ(P:Program)(n m:Nat)(ops:List Oper):Bool :=
 y04 n (j6 (ops.take m))&&okA P (ops.take m) (ops.take m)&&m0e ops 0&&R0q m (ops.drop m)&&(W0u (ops.drop m) || (p0f (ops.take m) (ops.drop m) (U0h ops m [m]) (ops.take m) 0&&Q0k (ops.drop m)))
abbrev j0u:=Oper->St->Hp->(St->Hp->Prop)->Prop
def doA(R:j0u)(l:List Oper):St->Hp->(St->Hp->Prop)->Prop :=
 List.rec (motive:=λ_=>St->Hp->(St->Hp->Prop)->Prop) (λst h K=>K st h) (λo _ a st h K=>match J05 o with
  |true=>R o st h λst h=>a st h K
  |false=>a st h K) l
def doT(R:j0u)(l:List Oper):St->Hp->(St->Hp->Prop)->Prop :=
 List.rec (motive:=λ_=>St->Hp->(St->Hp->Prop)->Prop) (λst h K=>K st h) (λo _ a st h K=>R o st h λst h=>a st h K) l
def evT(P:Program)(R:j0u)(m:Nat)(ops:List Oper)(st:St)(h:Hp)(K:St->Hp->Prop):Prop :=
 evU P (j6 (ops.take m)) 0 [] [] st h λst h=>doA R (ops.take m) st h λst h=>doT R (ops.drop m) st h K
inductive Ex where
 |normal|ret
 |exit (i:Nat)
structure Ann where
 vars:List Nat
 boxes:List Nat
 owns:List Nat
 nils:List (Nat×Nat×Nat×Nat):=[]
 nilsB:List (Nat×Nat×Nat×Nat×Nat):=[]
 kept:List Nat:=[]
 fuel:Bool:=false
 pubs:List Nat:=[]
def R0k:List (Nat×Nat×Nat×Nat)->St->(St->Prop)->Prop
 | [],st,K=>K st
 |(s,e,sz,by_)::r,⟨n,fr,bx,ow⟩,K=>match rdA ⟨n,fr,bx,ow⟩ (E3 fr s),Nat.blt s n with
  | .val (.slice none 0 0),true=>U0m ow λk=>R0k r ⟨n,(s,.own k 0)::fr,bx,ow ++ [⟨0,.live e sz by_ false []⟩]⟩ K
  |_,_=>False
def K0f:List (Nat×Nat×Nat×Nat×Nat)->St->(St->Prop)->Prop
 | [],st,K=>K st
 |(i,k,e,sz,by_)::r,⟨n,fr,bx,ow⟩,K=>match nth bx i with
  |some (.live cs ty)=>match nth cs k with
   |some (.val (.slice none 0 0))=>U0m ow λj=>K0f r ⟨n,fr,n01 bx i (.live (n01 cs k (.own j 0)) ty),ow ++ [⟨0,.live e sz by_ false []⟩]⟩ K
   |_=>False
  |_=>False
def S0k:List Nat->St->Hp->(St->Hp->Prop)->Prop
 | [],st,h,K=>K st h
 |s::r,st,h,K=>rfy (rdA st (E3 st.fr s)) st h λv st h=>match st with
  |⟨n,fr,bx,ow⟩=>match Nat.blt s n with
   |true=>S0k r ⟨n,(s,.val v)::fr,bx,ow⟩ h K
   |false=>False
def m0a(x:Nat):List Nat->Bool
 | []=>false
 |y::r=>match Nat.beq x y with
  |true=>true
  |false=>m0a x r
def k0u:List Oper->List Nat->List Nat
 | [],acc=>acc
 |o::r,acc=>match o.dst with
  |some d=>k0u r (d::acc)
  |none=>k0u r acc
def E0h:Code->List Nat->List Nat
 | .region _ ops _,acc=>k0u ops.toList acc
 | .seq a b,acc=>E0h a (E0h b acc)
 | .cond _ a b,acc=>E0h a (E0h b acc)
 | .block _ a,acc=>E0h a acc
 | .loop a,acc=>E0h a acc
 | .scope a,acc=>E0h a acc
 |_,acc=>acc
def f0d:List Nat->(List Nat->Prop)->Prop
 | [],K=>K []
 |x::r,K=>f0d r λr=>K (x::r)
def P0s:List Nat->St->(List Value->Prop)->Prop
 | [],_,K=>K []
 |s::r,st,K=>match rdA st (E3 st.fr s)with
  | .val v=>P0s r st λvs=>K (v::vs)
  |_=>False
def T0k:List P5->St->(List Value->Prop)->Prop
 | [],_,K=>K []
 | .val v::r,st,K=>T0k r st λvs=>K (v::vs)
 | .own _ _::r,st,K=>T0k r st K
def L0f:List Nat->St->(List Value->Prop)->Prop
 | [],_,K=>K []
 |i::r,st,K=>match nth st.bx i with
  |some (.live cs _)=>T0k cs st λvs=>L0f r st λa=>K (vs++a)
  |_=>False
def V0h:List Nat->St->(List (List (List Value))->Prop)->Prop
 | [],_,K=>K []
 |i::r,st,K=>match nth st.ow i with
  |some ⟨_,.live _ _ _ _ xs⟩=>V0h r st λos=>K (xs::os)
  |_=>False
def f0n(A:Ann)(st:St)(K:List Value->List (List (List Value))->Prop):Prop :=
 P0s A.vars st λvs=>L0f A.boxes st λa=>V0h A.owns st λos=>K (vs++a) os
def z04:List P5->List Value->(List P5->List Value->Prop)->Prop
 | [],vs,K=>K [] vs
 | .val _::r,v::vs,K=>z04 r vs λcs a=>K (.val v::cs) a
 | .val _::_,[],_=>False
 | .own i k::r,vs,K=>z04 r vs λcs a=>K (.own i k::cs) a
def n07:List Nat->List Value->List BSt->(List BSt->Prop)->Prop
 | [],_,bx,K=>K bx
 |i::r,vs,bx,K=>match nth bx i with
  |some (.live cs ty)=>z04 cs vs λcs a=>n07 r a (n01 bx i (.live cs ty)) K
  |_=>False
def o07:List Nat->List (List (List Value))->List Own->(List Own->Prop)->Prop
 | [],_,ow,K=>K ow
 |i::r,xs::os,ow,K=>match nth ow i with
  |some ⟨s,.live e sz by_ nn _⟩=>o07 r os (n01 ow i ⟨s,.live e sz by_ nn xs⟩) K
  |_=>False
 |_::_,[],_,_=>False
def h09{c:Type}:Nat->List c->(List c->List c->Prop)->Prop
 |0,l,K=>K [] l
 |n+1,x::l,K=>h09 n l λa b=>K (x::a) b
 |_+1,[],_=>False
def headD(A:Ann)(st:St):List Nat->List (Nat×AV)->(List (Nat×AV)->Prop)->Prop
 | [],acc,K=>K acc
 |s::r,acc,K=>match m0a s A.vars with
  |true=>headD A st r acc K
  |false=>match rdA st (E3 st.fr s)with
   | .own i k=>headD A st r ((s,.own i k)::acc) K
   | .box i o=>headD A st r ((s,.box i o)::acc) K
   |_=>headD A st r ((s,.dead)::acc) K
def t0o:List P5->Bool
 | []=>true
 | .val _::r=>t0o r
 | .own _ _::_=>false
def p07(A:Ann)(ds:List Nat)(st:St):List (Nat×AV)->(List (Nat×AV)->Prop)->Prop
 | [],K=>K []
 |(s,av)::r,K=>match m0a s ds with
  |true=>p07 A ds st r K
  |false=>match rdA st av with
   | .own i k=>match m0a i A.owns,m0a i A.kept with
    |true,false=>p07 A (s::ds) st r λl=>K ((s,.dead)::l)
    |_,_=>p07 A (s::ds) st r λl=>K ((s,.own i k)::l)
   | .oel _ _ _ _ _=>p07 A (s::ds) st r λl=>K ((s,.dead)::l)
   | .agg cs=>match t0o cs with
    |true=>p07 A (s::ds) st r λl=>K ((s,.agg cs)::l)
    |false=>p07 A (s::ds) st r λl=>K ((s,.dead)::l)
   |a=>p07 A (s::ds) st r λl=>K ((s,a)::l)
def g0d:List Nat->List Value->List (Nat×AV)->List (Nat×AV)
 |s::r,v::vs,acc=>g0d r vs ((s,.val v)::acc)
 |_,_,acc=>acc
def o0e(b a:St):List (Nat×AV)->Bool
 | []=>true
 |(c,av)::r=>match av with
  | .own i _=>match rdA a (E3 a.fr c)with
   | .own j _=>match Nat.beq i j with
    |true=>o0e b a r
    |false=>false
   |_=>false
  | .box i o=>match rdA a (E3 a.fr c)with
   | .box j p=>match Nat.beq i j,Nat.beq o p with
    |true,true=>o0e b a r
    |_,_=>false
   |_=>false
  |_=>o0e b a r
def g0n:AV->Bool
 | .dead=>true
 |_=>false
def I0p:List (Nat×AV)->List AV
 | []=>[]
 |(_,av)::r=>match g0n av with
  |true=>I0p r
  |false=>av::I0p r
def W0h(fr:List (Nat×AV)):List (Nat×AV)->List AV
 | []=>[]
 |(s,av)::r=>match g0n av with
  |true=>W0h fr r
  |false=>E3 fr s::W0h fr r
def q07(c a:St):List P5->List P5->Bool
 | [],[]=>true
 | .val _::r,.val _::b=>q07 c a r b
 | .own i _::r,.own j d::b=>match Nat.beq i j,rdA a (.own j d)with
  |true,.own _ _=>q07 c a r b
  |_,_=>false
 |_,_=>false
def M0b(os:List Nat):List P5->Bool
 | []=>true
 | .val _::r=>M0b os r
 | .own i _::r=>match m0a i os with
  |true=>false
  |false=>M0b os r
def h0n(os:List Nat):BSt->Bool
 | .live cs _=>M0b os cs
 | .publ _=>true
def h0d(A:Ann)(c a:St):Nat->List BSt->List BSt->Prop
 |_,[],_=>True
 |i,b::r,d::e=>match m0a i A.boxes with
  |true=>match b,d with
   | .live cs ty,.live cs' f=>match Nat.beq ty f,q07 c a cs cs' with
    |true,true=>h0d A c a (i+1) r e
    |_,_=>False
   |_,_=>False
  |false=>match h0n A.owns b with
   |true=>d=b/\h0d A c a (i+1) r e
   |false=>False
 |_,_::_,[]=>False
def leB(a b:Bool):Bool:=match a with
 |true=>b
 |false=>true
def i0d(A:Ann):Nat->List Own->List Own->Prop
 |_,[],_=>True
 |i,b::r,a::c=>match m0a i A.owns with
  |true=>match b,a with
   |⟨h,.live e sz by_ nn _⟩,⟨j,.live f k d g _⟩=>match Nat.beq e f,Nat.beq sz k,Nat.beq by_ d,leB nn g,leB (m0a i A.kept) (Nat.beq h j)with
    |true,true,true,true,true=>i0d A (i+1) r c
    |_,_,_,_,_=>False
   |_,_=>False
  |false=>a=b/\i0d A (i+1) r c
 |_,_::_,[]=>False
def N0b:Nat->(List Value->Prop)->Prop
 |0,K=>K []
 |n+1,K=>∀ v,N0b n λvs=>K (v::vs)
def O0b:Nat->(List (List (List Value))->Prop)->Prop
 |0,K=>K []
 |n+1,K=>∀ xs,O0b n λos=>K (xs::os)
abbrev j0d:=List Value->List (List (List Value))->Hp->Prop
abbrev H08:=List Value->List (List (List Value))->Nat
def Q0s:List Value->List Value->Bool
 | [],[]=>true
 |_::r,_::a=>Q0s r a
 |_,_=>false
def U0k(A:Ann)(I:j0d)(vs:List Value)(os:List (List (List Value)))(h:Hp):Prop:=match A.fuel with
 |false=>I vs os h
 |true=>∃ m:Nat,I (.int .i64 m::vs) os h
def V0k(A:Ann)(I:j0d)(μ:H08)(vs:List Value)(os:List (List (List Value)))(X:Nat->Hp->Prop):Prop:=match A.fuel with
 |false=>∀ h',I vs os h'->X (μ vs os) h'
 |true=>∀(m:Nat) (h':Hp),I (.int .i64 m::vs) os h'->X m h'
def R0s(A:Ann)(a:j0d)(μ:H08)(m:Nat)(vs:List Value)(os:List (List (List Value)))(h:Hp):Prop:=match A.fuel with
 |false=>a vs os h/\μ vs os<m
 |true=>∃ b:Nat,a (.int .i64 b::vs) os h/\b<m
def atI(A:Ann)(I:j0d)(μ:H08)(m:Nat)(vs:List Value)(os:List (List (List Value)))(h:Hp):Prop:=match A.fuel with
 |false=>I vs os h/\m=μ vs os
 |true=>I (.int .i64 m::vs) os h
theorem S0q{A:Ann}{b:j0d}{μ:H08}{vs:List Value}{os:List (List (List Value))}{h:Hp}(a:U0k A b vs os h):∃ m,atI A b μ m vs os h:=by
 unfold U0k at a
 unfold atI
 cases hf:A.fuel with
 |false=>rw[hf]at a;exact⟨_,a,rfl⟩
 |true=>rw[hf]at a;exact a
theorem T0q{A:Ann}{c:j0d}{μ:H08}{vs:List Value}{os:List (List (List Value))}{X:Nat->Hp->Prop}(b:V0k A c μ vs os X){m:Nat}{h:Hp}(a:atI A c μ m vs os h):X m h:=by
 unfold V0k at b
 unfold atI at a
 cases hf:A.fuel with
 |false=>rw[hf]at b a;rw[a.2];exact b _ a.1
 |true=>rw[hf]at b a;exact b _ _ a
theorem S0s{A:Ann}{b:j0d}{μ:H08}{m:Nat}{vs:List Value}{os:List (List (List Value))}{h:Hp}(a:R0s A b μ m vs os h):∃ c,atI A b μ c vs os h/\c<m:=by
 unfold R0s at a
 unfold atI
 cases hf:A.fuel with
 |false=>rw[hf]at a;exact⟨_,⟨a.1,rfl⟩,a.2⟩
 |true=>rw[hf]at a;exact a
def U0q(A:Ann)(d b:List (Nat×AV))(a:St)(c:j0d)(μ:H08)(f:List Value)(m:Nat)(st:St)(h:Hp):Prop :=
 match Nat.beq st.n a.n,o0e a st d with
 |true,true=>W0h st.fr b=I0p b/\h0d A a st 0 a.bx st.bx/\i0d A 0 a.ow st.ow /\
   f0n A st λvs os=>match Q0s vs f with
    |true=>h09 A.vars.length vs λ_ e=>n07 A.boxes e a.bx λ_=>o07 A.owns os a.ow λ_=>R0s A c μ m vs os h
    |false=>False
 |_,_=>False
def u0o(i:(Ex->St->Hp->Prop)->St->Hp->Prop)(j:List Nat)(Q:Ex->St->Hp->Prop)(st:St)(h:Hp):Prop :=
 ∃(A:Ann) (b:j0d) (μ:H08),R0k A.nils st λst=>K0f A.nilsB st λst=>S0k A.pubs st h λst h=>f0n A st λg d=>U0k A b g d h /\
  f0d j λds=>headD A st ds [] λc=>p07 A ds st st.fr λf =>
   N0b g.length λvs=>O0b d.length λos=>V0k A b μ vs os λm h' =>
    h09 A.vars.length vs λk l=>n07 A.boxes l st.bx λbx=>o07 A.owns os st.ow λow =>
     i (λe st' a=>match e with
      | .normal=>S0k A.pubs st' a λst' a=>U0q A c f st b μ vs m st' a
      |e=>Q e st' a) ⟨st.n,g0d A.vars k (c++f),bx,ow⟩ h'
def V0q(b:Bool)(X Y:Prop):Prop:=(b=true->X)/\(b=false->Y)
def ev(P:Program):Code->(Ex->St->Hp->Prop)->St->Hp->Prop
 | .skip,Q,st,h=>Q .normal st h
 | .region _ ops false,Q,st,h=>match N0s P ops.toList with
  |true=>y04 st.n ops.toList=true/\evU P ops.toList 0 [] [] st h λst h=>Q .normal st h
  |false=>l0e P ops.toList 0 ⟨st,h,[],[]⟩ λrs=>Q .normal rs.st rs.h
 | .region _ ops true,Q,st,h=>((P.follows .mixedOrders=true/\Region.lexB .any ops=true) /\
   evQ P ops.toList 0 ⟨st,h,[],[]⟩ λrs=>Q .normal rs.st rs.h) ∨
   False ∨
   (match N0q ops.toList with
    |none=>(P.follows .mixedOrders=true/\f03 st.n ops.toList=true)/\m04 P st h ops.toList 0 [] [] [] λL X E=>evD (i00 L st ops.toList) ops.size P X E L st h λst h=>Q .normal st h
    |some o=>(P.follows .mixedOrders=true/\(f03 st.n (K01 ops.toList)&&m0e ops.toList 0)=true)/\m04 P st h (K01 ops.toList) 0 [] [] [] λL X E=>evD (i00 L st (K01 ops.toList)) (K01 ops.toList).length P X E L st h λst h=>J04 P o st h λst h=>Q .normal st h) ∨
   ((P.follows .mixedOrders=true/\y04 st.n ops.toList=true)/\evU P ops.toList 0 [] [] st h λst h=>Q .normal st h) ∨
   (∃ m,(P.follows .mixedOrders=true/\okZ P st.n m ops.toList=true)/\evT P (J04 P) m ops.toList st h λst h=>Q .normal st h)
 | .seq a b,Q,st,h=>ev P a (λe st h=>match e with
  | .normal=>ev P b Q st h
  |e=>Q e st h) st h
 | .cond c t e,Q,st,h=>match rdO st c with
  | .val (.bool b)=>V0q b (ev P t Q st h) (ev P e Q st h)
  |_=>False
 | .block id c,Q,st,h=>ev P c (λe st h=>match e with
  | .exit i=>match Nat.beq i id with
   |true=>Q .normal st h
   |false=>Q (.exit i) st h
  |e=>Q e st h) st h
 | .loop d,Q,st,h=>u0o (λQ=>ev P d Q) (E0h d []) Q st h
 | .exit id,Q,st,h=>Q (.exit id) st h
 | .ret,Q,st,h=>Q .ret st h
 |_,_,_,_=>False
def C0j(P:Program):List ResultVar->St->Hp->(List Value->St->Hp->Prop)->Prop
 | [],st,h,K=>K [] st h
 | .tmp t::r,st,h,K=>rfy (rdA st (E3 st.fr t)) st h λv st h=>C0j P r st h λvs st h=>K (v::vs) st h
 | .cell t ty::r,st,h,K=>match rdA st (E3 st.fr t)with
  | .box i off=>match nth st.bx i with
   |some (.live cs _)=>E05 P ty cs off λav=>rfy av st h λv st h=>C0j P r st h λvs st h=>K (v::vs) st h
   |_=>False
  |_=>False
def P0b:List Value->Value
 | [v]=>v
 |vs => .tuple vs.toArray
def Q0b:Nat->List Value->List (Nat×AV)
 |_,[]=>[]
 |i,v::r=>(i,.val v)::Q0b (i+1) r
def l0u(P:Program)(fn:Func)(args:List Value)(h:Hp)(T:Value->Hp->Prop):Prop :=
 match fn.body with
 |some c=>match Nat.ble args.length fn.ntmps with
  |true=>ev P c (λe st h=>match e with
   | .exit _=>False
   |_=>C0j P fn.results.toList st h λvs _ h=>T (P0b vs) h) ⟨fn.ntmps,Q0b 0 args,[],[]⟩ h
  |false=>False
 |none=>False
end Go.H
