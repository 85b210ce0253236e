/- Plain laws over the model: what a function's code asks: regions with guards, regions that draw their order, branches and loops. -/
import Derived.Test.YthkpbcnhdhfifaaGreatH2
namespace Go.H
set_option linter.all false
structure BE where
 j:Nat
 d:Nat
 e:Bool
 ch:List (Nat×Bool)
structure RS where
 st:St
 h:Hp
 gf:List (Nat×List (Nat×Bool)×AV)
 bs:List BE
def T0j:List (Nat×List (Nat×Bool)×AV)->Nat->Option (List (Nat×Bool)×AV)
 | [],_=>none
 |(k,x)::r,s=>match Nat.beq k s with
  |true=>some x
  |false=>T0j r s
def eqB(a b:Bool):Bool:=match a,b with
 |true,true=>true
 |false,false=>true
 |_,_=>false
def s0w:List (Nat×Bool)->List (Nat×Bool)->Bool
 | [],[]=>true
 |(a,w)::r,(b,d)::c=>match Nat.beq a b,eqB w d with
  |true,true=>s0w r c
  |_,_=>false
 |_,_=>false
def E0p(a:List (Nat×Bool)):List (Nat×Bool)->Bool
 | []=>s0w a []
 |x::r=>match s0w a (x::r)with
  |true=>true
  |false=>E0p a r
def rdG(rs:RS)(ch:List (Nat×Bool)):Operand->AV
 | .tmp t=>match T0j rs.gf t with
  |some (a,av)=>match E0p a ch with
   |true=>rdA rs.st av
   |false => .dead
  |none=>rdA rs.st (K3 rs.st.fr t)
 |x=>rdO rs.st x
def r06:List BE->Nat->Option BE
 | [],_=>none
 |b::r,j=>match Nat.beq b.j j with
  |true=>some b
  |false=>r06 r j
def Z0f:List BE->Nat->Option BE
 | [],_=>none
 |b::r,s=>match Nat.beq b.d s with
  |true=>some b
  |false=>Z0f r s
def lit(w e:Bool):Bool:=match w with
 |true=>e
 |false => !e
def cB(bs:List BE):List (Nat×Bool)->Option Bool
 | []=>some true
 |(j,w)::r=>match r06 bs j with
  |some b=>match r with
   | []=>some (lit w b.e)
   |_=>match cB bs r with
    |some c=>some (lit w b.e&&c)
    |none=>none
  |none=>none
def m02(bs:List BE):Option (Nat×Bool)->Option (List (Nat×Bool))
 |none=>some []
 |some (j,w)=>match r06 bs j with
  |some b=>some ((j,w)::b.ch)
  |none=>none
def imp(ch:List (Nat×Bool))(c:Bool)(X:Prop):Prop:=match ch with
 | []=>X
 |_=>c=true->X
def F0p(rs:RS)(ch:List (Nat×Bool)):List Operand->Option (List (Nat×Value))
 | []=>some []
 | .tmp t::r=>match P08 (rdG rs ch (.tmp t))with
  |some v=>match F0p rs ch r with
   |some vs=>some ((t,v)::vs)
   |none=>none
  |none=>none
 | .global _::_=>none
 |_::r=>F0p rs ch r
def D0y(rs:RS)(ch:List (Nat×Bool)):List Operand->St->Hp->(List (Nat×Value)->St->Hp->Prop)->Prop
 | [],st,h,K=>K [] st h
 | .tmp t::r,st,h,K=>rfy (rdA st (rdG rs ch (.tmp t))) st h λv st h=>D0y rs ch r st h λvs st h=>K ((t,v)::vs) st h
 | .global _::_,_,_,_=>False
 |_::r,st,h,K=>D0y rs ch r st h K
def f0o(P:Program)(o:Oper)(ch:List (Nat×Bool))(c:Bool)(rs:RS)(K:AV->Prop):Prop :=
 match W0f o.op,F0p rs ch o.op.operands.toList with
 |false,some vs=>match l0c (rho vs) o with
  |some (f,l)=>match okF P f with
   |true=>∃ v,imp ch c (Tr P f l.toArray rs.h λa h'=>a=v/\h'=rs.h)/\K (.val v)
   |false=>False
  |none=>match evP P (w0m (rho vs) o)with
   |some (.value v)=>K (.val v)
   |_=>False
 |false,none=>∃ r,imp ch c (D0y rs ch o.op.operands.toList rs.st rs.h λvs _ hf=>match l0c (rho vs) o with
  |some (f,l)=>match okF P f with
   |true=>Tr P f l.toArray hf λv h'=>v=r/\h'=hf
   |false=>False
  |none=>False)/\K (.val r)
 |_,_=>False
def evG(P:Program)(o:Oper)(ch:List (Nat×Bool))(c:Bool)(rs:RS)(K:AV->Prop):Prop :=
 match o.op with
 | .move x | .assign x=>match rdG rs ch x with
  | .dead=>False
  |a=>K a
 | .pick (.tmp d) a b=>match rdG rs ch (.tmp d),Z0f rs.bs d with
  | .val (.bool e),some q=>match E0p q.ch ch with
   |true=>match rdG rs ((q.j,true)::q.ch) a,rdG rs ((q.j,false)::q.ch) b with
    | .val (.bool x),.val (.bool y)=>K (.val (.bool (cond e x y)))
    |_,_=>False
   |false=>False
  |_,_=>False
 | .fieldAddr t x k=>match rdG rs ch x,b0o P t k with
  | .box i off,some g=>K (.box i (off+g))
  | .hel d i sz k,some g=>K (.hel d i sz (k+g))
  | .oel i d f sz k,some g=>K (.oel i d f sz (k+g))
  |_,_=>False
 | .indexAddr t x i=>match rdG rs ch i with
  | .val (.int _ f)=>match f04 P t with
   |some e=>match J7 P e with
    |some sz=>match rdG rs ch x with
     | .val (.slice a n cp)=>imp ch c (InB (.slice a n cp) f)/\K (.hel (.slice a n cp) f sz 0)
     | .own i k=>match nth rs.st.ow i with
      |some ⟨_,.live _ p _ _ xs⟩=>match Nat.beq p sz with
       |true=>imp ch c (0<=f/\f<(xs.length:Int))/\K (.oel i k f sz 0)
       |false=>False
      |_=>False
     |_=>False
    |none=>False
   |none=>False
  |_=>False
 | .load t x=>match rdG rs ch x with
  | .box i off=>match nth rs.st.bx i with
   |some (.live cs _)=>N08 P t cs off K
   |_=>False
  | .hel d idx sz k=>∃ e,imp ch c (U8 rs.h d sz idx e)/\N08 P t (vals e) k K
  | .oel i _ idx sz k=>match nth rs.st.ow i with
   |some ⟨_,.live _ p _ _ xs⟩=>match Nat.beq p sz with
    |true=>∃ e,imp ch c (xs[idx.toNat]?=some e)/\N08 P t (vals e) k K
    |false=>False
   |_=>False
  |_=>False
 | .build t ps=>match P.underlying t,C03 P t with
  |some (.struct u),some z=>match r0a P u.toList with
   |true=>o0c P u (rdG rs ch) ps.toList (vals z.cells.toList) λcs=>K (.agg cs)
   |false=>False
  |_,_=>False
 | .index t x i=>match rdG rs ch x,rdG rs ch i,P.underlying t with
  | .val (.string d),.val (.int _ f),some .string=>∃ e,imp ch c (0<=f/\d[f.toNat]?=some e)/\K (.val (.int .u8 e.toNat))
  |_,_,_=>False
 | .slice t x lo hi none=>match rdG rs ch x,P.underlying t with
  | .val (.string d),some .string=>match z09 0 (lo.map (rdG rs ch)),z09 d.size (hi.map (rdG rs ch))with
   |some l,some m=>imp ch c (0<=l/\l<=m/\m<=(d.size:Int))/\K (.val (.string (d.extract l.toNat m.toNat)))
   |_,_=>False
  | .val (.slice w n cp),_=>match f04 P t with
   |some e=>match J7 P e with
    |some sz=>match z09 0 (lo.map (rdG rs ch)),z09 n (hi.map (rdG rs ch))with
     |some l,some m=>∃ v,imp ch c ((0<=l/\l<=m/\m<=(n:Int)/\n<=cp)/\f0m sz (.slice w n cp) l.toNat m.toNat v)/\K (.val v)
     |_,_=>False
    |none=>False
   |none=>False
  |_,_=>False
 | .binOp .eql t x y yt=>match P08 (rdG rs ch x),P08 (rdG rs ch y)with
  |some (.agg xs),some (.agg s)=>∃ b,imp ch c (p0c P o x y (.agg xs) (.agg s) b)/\K (.val (.bool b))
  |some (.slice a n m),some (.slice none 0 0)=>∃ b,imp ch c (p0c P o x y (.slice a n m) (.slice none 0 0) b)/\K (.val (.bool b))
  |_,_=>f0o P o ch c rs K
 | .binOp .neq t x y yt=>match P08 (rdG rs ch x),P08 (rdG rs ch y)with
  |some (.agg xs),some (.agg s)=>∃ b,imp ch c (p0c P o x y (.agg xs) (.agg s) b)/\K (.val (.bool b))
  |some (.slice a n m),some (.slice none 0 0)=>∃ b,imp ch c (p0c P o x y (.slice a n m) (.slice none 0 0) b)/\K (.val (.bool b))
  |_,_=>f0o P o ch c rs K
 | .binOp .add t x y yt=>match rdG rs ch x,rdG rs ch y with
  | .val (.string a),.val (.string b)=>imp ch c (a.size+b.size<=9223372036854775807)/\K (.val (.string (a++b)))
  |_,_=>f0o P o ch c rs K
 | .binOp .quo t x y yt=>match rdG rs ch x,rdG rs ch y with
  | .val (.int .i64 a),.val (.int .i64 b)=>imp ch c (b≠0)/\K (.val (.int .i64 (IntKind.i64.wrap (a.tdiv b))))
  |_,_=>f0o P o ch c rs K
 | .binOp .rem t x y yt=>match rdG rs ch x,rdG rs ch y with
  | .val (.int .i64 a),.val (.int .i64 b)=>imp ch c (b≠0)/\K (.val (.int .i64 (a.tmod b)))
  |_,_=>f0o P o ch c rs K
 | .call { callee := .builtin .len,args:=as,argTypes:=A }=>match as.toList,A.toList with
  | [x],[t]=>match rdG rs ch x with
   | .own i _=>match nth rs.st.ow i,f04 P t with
    |some ⟨_,.live _ _ _ _ xs⟩,some _=>K (.val (.int .i64 xs.length))
    |_,_=>False
   |_=>f0o P o ch c rs K
  |_,_=>False
 |_=>f0o P o ch c rs K
def r0c(rs:RS)(d:Nat):Bool:=match T0j rs.gf d,Z0f rs.bs d with
 |none,none=>false
 |_,_=>true
def G0p(i d:Nat)(ch:List (Nat×Bool))(av:AV)(bs:List BE):List BE:=match av with
 | .val (.bool e)=>⟨i,d,e,ch⟩::bs
 |_=>bs
def f0f(d:Option Tmp)(i:Nat)(ch:List (Nat×Bool))(av:AV)(rs:RS)(K:RS->Prop):Prop :=
 match d with
 |none=>K rs
 |some d=>match Nat.blt d rs.st.n,r0c rs d with
  |true,false=>match ch with
   | []=>K { rs with st := { rs.st with fr:=(d,av)::rs.st.fr },bs:=G0p i d ch av rs.bs }
   |_=>K { rs with st := { rs.st with fr:=(d,.dead)::rs.st.fr },gf:=(d,ch,av)::rs.gf,bs:=G0p i d ch av rs.bs }
  |_,_=>False
def c0s:Op->Bool
 | .pick ..=>true
 |_=>false
def k0A(rs:RS)(ch:List (Nat×Bool))(o:Oper):Bool:=match o.op with
 | .call { callee := .value _,args:=as,argTypes:=_ }=>match as.toList with
  |x::_=>match rdG rs ch x with
   | .val (.pointer _)=>true
   |_=>false
  | []=>false
 |_=>false
def H0p(rs:RS)(ch:List (Nat×Bool)):List Operand->List (Nat×AV)
 | []=>rs.st.fr
 | .tmp t::r=>(t,rdG rs ch (.tmp t))::H0p rs ch r
 |_::r=>H0p rs ch r
def T0b(P:Program):List Oper->Nat->RS->(RS->Prop)->Prop
 | [],_,rs,K=>K rs
 |o::r,i,rs,K=>match o.guard,c0s o.op with
  |none,false=>J00 P o rs.st rs.h λav st h=>f0f o.dst i [] av { rs with st:=st,h:=h } λrs=>T0b P r (i+1) rs K
  |_,_=>match m02 rs.bs o.guard with
   |some ch=>match cB rs.bs ch with
    |some c=>match k0A rs ch o with
     |false=>evG P o ch c rs λav=>f0f o.dst i ch av rs λrs=>T0b P r (i+1) rs K
     |true=>(c=true->J00 P o { rs.st with fr:=H0p rs ch o.op.operands.toList } rs.h λav st h=>f0f o.dst i ch av { rs with st:=st,h:=h } λrs=>T0b P r (i+1) rs K) /\
       (c=false->f0f o.dst i ch (.val (.bool false)) rs λrs=>T0b P r (i+1) rs K)
    |none=>False
   |none=>False
def evQ(P:Program):List Oper->Nat->RS->(RS->Prop)->Prop
 | [],_,rs,K=>K rs
 |o::r,i,rs,K=>match m02 rs.bs o.guard with
  |some ch=>match cB rs.bs ch with
   |some c=>evG P o ch c rs λav=>f0f o.dst i ch av rs λrs=>evQ P r (i+1) rs K
   |none=>False
  |none=>False
def Sub(h h':Hp):Prop:=∀ b o,h b=some o->h' b=some o
def t0w(v:Value)(K:Value->Prop):Prop:=match v with
 | .bool b=>K (.bool b)
 | .int k n=>K (.int k n)
 | .string s=>K (.string s)
 | .pointer a=>K (.pointer a)
 | .slice a n c=>K (.slice a n c)
 | .func f x y=>K (.func f x y)
 | .agg cs=>K (.agg cs)
 | .tuple vs=>K (.tuple vs)
 |v=>K v
theorem h0v(v:Value)(K:Value->Prop):t0w v K=K v:=by cases v<;>rfl
def D03{a:Type}:List a->(List a->Prop)->Prop
 | [],K=>K []
 |x::r,K=>D03 r λr=>K (x::r)
theorem u05{a:Type}:∀(l:List a) (K:List a->Prop),D03 l K=K l
 | [],K=>rfl
 |x::r,K=>by simp only[D03,u05 r]
def Q08:Nat->(Nat->Prop)->Prop
 |0,K=>K 0
 |n+1,K=>Q08 n λm=>K (m+1)
theorem s0c:∀(n:Nat) (K:Nat->Prop),Q08 n K=K n
 |0,K=>rfl
 |n+1,K=>by simp only[Q08,s0c n]
def G06(av:AV)(K:AV->Prop):Prop:=match av with
 | .val v=>t0w v λv=>K (.val v)
 | .own i k=>K (.own i k)
 | .box i k=>K (.box i k)
 | .hel s i z k=>Q08 z λz=>Q08 k λk=>K (.hel s i z k)
 | .oel j s i z k=>Q08 z λz=>Q08 k λk=>K (.oel j s i z k)
 | .agg cs=>D03 cs λcs=>K (.agg cs)
 | .dead=>K .dead
theorem p07(av:AV)(K:AV->Prop):G06 av K=K av:=by
 cases av with
 |val v=>exact h0v v (λv=>K (.val v))
 |hel s i z k=>simp only[G06,s0c]
 |oel j s i z k=>simp only[G06,s0c]
 |agg cs=>simp only[G06,u05]
 |_=>rfl
inductive S00 where
 |pu (av:AV)
 |ef (F:Value->Hp->Prop)
def Z5:List (Nat×S00)->Nat->Option S00
 | [],_=>none
 |(k,x)::r,s=>match Nat.beq k s with
  |true=>some x
  |false=>Z5 r s
def rdS(L:List (Nat×S00))(st:St):Operand->AV
 | .tmp t=>match Z5 L t with
  |some (.pu av)=>rdA st av
  |some (.ef _) => .dead
  |none=>rdA st (K3 st.fr t)
 |x=>rdO st x
def U0j(P:Program)(t:TypeId)(cs:List j7)(off:Nat):Option AV :=
 match a0o P t with
 |some true=>match J7 P t with
  |some n=>match j0b ((cs.drop off).take n) n with
   |true=>some (.agg ((cs.drop off).take n))
   |false=>none
  |none=>none
 |some false=>match nth cs off with
  |some c=>some (ofCell c)
  |none=>none
 |none=>none
def d0s(P:Program)(L:List (Nat×S00))(o:Oper)(st:St):Option AV:=match o.op with
 | .move x | .assign x=>match rdS L st x with
  | .dead=>none
  |a=>some a
 | .load t x=>match rdS L st x with
  | .box i off=>match nth st.bx i with
   |some (.live cs _)=>U0j P t cs off
   |_=>none
  |_=>none
 |_=>none
def V0j(L:List (Nat×S00))(st:St)(h:Hp):List Operand->List (Nat×AV)->(List (Nat×AV)->Prop)->Prop
 | [],acc,K=>K acc
 | .tmp t::r,acc,K=>match Z5 L t with
  |some (.pu av)=>V0j L st h r ((t,av)::acc) K
  |some (.ef F)=>∀ v,F v h->V0j L st h r ((t,.val v)::acc) K
  |none=>V0j L st h r ((t,K3 st.fr t)::acc) K
 |_::r,acc,K=>V0j L st h r acc K
def t0h(d:Option Tmp)(f:S00)(L:List (Nat×S00)):List (Nat×S00):=match d with
 |some d=>(d,f)::L
 |none=>L
def d0B(st:St)(h:Hp)(F:Value->Hp->Prop):AV->St->Hp->Prop
 | .val v,st',h'=>st'=st/\Sub h h'/\F v h'
 |_,_,_=>False
def X02(i:Nat)(o:Oper):Bool:=o.after.toList.any λe=>Region.binds .any e&&Nat.beq e.on i
def v05(o:Oper)(t:Nat):List Oper->Nat->Bool
 | [],_=>true
 |x::r,i=>match x.dst with
  |some d=>match Nat.beq d t with
   |true=>X02 i o&&v05 o t r (i+1)
   |false=>v05 o t r (i+1)
  |none=>v05 o t r (i+1)
def a0g(o:Oper)(ops:List Oper):List Operand->Bool
 | []=>true
 | .tmp t::r=>v05 o t ops 0&&a0g o ops r
 |_::r=>a0g o ops r
def t0c(d:Nat):List Oper->Bool
 | []=>true
 |o::r=>match o.dst with
  |some a => !Nat.beq d a&&t0c d r
  |none=>t0c d r
def I0p(n:Nat):List Oper->Bool
 | []=>true
 |o::r=>match o.dst with
  |some d=>Nat.blt d n&&t0c d r&&I0p n r
  |none=>I0p n r
def J0p:List Oper->Nat->Bool
 | [],_=>true
 |o::r,j=>(o.after.toList.all λe => !Region.binds .any e || Nat.blt e.on j)&&J0p r (j+1)
def A0t(ops:List Oper):List Oper->Bool
 | []=>true
 |o::r=>a0g o ops o.op.operands.toList&&A0t ops r
def A09(n:Nat)(ops:List Oper):Bool:=I0p n ops&&J0p ops 0&&A0t ops ops
def B0t:List j7->Bool
 | []=>true
 | .val _::r=>B0t r
 | .own _ _::_=>false
def g0o:AV->Bool
 | .val _=>true
 | .box _ _=>true
 | .own _ _=>true
 | .agg cs=>B0t cs
 |_=>false
def b0a(L:List (Nat×S00))(st:St):Operand->AV
 | .tmp t=>match Z5 L t with
  |some (.pu av)=>av
  |some (.ef _) => .dead
  |none=>K3 st.fr t
 | .const v => .val v
 |_ => .dead
def x0i(L:List (Nat×S00))(st:St):List Operand->Option (List (Nat×Value))
 | []=>some []
 | .tmp t::r=>match b0a L st (.tmp t)with
  | .val v=>match x0i L st r with
   |some vs=>some ((t,v)::vs)
   |none=>none
  |_=>none
 | .global _::_=>none
 |_::r=>x0i L st r
def e0s(P:Program)(L:List (Nat×S00))(o:Oper)(st:St):Option AV:=match W0f o.op,x0i L st o.op.operands.toList with
 |false,some vs=>match l0c (rho vs) o with
  |some _=>none
  |none=>match evP P (w0m (rho vs) o)with
   |some (.value v)=>some (.val v)
   |_=>none
 |_,_=>none
def e0B:AV->Bool
 | .val (.int _ _)=>true
 |_=>false
def G0B:BinOp->Bool
 | .lss=>true
 | .leq=>true
 | .gtr=>true
 | .geq=>true
 | .eql=>true
 | .neq=>true
 | .add=>true
 | .sub=>true
 | .mul=>true
 |_=>false
def E0e(P:Program)(L:List (Nat×S00))(o:Oper)(st:St):Option AV:=match o.op with
 | .move x=>match g0o (b0a L st x)with
  |true=>some (b0a L st x)
  |false=>none
 | .assign x=>match g0o (b0a L st x)with
  |true=>some (b0a L st x)
  |false=>none
 | .load t x=>match b0a L st x with
  | .box i off=>match nth st.bx i with
   |some (.live cs _)=>match U0j P t cs off with
    |some av=>match g0o av with
     |true=>some av
     |false=>none
    |none=>none
   |_=>none
  |_=>none
 | .fieldAddr t x k=>match b0a L st x,b0o P t k with
  | .box i off,some a=>some (.box i (off+a))
  |_,_=>none
 | .binOp op _ x y _=>match G0B op,e0B (b0a L st x),e0B (b0a L st y)with
  |true,true,true=>e0s P L o st
  |_,_,_=>none
 | .call { callee := .builtin .len,args:=as,argTypes:=_ }=>match as.toList with
  | [x]=>match b0a L st x with
   | .val (.slice _ _ _)=>e0s P L o st
   |_=>none
  |_=>none
 |_=>none
def j06(L:List (Nat×S00))(st:St):List Oper->List Nat
 | []=>[]
 |o::r=>match o.op with
  | .load _ x=>match b0a L st x with
   | .box i _=>i::j06 L st r
   |_=>j06 L st r
  |_=>j06 L st r
def F0e(bx:List BSt):List Nat->List (Option BSt)
 | []=>[]
 |i::r=>nth bx i::F0e bx r
def y0i(L:List (Nat×S00))(a:List (Nat×AV)):List Operand->List (Nat×AV)->(List (Nat×AV)->Prop)->Prop
 | [],acc,K=>K acc
 | .tmp t::r,acc,K=>match Z5 L t with
  |some (.pu av)=>y0i L a r ((t,av)::acc) K
  |some (.ef _)=>y0i L a r ((t,.dead)::acc) K
  |none=>y0i L a r ((t,K3 a t)::acc) K
 |_::r,acc,K=>y0i L a r acc K
def f0s:List (Nat×S00)->List (Nat×AV)->List (Nat×AV)
 | [],fr=>fr
 |(d,.pu av)::r,fr=>(d,av)::f0s r fr
 |(d,.ef _)::r,fr=>(d,.dead)::f0s r fr
def u0w(av:AV)(st:St)(h:Hp):AV->St->Hp->Prop:=λa st' h'=>a=av/\st'=st/\h'=h
def u0c(P:Program)(st:St):List Oper->Nat->List (Nat×S00)->List (Nat×Oper)->(List (Nat×S00)->List (Nat×Oper)->Prop)->Prop
 | [],_,L,E,K=>K L E
 |o::r,i,L,E,K=>match o.guard with
  |some _=>False
  |none=>match E0e P L o st with
   |some av=>G06 av λav=>u0c P st r (i+1) (t0h o.dst (.pu av) L) E K
   |none=>u0c P st r (i+1) (t0h o.dst (.ef λ_ _=>True) L) (E ++ [(i,o)]) K
def v0c(d:Nat):List Operand->Bool
 | []=>false
 | .tmp t::r=>Nat.beq t d || v0c d r
 |_::r=>v0c d r
def h0o(d:Nat):List Oper->Bool
 | []=>false
 |o::r=>v0c d o.op.operands.toList || h0o d r
def o08(P:Program)(o:Oper)(st:St)(h:Hp)(K:St->Hp->Prop):Prop :=
 J00 P o st h λav st h=>f0f o.dst 0 [] av ⟨st,h,[],[]⟩ λrs=>K rs.st rs.h
def inK(k:Nat):List Nat->Bool
 | []=>false
 |x::r=>Nat.beq k x || inK k r
def w0c(es:List Nat):Nat->Nat->Oper->Bool
 |0,_,_=>true
 |k+1,i,o=>((Nat.beq k i || X02 k o) || inK k es)&&w0c es k i o
def u0h:List (Nat×Oper)->List Nat
 | []=>[]
 |x::r=>x.1::u0h r
def v0w(N:Nat×List Nat)(i:Nat)(o:Oper):Bool:=w0c N.2 N.1 i o
def B0z(b:Bool)(rd:List Nat)(bx a:List BSt):Prop:=match b with
 |true=>True
 |false=>F0e a rd=F0e bx rd
def v0h:List (Nat×Oper)->List (Nat×Oper)->List ((Nat×Oper)×List (Nat×Oper))
 |_,[]=>[]
 |A,x::B=>(x,A++B)::v0h (A ++ [x]) B
def i0o(x:Nat×Oper):List (Nat×Oper)->Bool
 | []=>true
 |y::r => !X02 y.1 x.2&&i0o x r
def g0s(f:(Nat×Oper)->List (Nat×Oper)->Prop):List ((Nat×Oper)×List (Nat×Oper))->Prop
 | []=>True
 |p::l=>match i0o p.1 p.2 with
  |true=>f p.1 p.2/\g0s f l
  |false=>g0s f l
def g0m(rd:List Nat)(N:Nat×List Nat)(P:Program):Nat->List (Nat×Oper)->List (Nat×S00)->St->Hp->(St->Hp->Prop)->Prop
 |0,_,L,⟨n,fr,bx,ow⟩,h,K=>D03 (f0s L fr) λfr=>K ⟨n,fr,bx,ow⟩ h
 |m+1,E,L,⟨n,fr,bx,ow⟩,h,K=>g0s (λx r=>y0i L fr x.2.op.operands.toList [] λc=>J00 P x.2 ⟨n,c,bx,ow⟩ h λav st' h'=>match st' with
  |⟨_,_,a,b⟩=>B0z (v0w N x.1 x.2) rd bx a/\G06 av λav=>D03 a λa=>D03 b λb=>g0m rd N P m r (t0h x.2.dst (.pu av) L) ⟨n,fr,a,b⟩ h' K) (v0h [] E)
def h0m:List (Nat×Oper)->Nat
 | []=>0
 |_::r=>h0m r+1
abbrev FL:=List (Nat×List (Nat×Bool)×S00)
def g07:FL->Nat->Option (List (Nat×Bool)×S00)
 | [],_=>none
 |(k,x)::r,s=>match Nat.beq k s with
  |true=>some x
  |false=>g07 r s
def rdU(L:FL)(st:St)(ch:List (Nat×Bool)):Operand->AV
 | .tmp t=>match g07 L t with
  |some (a,.pu av)=>match E0p a ch with
   |true=>rdA st av
   |false => .dead
  |some (_,.ef _) => .dead
  |none=>rdA st (K3 st.fr t)
 |x=>rdO st x
def G0e(P:Program)(L:FL)(bs:List BE)(ch:List (Nat×Bool))(o:Oper)(st:St):Option AV:=match o.op with
 | .move x | .assign x=>match rdU L st ch x with
  | .dead=>none
  |a=>some a
 | .load t x=>match rdU L st ch x with
  | .box i off=>match nth st.bx i with
   |some (.live cs _)=>U0j P t cs off
   |_=>none
  |_=>none
 | .fieldAddr t x k=>match rdU L st ch x,b0o P t k with
  | .box i off,some d=>some (.box i (off+d))
  | .hel c i sz k,some d=>some (.hel c i sz (k+d))
  |_,_=>none
 | .pick (.tmp c) a b=>match rdU L st ch (.tmp c),Z0f bs c with
  | .val (.bool e),some q=>match E0p q.ch ch with
   |true=>match rdU L st ((q.j,true)::q.ch) a,rdU L st ((q.j,false)::q.ch) b with
    | .val (.bool x),.val (.bool y)=>some (.val (.bool (cond e x y)))
    |_,_=>none
   |false=>none
  |_,_=>none
 |_=>none
def U0b(L:FL)(st:St)(h:Hp)(ch:List (Nat×Bool)):List Operand->List (Nat×AV)->(List (Nat×AV)->Prop)->Prop
 | [],acc,K=>K acc
 | .tmp t::r,acc,K=>match g07 L t with
  |some (a,f)=>match E0p a ch with
   |true=>match f with
    | .pu av=>U0b L st h ch r ((t,av)::acc) K
    | .ef F=>∀ v,F v h->U0b L st h ch r ((t,.val v)::acc) K
   |false=>False
  |none=>U0b L st h ch r ((t,K3 st.fr t)::acc) K
 |_::r,acc,K=>U0b L st h ch r acc K
def i0m(h:Hp):FL->List (Nat×AV)->(List (Nat×AV)->Prop)->Prop
 | [],fr,K=>K fr
 |(d,[],.pu av)::r,fr,K=>i0m h r ((d,av)::fr) K
 |(d,[],.ef F)::r,fr,K=>∀ v,F v h->i0m h r ((d,.val v)::fr) K
 |(d,_::_,_)::r,fr,K=>i0m h r ((d,.dead)::fr) K
def j0o(d:Option Tmp)(ch:List (Nat×Bool))(f:S00)(L:FL):FL:=match d with
 |some d=>(d,ch,f)::L
 |none=>L
def k0o(i:Nat)(d:Option Tmp)(ch:List (Nat×Bool))(av:AV)(bs:List BE):List BE:=match d with
 |some d=>match av with
  | .val (.bool e)=>⟨i,d,e,ch⟩::bs
  |_=>bs
 |none=>bs
def h0s(st st':St):Prop:=st'.n=st.n/\st'.fr=st.fr/\st'.bx=st.bx/\∃ t,st'.ow=st.ow++t
def w0w(st:St)(h:Hp)(b:Value->Hp->Prop):AV->St->Hp->Prop:=λav st' h'=>rfy av st' h' λv c a=>h0s st c/\Sub h a/\b v a
def x0w(P:Program)(t n:Nat)(st:St)(h:Hp)(K:AV->St->Hp->Prop):Prop :=
 match f04 P t with
 |some e=>match J7 P e,Nat.beq n 0 with
  |some (_+1),true=>∀ g,h g=none->K (.val (.slice (some ⟨g,0,none⟩) 0 0)) st (h.set g (.cells #[] e (0,0)))
  |_,_=>False
 |none=>False
def y0w(P:Program)(t:TypeId)(a b:Operand)(st:St)(h:Hp)(K:AV->St->Hp->Prop):Prop :=
 match f04 P t with
 |some e=>match J7 P e,e0f P e,C03 P e with
  |some (sz+1),some (by_+1),some z=>match j0b z.cells.toList (sz+1)with
   |true=>match rdO st a with
    | .val (.slice (some ⟨g,o,none⟩) 0 0)=>Q0j st h (sz+1) (rdO st b) λc=>s0a c.length (by_+1) /\
      ((c = []->K (.val (.slice (some ⟨g,o,none⟩) 0 0)) st h)/\∀ v h',C1 h h' v e (sz+1) true c->K (.val v) st h')
    |_=>False
   |false=>False
  |_,_,_=>False
 |none=>False
def K0p(P:Program)(o:Oper)(st:St)(h:Hp)(K:AV->St->Hp->Prop):Prop :=
 match o.op with
 | .buildSlice t n ps=>match ps.toList with
  | []=>x0w P t n st h K
  |_::_=>J00 P o st h K
 | .call { callee := .builtin .append,args:=as,argTypes:=d }=>match as.toList,d.toList with
  | [a,b],[t,c]=>match Nat.beq t c with
   |true=>y0w P t a b st h K
   |false=>False
  |_,_=>False
 |_=>J00 P o st h K
def evU(P:Program)(l:List Oper):Nat->FL->List BE->St->Hp->(St->Hp->Prop)->Prop :=
  List.rec (motive:=λ_=>Nat->FL->List BE->St->Hp->(St->Hp->Prop)->Prop)
    (λ_ L _ st h K=>match st with
      |⟨n,fr,bx,ow⟩=>∀ h',Sub h h'->i0m h' L fr λfr=>K ⟨n,fr,bx,ow⟩ h')
    (λo _ b i L bs st h K=>match st with
      |⟨n,fr,bx,ow⟩=>match m02 bs o.guard with
        |some ch=>match cB bs ch with
          |some c=>match G0e P L bs ch o ⟨n,fr,bx,ow⟩with
            |some av=>G06 av λav=>b (i+1) (j0o o.dst ch (.pu av) L) (k0o i o.dst ch av bs) ⟨n,fr,bx,ow⟩ h K
            |none=>(∃ av,(∀ h',Sub h h'->imp ch c (U0b L ⟨n,fr,bx,ow⟩ h' ch o.op.operands.toList [] λfr=>J00 P o ⟨n,fr,bx,ow⟩ h' (u0w av ⟨n,fr,bx,ow⟩ h'))) /\
                  G06 av λav=>b (i+1) (j0o o.dst ch (.pu av) L) (k0o i o.dst ch av bs) ⟨n,fr,bx,ow⟩ h K) ∨
                (∃ a:Value->Hp->Prop,(∀ v d e,Sub d e->a v d->a v e) /\
                  (∀ h',Sub h h'->imp ch c (U0b L ⟨n,fr,bx,ow⟩ h' ch o.op.operands.toList [] λfr=>K0p P o ⟨n,fr,bx,ow⟩ h' (w0w ⟨n,fr,bx,ow⟩ h' a))) /\
                  b (i+1) (j0o o.dst ch (.ef a) L) bs ⟨n,fr,bx,ow⟩ h K)
          |none=>False
        |none=>False) l
def A0j:List Oper->Bool
 | []=>true
 |o::r=>(match o.guard with
  |some (j,_)=>X02 j o
  |none=>true)&&A0j r
def G07(n:Nat)(ops:List Oper):Bool:=A09 n ops&&A0j ops
def E0y(P:Program):List Oper->Bool
 | []=>false
 |o::r=>(match o.guard,o.op with
  |some _,.call { callee := .value _,args:=_,argTypes:=_ }=>match P.underlying o.type with
   |some (.slice _)=>true
   |some (.struct _)=>true
   |some (.tuple _)=>true
   |_=>false
  |_,_=>false) || E0y P r
def R08(o:Oper):Bool:=match o.op with
 | .alloc _=>true
 |_=>false
def f03(o:Oper):Oper:=match o.op with
 | .alloc _ => { o with op := .move (.const undef) }
 |_=>o
def L7:List Oper->List Oper
 | []=>[]
 |o::r=>f03 o::L7 r
def okA(P:Program)(all:List Oper):List Oper->Bool
 | []=>true
 |o::r=>(match o.op with
  | .alloc t=>(match o.guard,o.dst,C03 P t with
   |none,some d,some _ => !h0o d all
   |_,_,_=>false)
  |_=>true)&&okA P all r
def i0s(x:Nat):List Nat->Bool
 | []=>false
 |y::r=>Nat.beq x y || i0s x r
def b0g(ops:List Oper)(i:Nat):List Nat->Bool
 | []=>false
 |j::r=>(match nth ops j with
  |some o=>X02 i o
  |none=>false) || b0g ops i r
def x0m(ops:List Oper):Nat->List Nat->List Nat
 |0,acc=>acc
 |i+1,acc=>match b0g ops i acc with
  |true=>x0m ops i (i::acc)
  |false=>x0m ops i acc
def w0h:Operand->List Nat
 | .tmp t=>[t]
 |_=>[]
def H0e(o:Oper):Option (List Nat):=match o.guard with
 |some _=>none
 |none=>match o.op with
  | .extract x _=>some (w0h x)
  | .move x=>some (w0h x)
  | .assign x=>some (w0h x)
  | .pick c x y=>some (w0h c++(w0h x++w0h y))
  |_=>none
def I0e(d:Nat):List Oper->Bool
 | []=>false
 |o::r=>(match o.dst with
  |some e=>Nat.beq e d
  |none=>false) || I0e d r
def S08(a:List Nat)(t:Nat):List Oper->Nat->Bool
 | [],_=>true
 |o::r,i=>(match o.dst with
  |some e => !Nat.beq e t || i0s i a
  |none=>true)&&S08 a t r (i+1)
def u0a(i d:Nat):List Oper->Bool
 | []=>true
 |o::r=>(!v0c d o.op.operands.toList || X02 i o)&&u0a i d r
def C0t(b c:List Oper)(a:List Nat):List Nat->Bool
 | []=>true
 |t::r=>(!I0e t c&&S08 a t b 0)&&C0t b c a r
def D0t(c a:List Oper)(b:List Nat)(i:Nat)(o:Oper):Bool:=match H0e o,o.dst with
 |some e,some d => !I0e d a&&C0t c a b e&&u0a i d a
 |_,_=>false
def B0j(b c:List Oper)(a:List Nat):List Oper->Nat->Bool
 | [],_=>true
 |o::r,i=>(i0s i a || D0t b c a i o)&&B0j b c a r (i+1)
def L0p:List Oper->Bool
 | []=>true
 |o::r => !W0f o.op&&L0p r
def z0w:Nat->List Oper->Bool
 |_,[]=>true
 |k,o::r=>(match o.guard with
  |none=>true
  |some _=>false)&&(match r with
  | []=>true
  |o'::_=>X02 k o')&&z0w (k+1) r
def f0B:List Oper->Bool
 | []=>true
 |_::_=>false
def okZ(P:Program)(n m:Nat)(ops:List Oper):Bool :=
 G07 n (L7 (ops.take m))&&okA P (ops.take m) (ops.take m)&&J0p ops 0&&z0w m (ops.drop m)&&(f0B (ops.drop m) || (B0j (ops.take m) (ops.drop m) (x0m ops m [m]) (ops.take m) 0&&L0p (ops.drop m)))
abbrev l0A:=Oper->St->Hp->(St->Hp->Prop)->Prop
def doA(R:l0A)(l:List Oper):St->Hp->(St->Hp->Prop)->Prop :=
 List.rec (motive:=λ_=>St->Hp->(St->Hp->Prop)->Prop) (λst h K=>K st h) (λo _ a st h K=>match R08 o with
  |true=>R o st h λst h=>a st h K
  |false=>a st h K) l
def doT(R:l0A)(l:List Oper):St->Hp->(St->Hp->Prop)->Prop :=
 List.rec (motive:=λ_=>St->Hp->(St->Hp->Prop)->Prop) (λst h K=>K st h) (λo _ a st h K=>R o st h λst h=>a st h K) l
def evT(P:Program)(R:l0A)(m:Nat)(ops:List Oper)(st:St)(h:Hp)(K:St->Hp->Prop):Prop :=
 evU P (L7 (ops.take m)) 0 [] [] st h λst h=>doA R (ops.take m) st h λst h=>doT R (ops.drop m) st h K
inductive Ex where
 |normal|ret
 |exit (i:Nat)
structure Ann where
 vars:List Nat
 boxes:List Nat:=[]
 owns:List Nat:=[]
 nils:List (Nat×Nat×Nat×Nat):=[]
 nilsB:List (Nat×Nat×Nat×Nat×Nat):=[]
 kept:List Nat:=[]
 fuel:Bool:=true
 pubs:List Nat:=[]
def M0p:List (Nat×Nat×Nat×Nat)->St->(St->Prop)->Prop
 | [],st,K=>K st
 |(s,e,sz,by_)::r,⟨n,fr,bx,ow⟩,K=>match rdA ⟨n,fr,bx,ow⟩ (K3 fr s),Nat.blt s n with
  | .val (.slice none 0 0),true=>Y0r ow λk=>M0p r ⟨n,(s,.own k 0)::fr,bx,ow ++ [⟨0,.live e sz by_ false []⟩]⟩ K
  |_,_=>False
def W0j:List (Nat×Nat×Nat×Nat×Nat)->St->(St->Prop)->Prop
 | [],st,K=>K st
 |(i,k,e,sz,by_)::r,⟨n,fr,bx,ow⟩,K=>match nth bx i with
  |some (.live cs ty)=>match nth cs k with
   |some (.val (.slice none 0 0))=>Y0r ow λj=>W0j r ⟨n,fr,p03 bx i (.live (p03 cs k (.own j 0)) ty),ow ++ [⟨0,.live e sz by_ false []⟩]⟩ K
   |_=>False
  |_=>False
def N0p:List Nat->St->Hp->(St->Hp->Prop)->Prop
 | [],st,h,K=>K st h
 |s::r,st,h,K=>rfy (rdA st (K3 st.fr s)) st h λv st h=>match st with
  |⟨n,fr,bx,ow⟩=>match Nat.blt s n with
   |true=>N0p r ⟨n,(s,.val v)::fr,bx,ow⟩ h K
   |false=>False
def u0e(x:Nat):List Nat->Bool
 | []=>false
 |y::r=>match Nat.beq x y with
  |true=>true
  |false=>u0e x r
def m0A:List Oper->List Nat->List Nat
 | [],acc=>acc
 |o::r,acc=>match o.dst with
  |some d=>m0A r (d::acc)
  |none=>m0A r acc
def j0m:Code->List Nat->List Nat
 | .region _ ops _,acc=>m0A ops.toList acc
 | .seq a b,acc=>j0m a (j0m b acc)
 | .cond _ a b,acc=>j0m a (j0m b acc)
 | .block _ a,acc=>j0m a acc
 | .loop a,acc=>j0m a acc
 | .scope a,acc=>j0m a acc
 |_,acc=>acc
def x0h:List Nat->(List Nat->Prop)->Prop
 | [],K=>K []
 |x::r,K=>x0h r λr=>K (x::r)
def F0y:List Nat->St->(List Value->Prop)->Prop
 | [],_,K=>K []
 |s::r,st,K=>match rdA st (K3 st.fr s)with
  | .val v=>F0y r st λvs=>K (v::vs)
  |_=>False
def O0p:List j7->St->(List Value->Prop)->Prop
 | [],_,K=>K []
 | .val v::r,st,K=>O0p r st λvs=>K (v::vs)
 | .own _ _::r,st,K=>O0p r st K
def X0j:List Nat->St->(List Value->Prop)->Prop
 | [],_,K=>K []
 |i::r,st,K=>match nth st.bx i with
  |some (.live cs _)=>O0p cs st λvs=>X0j r st λws=>K (vs++ws)
  |_=>False
def y0m:List Nat->St->(List (LV)->Prop)->Prop
 | [],_,K=>K []
 |i::r,st,K=>match nth st.ow i with
  |some ⟨_,.live _ _ _ _ xs⟩=>y0m r st λos=>K (xs::os)
  |_=>False
def j0s(A:Ann)(st:St)(K:List Value->List (LV)->Prop):Prop :=
 F0y A.vars st λvs=>X0j A.boxes st λws=>y0m A.owns st λos=>K (vs++ws) os
def H07:List j7->List Value->(List j7->List Value->Prop)->Prop
 | [],vs,K=>K [] vs
 | .val _::r,v::vs,K=>H07 r vs λcs a=>K (.val v::cs) a
 | .val _::_,[],_=>False
 | .own i k::r,vs,K=>H07 r vs λcs a=>K (.own i k::cs) a
def v0a:List Nat->List Value->List BSt->(List BSt->Prop)->Prop
 | [],_,bx,K=>K bx
 |i::r,vs,bx,K=>match nth bx i with
  |some (.live cs ty)=>H07 cs vs λcs a=>v0a r a (p03 bx i (.live cs ty)) K
  |_=>False
def w0a:List Nat->List (LV)->List Own->(List Own->Prop)->Prop
 | [],_,ow,K=>K ow
 |i::r,xs::os,ow,K=>match nth ow i with
  |some ⟨s,.live e sz by_ nn _⟩=>w0a r os (p03 ow i ⟨s,.live e sz by_ nn xs⟩) K
  |_=>False
 |_::_,[],_,_=>False
def x0c{c:Type}:Nat->List c->(List c->List c->Prop)->Prop
 |0,l,K=>K [] l
 |n+1,x::l,K=>x0c n l λa b=>K (x::a) b
 |_+1,[],_=>False
def J0e(A:Ann)(st:St):List Nat->List (Nat×AV)->(List (Nat×AV)->Prop)->Prop
 | [],acc,K=>K acc
 |s::r,acc,K=>match u0e s A.vars with
  |true=>J0e A st r acc K
  |false=>match rdA st (K3 st.fr s)with
   | .own i k=>J0e A st r ((s,.own i k)::acc) K
   | .box i o=>J0e A st r ((s,.box i o)::acc) K
   |_=>J0e A st r ((s,.dead)::acc) K
def E0t:List j7->Bool
 | []=>true
 | .val _::r=>E0t r
 | .own _ _::_=>false
def x0a(A:Ann)(ds:List Nat)(st:St):List (Nat×AV)->(List (Nat×AV)->Prop)->Prop
 | [],K=>K []
 |(s,av)::r,K=>match u0e s ds with
  |true=>x0a A ds st r K
  |false=>match rdA st av with
   | .own i k=>match u0e i A.owns,u0e i A.kept with
    |true,false=>x0a A (s::ds) st r λl=>K ((s,.dead)::l)
    |_,_=>x0a A (s::ds) st r λl=>K ((s,.own i k)::l)
   | .oel _ _ _ _ _=>x0a A (s::ds) st r λl=>K ((s,.dead)::l)
   | .agg cs=>match E0t cs with
    |true=>x0a A (s::ds) st r λl=>K ((s,.agg cs)::l)
    |false=>x0a A (s::ds) st r λl=>K ((s,.dead)::l)
   |a=>x0a A (s::ds) st r λl=>K ((s,a)::l)
def y0h:List Nat->List Value->List (Nat×AV)->List (Nat×AV)
 |s::r,v::vs,acc=>y0h r vs ((s,.val v)::acc)
 |_,_,acc=>acc
def z0i(b a:St):List (Nat×AV)->Bool
 | []=>true
 |(c,av)::r=>match av with
  | .own i _=>match rdA a (K3 a.fr c)with
   | .own j _=>match Nat.beq i j with
    |true=>z0i b a r
    |false=>false
   |_=>false
  | .box i o=>match rdA a (K3 a.fr c)with
   | .box j p=>match Nat.beq i j,Nat.beq o p with
    |true,true=>z0i b a r
    |_,_=>false
   |_=>false
  |_=>z0i b a r
def k0s:AV->Bool
 | .dead=>true
 |_=>false
def i0v:List (Nat×AV)->List AV
 | []=>[]
 |(_,av)::r=>match k0s av with
  |true=>i0v r
  |false=>av::i0v r
def z0m(fr:List (Nat×AV)):List (Nat×AV)->List AV
 | []=>[]
 |(s,av)::r=>match k0s av with
  |true=>z0m fr r
  |false=>K3 fr s::z0m fr r
def y0a(c a:St):List j7->List j7->Bool
 | [],[]=>true
 | .val _::r,.val _::b=>y0a c a r b
 | .own i _::r,.own d e::b=>match Nat.beq i d,rdA a (.own d e)with
  |true,.own _ _=>y0a c a r b
  |_,_=>false
 |_,_=>false
def c0g(os:List Nat):List j7->Bool
 | []=>true
 | .val _::r=>c0g os r
 | .own i _::r=>match u0e i os with
  |true=>false
  |false=>c0g os r
def l0s(os:List Nat):BSt->Bool
 | .live cs _=>c0g os cs
 | .publ _=>true
def z0h(A:Ann)(c a:St):Nat->List BSt->List BSt->Prop
 |_,[],_=>True
 |i,b::r,d::e=>match u0e i A.boxes with
  |true=>match b,d with
   | .live cs ty,.live cs' f=>match Nat.beq ty f,y0a c a cs cs' with
    |true,true=>z0h A c a (i+1) r e
    |_,_=>False
   |_,_=>False
  |false=>match l0s A.owns b with
   |true=>d=b/\z0h A c a (i+1) r e
   |false=>False
 |_,_::_,[]=>False
def leB(a b:Bool):Bool:=match a with
 |true=>b
 |false=>true
def A0h(A:Ann):Nat->List Own->List Own->Prop
 |_,[],_=>True
 |i,b::r,a::c=>match u0e i A.owns with
  |true=>match b,a with
   |⟨h,.live e sz by_ nn _⟩,⟨j,.live f k d g _⟩=>match Nat.beq e f,Nat.beq sz k,Nat.beq by_ d,leB nn g,leB (u0e i A.kept) (Nat.beq h j)with
    |true,true,true,true,true=>A0h A (i+1) r c
    |_,_,_,_,_=>False
   |_,_=>False
  |false=>a=b/\A0h A (i+1) r c
 |_,_::_,[]=>False
def d0g:Nat->(List Value->Prop)->Prop
 |0,K=>K []
 |n+1,K=>∀ v,d0g n λvs=>K (v::vs)
def e0g:Nat->(List (LV)->Prop)->Prop
 |0,K=>K []
 |n+1,K=>∀ xs,e0g n λos=>K (xs::os)
abbrev B0h:=List Value->List (LV)->Hp->Prop
abbrev V0b:=List Value->List (LV)->Nat
def G0y:List Value->List Value->Bool
 | [],[]=>true
 |_::r,_::a=>G0y r a
 |_,_=>false
def P0p(A:Ann)(I:B0h)(vs:List Value)(os:List (LV))(h:Hp):Prop:=match A.fuel with
 |false=>I vs os h
 |true=>∃ m:Nat,I (.int .i64 m::vs) os h
def Q0p(A:Ann)(I:B0h)(μ:V0b)(vs:List Value)(os:List (LV))(X:Nat->Hp->Prop):Prop:=match A.fuel with
 |false=>∀ h',I vs os h'->X (μ vs os) h'
 |true=>∀(m:Nat) (h':Hp),I (.int .i64 m::vs) os h'->X m h'
def H0y(A:Ann)(a:B0h)(μ:V0b)(m:Nat)(vs:List Value)(os:List (LV))(h:Hp):Prop:=match A.fuel with
 |false=>a vs os h/\μ vs os<m
 |true=>∃ b:Nat,a (.int .i64 b::vs) os h/\b<m
def atI(A:Ann)(I:B0h)(μ:V0b)(m:Nat)(vs:List Value)(os:List (LV))(h:Hp):Prop:=match A.fuel with
 |false=>I vs os h/\m=μ vs os
 |true=>I (.int .i64 m::vs) os h
theorem A0w{A:Ann}{b:B0h}{μ:V0b}{vs:List Value}{os:List (LV)}{h:Hp}(a:P0p A b vs os h):∃ m,atI A b μ m vs os h:=by
 unfold P0p at a;unfold atI;cases hf:A.fuel;·rw[hf]at a;exact⟨_,a,rfl⟩
 rw[hf]at a;exact a
theorem B0w{A:Ann}{c:B0h}{μ:V0b}{vs:List Value}{os:List (LV)}{d:Nat->Hp->Prop}(b:Q0p A c μ vs os d){m:Nat}{h:Hp}(a:atI A c μ m vs os h):d m h:=by
 unfold Q0p at b;unfold atI at a;cases hf:A.fuel;·rw[hf]at b a;rw[a.2];exact b _ a.1
 rw[hf]at b a;exact b _ _ a
theorem I0y{A:Ann}{b:B0h}{μ:V0b}{m:Nat}{vs:List Value}{os:List (LV)}{h:Hp}(a:H0y A b μ m vs os h):∃ c,atI A b μ c vs os h/\c<m:=by
 unfold H0y at a;unfold atI;cases hf:A.fuel;·rw[hf]at a;exact⟨_,⟨a.1,rfl⟩,a.2⟩
 rw[hf]at a;exact a
def C0w(A:Ann)(d b:List (Nat×AV))(a:St)(c:B0h)(μ:V0b)(f:List Value)(m:Nat)(st:St)(h:Hp):Prop :=
 match Nat.beq st.n a.n,z0i a st d with
 |true,true=>z0m st.fr b=i0v b/\z0h A a st 0 a.bx st.bx/\A0h A 0 a.ow st.ow /\
   j0s A st λvs os=>match G0y vs f with
    |true=>x0c A.vars.length vs λ_ e=>v0a A.boxes e a.bx λ_=>w0a A.owns os a.ow λ_=>H0y A c μ m vs os h
    |false=>False
 |_,_=>False
def F0t(i:(Ex->St->Hp->Prop)->St->Hp->Prop)(j:List Nat)(Q:Ex->St->Hp->Prop)(st:St)(h:Hp):Prop :=
 ∃(A:Ann) (b:B0h) (μ:V0b),M0p A.nils st λst=>W0j A.nilsB st λst=>N0p A.pubs st h λst h=>j0s A st λg d=>P0p A b g d h /\
  x0h j λds=>J0e A st ds [] λc=>x0a A ds st st.fr λf =>
   d0g g.length λvs=>e0g d.length λos=>Q0p A b μ vs os λm h' =>
    x0c A.vars.length vs λk l=>v0a A.boxes l st.bx λbx=>w0a A.owns os st.ow λow =>
     i (λe st' a=>match e with
      | .normal=>N0p A.pubs st' a λst' a=>C0w A c f st b μ vs m st' a
      |e=>Q e st' a) ⟨st.n,y0h A.vars k (c++f),bx,ow⟩ h'
def D0w(b:Bool)(X Y:Prop):Prop:=(b=true->X)/\(b=false->Y)
def ev(P:Program):Code->(Ex->St->Hp->Prop)->St->Hp->Prop
 | .skip,Q,st,h=>Q .normal st h
 | .region _ ops false,Q,st,h=>match E0y P ops.toList with
  |true=>G07 st.n ops.toList=true/\evU P ops.toList 0 [] [] st h λst h=>Q .normal st h
  |false=>T0b P ops.toList 0 ⟨st,h,[],[]⟩ λrs=>Q .normal rs.st rs.h
 | .region _ ops true,Q,st,h=>((P.follows .mixedOrders=true/\Region.lexB .any ops=true) /\
   evQ P ops.toList 0 ⟨st,h,[],[]⟩ λrs=>Q .normal rs.st rs.h) ∨
   False ∨
   ((P.follows .mixedOrders=true/\A09 st.n ops.toList=true)/\u0c P st ops.toList 0 [] [] λL d=>g0m (j06 L st ops.toList) (ops.size,u0h d) P (h0m d) d L st h λst h=>Q .normal st h) ∨
   ((P.follows .mixedOrders=true/\G07 st.n ops.toList=true)/\evU P ops.toList 0 [] [] st h λst h=>Q .normal st h) ∨
   (∃ m,(P.follows .mixedOrders=true/\okZ P st.n m ops.toList=true)/\evT P (o08 P) m ops.toList st h λst h=>Q .normal st h)
 | .seq a b,Q,st,h=>ev P a (λe st h=>match e with
  | .normal=>ev P b Q st h
  |e=>Q e st h) st h
 | .cond c t e,Q,st,h=>match rdO st c with
  | .val (.bool b)=>D0w b (ev P t Q st h) (ev P e Q st h)
  |_=>False
 | .block id c,Q,st,h=>ev P c (λe st h=>match e with
  | .exit i=>match Nat.beq i id with
   |true=>Q .normal st h
   |false=>Q (.exit i) st h
  |e=>Q e st h) st h
 | .loop f,Q,st,h=>F0t (λQ=>ev P f Q) (j0m f []) Q st h
 | .exit id,Q,st,h=>Q (.exit id) st h
 | .ret,Q,st,h=>Q .ret st h
 |_,_,_,_=>False
def l0o(P:Program):List ResultVar->St->Hp->(List Value->St->Hp->Prop)->Prop
 | [],st,h,K=>K [] st h
 | .tmp t::r,st,h,K=>rfy (rdA st (K3 st.fr t)) st h λv st h=>l0o P r st h λvs st h=>K (v::vs) st h
 | .cell t ty::r,st,h,K=>match rdA st (K3 st.fr t)with
  | .box i off=>match nth st.bx i with
   |some (.live cs _)=>N08 P ty cs off λav=>rfy av st h λv st h=>l0o P r st h λvs st h=>K (v::vs) st h
   |_=>False
  |_=>False
def f0g:List Value->Value
 | [v]=>v
 |vs => .tuple vs.toArray
def g0g:Nat->List Value->List (Nat×AV)
 |_,[]=>[]
 |i,v::r=>(i,.val v)::g0g (i+1) r
def n0A(P:Program)(fn:Func)(args:List Value)(h:Hp)(T:Value->Hp->Prop):Prop :=
 match fn.body with
 |some c=>match Nat.ble args.length fn.ntmps with
  |true=>ev P c (λe st h=>match e with
   | .exit _=>False
   |_=>l0o P fn.results.toList st h λvs _ h=>T (f0g vs) h) ⟨fn.ntmps,g0g 0 args,[],[]⟩ h
  |false=>False
 |none=>False
end Go.H
