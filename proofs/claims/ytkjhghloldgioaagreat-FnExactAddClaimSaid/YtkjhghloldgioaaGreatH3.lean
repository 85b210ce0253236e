/- Plain laws over the model: what a function's code asks: regions with guards, regions that draw their order, branches and loops. -/
import Derived.Test.YtkjhghloldgioaaGreatH2
namespace Go.H
set_option linter.unusedVariables false
structure BE where
 j:Nat
 d:Nat
 e:Bool
 ch:List (Nat×Bool)
structure RS where
 st:St
 h:Hp
 gf:List (Nat×List (Nat×Bool)×AV)
 bs:List BE
def C0f:List (Nat×List (Nat×Bool)×AV)->Nat->Option (List (Nat×Bool)×AV)
 | [],_=>none
 |(k,x)::r,s=>match Nat.beq k s with
  |true=>some x
  |false=>C0f r s
def eqB(a b:Bool):Bool:=match a,b with
 |true,true=>true
 |false,false=>true
 |_,_=>false
def H0q:List (Nat×Bool)->List (Nat×Bool)->Bool
 | [],[]=>true
 |(j,w)::r,(a,c)::b=>match Nat.beq j a,eqB w c with
  |true,true=>H0q r b
  |_,_=>false
 |_,_=>false
def K0k(a:List (Nat×Bool)):List (Nat×Bool)->Bool
 | []=>H0q a []
 |x::r=>match H0q a (x::r)with
  |true=>true
  |false=>K0k a r
def rdG(rs:RS)(ch:List (Nat×Bool)):Operand->AV
 | .tmp t=>match C0f rs.gf t with
  |some (a,av)=>match K0k a ch with
   |true=>rdA rs.st av
   |false => .dead
  |none=>rdA rs.st (J3 rs.st.fr t)
 |x=>rdO rs.st x
def q04:List BE->Nat->Option BE
 | [],_=>none
 |b::r,j=>match Nat.beq b.j j with
  |true=>some b
  |false=>q04 r j
def R0b:List BE->Nat->Option BE
 | [],_=>none
 |b::r,s=>match Nat.beq b.d s with
  |true=>some b
  |false=>R0b r s
def lit(w e:Bool):Bool:=match w with
 |true=>e
 |false => !e
def cB(bs:List BE):List (Nat×Bool)->Option Bool
 | []=>some true
 |(j,w)::r=>match q04 bs j with
  |some b=>match r with
   | []=>some (lit w b.e)
   |_=>match cB bs r with
    |some c=>some (lit w b.e&&c)
    |none=>none
  |none=>none
def q01(bs:List BE):Option (Nat×Bool)->Option (List (Nat×Bool))
 |none=>some []
 |some (j,w)=>match q04 bs j with
  |some b=>some ((j,w)::b.ch)
  |none=>none
def imp(ch:List (Nat×Bool))(c:Bool)(X:Prop):Prop:=match ch with
 | []=>X
 |_=>c=true->X
def L0k(rs:RS)(ch:List (Nat×Bool)):List Operand->Option (List (Nat×Value))
 | []=>some []
 | .tmp t::r=>match l06 (rdG rs ch (.tmp t))with
  |some v=>match L0k rs ch r with
   |some vs=>some ((t,v)::vs)
   |none=>none
  |none=>none
 | .global _::_=>none
 |_::r=>L0k rs ch r
def x0s(rs:RS)(ch:List (Nat×Bool)):List Operand->St->Hp->(List (Nat×Value)->St->Hp->Prop)->Prop
 | [],st,h,K=>K [] st h
 | .tmp t::r,st,h,K=>rfy (rdA st (rdG rs ch (.tmp t))) st h λv st h=>x0s rs ch r st h λvs st h=>K ((t,v)::vs) st h
 | .global _::_,_,_,_=>False
 |_::r,st,h,K=>x0s rs ch r st h K
def u0j(P:Program)(o:Oper)(ch:List (Nat×Bool))(c:Bool)(rs:RS)(K:AV->Prop):Prop :=
 match m0e o.op,L0k rs ch o.op.operands.toList with
 |false,some vs=>match O0a (rho vs) o with
  |some (f,l)=>match okF P f with
   |true=>∃ v,imp ch c (Tr P f l.toArray rs.h λb a=>b=v/\a=rs.h)/\K (.val v)
   |false=>False
  |none=>match evP P (I0k (rho vs) o)with
   |some (.value v)=>K (.val v)
   |_=>False
 |false,none=>∃ r,imp ch c (x0s rs ch o.op.operands.toList rs.st rs.h λvs _ hf=>match O0a (rho vs) o with
  |some (f,l)=>match okF P f with
   |true=>Tr P f l.toArray hf λv a=>v=r/\a=hf
   |false=>False
  |none=>False)/\K (.val r)
 |_,_=>False
def evG(P:Program)(o:Oper)(ch:List (Nat×Bool))(c:Bool)(rs:RS)(K:AV->Prop):Prop :=
 match o.op with
 | .move x | .assign x=>match rdG rs ch x with
  | .dead=>False
  |a=>K a
 | .pick (.tmp d) a b=>match rdG rs ch (.tmp d),R0b rs.bs d with
  | .val (.bool e),some q=>match K0k q.ch ch with
   |true=>match rdG rs ((q.j,true)::q.ch) a,rdG rs ((q.j,false)::q.ch) b with
    | .val (.bool x),.val (.bool y)=>K (.val (.bool (cond e x y)))
    |_,_=>False
   |false=>False
  |_,_=>False
 | .fieldAddr t x k=>match rdG rs ch x,r0j P t k with
  | .box i off,some g=>K (.box i (off+g))
  | .hel d i sz k,some g=>K (.hel d i sz (k+g))
  | .oel i d j sz k,some g=>K (.oel i d j sz (k+g))
  |_,_=>False
 | .indexAddr t x i=>match rdG rs ch i with
  | .val (.int _ j)=>match u02 P t with
   |some e=>match j7 P e with
    |some sz=>match rdG rs ch x with
     | .val (.slice a n f)=>imp ch c (InB (.slice a n f) j)/\K (.hel (.slice a n f) j sz 0)
     | .own i k=>match nth rs.st.ow i with
      |some ⟨_,.live _ p _ _ xs⟩=>match Nat.beq p sz with
       |true=>imp ch c (0<=j/\j<(xs.length:Int))/\K (.oel i k j sz 0)
       |false=>False
      |_=>False
     |_=>False
    |none=>False
   |none=>False
  |_=>False
 | .load t x=>match rdG rs ch x with
  | .box i off=>match nth rs.st.bx i with
   |some (.live cs _)=>j06 P t cs off K
   |_=>False
  | .hel d idx sz k=>∃ e,imp ch c (Z9 rs.h d sz idx e)/\j06 P t (vals e) k K
  | .oel i _ idx sz k=>match nth rs.st.ow i with
   |some ⟨_,.live _ p _ _ xs⟩=>match Nat.beq p sz with
    |true=>∃ e,imp ch c (xs[idx.toNat]?=some e)/\j06 P t (vals e) k K
    |false=>False
   |_=>False
  |_=>False
 | .build t ps=>match P.underlying t,E02 P t with
  |some (.struct u),some z=>match I07 P u.toList with
   |true=>i09 P u (rdG rs ch) ps.toList (vals z.cells.toList) λcs=>K (.agg cs)
   |false=>False
  |_,_=>False
 | .index t x i=>match rdG rs ch x,rdG rs ch i,P.underlying t with
  | .val (.string d),.val (.int _ j),some .string=>∃ e,imp ch c (0<=j/\d[j.toNat]?=some e)/\K (.val (.int .u8 e.toNat))
  |_,_,_=>False
 | .slice t x lo hi none=>match rdG rs ch x,P.underlying t with
  | .val (.string d),some .string=>match U06 0 (lo.map (rdG rs ch)),U06 d.size (hi.map (rdG rs ch))with
   |some l,some m=>imp ch c (0<=l/\l<=m/\m<=(d.size:Int))/\K (.val (.string (d.extract l.toNat m.toNat)))
   |_,_=>False
  | .val (.slice w n f),_=>match u02 P t with
   |some e=>match j7 P e with
    |some sz=>match U06 0 (lo.map (rdG rs ch)),U06 n (hi.map (rdG rs ch))with
     |some l,some m=>∃ v,imp ch c ((0<=l/\l<=m/\m<=(n:Int)/\n<=f)/\W0m sz (.slice w n f) l.toNat m.toNat v)/\K (.val v)
     |_,_=>False
    |none=>False
   |none=>False
  |_,_=>False
 | .binOp .eql t x y yt=>match l06 (rdG rs ch x),l06 (rdG rs ch y)with
  |some (.agg xs),some (.agg s)=>∃ b,imp ch c (Q0b P o x y (.agg xs) (.agg s) b)/\K (.val (.bool b))
  |some (.slice a n m),some (.slice none 0 0)=>∃ b,imp ch c (Q0b P o x y (.slice a n m) (.slice none 0 0) b)/\K (.val (.bool b))
  |_,_=>u0j P o ch c rs K
 | .binOp .neq t x y yt=>match l06 (rdG rs ch x),l06 (rdG rs ch y)with
  |some (.agg xs),some (.agg s)=>∃ b,imp ch c (Q0b P o x y (.agg xs) (.agg s) b)/\K (.val (.bool b))
  |_,_=>u0j P o ch c rs K
 | .binOp .add t x y yt=>match rdG rs ch x,rdG rs ch y with
  | .val (.string a),.val (.string b)=>imp ch c (a.size+b.size<=9223372036854775807)/\K (.val (.string (a++b)))
  |_,_=>u0j P o ch c rs K
 | .binOp .quo t x y yt=>match rdG rs ch x,rdG rs ch y with
  | .val (.int .i64 a),.val (.int .i64 b)=>imp ch c (b≠0)/\K (.val (.int .i64 (IntKind.i64.wrap (a.tdiv b))))
  |_,_=>u0j P o ch c rs K
 | .binOp .rem t x y yt=>match rdG rs ch x,rdG rs ch y with
  | .val (.int .i64 a),.val (.int .i64 b)=>imp ch c (b≠0)/\K (.val (.int .i64 (a.tmod b)))
  |_,_=>u0j P o ch c rs K
 | .call { callee := .builtin .len,args:=as,argTypes:=A }=>match as.toList,A.toList with
  | [x],[t]=>match rdG rs ch x with
   | .own i _=>match nth rs.st.ow i,u02 P t with
    |some ⟨_,.live _ _ _ _ xs⟩,some _=>K (.val (.int .i64 xs.length))
    |_,_=>False
   |_=>u0j P o ch c rs K
  |_,_=>False
 |_=>u0j P o ch c rs K
def j09(rs:RS)(d:Nat):Bool:=match C0f rs.gf d,R0b rs.bs d with
 |none,none=>false
 |_,_=>true
def M0k(i d:Nat)(ch:List (Nat×Bool))(av:AV)(bs:List BE):List BE:=match av with
 | .val (.bool e)=>⟨i,d,e,ch⟩::bs
 |_=>bs
def D0f(d:Option Tmp)(i:Nat)(ch:List (Nat×Bool))(av:AV)(rs:RS)(K:RS->Prop):Prop :=
 match d with
 |none=>K rs
 |some d=>match Nat.blt d rs.st.n,j09 rs d with
  |true,false=>match ch with
   | []=>K { rs with st := { rs.st with fr:=(d,av)::rs.st.fr },bs:=M0k i d ch av rs.bs }
   |_=>K { rs with st := { rs.st with fr:=(d,.dead)::rs.st.fr },gf:=(d,ch,av)::rs.gf,bs:=M0k i d ch av rs.bs }
  |_,_=>False
def Y0m:Op->Bool
 | .pick ..=>true
 |_=>false
def n0e(P:Program):List Oper->Nat->RS->(RS->Prop)->Prop
 | [],_,rs,K=>K rs
 |o::r,i,rs,K=>match o.guard,Y0m o.op with
  |none,false=>k00 P o rs.st rs.h λav st h=>D0f o.dst i [] av { rs with st:=st,h:=h } λrs=>n0e P r (i+1) rs K
  |_,_=>match q01 rs.bs o.guard with
   |some ch=>match cB rs.bs ch with
    |some c=>evG P o ch c rs λav=>D0f o.dst i ch av rs λrs=>n0e P r (i+1) rs K
    |none=>False
   |none=>False
def evQ(P:Program):List Oper->Nat->RS->(RS->Prop)->Prop
 | [],_,rs,K=>K rs
 |o::r,i,rs,K=>match q01 rs.bs o.guard with
  |some ch=>match cB rs.bs ch with
   |some c=>evG P o ch c rs λav=>D0f o.dst i ch av rs λrs=>evQ P r (i+1) rs K
   |none=>False
  |none=>False
def Sub(h a:Hp):Prop:=∀ b o,h b=some o->a b=some o
def I0q(v:Value)(K:Value->Prop):Prop:=match v with
 | .bool b=>K (.bool b)
 | .int k n=>K (.int k n)
 | .string s=>K (.string s)
 | .pointer a=>K (.pointer a)
 | .slice a n c=>K (.slice a n c)
 | .func f x y=>K (.func f x y)
 | .agg cs=>K (.agg cs)
 | .tuple vs=>K (.tuple vs)
 |v=>K v
theorem o0p(v:Value)(K:Value->Prop):I0q v K=K v:=by cases v<;>rfl
def P00{a:Type}:List a->(List a->Prop)->Prop
 | [],K=>K []
 |x::r,K=>P00 r λr=>K (x::r)
theorem C03{a:Type}:∀(l:List a) (K:List a->Prop),P00 l K=K l
 | [],K=>rfl
 |x::r,K=>by simp only[P00,C03 r]
def m06:Nat->(Nat->Prop)->Prop
 |0,K=>K 0
 |n+1,K=>m06 n λm=>K (m+1)
theorem k09:∀(n:Nat) (K:Nat->Prop),m06 n K=K n
 |0,K=>rfl
 |n+1,K=>by simp only[m06,k09 n]
def e03(av:AV)(K:AV->Prop):Prop:=match av with
 | .val v=>I0q v λv=>K (.val v)
 | .own i k=>K (.own i k)
 | .box i k=>K (.box i k)
 | .hel s i z k=>m06 z λz=>m06 k λk=>K (.hel s i z k)
 | .oel j s i z k=>m06 z λz=>m06 k λk=>K (.oel j s i z k)
 | .agg cs=>P00 cs λcs=>K (.agg cs)
 | .dead=>K .dead
theorem r04(av:AV)(K:AV->Prop):e03 av K=K av:=by
 cases av with
 |val v=>exact o0p v (λv=>K (.val v))
 |hel s i z k=>simp only[e03,k09]
 |oel j s i z k=>simp only[e03,k09]
 |agg cs=>simp only[e03,C03]
 |_=>rfl
inductive K7 where
 |pu (av:AV)
 |ef (F:Value->Hp->Prop)
def R3:List (Nat×K7)->Nat->Option K7
 | [],_=>none
 |(k,x)::r,s=>match Nat.beq k s with
  |true=>some x
  |false=>R3 r s
def rdS(L:List (Nat×K7))(st:St):Operand->AV
 | .tmp t=>match R3 L t with
  |some (.pu av)=>rdA st av
  |some (.ef _) => .dead
  |none=>rdA st (J3 st.fr t)
 |x=>rdO st x
def E0f(P:Program)(t:TypeId)(cs:List P6)(off:Nat):Option AV :=
 match q0j P t with
 |some true=>match j7 P t with
  |some n=>match a09 ((cs.drop off).take n) n with
   |true=>some (.agg ((cs.drop off).take n))
   |false=>none
  |none=>none
 |some false=>match nth cs off with
  |some c=>some (ofCell c)
  |none=>none
 |none=>none
def Z0m(P:Program)(L:List (Nat×K7))(o:Oper)(st:St):Option AV:=match o.op with
 | .move x | .assign x=>match rdS L st x with
  | .dead=>none
  |a=>some a
 | .load t x=>match rdS L st x with
  | .box i off=>match nth st.bx i with
   |some (.live cs _)=>E0f P t cs off
   |_=>none
  |_=>none
 |_=>none
def F0f(L:List (Nat×K7))(st:St)(h:Hp):List Operand->List (Nat×AV)->(List (Nat×AV)->Prop)->Prop
 | [],acc,K=>K acc
 | .tmp t::r,acc,K=>match R3 L t with
  |some (.pu av)=>F0f L st h r ((t,av)::acc) K
  |some (.ef F)=>∀ v,F v h->F0f L st h r ((t,.val v)::acc) K
  |none=>F0f L st h r ((t,J3 st.fr t)::acc) K
 |_::r,acc,K=>F0f L st h r acc K
def l09(d:Option Tmp)(f:K7)(L:List (Nat×K7)):List (Nat×K7):=match d with
 |some d=>(d,f)::L
 |none=>L
def p0u(st:St)(h:Hp)(F:Value->Hp->Prop):AV->St->Hp->Prop
 | .val v,st',a=>st'=st/\Sub h a/\F v a
 |_,_,_=>False
def h01(i:Nat)(o:Oper):Bool:=o.after.toList.any λe=>Region.binds .any e&&Nat.beq e.on i
def D03(o:Oper)(t:Nat):List Oper->Nat->Bool
 | [],_=>true
 |x::r,i=>match x.dst with
  |some d=>match Nat.beq d t with
   |true=>h01 i o&&D03 o t r (i+1)
   |false=>D03 o t r (i+1)
  |none=>D03 o t r (i+1)
def S0b(o:Oper)(ops:List Oper):List Operand->Bool
 | []=>true
 | .tmp t::r=>D03 o t ops 0&&S0b o ops r
 |_::r=>S0b o ops r
def m09(d:Nat):List Oper->Bool
 | []=>true
 |o::r=>match o.dst with
  |some a => !Nat.beq d a&&m09 d r
  |none=>m09 d r
def N0k(n:Nat):List Oper->Bool
 | []=>true
 |o::r=>match o.dst with
  |some d=>Nat.blt d n&&m09 d r&&N0k n r
  |none=>N0k n r
def o0e:List Oper->Nat->Bool
 | [],_=>true
 |o::r,j=>(o.after.toList.all λe => !Region.binds .any e || Nat.blt e.on j)&&o0e r (j+1)
def c0o(ops:List Oper):List Oper->Bool
 | []=>true
 |o::r=>S0b o ops o.op.operands.toList&&c0o ops r
def Z03(n:Nat)(ops:List Oper):Bool:=N0k n ops&&o0e ops 0&&c0o ops ops
def d0o:List P6->Bool
 | []=>true
 | .val _::r=>d0o r
 | .own _ _::_=>false
def v0j:AV->Bool
 | .val _=>true
 | .box _ _=>true
 | .own _ _=>true
 | .agg cs=>d0o cs
 |_=>false
def t07(L:List (Nat×K7))(st:St):Operand->AV
 | .tmp t=>match R3 L t with
  |some (.pu av)=>av
  |some (.ef _) => .dead
  |none=>J3 st.fr t
 | .const v => .val v
 |_ => .dead
def p0e(L:List (Nat×K7))(st:St):List Operand->Option (List (Nat×Value))
 | []=>some []
 | .tmp t::r=>match t07 L st (.tmp t)with
  | .val v=>match p0e L st r with
   |some vs=>some ((t,v)::vs)
   |none=>none
  |_=>none
 | .global _::_=>none
 |_::r=>p0e L st r
def a0n(P:Program)(L:List (Nat×K7))(o:Oper)(st:St):Option AV:=match m0e o.op,p0e L st o.op.operands.toList with
 |false,some vs=>match O0a (rho vs) o with
  |some _=>none
  |none=>match evP P (I0k (rho vs) o)with
   |some (.value v)=>some (.val v)
   |_=>none
 |_,_=>none
def q0u:AV->Bool
 | .val (.int _ _)=>true
 |_=>false
def F0u:BinOp->Bool
 | .lss=>true
 | .leq=>true
 | .gtr=>true
 | .geq=>true
 |_=>false
def P0a(P:Program)(L:List (Nat×K7))(o:Oper)(st:St):Option AV:=match o.op with
 | .move x=>match v0j (t07 L st x)with
  |true=>some (t07 L st x)
  |false=>none
 | .assign x=>match v0j (t07 L st x)with
  |true=>some (t07 L st x)
  |false=>none
 | .load t x=>match t07 L st x with
  | .box i off=>match nth st.bx i with
   |some (.live cs _)=>match E0f P t cs off with
    |some av=>match v0j av with
     |true=>some av
     |false=>none
    |none=>none
   |_=>none
  |_=>none
 | .fieldAddr t x k=>match t07 L st x,r0j P t k with
  | .box i off,some a=>some (.box i (off+a))
  |_,_=>none
 | .binOp op _ x y _=>match F0u op,q0u (t07 L st x),q0u (t07 L st y)with
  |true,true,true=>a0n P L o st
  |_,_,_=>none
 | .call { callee := .builtin .len,args:=as,argTypes:=_ }=>match as.toList with
  | [x]=>match t07 L st x with
   | .val (.slice _ _ _)=>a0n P L o st
   |_=>none
  |_=>none
 |_=>none
def T01(L:List (Nat×K7))(st:St):List Oper->List Nat
 | []=>[]
 |o::r=>match o.op with
  | .load _ x=>match t07 L st x with
   | .box i _=>i::T01 L st r
   |_=>T01 L st r
  |_=>T01 L st r
def Q0a(bx:List BSt):List Nat->List (Option BSt)
 | []=>[]
 |i::r=>nth bx i::Q0a bx r
def V06(L:List (Nat×K7))(a:List (Nat×AV)):List Operand->List (Nat×AV)->(List (Nat×AV)->Prop)->Prop
 | [],acc,K=>K acc
 | .tmp t::r,acc,K=>match R3 L t with
  |some (.pu av)=>V06 L a r ((t,av)::acc) K
  |some (.ef _)=>V06 L a r ((t,.dead)::acc) K
  |none=>V06 L a r ((t,J3 a t)::acc) K
 |_::r,acc,K=>V06 L a r acc K
def b0n:List (Nat×K7)->List (Nat×AV)->List (Nat×AV)
 | [],fr=>fr
 |(d,.pu av)::r,fr=>(d,av)::b0n r fr
 |(d,.ef _)::r,fr=>(d,.dead)::b0n r fr
def e0o(av:AV)(st:St)(h:Hp):AV->St->Hp->Prop:=λa st' b=>a=av/\st'=st/\b=h
def O0k(P:Program)(st:St)(h:Hp)(L:List (Nat×K7))(o:Oper)(av:AV):Prop :=
 match st with
 |⟨n,fr,bx,ow⟩=>∀ a,Sub h a->V06 L fr o.op.operands.toList [] λfr=>k00 P o ⟨n,fr,bx,ow⟩ a (e0o av ⟨n,fr,bx,ow⟩ a)
def b05(P:Program)(st:St)(h:Hp):List Oper->Nat->List (Nat×K7)->List (Nat×Oper)->List (Nat×Oper)->(List (Nat×K7)->List (Nat×Oper)->List (Nat×Oper)->Prop)->Prop
 | [],_,L,X,E,K=>K L X E
 |o::r,i,L,X,E,K=>match o.guard with
  |some _=>False
  |none=>match P0a P L o st with
   |some av=>e03 av λav=>b05 P st h r (i+1) (l09 o.dst (.pu av) L) X E K
   |none=>(∃ av,O0k P st h L o av/\e03 av λav=>b05 P st h r (i+1) (l09 o.dst (.pu av) L) (X ++ [(i,o)]) E K) ∨
     b05 P st h r (i+1) (l09 o.dst (.ef λ_ _=>True) L) X (E ++ [(i,o)]) K
def w0j(X:List (Nat×Oper)):Nat->Nat->Oper->Bool
 |0,i,q=>h01 i q
 |n+1,i,q=>h01 i q || X.any λy=>h01 y.1 q&&w0j X n i y.2
def G0f(X Y:List (Nat×Oper)):List (Nat×Oper)->Bool
 | []=>true
 |(_,q)::_=>X.all λx=>w0j Y 8 x.1 q
def n06:List (Nat×Oper)->Bool
 |(i,o)::(j,a)::r=>h01 i a&&n06 ((j,a)::r)
 |_=>true
def o06:Nat->Nat->Oper->Bool
 |0,_,_=>true
 |k+1,i,o=>(Nat.beq k i || h01 k o)&&o06 k i o
def n09(d:Nat):List Operand->Bool
 | []=>false
 | .tmp t::r=>Nat.beq t d || n09 d r
 |_::r=>n09 d r
def H0f(d:Nat):List Oper->Bool
 | []=>false
 |o::r=>n09 d o.op.operands.toList || H0f d r
def v02:List Oper->List Oper
 | []=>[]
 |o::r=>match r with
  | []=>[]
  |_::_=>o::v02 r
def I0f:List Oper->Option Oper
 | []=>none
 |o::r=>match r with
  | []=>some o
  |_::_=>I0f r
def J0q(ops:List Oper):Option Oper:=match I0f ops with
 |some o=>match o.guard,o.dst with
  |none,some d=>match H0f d (v02 ops)&&o06 (v02 ops).length (v02 ops).length o with
   |true=>some o
   |false=>none
  |_,_=>none
 |none=>none
def x05(P:Program)(o:Oper)(st:St)(h:Hp)(K:St->Hp->Prop):Prop :=
 k00 P o st h λav st h=>D0f o.dst 0 [] av ⟨st,h,[],[]⟩ λrs=>K rs.st rs.h
def J0f(N i:Nat)(o:Oper):List (Nat×Oper)->Bool
 | []=>o06 N i o
 |_::_=>false
def f0o(c:Nat)(b:Bool)(rd:List Nat)(bx a:List BSt):Prop:=match b with
 |true=>True
 |false=>match c with
  |0=>Q0a a rd=Q0a bx rd
  |_+1=>a=bx
def x0j:Nat->List Own->List Own->Hp->Hp->Prop
 |0,_,_,_,_=>True
 |_+1,ow,b,h,a=>b=ow/\Sub h a
def evC(rd:List Nat)(N:Nat)(P:Program):Nat->List (Nat×Oper)->List (Nat×K7)->St->Hp->(St->Hp->Prop)->Prop
 |_,[],L,⟨n,fr,bx,ow⟩,h,K=>P00 (b0n L fr) λfr=>K ⟨n,fr,bx,ow⟩ h
 |c,(i,o)::r,L,⟨n,fr,bx,ow⟩,h,K=>V06 L fr o.op.operands.toList [] λe=>k00 P o ⟨n,e,bx,ow⟩ h λav st' d=>match st' with
  |⟨_,_,a,b⟩=>x0j c ow b h d/\f0o c (J0f N i o r) rd bx a/\e03 av λav=>P00 a λa=>P00 b λb=>evC rd N P (c-1) r (l09 o.dst (.pu av) L) ⟨n,fr,a,b⟩ d K
def y0s(f:Nat×Oper)(rd:List Nat)(N:Nat)(P:Program):Nat->List (Nat×Oper)->List (Nat×K7)->St->Hp->(St->Hp->Prop)->Prop
 |0,E,L,st,h,K=>evC rd N P 0 (f::E) L st h K
 |p+1,E,L,st,h,K=>evC rd N P 0 (f::E) L st h K/\match E with
  | []=>False
  |(i,o)::r=>match st with
   |⟨n,fr,bx,ow⟩=>V06 L fr o.op.operands.toList [] λd=>k00 P o ⟨n,d,bx,ow⟩ h λav st' c=>match st' with
    |⟨_,_,a,b⟩=>x0j 0 ow b h c/\f0o 0 (J0f N i o r) rd bx a/\e03 av λav=>P00 a λa=>P00 b λb=>y0s f rd N P p r (l09 o.dst (.pu av) L) ⟨n,fr,a,b⟩ c K
def p0p(f:Nat×Oper):Nat->List (Nat×Oper)->Bool
 |_,[]=>false
 |0,(_,q)::_=>h01 f.1 q
 |p+1,_::r=>p0p f p r
def b0i:Nat->List (Nat×Oper)->Option ((Nat×Oper)×List (Nat×Oper))
 |_,[]=>none
 |0,x::r=>some (x,r)
 |k+1,x::r=>match b0i k r with
  |some (f,a)=>some (f,x::a)
  |none=>none
def noX:List (Nat×Oper)->Bool
 | []=>true
 |_::_=>false
def evD(rd:List Nat)(N:Nat)(P:Program)(X E:List (Nat×Oper))(L:List (Nat×K7))(st:St)(h:Hp)(K:St->Hp->Prop):Prop :=
 (∃ c,(n06 E=true/\G0f X (X++E) (E.drop c)=true)/\evC rd N P c E L st h K) ∨
 (∃ k p,match b0i k E with
  |some (f,E')=>(noX X=true/\n06 E'=true/\p0p f p E'=true)/\y0s f rd N P p E' L st h K
  |none=>False)
abbrev FL:=List (Nat×List (Nat×Bool)×K7)
def W04:FL->Nat->Option (List (Nat×Bool)×K7)
 | [],_=>none
 |(k,x)::r,s=>match Nat.beq k s with
  |true=>some x
  |false=>W04 r s
def rdU(L:FL)(st:St)(ch:List (Nat×Bool)):Operand->AV
 | .tmp t=>match W04 L t with
  |some (a,.pu av)=>match K0k a ch with
   |true=>rdA st av
   |false => .dead
  |some (_,.ef _) => .dead
  |none=>rdA st (J3 st.fr t)
 |x=>rdO st x
def R0a(P:Program)(L:FL)(bs:List BE)(ch:List (Nat×Bool))(o:Oper)(st:St):Option AV:=match o.op with
 | .move x | .assign x=>match rdU L st ch x with
  | .dead=>none
  |a=>some a
 | .load t x=>match rdU L st ch x with
  | .box i off=>match nth st.bx i with
   |some (.live cs _)=>E0f P t cs off
   |_=>none
  |_=>none
 | .fieldAddr t x k=>match rdU L st ch x,r0j P t k with
  | .box i off,some d=>some (.box i (off+d))
  | .hel c i sz k,some d=>some (.hel c i sz (k+d))
  |_,_=>none
 | .pick (.tmp c) a b=>match rdU L st ch (.tmp c),R0b bs c with
  | .val (.bool e),some q=>match K0k q.ch ch with
   |true=>match rdU L st ((q.j,true)::q.ch) a,rdU L st ((q.j,false)::q.ch) b with
    | .val (.bool x),.val (.bool y)=>some (.val (.bool (cond e x y)))
    |_,_=>none
   |false=>none
  |_,_=>none
 |_=>none
def R08(L:FL)(st:St)(h:Hp)(ch:List (Nat×Bool)):List Operand->List (Nat×AV)->(List (Nat×AV)->Prop)->Prop
 | [],acc,K=>K acc
 | .tmp t::r,acc,K=>match W04 L t with
  |some (a,f)=>match K0k a ch with
   |true=>match f with
    | .pu av=>R08 L st h ch r ((t,av)::acc) K
    | .ef F=>∀ v,F v h->R08 L st h ch r ((t,.val v)::acc) K
   |false=>False
  |none=>R08 L st h ch r ((t,J3 st.fr t)::acc) K
 |_::r,acc,K=>R08 L st h ch r acc K
def G0h(h:Hp):FL->List (Nat×AV)->(List (Nat×AV)->Prop)->Prop
 | [],fr,K=>K fr
 |(d,[],.pu av)::r,fr,K=>G0h h r ((d,av)::fr) K
 |(d,[],.ef F)::r,fr,K=>∀ v,F v h->G0h h r ((d,.val v)::fr) K
 |(d,_::_,_)::r,fr,K=>G0h h r ((d,.dead)::fr) K
def y0j(d:Option Tmp)(ch:List (Nat×Bool))(f:K7)(L:FL):FL:=match d with
 |some d=>(d,ch,f)::L
 |none=>L
def z0j(i:Nat)(d:Option Tmp)(ch:List (Nat×Bool))(av:AV)(bs:List BE):List BE:=match d with
 |some d=>match av with
  | .val (.bool e)=>⟨i,d,e,ch⟩::bs
  |_=>bs
 |none=>bs
def c0n(st st':St):Prop:=st'.n=st.n/\st'.fr=st.fr/\st'.bx=st.bx/\∃ t,st'.ow=st.ow++t
def K0q(st:St)(h:Hp)(F:Value->Hp->Prop):AV->St->Hp->Prop:=λav st' b=>rfy av st' b λv c a=>c0n st c/\Sub h a/\F v a
def L0q(P:Program)(t n:Nat)(st:St)(h:Hp)(K:AV->St->Hp->Prop):Prop :=
 match u02 P t with
 |some e=>match j7 P e,Nat.beq n 0 with
  |some (_+1),true=>∀ g,h g=none->K (.val (.slice (some ⟨g,0,none⟩) 0 0)) st (h.set g (.cells #[] e (0,0)))
  |_,_=>False
 |none=>False
def M0q(P:Program)(t:TypeId)(a b:Operand)(st:St)(h:Hp)(K:AV->St->Hp->Prop):Prop :=
 match u02 P t with
 |some e=>match j7 P e,l0b P e,E02 P e with
  |some (sz+1),some (by_+1),some z=>match a09 z.cells.toList (sz+1)with
   |true=>match rdO st a with
    | .val (.slice (some ⟨g,o,none⟩) 0 0)=>a0i st h (sz+1) (rdO st b) λc=>P0b c.length (by_+1) /\
      ((c = []->K (.val (.slice (some ⟨g,o,none⟩) 0 0)) st h)/\∀ v d,Z0 h d v e (sz+1) true c->K (.val v) st d)
    |_=>False
   |false=>False
  |_,_,_=>False
 |none=>False
def P0k(P:Program)(o:Oper)(st:St)(h:Hp)(K:AV->St->Hp->Prop):Prop :=
 match o.op with
 | .buildSlice t n ps=>match ps.toList with
  | []=>L0q P t n st h K
  |_::_=>k00 P o st h K
 | .call { callee := .builtin .append,args:=as,argTypes:=d }=>match as.toList,d.toList with
  | [a,b],[t,c]=>match Nat.beq t c with
   |true=>M0q P t a b st h K
   |false=>False
  |_,_=>False
 |_=>k00 P o st h K
def evU(P:Program)(l:List Oper):Nat->FL->List BE->St->Hp->(St->Hp->Prop)->Prop :=
  List.rec (motive:=λ_=>Nat->FL->List BE->St->Hp->(St->Hp->Prop)->Prop)
    (λ_ L _ st h K=>match st with
      |⟨n,fr,bx,ow⟩=>∀ a,Sub h a->G0h a L fr λfr=>K ⟨n,fr,bx,ow⟩ a)
    (λo _ b i L bs st h K=>match st with
      |⟨n,fr,bx,ow⟩=>match q01 bs o.guard with
        |some ch=>match cB bs ch with
          |some c=>match R0a P L bs ch o ⟨n,fr,bx,ow⟩with
            |some av=>e03 av λav=>b (i+1) (y0j o.dst ch (.pu av) L) (z0j i o.dst ch av bs) ⟨n,fr,bx,ow⟩ h K
            |none=>(∃ av,(∀ a,Sub h a->imp ch c (R08 L ⟨n,fr,bx,ow⟩ a ch o.op.operands.toList [] λfr=>k00 P o ⟨n,fr,bx,ow⟩ a (e0o av ⟨n,fr,bx,ow⟩ a))) /\
                  e03 av λav=>b (i+1) (y0j o.dst ch (.pu av) L) (z0j i o.dst ch av bs) ⟨n,fr,bx,ow⟩ h K) ∨
                (∃ F:Value->Hp->Prop,(∀ v d e,Sub d e->F v d->F v e) /\
                  (∀ a,Sub h a->imp ch c (R08 L ⟨n,fr,bx,ow⟩ a ch o.op.operands.toList [] λfr=>P0k P o ⟨n,fr,bx,ow⟩ a (K0q ⟨n,fr,bx,ow⟩ a F))) /\
                  b (i+1) (y0j o.dst ch (.ef F) L) bs ⟨n,fr,bx,ow⟩ h K)
          |none=>False
        |none=>False) l
def o0f:List Oper->Bool
 | []=>true
 |o::r=>(match o.guard with
  |some (j,_)=>h01 j o
  |none=>true)&&o0f r
def l05(n:Nat)(ops:List Oper):Bool:=Z03 n ops&&o0f ops
def z0s(P:Program):List Oper->Bool
 | []=>false
 |o::r=>(match o.guard,o.op with
  |some _,.call { callee := .value _,args:=_,argTypes:=_ }=>match P.underlying o.type with
   |some (.slice _)=>true
   |some (.struct _)=>true
   |some (.tuple _)=>true
   |_=>false
  |_,_=>false) || z0s P r
def p06(o:Oper):Bool:=match o.op with
 | .alloc _=>true
 |_=>false
def E01(o:Oper):Oper:=match o.op with
 | .alloc _ => { o with op := .move (.const undef) }
 |_=>o
def N6:List Oper->List Oper
 | []=>[]
 |o::r=>E01 o::N6 r
def okA(P:Program)(all:List Oper):List Oper->Bool
 | []=>true
 |o::r=>(match o.op with
  | .alloc t=>(match o.guard,o.dst,E02 P t with
   |none,some d,some _ => !H0f d all
   |_,_,_=>false)
  |_=>true)&&okA P all r
def d0n(x:Nat):List Nat->Bool
 | []=>false
 |y::r=>Nat.beq x y || d0n x r
def A0s(ops:List Oper)(i:Nat):List Nat->Bool
 | []=>false
 |j::r=>(match nth ops j with
  |some o=>h01 i o
  |none=>false) || A0s ops i r
def c0i(ops:List Oper):Nat->List Nat->List Nat
 |0,acc=>acc
 |i+1,acc=>match A0s ops i acc with
  |true=>c0i ops i (i::acc)
  |false=>c0i ops i acc
def T0b(o:Oper):Option Nat:=match o.guard with
 |some _=>none
 |none=>match o.op with
  | .extract (.tmp t) _=>some t
  | .move (.tmp t)=>some t
  | .assign (.tmp t)=>some t
  |_=>none
def U0b(d:Nat):List Oper->Bool
 | []=>false
 |o::r=>(match o.dst with
  |some e=>Nat.beq e d
  |none=>false) || U0b d r
def L07(a:List Nat)(t:Nat):List Oper->Nat->Bool
 | [],_=>true
 |o::r,i=>(match o.dst with
  |some e => !Nat.beq e t || d0n i a
  |none=>true)&&L07 a t r (i+1)
def M07(i d:Nat):List Oper->Bool
 | []=>true
 |o::r=>(!n09 d o.op.operands.toList || h01 i o)&&M07 i d r
def g0o(c a:List Oper)(b:List Nat)(i:Nat)(o:Oper):Bool:=match T0b o,o.dst with
 |some t,some d => !U0b d a && !U0b t a&&L07 b t c 0&&M07 i d a
 |_,_=>false
def p0f(b c:List Oper)(a:List Nat):List Oper->Nat->Bool
 | [],_=>true
 |o::r,i=>(d0n i a || g0o b c a i o)&&p0f b c a r (i+1)
def Q0k:List Oper->Bool
 | []=>true
 |o::r => !m0e o.op&&Q0k r
def N0q:Nat->List Oper->Bool
 |_,[]=>true
 |k,o::r=>(match o.guard with
  |none=>true
  |some _=>false)&&(match r with
  | []=>true
  |o'::_=>h01 k o')&&N0q (k+1) r
def r0u:List Oper->Bool
 | []=>true
 |_::_=>false
def okZ(P:Program)(n m:Nat)(ops:List Oper):Bool :=
 l05 n (N6 (ops.take m))&&okA P (ops.take m) (ops.take m)&&o0e ops 0&&N0q m (ops.drop m)&&(r0u (ops.drop m) || (p0f (ops.take m) (ops.drop m) (c0i ops m [m]) (ops.take m) 0&&Q0k (ops.drop m)))
abbrev H0t:=Oper->St->Hp->(St->Hp->Prop)->Prop
def doA(R:H0t)(l:List Oper):St->Hp->(St->Hp->Prop)->Prop :=
 List.rec (motive:=λ_=>St->Hp->(St->Hp->Prop)->Prop) (λst h K=>K st h) (λo _ a st h K=>match p06 o with
  |true=>R o st h λst h=>a st h K
  |false=>a st h K) l
def doT(R:H0t)(l:List Oper):St->Hp->(St->Hp->Prop)->Prop :=
 List.rec (motive:=λ_=>St->Hp->(St->Hp->Prop)->Prop) (λst h K=>K st h) (λo _ a st h K=>R o st h λst h=>a st h K) l
def evT(P:Program)(R:H0t)(m:Nat)(ops:List Oper)(st:St)(h:Hp)(K:St->Hp->Prop):Prop :=
 evU P (N6 (ops.take m)) 0 [] [] st h λst h=>doA R (ops.take m) st h λst h=>doT R (ops.drop m) st h K
inductive Ex where
 |normal|ret
 |exit (i:Nat)
structure Ann where
 vars:List Nat
 boxes:List Nat
 owns:List Nat
 nils:List (Nat×Nat×Nat×Nat):=[]
 nilsB:List (Nat×Nat×Nat×Nat×Nat):=[]
 kept:List Nat:=[]
 fuel:Bool:=false
 pubs:List Nat:=[]
def R0k:List (Nat×Nat×Nat×Nat)->St->(St->Prop)->Prop
 | [],st,K=>K st
 |(s,e,sz,by_)::r,⟨n,fr,bx,ow⟩,K=>match rdA ⟨n,fr,bx,ow⟩ (J3 fr s),Nat.blt s n with
  | .val (.slice none 0 0),true=>U0m ow λk=>R0k r ⟨n,(s,.own k 0)::fr,bx,ow ++ [⟨0,.live e sz by_ false []⟩]⟩ K
  |_,_=>False
def K0f:List (Nat×Nat×Nat×Nat×Nat)->St->(St->Prop)->Prop
 | [],st,K=>K st
 |(i,k,e,sz,by_)::r,⟨n,fr,bx,ow⟩,K=>match nth bx i with
  |some (.live cs ty)=>match nth cs k with
   |some (.val (.slice none 0 0))=>U0m ow λj=>K0f r ⟨n,fr,S01 bx i (.live (S01 cs k (.own j 0)) ty),ow ++ [⟨0,.live e sz by_ false []⟩]⟩ K
   |_=>False
  |_=>False
def S0k:List Nat->St->Hp->(St->Hp->Prop)->Prop
 | [],st,h,K=>K st h
 |s::r,st,h,K=>rfy (rdA st (J3 st.fr s)) st h λv st h=>match st with
  |⟨n,fr,bx,ow⟩=>match Nat.blt s n with
   |true=>S0k r ⟨n,(s,.val v)::fr,bx,ow⟩ h K
   |false=>False
def m0b(x:Nat):List Nat->Bool
 | []=>false
 |y::r=>match Nat.beq x y with
  |true=>true
  |false=>m0b x r
def I0t:List Oper->List Nat->List Nat
 | [],acc=>acc
 |o::r,acc=>match o.dst with
  |some d=>I0t r (d::acc)
  |none=>I0t r acc
def H0h:Code->List Nat->List Nat
 | .region _ ops _,acc=>I0t ops.toList acc
 | .seq a b,acc=>H0h a (H0h b acc)
 | .cond _ a b,acc=>H0h a (H0h b acc)
 | .block _ a,acc=>H0h a acc
 | .loop a,acc=>H0h a acc
 | .scope a,acc=>H0h a acc
 |_,acc=>acc
def i0d:List Nat->(List Nat->Prop)->Prop
 | [],K=>K []
 |x::r,K=>i0d r λr=>K (x::r)
def B0s:List Nat->St->(List Value->Prop)->Prop
 | [],_,K=>K []
 |s::r,st,K=>match rdA st (J3 st.fr s)with
  | .val v=>B0s r st λvs=>K (v::vs)
  |_=>False
def T0k:List P6->St->(List Value->Prop)->Prop
 | [],_,K=>K []
 | .val v::r,st,K=>T0k r st λvs=>K (v::vs)
 | .own _ _::r,st,K=>T0k r st K
def L0f:List Nat->St->(List Value->Prop)->Prop
 | [],_,K=>K []
 |i::r,st,K=>match nth st.bx i with
  |some (.live cs _)=>T0k cs st λvs=>L0f r st λws=>K (vs++ws)
  |_=>False
def d0i:List Nat->St->(List (List (List Value))->Prop)->Prop
 | [],_,K=>K []
 |i::r,st,K=>match nth st.ow i with
  |some ⟨_,.live _ _ _ _ xs⟩=>d0i r st λos=>K (xs::os)
  |_=>False
def e0n(A:Ann)(st:St)(K:List Value->List (List (List Value))->Prop):Prop :=
 B0s A.vars st λvs=>L0f A.boxes st λws=>d0i A.owns st λos=>K (vs++ws) os
def m05:List P6->List Value->(List P6->List Value->Prop)->Prop
 | [],vs,K=>K [] vs
 | .val _::r,v::vs,K=>m05 r vs λcs a=>K (.val v::cs) a
 | .val _::_,[],_=>False
 | .own i k::r,vs,K=>m05 r vs λcs a=>K (.own i k::cs) a
def N07:List Nat->List Value->List BSt->(List BSt->Prop)->Prop
 | [],_,bx,K=>K bx
 |i::r,vs,bx,K=>match nth bx i with
  |some (.live cs ty)=>m05 cs vs λcs a=>N07 r a (S01 bx i (.live cs ty)) K
  |_=>False
def O07:List Nat->List (List (List Value))->List Own->(List Own->Prop)->Prop
 | [],_,ow,K=>K ow
 |i::r,xs::os,ow,K=>match nth ow i with
  |some ⟨s,.live e sz by_ nn _⟩=>O07 r os (S01 ow i ⟨s,.live e sz by_ nn xs⟩) K
  |_=>False
 |_::_,[],_,_=>False
def o09{c:Type}:Nat->List c->(List c->List c->Prop)->Prop
 |0,l,K=>K [] l
 |n+1,x::l,K=>o09 n l λa b=>K (x::a) b
 |_+1,[],_=>False
def S0a(A:Ann)(st:St):List Nat->List (Nat×AV)->(List (Nat×AV)->Prop)->Prop
 | [],acc,K=>K acc
 |s::r,acc,K=>match m0b s A.vars with
  |true=>S0a A st r acc K
  |false=>match rdA st (J3 st.fr s)with
   | .own i k=>S0a A st r ((s,.own i k)::acc) K
   | .box i o=>S0a A st r ((s,.box i o)::acc) K
   |_=>S0a A st r ((s,.dead)::acc) K
def h0o:List P6->Bool
 | []=>true
 | .val _::r=>h0o r
 | .own _ _::_=>false
def P07(A:Ann)(ds:List Nat)(st:St):List (Nat×AV)->(List (Nat×AV)->Prop)->Prop
 | [],K=>K []
 |(s,av)::r,K=>match m0b s ds with
  |true=>P07 A ds st r K
  |false=>match rdA st av with
   | .own i k=>match m0b i A.owns,m0b i A.kept with
    |true,false=>P07 A ds st r λl=>K ((s,.dead)::l)
    |_,_=>P07 A ds st r λl=>K ((s,.own i k)::l)
   | .oel _ _ _ _ _=>P07 A ds st r λl=>K ((s,.dead)::l)
   | .agg cs=>match h0o cs with
    |true=>P07 A ds st r λl=>K ((s,.agg cs)::l)
    |false=>P07 A ds st r λl=>K ((s,.dead)::l)
   |a=>P07 A ds st r λl=>K ((s,a)::l)
def j0d:List Nat->List Value->List (Nat×AV)->List (Nat×AV)
 |s::r,v::vs,acc=>j0d r vs ((s,.val v)::acc)
 |_,_,acc=>acc
def q0e(b a:St):List (Nat×AV)->Bool
 | []=>true
 |(c,av)::r=>match av with
  | .own i _=>match rdA a (J3 a.fr c)with
   | .own j _=>match Nat.beq i j with
    |true=>q0e b a r
    |false=>false
   |_=>false
  | .box i o=>match rdA a (J3 a.fr c)with
   | .box j p=>match Nat.beq i j,Nat.beq o p with
    |true,true=>q0e b a r
    |_,_=>false
   |_=>false
  |_=>q0e b a r
def f0n:AV->Bool
 | .dead=>true
 |_=>false
def q0p:List (Nat×AV)->List AV
 | []=>[]
 |(_,av)::r=>match f0n av with
  |true=>q0p r
  |false=>av::q0p r
def e0i(fr:List (Nat×AV)):List (Nat×AV)->List AV
 | []=>[]
 |(s,av)::r=>match f0n av with
  |true=>e0i fr r
  |false=>J3 fr s::e0i fr r
def Q07(c a:St):List P6->List P6->Bool
 | [],[]=>true
 | .val _::r,.val _::b=>Q07 c a r b
 | .own i _::r,.own j d::b=>match Nat.beq i j,rdA a (.own j d)with
  |true,.own _ _=>Q07 c a r b
  |_,_=>false
 |_,_=>false
def V0b(os:List Nat):List P6->Bool
 | []=>true
 | .val _::r=>V0b os r
 | .own i _::r=>match m0b i os with
  |true=>false
  |false=>V0b os r
def g0n(os:List Nat):BSt->Bool
 | .live cs _=>V0b os cs
 | .publ _=>true
def k0d(A:Ann)(c a:St):Nat->List BSt->List BSt->Prop
 |_,[],_=>True
 |i,b::r,d::e=>match m0b i A.boxes with
  |true=>match b,d with
   | .live cs ty,.live cs' f=>match Nat.beq ty f,Q07 c a cs cs' with
    |true,true=>k0d A c a (i+1) r e
    |_,_=>False
   |_,_=>False
  |false=>match g0n A.owns b with
   |true=>d=b/\k0d A c a (i+1) r e
   |false=>False
 |_,_::_,[]=>False
def leB(a b:Bool):Bool:=match a with
 |true=>b
 |false=>true
def l0d(A:Ann):Nat->List Own->List Own->Prop
 |_,[],_=>True
 |i,b::r,a::c=>match m0b i A.owns with
  |true=>match b,a with
   |⟨h,.live e sz by_ nn _⟩,⟨j,.live f k d g _⟩=>match Nat.beq e f,Nat.beq sz k,Nat.beq by_ d,leB nn g,leB (m0b i A.kept) (Nat.beq h j)with
    |true,true,true,true,true=>l0d A (i+1) r c
    |_,_,_,_,_=>False
   |_,_=>False
  |false=>a=b/\l0d A (i+1) r c
 |_,_::_,[]=>False
def W0b:Nat->(List Value->Prop)->Prop
 |0,K=>K []
 |n+1,K=>∀ v,W0b n λvs=>K (v::vs)
def X0b:Nat->(List (List (List Value))->Prop)->Prop
 |0,K=>K []
 |n+1,K=>∀ xs,X0b n λos=>K (xs::os)
abbrev m0d:=List Value->List (List (List Value))->Hp->Prop
abbrev S08:=List Value->List (List (List Value))->Nat
def C0s:List Value->List Value->Bool
 | [],[]=>true
 |_::r,_::a=>C0s r a
 |_,_=>false
def U0k(A:Ann)(I:m0d)(vs:List Value)(os:List (List (List Value)))(h:Hp):Prop:=match A.fuel with
 |false=>I vs os h
 |true=>∃ m:Nat,I (.int .i64 m::vs) os h
def V0k(A:Ann)(b:m0d)(μ:S08)(vs:List Value)(os:List (List (List Value)))(X:Nat->Hp->Prop):Prop:=match A.fuel with
 |false=>∀ a,b vs os a->X (μ vs os) a
 |true=>∀(m:Nat) (a:Hp),b (.int .i64 m::vs) os a->X m a
def D0s(A:Ann)(a:m0d)(μ:S08)(m:Nat)(vs:List Value)(os:List (List (List Value)))(h:Hp):Prop:=match A.fuel with
 |false=>a vs os h/\μ vs os<m
 |true=>∃ b:Nat,a (.int .i64 b::vs) os h/\b<m
def atI(A:Ann)(I:m0d)(μ:S08)(m:Nat)(vs:List Value)(os:List (List (List Value)))(h:Hp):Prop:=match A.fuel with
 |false=>I vs os h/\m=μ vs os
 |true=>I (.int .i64 m::vs) os h
theorem O0q{A:Ann}{b:m0d}{μ:S08}{vs:List Value}{os:List (List (List Value))}{h:Hp}(a:U0k A b vs os h):∃ m,atI A b μ m vs os h:=by
 unfold U0k at a
 unfold atI
 cases hf:A.fuel with
 |false=>rw[hf]at a;exact⟨_,a,rfl⟩
 |true=>rw[hf]at a;exact a
theorem P0q{A:Ann}{c:m0d}{μ:S08}{vs:List Value}{os:List (List (List Value))}{X:Nat->Hp->Prop}(b:V0k A c μ vs os X){m:Nat}{h:Hp}(a:atI A c μ m vs os h):X m h:=by
 unfold V0k at b
 unfold atI at a
 cases hf:A.fuel with
 |false=>rw[hf]at b a;rw[a.2];exact b _ a.1
 |true=>rw[hf]at b a;exact b _ _ a
theorem E0s{A:Ann}{b:m0d}{μ:S08}{m:Nat}{vs:List Value}{os:List (List (List Value))}{h:Hp}(a:D0s A b μ m vs os h):∃ c,atI A b μ c vs os h/\c<m:=by
 unfold D0s at a
 unfold atI
 cases hf:A.fuel with
 |false=>rw[hf]at a;exact⟨_,⟨a.1,rfl⟩,a.2⟩
 |true=>rw[hf]at a;exact a
def Q0q(A:Ann)(d b:List (Nat×AV))(a:St)(c:m0d)(μ:S08)(f:List Value)(m:Nat)(st:St)(h:Hp):Prop :=
 match Nat.beq st.n a.n,q0e a st d with
 |true,true=>e0i st.fr b=q0p b/\k0d A a st 0 a.bx st.bx/\l0d A 0 a.ow st.ow /\
   e0n A st λvs os=>match C0s vs f with
    |true=>o09 A.vars.length vs λ_ e=>N07 A.boxes e a.bx λ_=>O07 A.owns os a.ow λ_=>D0s A c μ m vs os h
    |false=>False
 |_,_=>False
def i0o(i:(Ex->St->Hp->Prop)->St->Hp->Prop)(j:List Nat)(Q:Ex->St->Hp->Prop)(st:St)(h:Hp):Prop :=
 ∃(A:Ann) (b:m0d) (μ:S08),R0k A.nils st λst=>K0f A.nilsB st λst=>S0k A.pubs st h λst h=>e0n A st λg d=>U0k A b g d h /\
  i0d j λds=>S0a A st ds [] λc=>P07 A ds st st.fr λf =>
   W0b g.length λvs=>X0b d.length λos=>V0k A b μ vs os λm k =>
    o09 A.vars.length vs λl o=>N07 A.boxes o st.bx λbx=>O07 A.owns os st.ow λow =>
     i (λe st' a=>match e with
      | .normal=>S0k A.pubs st' a λst' a=>Q0q A c f st b μ vs m st' a
      |e=>Q e st' a) ⟨st.n,j0d A.vars l (c++f),bx,ow⟩ k
def R0q(b:Bool)(X Y:Prop):Prop:=(b=true->X)/\(b=false->Y)
def ev(P:Program):Code->(Ex->St->Hp->Prop)->St->Hp->Prop
 | .skip,Q,st,h=>Q .normal st h
 | .region _ ops false,Q,st,h=>match z0s P ops.toList with
  |true=>l05 st.n ops.toList=true/\evU P ops.toList 0 [] [] st h λst h=>Q .normal st h
  |false=>n0e P ops.toList 0 ⟨st,h,[],[]⟩ λrs=>Q .normal rs.st rs.h
 | .region _ ops true,Q,st,h=>((P.follows .mixedOrders=true/\Region.lexB .any ops=true) /\
   evQ P ops.toList 0 ⟨st,h,[],[]⟩ λrs=>Q .normal rs.st rs.h) ∨
   False ∨
   (match J0q ops.toList with
    |none=>(P.follows .mixedOrders=true/\Z03 st.n ops.toList=true)/\b05 P st h ops.toList 0 [] [] [] λL X E=>evD (T01 L st ops.toList) ops.size P X E L st h λst h=>Q .normal st h
    |some o=>(P.follows .mixedOrders=true/\(Z03 st.n (v02 ops.toList)&&o0e ops.toList 0)=true)/\b05 P st h (v02 ops.toList) 0 [] [] [] λL X E=>evD (T01 L st (v02 ops.toList)) (v02 ops.toList).length P X E L st h λst h=>x05 P o st h λst h=>Q .normal st h) ∨
   ((P.follows .mixedOrders=true/\l05 st.n ops.toList=true)/\evU P ops.toList 0 [] [] st h λst h=>Q .normal st h) ∨
   (∃ m,(P.follows .mixedOrders=true/\okZ P st.n m ops.toList=true)/\evT P (x05 P) m ops.toList st h λst h=>Q .normal st h)
 | .seq a b,Q,st,h=>ev P a (λe st h=>match e with
  | .normal=>ev P b Q st h
  |e=>Q e st h) st h
 | .cond c t e,Q,st,h=>match rdO st c with
  | .val (.bool b)=>R0q b (ev P t Q st h) (ev P e Q st h)
  |_=>False
 | .block id c,Q,st,h=>ev P c (λe st h=>match e with
  | .exit i=>match Nat.beq i id with
   |true=>Q .normal st h
   |false=>Q (.exit i) st h
  |e=>Q e st h) st h
 | .loop d,Q,st,h=>i0o (λQ=>ev P d Q) (H0h d []) Q st h
 | .exit id,Q,st,h=>Q (.exit id) st h
 | .ret,Q,st,h=>Q .ret st h
 |_,_,_,_=>False
def h0n(P:Program):List ResultVar->St->Hp->(List Value->St->Hp->Prop)->Prop
 | [],st,h,K=>K [] st h
 | .tmp t::r,st,h,K=>rfy (rdA st (J3 st.fr t)) st h λv st h=>h0n P r st h λvs st h=>K (v::vs) st h
 | .cell t ty::r,st,h,K=>match rdA st (J3 st.fr t)with
  | .box i off=>match nth st.bx i with
   |some (.live cs _)=>j06 P ty cs off λav=>rfy av st h λv st h=>h0n P r st h λvs st h=>K (v::vs) st h
   |_=>False
  |_=>False
def W0k:List Value->Value
 | [v]=>v
 |vs => .tuple vs.toArray
def Y0b:Nat->List Value->List (Nat×AV)
 |_,[]=>[]
 |i,v::r=>(i,.val v)::Y0b (i+1) r
def J0t(P:Program)(fn:Func)(args:List Value)(h:Hp)(T:Value->Hp->Prop):Prop :=
 match fn.body with
 |some c=>match Nat.ble args.length fn.ntmps with
  |true=>ev P c (λe st h=>match e with
   | .exit _=>False
   |_=>h0n P fn.results.toList st h λvs _ h=>T (W0k vs) h) ⟨fn.ntmps,Y0b 0 args,[],[]⟩ h
  |false=>False
 |none=>False
end Go.H
