/- Plain laws over the model: what a function's code asks: regions with guards, regions that draw their order, branches and loops. -/
import Derived.Test.YtcpjomkcdlggaaaGreatH2
namespace Go.H
set_option linter.all false
structure BE where
 j:Nat
 d:Nat
 e:Bool
 ch:List (Nat×Bool)
structure RS where
 st:St
 h:Hp
 gf:List (Nat×List (Nat×Bool)×AV)
 bs:List BE
def i0j:List (Nat×List (Nat×Bool)×AV)->Nat->Option (List (Nat×Bool)×AV)
 | [],_=>none
 |(k,x)::r,s=>match Nat.beq k s with
  |true=>some x
  |false=>i0j r s
def eqB(a b:Bool):Bool:=match a,b with
 |true,true=>true
 |false,false=>true
 |_,_=>false
def u0u:List (Nat×Bool)->List (Nat×Bool)->Bool
 | [],[]=>true
 |(a,w)::r,(b,d)::c=>match Nat.beq a b,eqB w d with
  |true,true=>u0u r c
  |_,_=>false
 |_,_=>false
def i0o(a:List (Nat×Bool)):List (Nat×Bool)->Bool
 | []=>u0u a []
 |x::r=>match u0u a (x::r)with
  |true=>true
  |false=>i0o a r
def rdG(rs:RS)(ch:List (Nat×Bool)):Operand->AV
 | .tmp t=>match i0j rs.gf t with
  |some (a,av)=>match i0o a ch with
   |true=>rdA rs.st av
   |false => .dead
  |none=>rdA rs.st (N3 rs.st.fr t)
 |x=>rdO rs.st x
def b06:List BE->Nat->Option BE
 | [],_=>none
 |b::r,j=>match Nat.beq b.j j with
  |true=>some b
  |false=>b06 r j
def j0f:List BE->Nat->Option BE
 | [],_=>none
 |b::r,s=>match Nat.beq b.d s with
  |true=>some b
  |false=>j0f r s
def lit(w e:Bool):Bool:=match w with
 |true=>e
 |false => !e
def cB(bs:List BE):List (Nat×Bool)->Option Bool
 | []=>some true
 |(j,w)::r=>match b06 bs j with
  |some b=>match r with
   | []=>some (lit w b.e)
   |_=>match cB bs r with
    |some c=>some (lit w b.e&&c)
    |none=>none
  |none=>none
def X01(bs:List BE):Option (Nat×Bool)->Option (List (Nat×Bool))
 |none=>some []
 |some (j,w)=>match b06 bs j with
  |some b=>some ((j,w)::b.ch)
  |none=>none
def imp(ch:List (Nat×Bool))(c:Bool)(X:Prop):Prop:=match ch with
 | []=>X
 |_=>c=true->X
def j0o(rs:RS)(ch:List (Nat×Bool)):List Operand->Option (List (Nat×Value))
 | []=>some []
 | .tmp t::r=>match o08 (rdG rs ch (.tmp t))with
  |some v=>match j0o rs ch r with
   |some vs=>some ((t,v)::vs)
   |none=>none
  |none=>none
 | .global _::_=>none
 |_::r=>j0o rs ch r
def s0w(rs:RS)(ch:List (Nat×Bool)):List Operand->St->Hp->(List (Nat×Value)->St->Hp->Prop)->Prop
 | [],st,h,K=>K [] st h
 | .tmp t::r,st,h,K=>rfy (rdA st (rdG rs ch (.tmp t))) st h λv st h=>s0w rs ch r st h λvs st h=>K ((t,v)::vs) st h
 | .global _::_,_,_,_=>False
 |_::r,st,h,K=>s0w rs ch r st h K
def U0m(P:Program)(o:Oper)(ch:List (Nat×Bool))(c:Bool)(rs:RS)(K:AV->Prop):Prop :=
 match g0f o.op,j0o rs ch o.op.operands.toList with
 |false,some vs=>match L0b (rho vs) o with
  |some (f,l)=>match okF P f with
   |true=>∃ v,imp ch c (Tr P f l.toArray rs.h λa h'=>a=v/\h'=rs.h)/\K (.val v)
   |false=>False
  |none=>match evP P (y0l (rho vs) o)with
   |some (.value v)=>K (.val v)
   |_=>False
 |false,none=>∃ r,imp ch c (s0w rs ch o.op.operands.toList rs.st rs.h λvs _ hf=>match L0b (rho vs) o with
  |some (f,l)=>match okF P f with
   |true=>Tr P f l.toArray hf λv h'=>v=r/\h'=hf
   |false=>False
  |none=>False)/\K (.val r)
 |_,_=>False
def evG(P:Program)(o:Oper)(ch:List (Nat×Bool))(c:Bool)(rs:RS)(K:AV->Prop):Prop :=
 match o.op with
 | .move x | .assign x=>match rdG rs ch x with
  | .dead=>False
  |a=>K a
 | .pick (.tmp d) a b=>match rdG rs ch (.tmp d),j0f rs.bs d with
  | .val (.bool e),some q=>match i0o q.ch ch with
   |true=>match rdG rs ((q.j,true)::q.ch) a,rdG rs ((q.j,false)::q.ch) b with
    | .val (.bool x),.val (.bool y)=>K (.val (.bool (cond e x y)))
    |_,_=>False
   |false=>False
  |_,_=>False
 | .fieldAddr t x k=>match rdG rs ch x,R0m P t k with
  | .box i off,some g=>K (.box i (off+g))
  | .hel d i sz k,some g=>K (.hel d i sz (k+g))
  | .oel i d f sz k,some g=>K (.oel i d f sz (k+g))
  |_,_=>False
 | .indexAddr t x i=>match rdG rs ch i with
  | .val (.int _ f)=>match O03 P t with
   |some e=>match A7 P e with
    |some sz=>match rdG rs ch x with
     | .val (.slice a n cp)=>imp ch c (InB (.slice a n cp) f)/\K (.hel (.slice a n cp) f sz 0)
     | .own i k=>match nth rs.st.ow i with
      |some ⟨_,.live _ p _ _ xs⟩=>match Nat.beq p sz with
       |true=>imp ch c (0<=f/\f<(xs.length:Int))/\K (.oel i k f sz 0)
       |false=>False
      |_=>False
     |_=>False
    |none=>False
   |none=>False
  |_=>False
 | .load t x=>match rdG rs ch x with
  | .box i off=>match nth rs.st.bx i with
   |some (.live cs _)=>m08 P t cs off K
   |_=>False
  | .hel d idx sz k=>∃ e,imp ch c (O8 rs.h d sz idx e)/\m08 P t (vals e) k K
  | .oel i _ idx sz k=>match nth rs.st.ow i with
   |some ⟨_,.live _ p _ _ xs⟩=>match Nat.beq p sz with
    |true=>∃ e,imp ch c (xs[idx.toNat]?=some e)/\m08 P t (vals e) k K
    |false=>False
   |_=>False
  |_=>False
 | .build t ps=>match P.underlying t,n03 P t with
  |some (.struct u),some z=>match T09 P u.toList with
   |true=>O0b P u (rdG rs ch) ps.toList (vals z.cells.toList) λcs=>K (.agg cs)
   |false=>False
  |_,_=>False
 | .index t x i=>match rdG rs ch x,rdG rs ch i,P.underlying t with
  | .val (.string d),.val (.int _ f),some .string=>∃ e,imp ch c (0<=f/\d[f.toNat]?=some e)/\K (.val (.int .u8 e.toNat))
  |_,_,_=>False
 | .slice t x lo hi none=>match rdG rs ch x,P.underlying t with
  | .val (.string d),some .string=>match b09 0 (lo.map (rdG rs ch)),b09 d.size (hi.map (rdG rs ch))with
   |some l,some m=>imp ch c (0<=l/\l<=m/\m<=(d.size:Int))/\K (.val (.string (d.extract l.toNat m.toNat)))
   |_,_=>False
  | .val (.slice w n cp),_=>match O03 P t with
   |some e=>match A7 P e with
    |some sz=>match b09 0 (lo.map (rdG rs ch)),b09 n (hi.map (rdG rs ch))with
     |some l,some m=>∃ v,imp ch c ((0<=l/\l<=m/\m<=(n:Int)/\n<=cp)/\e0l sz (.slice w n cp) l.toNat m.toNat v)/\K (.val v)
     |_,_=>False
    |none=>False
   |none=>False
  |_,_=>False
 | .binOp .eql t x y yt=>match o08 (rdG rs ch x),o08 (rdG rs ch y)with
  |some (.agg xs),some (.agg s)=>∃ b,imp ch c (P0b P o x y (.agg xs) (.agg s) b)/\K (.val (.bool b))
  |some (.slice a n m),some (.slice none 0 0)=>∃ b,imp ch c (P0b P o x y (.slice a n m) (.slice none 0 0) b)/\K (.val (.bool b))
  |_,_=>U0m P o ch c rs K
 | .binOp .neq t x y yt=>match o08 (rdG rs ch x),o08 (rdG rs ch y)with
  |some (.agg xs),some (.agg s)=>∃ b,imp ch c (P0b P o x y (.agg xs) (.agg s) b)/\K (.val (.bool b))
  |some (.slice a n m),some (.slice none 0 0)=>∃ b,imp ch c (P0b P o x y (.slice a n m) (.slice none 0 0) b)/\K (.val (.bool b))
  |_,_=>U0m P o ch c rs K
 | .binOp .add t x y yt=>match rdG rs ch x,rdG rs ch y with
  | .val (.string a),.val (.string b)=>imp ch c (a.size+b.size<=9223372036854775807)/\K (.val (.string (a++b)))
  |_,_=>U0m P o ch c rs K
 | .binOp .quo t x y yt=>match rdG rs ch x,rdG rs ch y with
  | .val (.int .i64 a),.val (.int .i64 b)=>imp ch c (b≠0)/\K (.val (.int .i64 (IntKind.i64.wrap (a.tdiv b))))
  |_,_=>U0m P o ch c rs K
 | .binOp .rem t x y yt=>match rdG rs ch x,rdG rs ch y with
  | .val (.int .i64 a),.val (.int .i64 b)=>imp ch c (b≠0)/\K (.val (.int .i64 (a.tmod b)))
  |_,_=>U0m P o ch c rs K
 | .call { callee := .builtin .len,args:=as,argTypes:=A }=>match as.toList,A.toList with
  | [x],[t]=>match rdG rs ch x with
   | .own i _=>match nth rs.st.ow i,O03 P t with
    |some ⟨_,.live _ _ _ _ xs⟩,some _=>K (.val (.int .i64 xs.length))
    |_,_=>False
   |_=>U0m P o ch c rs K
  |_,_=>False
 |_=>U0m P o ch c rs K
def R0b(rs:RS)(d:Nat):Bool:=match i0j rs.gf d,j0f rs.bs d with
 |none,none=>false
 |_,_=>true
def k0o(i d:Nat)(ch:List (Nat×Bool))(av:AV)(bs:List BE):List BE:=match av with
 | .val (.bool e)=>⟨i,d,e,ch⟩::bs
 |_=>bs
def q0e(d:Option Tmp)(i:Nat)(ch:List (Nat×Bool))(av:AV)(rs:RS)(K:RS->Prop):Prop :=
 match d with
 |none=>K rs
 |some d=>match Nat.blt d rs.st.n,R0b rs d with
  |true,false=>match ch with
   | []=>K { rs with st := { rs.st with fr:=(d,av)::rs.st.fr },bs:=k0o i d ch av rs.bs }
   |_=>K { rs with st := { rs.st with fr:=(d,.dead)::rs.st.fr },gf:=(d,ch,av)::rs.gf,bs:=k0o i d ch av rs.bs }
  |_,_=>False
def v0q:Op->Bool
 | .pick ..=>true
 |_=>false
def K0x(rs:RS)(ch:List (Nat×Bool))(o:Oper):Bool:=match o.op with
 | .call { callee := .value _,args:=as,argTypes:=_ }=>match as.toList with
  |x::_=>match rdG rs ch x with
   | .val (.pointer _)=>true
   |_=>false
  | []=>false
 |_=>false
def l0o(rs:RS)(ch:List (Nat×Bool)):List Operand->List (Nat×AV)
 | []=>rs.st.fr
 | .tmp t::r=>(t,rdG rs ch (.tmp t))::l0o rs ch r
 |_::r=>l0o rs ch r
def m0b(P:Program):List Oper->Nat->RS->(RS->Prop)->Prop
 | [],_,rs,K=>K rs
 |o::r,i,rs,K=>match o.guard,v0q o.op with
  |none,false=>w00 P o rs.st rs.h λav st h=>q0e o.dst i [] av { rs with st:=st,h:=h } λrs=>m0b P r (i+1) rs K
  |_,_=>match X01 rs.bs o.guard with
   |some ch=>match cB rs.bs ch with
    |some c=>match K0x rs ch o with
     |false=>evG P o ch c rs λav=>q0e o.dst i ch av rs λrs=>m0b P r (i+1) rs K
     |true=>(c=true->w00 P o { rs.st with fr:=l0o rs ch o.op.operands.toList } rs.h λav st h=>q0e o.dst i ch av { rs with st:=st,h:=h } λrs=>m0b P r (i+1) rs K) /\
       (c=false->q0e o.dst i ch (.val (.bool false)) rs λrs=>m0b P r (i+1) rs K)
    |none=>False
   |none=>False
def evQ(P:Program):List Oper->Nat->RS->(RS->Prop)->Prop
 | [],_,rs,K=>K rs
 |o::r,i,rs,K=>match X01 rs.bs o.guard with
  |some ch=>match cB rs.bs ch with
   |some c=>evG P o ch c rs λav=>q0e o.dst i ch av rs λrs=>evQ P r (i+1) rs K
   |none=>False
  |none=>False
def Sub(h h':Hp):Prop:=∀ b o,h b=some o->h' b=some o
def v0u(v:Value)(K:Value->Prop):Prop:=match v with
 | .bool b=>K (.bool b)
 | .int k n=>K (.int k n)
 | .string s=>K (.string s)
 | .pointer a=>K (.pointer a)
 | .slice a n c=>K (.slice a n c)
 | .func f x y=>K (.func f x y)
 | .agg cs=>K (.agg cs)
 | .tuple vs=>K (.tuple vs)
 |v=>K v
theorem n0t(v:Value)(K:Value->Prop):v0u v K=K v:=by cases v<;>rfl
def o03{a:Type}:List a->(List a->Prop)->Prop
 | [],K=>K []
 |x::r,K=>o03 r λr=>K (x::r)
theorem a05{a:Type}:∀(l:List a) (K:List a->Prop),o03 l K=K l
 | [],K=>rfl
 |x::r,K=>by simp only[o03,a05 r]
def p08:Nat->(Nat->Prop)->Prop
 |0,K=>K 0
 |n+1,K=>p08 n λm=>K (m+1)
theorem S0b:∀(n:Nat) (K:Nat->Prop),p08 n K=K n
 |0,K=>rfl
 |n+1,K=>by simp only[p08,S0b n]
def p06(av:AV)(K:AV->Prop):Prop:=match av with
 | .val v=>v0u v λv=>K (.val v)
 | .own i k=>K (.own i k)
 | .box i k=>K (.box i k)
 | .hel s i z k=>p08 z λz=>p08 k λk=>K (.hel s i z k)
 | .oel j s i z k=>p08 z λz=>p08 k λk=>K (.oel j s i z k)
 | .agg cs=>o03 cs λcs=>K (.agg cs)
 | .dead=>K .dead
theorem Z06(av:AV)(K:AV->Prop):p06 av K=K av:=by
 cases av with
 |val v=>exact n0t v (λv=>K (.val v))
 |hel s i z k=>simp only[p06,S0b]
 |oel j s i z k=>simp only[p06,S0b]
 |agg cs=>simp only[p06,a05]
 |_=>rfl
inductive F00 where
 |pu (av:AV)
 |ef (F:Value->Hp->Prop)
def Z5:List (Nat×F00)->Nat->Option F00
 | [],_=>none
 |(k,x)::r,s=>match Nat.beq k s with
  |true=>some x
  |false=>Z5 r s
def rdS(L:List (Nat×F00))(st:St):Operand->AV
 | .tmp t=>match Z5 L t with
  |some (.pu av)=>rdA st av
  |some (.ef _) => .dead
  |none=>rdA st (N3 st.fr t)
 |x=>rdO st x
def j0j(P:Program)(t:TypeId)(cs:List Z6)(off:Nat):Option AV :=
 match Q0m P t with
 |some true=>match A7 P t with
  |some n=>match I0a ((cs.drop off).take n) n with
   |true=>some (.agg ((cs.drop off).take n))
   |false=>none
  |none=>none
 |some false=>match nth cs off with
  |some c=>some (ofCell c)
  |none=>none
 |none=>none
def w0q(P:Program)(L:List (Nat×F00))(o:Oper)(st:St):Option AV:=match o.op with
 | .move x | .assign x=>match rdS L st x with
  | .dead=>none
  |a=>some a
 | .load t x=>match rdS L st x with
  | .box i off=>match nth st.bx i with
   |some (.live cs _)=>j0j P t cs off
   |_=>none
  |_=>none
 |_=>none
def k0j(L:List (Nat×F00))(st:St)(h:Hp):List Operand->List (Nat×AV)->(List (Nat×AV)->Prop)->Prop
 | [],acc,K=>K acc
 | .tmp t::r,acc,K=>match Z5 L t with
  |some (.pu av)=>k0j L st h r ((t,av)::acc) K
  |some (.ef F)=>∀ v,F v h->k0j L st h r ((t,.val v)::acc) K
  |none=>k0j L st h r ((t,N3 st.fr t)::acc) K
 |_::r,acc,K=>k0j L st h r acc K
def G0g(d:Option Tmp)(f:F00)(L:List (Nat×F00)):List (Nat×F00):=match d with
 |some d=>(d,f)::L
 |none=>L
def C0y(st:St)(h:Hp)(F:Value->Hp->Prop):AV->St->Hp->Prop
 | .val v,st',h'=>st'=st/\Sub h h'/\F v h'
 |_,_,_=>False
def H02(i:Nat)(o:Oper):Bool:=o.after.toList.any λe=>Region.binds .any e&&Nat.beq e.on i
def b05(o:Oper)(t:Nat):List Oper->Nat->Bool
 | [],_=>true
 |x::r,i=>match x.dst with
  |some d=>match Nat.beq d t with
   |true=>H02 i o&&b05 o t r (i+1)
   |false=>b05 o t r (i+1)
  |none=>b05 o t r (i+1)
def k0f(o:Oper)(ops:List Oper):List Operand->Bool
 | []=>true
 | .tmp t::r=>b05 o t ops 0&&k0f o ops r
 |_::r=>k0f o ops r
def T0b(d:Nat):List Oper->Bool
 | []=>true
 |o::r=>match o.dst with
  |some a => !Nat.beq d a&&T0b d r
  |none=>T0b d r
def m0o(n:Nat):List Oper->Bool
 | []=>true
 |o::r=>match o.dst with
  |some d=>Nat.blt d n&&T0b d r&&m0o n r
  |none=>m0o n r
def n0o:List Oper->Nat->Bool
 | [],_=>true
 |o::r,j=>(o.after.toList.all λe => !Region.binds .any e || Nat.blt e.on j)&&n0o r (j+1)
def I0r(ops:List Oper):List Oper->Bool
 | []=>true
 |o::r=>k0f o ops o.op.operands.toList&&I0r ops r
def c09(n:Nat)(ops:List Oper):Bool:=m0o n ops&&n0o ops 0&&I0r ops ops
def J0r:List Z6->Bool
 | []=>true
 | .val _::r=>J0r r
 | .own _ _::_=>false
def V0m:AV->Bool
 | .val _=>true
 | .box _ _=>true
 | .own _ _=>true
 | .agg cs=>J0r cs
 |_=>false
def B09(L:List (Nat×F00))(st:St):Operand->AV
 | .tmp t=>match Z5 L t with
  |some (.pu av)=>av
  |some (.ef _) => .dead
  |none=>N3 st.fr t
 | .const v => .val v
 |_ => .dead
def N0h(L:List (Nat×F00))(st:St):List Operand->Option (List (Nat×Value))
 | []=>some []
 | .tmp t::r=>match B09 L st (.tmp t)with
  | .val v=>match N0h L st r with
   |some vs=>some ((t,v)::vs)
   |none=>none
  |_=>none
 | .global _::_=>none
 |_::r=>N0h L st r
def x0q(P:Program)(L:List (Nat×F00))(o:Oper)(st:St):Option AV:=match g0f o.op,N0h L st o.op.operands.toList with
 |false,some vs=>match L0b (rho vs) o with
  |some _=>none
  |none=>match evP P (y0l (rho vs) o)with
   |some (.value v)=>some (.val v)
   |_=>none
 |_,_=>none
def D0y:AV->Bool
 | .val (.int _ _)=>true
 |_=>false
def e0z:BinOp->Bool
 | .lss=>true
 | .leq=>true
 | .gtr=>true
 | .geq=>true
 | .eql=>true
 | .neq=>true
 | .add=>true
 | .sub=>true
 | .mul=>true
 |_=>false
def P0d(P:Program)(L:List (Nat×F00))(o:Oper)(st:St):Option AV:=match o.op with
 | .move x=>match V0m (B09 L st x)with
  |true=>some (B09 L st x)
  |false=>none
 | .assign x=>match V0m (B09 L st x)with
  |true=>some (B09 L st x)
  |false=>none
 | .load t x=>match B09 L st x with
  | .box i off=>match nth st.bx i with
   |some (.live cs _)=>match j0j P t cs off with
    |some av=>match V0m av with
     |true=>some av
     |false=>none
    |none=>none
   |_=>none
  |_=>none
 | .fieldAddr t x k=>match B09 L st x,R0m P t k with
  | .box i off,some a=>some (.box i (off+a))
  |_,_=>none
 | .binOp op _ x y _=>match e0z op,D0y (B09 L st x),D0y (B09 L st y)with
  |true,true,true=>x0q P L o st
  |_,_,_=>none
 | .call { callee := .builtin .len,args:=as,argTypes:=_ }=>match as.toList with
  | [x]=>match B09 L st x with
   | .val (.slice _ _ _)=>x0q P L o st
   |_=>none
  |_=>none
 |_=>none
def S05(L:List (Nat×F00))(st:St):List Oper->List Nat
 | []=>[]
 |o::r=>match o.op with
  | .load _ x=>match B09 L st x with
   | .box i _=>i::S05 L st r
   |_=>S05 L st r
  |_=>S05 L st r
def Q0d(bx:List BSt):List Nat->List (Option BSt)
 | []=>[]
 |i::r=>nth bx i::Q0d bx r
def O0h(L:List (Nat×F00))(a:List (Nat×AV)):List Operand->List (Nat×AV)->(List (Nat×AV)->Prop)->Prop
 | [],acc,K=>K acc
 | .tmp t::r,acc,K=>match Z5 L t with
  |some (.pu av)=>O0h L a r ((t,av)::acc) K
  |some (.ef _)=>O0h L a r ((t,.dead)::acc) K
  |none=>O0h L a r ((t,N3 a t)::acc) K
 |_::r,acc,K=>O0h L a r acc K
def y0q:List (Nat×F00)->List (Nat×AV)->List (Nat×AV)
 | [],fr=>fr
 |(d,.pu av)::r,fr=>(d,av)::y0q r fr
 |(d,.ef _)::r,fr=>(d,.dead)::y0q r fr
def w0u(av:AV)(st:St)(h:Hp):AV->St->Hp->Prop:=λa st' h'=>a=av/\st'=st/\h'=h
def U0b(P:Program)(st:St):List Oper->Nat->List (Nat×F00)->List (Nat×Oper)->(List (Nat×F00)->List (Nat×Oper)->Prop)->Prop
 | [],_,L,E,K=>K L E
 |o::r,i,L,E,K=>match o.guard with
  |some _=>False
  |none=>match P0d P L o st with
   |some av=>p06 av λav=>U0b P st r (i+1) (G0g o.dst (.pu av) L) E K
   |none=>U0b P st r (i+1) (G0g o.dst (.ef λ_ _=>True) L) (E ++ [(i,o)]) K
def V0b(d:Nat):List Operand->Bool
 | []=>false
 | .tmp t::r=>Nat.beq t d || V0b d r
 |_::r=>V0b d r
def W0m(d:Nat):List Oper->Bool
 | []=>false
 |o::r=>V0b d o.op.operands.toList || W0m d r
def P07(P:Program)(o:Oper)(st:St)(h:Hp)(K:St->Hp->Prop):Prop :=
 w00 P o st h λav st h=>q0e o.dst 0 [] av ⟨st,h,[],[]⟩ λrs=>K rs.st rs.h
def inK(k:Nat):List Nat->Bool
 | []=>false
 |x::r=>Nat.beq k x || inK k r
def W0b(es:List Nat):Nat->Nat->Oper->Bool
 |0,_,_=>true
 |k+1,i,o=>((Nat.beq k i || H02 k o) || inK k es)&&W0b es k i o
def H0g:List (Nat×Oper)->List Nat
 | []=>[]
 |x::r=>x.1::H0g r
def x0u(N:Nat×List Nat)(i:Nat)(o:Oper):Bool:=W0b N.2 N.1 i o
def i0x(b:Bool)(rd:List Nat)(bx a:List BSt):Prop:=match b with
 |true=>True
 |false=>Q0d a rd=Q0d bx rd
def I0g:List (Nat×Oper)->List (Nat×Oper)->List ((Nat×Oper)×List (Nat×Oper))
 |_,[]=>[]
 |A,x::B=>(x,A++B)::I0g (A ++ [x]) B
def X0m(x:Nat×Oper):List (Nat×Oper)->Bool
 | []=>true
 |y::r => !H02 y.1 x.2&&X0m x r
def z0q(f:(Nat×Oper)->List (Nat×Oper)->Prop):List ((Nat×Oper)×List (Nat×Oper))->Prop
 | []=>True
 |p::l=>match X0m p.1 p.2 with
  |true=>f p.1 p.2/\z0q f l
  |false=>z0q f l
def f0l(rd:List Nat)(N:Nat×List Nat)(P:Program):Nat->List (Nat×Oper)->List (Nat×F00)->St->Hp->(St->Hp->Prop)->Prop
 |0,_,L,⟨n,fr,bx,ow⟩,h,K=>o03 (y0q L fr) λfr=>K ⟨n,fr,bx,ow⟩ h
 |m+1,E,L,⟨n,fr,bx,ow⟩,h,K=>z0q (λx r=>O0h L fr x.2.op.operands.toList [] λc=>w00 P x.2 ⟨n,c,bx,ow⟩ h λav st' h'=>match st' with
  |⟨_,_,a,b⟩=>i0x (x0u N x.1 x.2) rd bx a/\p06 av λav=>o03 a λa=>o03 b λb=>f0l rd N P m r (G0g x.2.dst (.pu av) L) ⟨n,fr,a,b⟩ h' K) (I0g [] E)
def g0l:List (Nat×Oper)->Nat
 | []=>0
 |_::r=>g0l r+1
abbrev FL:=List (Nat×List (Nat×Bool)×F00)
def Q06:FL->Nat->Option (List (Nat×Bool)×F00)
 | [],_=>none
 |(k,x)::r,s=>match Nat.beq k s with
  |true=>some x
  |false=>Q06 r s
def rdU(L:FL)(st:St)(ch:List (Nat×Bool)):Operand->AV
 | .tmp t=>match Q06 L t with
  |some (a,.pu av)=>match i0o a ch with
   |true=>rdA st av
   |false => .dead
  |some (_,.ef _) => .dead
  |none=>rdA st (N3 st.fr t)
 |x=>rdO st x
def R0d(P:Program)(L:FL)(bs:List BE)(ch:List (Nat×Bool))(o:Oper)(st:St):Option AV:=match o.op with
 | .move x | .assign x=>match rdU L st ch x with
  | .dead=>none
  |a=>some a
 | .load t x=>match rdU L st ch x with
  | .box i off=>match nth st.bx i with
   |some (.live cs _)=>j0j P t cs off
   |_=>none
  |_=>none
 | .fieldAddr t x k=>match rdU L st ch x,R0m P t k with
  | .box i off,some d=>some (.box i (off+d))
  | .hel c i sz k,some d=>some (.hel c i sz (k+d))
  |_,_=>none
 | .pick (.tmp c) a b=>match rdU L st ch (.tmp c),j0f bs c with
  | .val (.bool e),some q=>match i0o q.ch ch with
   |true=>match rdU L st ((q.j,true)::q.ch) a,rdU L st ((q.j,false)::q.ch) b with
    | .val (.bool x),.val (.bool y)=>some (.val (.bool (cond e x y)))
    |_,_=>none
   |false=>none
  |_,_=>none
 |_=>none
def n0b(L:FL)(st:St)(h:Hp)(ch:List (Nat×Bool)):List Operand->List (Nat×AV)->(List (Nat×AV)->Prop)->Prop
 | [],acc,K=>K acc
 | .tmp t::r,acc,K=>match Q06 L t with
  |some (a,f)=>match i0o a ch with
   |true=>match f with
    | .pu av=>n0b L st h ch r ((t,av)::acc) K
    | .ef F=>∀ v,F v h->n0b L st h ch r ((t,.val v)::acc) K
   |false=>False
  |none=>n0b L st h ch r ((t,N3 st.fr t)::acc) K
 |_::r,acc,K=>n0b L st h ch r acc K
def h0l(h:Hp):FL->List (Nat×AV)->(List (Nat×AV)->Prop)->Prop
 | [],fr,K=>K fr
 |(d,[],.pu av)::r,fr,K=>h0l h r ((d,av)::fr) K
 |(d,[],.ef F)::r,fr,K=>∀ v,F v h->h0l h r ((d,.val v)::fr) K
 |(d,_::_,_)::r,fr,K=>h0l h r ((d,.dead)::fr) K
def Y0m(d:Option Tmp)(ch:List (Nat×Bool))(f:F00)(L:FL):FL:=match d with
 |some d=>(d,ch,f)::L
 |none=>L
def Z0m(i:Nat)(d:Option Tmp)(ch:List (Nat×Bool))(av:AV)(bs:List BE):List BE:=match d with
 |some d=>match av with
  | .val (.bool e)=>⟨i,d,e,ch⟩::bs
  |_=>bs
 |none=>bs
def A0q(st st':St):Prop:=st'.n=st.n/\st'.fr=st.fr/\st'.bx=st.bx/\∃ t,st'.ow=st.ow++t
def y0u(st:St)(h:Hp)(b:Value->Hp->Prop):AV->St->Hp->Prop:=λav st' h'=>rfy av st' h' λv c a=>A0q st c/\Sub h a/\b v a
def z0u(P:Program)(t n:Nat)(st:St)(h:Hp)(K:AV->St->Hp->Prop):Prop :=
 match O03 P t with
 |some e=>match A7 P e,Nat.beq n 0 with
  |some (_+1),true=>∀ g,h g=none->K (.val (.slice (some ⟨g,0,none⟩) 0 0)) st (h.set g (.cells #[] e (0,0)))
  |_,_=>False
 |none=>False
def A0u(P:Program)(t:TypeId)(a b:Operand)(st:St)(h:Hp)(K:AV->St->Hp->Prop):Prop :=
 match O03 P t with
 |some e=>match A7 P e,p0e P e,n03 P e with
  |some (sz+1),some (by_+1),some z=>match I0a z.cells.toList (sz+1)with
   |true=>match rdO st a with
    | .val (.slice (some ⟨g,o,none⟩) 0 0)=>g0j st h (sz+1) (rdO st b) λc=>U09 c.length (by_+1) /\
      ((c = []->K (.val (.slice (some ⟨g,o,none⟩) 0 0)) st h)/\∀ v h',Y0 h h' v e (sz+1) true c->K (.val v) st h')
    |_=>False
   |false=>False
  |_,_,_=>False
 |none=>False
def o0o(P:Program)(o:Oper)(st:St)(h:Hp)(K:AV->St->Hp->Prop):Prop :=
 match o.op with
 | .buildSlice t n ps=>match ps.toList with
  | []=>z0u P t n st h K
  |_::_=>w00 P o st h K
 | .call { callee := .builtin .append,args:=as,argTypes:=d }=>match as.toList,d.toList with
  | [a,b],[t,c]=>match Nat.beq t c with
   |true=>A0u P t a b st h K
   |false=>False
  |_,_=>False
 |_=>w00 P o st h K
def evU(P:Program)(l:List Oper):Nat->FL->List BE->St->Hp->(St->Hp->Prop)->Prop :=
  List.rec (motive:=λ_=>Nat->FL->List BE->St->Hp->(St->Hp->Prop)->Prop)
    (λ_ L _ st h K=>match st with
      |⟨n,fr,bx,ow⟩=>∀ h',Sub h h'->h0l h' L fr λfr=>K ⟨n,fr,bx,ow⟩ h')
    (λo _ b i L bs st h K=>match st with
      |⟨n,fr,bx,ow⟩=>match X01 bs o.guard with
        |some ch=>match cB bs ch with
          |some c=>match R0d P L bs ch o ⟨n,fr,bx,ow⟩with
            |some av=>p06 av λav=>b (i+1) (Y0m o.dst ch (.pu av) L) (Z0m i o.dst ch av bs) ⟨n,fr,bx,ow⟩ h K
            |none=>(∃ av,(∀ h',Sub h h'->imp ch c (n0b L ⟨n,fr,bx,ow⟩ h' ch o.op.operands.toList [] λfr=>w00 P o ⟨n,fr,bx,ow⟩ h' (w0u av ⟨n,fr,bx,ow⟩ h'))) /\
                  p06 av λav=>b (i+1) (Y0m o.dst ch (.pu av) L) (Z0m i o.dst ch av bs) ⟨n,fr,bx,ow⟩ h K) ∨
                (∃ a:Value->Hp->Prop,(∀ v d e,Sub d e->a v d->a v e) /\
                  (∀ h',Sub h h'->imp ch c (n0b L ⟨n,fr,bx,ow⟩ h' ch o.op.operands.toList [] λfr=>o0o P o ⟨n,fr,bx,ow⟩ h' (y0u ⟨n,fr,bx,ow⟩ h' a))) /\
                  b (i+1) (Y0m o.dst ch (.ef a) L) bs ⟨n,fr,bx,ow⟩ h K)
          |none=>False
        |none=>False) l
def W0i:List Oper->Bool
 | []=>true
 |o::r=>(match o.guard with
  |some (j,_)=>H02 j o
  |none=>true)&&W0i r
def l07(n:Nat)(ops:List Oper):Bool:=c09 n ops&&W0i ops
def t0w(P:Program):List Oper->Bool
 | []=>false
 |o::r=>(match o.guard,o.op with
  |some _,.call { callee := .value _,args:=_,argTypes:=_ }=>match P.underlying o.type with
   |some (.slice _)=>true
   |some (.struct _)=>true
   |some (.tuple _)=>true
   |_=>false
  |_,_=>false) || t0w P r
def q08(o:Oper):Bool:=match o.op with
 | .alloc _=>true
 |_=>false
def U02(o:Oper):Oper:=match o.op with
 | .alloc _ => { o with op := .move (.const undef) }
 |_=>o
def C7:List Oper->List Oper
 | []=>[]
 |o::r=>U02 o::C7 r
def okA(P:Program)(all:List Oper):List Oper->Bool
 | []=>true
 |o::r=>(match o.op with
  | .alloc t=>(match o.guard,o.dst,n03 P t with
   |none,some d,some _ => !W0m d all
   |_,_,_=>false)
  |_=>true)&&okA P all r
def B0q(x:Nat):List Nat->Bool
 | []=>false
 |y::r=>Nat.beq x y || B0q x r
def l0f(ops:List Oper)(i:Nat):List Nat->Bool
 | []=>false
 |j::r=>(match nth ops j with
  |some o=>H02 i o
  |none=>false) || l0f ops i r
def z0l(ops:List Oper):Nat->List Nat->List Nat
 |0,acc=>acc
 |i+1,acc=>match l0f ops i acc with
  |true=>z0l ops i (i::acc)
  |false=>z0l ops i acc
def J0g:Operand->List Nat
 | .tmp t=>[t]
 |_=>[]
def S0d(o:Oper):Option (List Nat):=match o.guard with
 |some _=>none
 |none=>match o.op with
  | .extract x _=>some (J0g x)
  | .move x=>some (J0g x)
  | .assign x=>some (J0g x)
  | .pick c x y=>some (J0g c++(J0g x++J0g y))
  |_=>none
def T0d(d:Nat):List Oper->Bool
 | []=>false
 |o::r=>(match o.dst with
  |some e=>Nat.beq e d
  |none=>false) || T0d d r
def r08(a:List Nat)(t:Nat):List Oper->Nat->Bool
 | [],_=>true
 |o::r,i=>(match o.dst with
  |some e => !Nat.beq e t || B0q i a
  |none=>true)&&r08 a t r (i+1)
def W09(i d:Nat):List Oper->Bool
 | []=>true
 |o::r=>(!V0b d o.op.operands.toList || H02 i o)&&W09 i d r
def K0r(b c:List Oper)(a:List Nat):List Nat->Bool
 | []=>true
 |t::r=>(!T0d t c&&r08 a t b 0)&&K0r b c a r
def L0r(c a:List Oper)(b:List Nat)(i:Nat)(o:Oper):Bool:=match S0d o,o.dst with
 |some e,some d => !T0d d a&&K0r c a b e&&W09 i d a
 |_,_=>false
def X0i(b c:List Oper)(a:List Nat):List Oper->Nat->Bool
 | [],_=>true
 |o::r,i=>(B0q i a || L0r b c a i o)&&X0i b c a r (i+1)
def p0o:List Oper->Bool
 | []=>true
 |o::r => !g0f o.op&&p0o r
def B0u:Nat->List Oper->Bool
 |_,[]=>true
 |k,o::r=>(match o.guard with
  |none=>true
  |some _=>false)&&(match r with
  | []=>true
  |o'::_=>H02 k o')&&B0u (k+1) r
def E0y:List Oper->Bool
 | []=>true
 |_::_=>false
def okZ(P:Program)(n m:Nat)(ops:List Oper):Bool :=
 l07 n (C7 (ops.take m))&&okA P (ops.take m) (ops.take m)&&n0o ops 0&&B0u m (ops.drop m)&&(E0y (ops.drop m) || (X0i (ops.take m) (ops.drop m) (z0l ops m [m]) (ops.take m) 0&&p0o (ops.drop m)))
abbrev L0x:=Oper->St->Hp->(St->Hp->Prop)->Prop
def doA(R:L0x)(l:List Oper):St->Hp->(St->Hp->Prop)->Prop :=
 List.rec (motive:=λ_=>St->Hp->(St->Hp->Prop)->Prop) (λst h K=>K st h) (λo _ a st h K=>match q08 o with
  |true=>R o st h λst h=>a st h K
  |false=>a st h K) l
def doT(R:L0x)(l:List Oper):St->Hp->(St->Hp->Prop)->Prop :=
 List.rec (motive:=λ_=>St->Hp->(St->Hp->Prop)->Prop) (λst h K=>K st h) (λo _ a st h K=>R o st h λst h=>a st h K) l
def evT(P:Program)(R:L0x)(m:Nat)(ops:List Oper)(st:St)(h:Hp)(K:St->Hp->Prop):Prop :=
 evU P (C7 (ops.take m)) 0 [] [] st h λst h=>doA R (ops.take m) st h λst h=>doT R (ops.drop m) st h K
inductive Ex where
 |normal|ret
 |exit (i:Nat)
structure Ann where
 vars:List Nat
 boxes:List Nat:=[]
 owns:List Nat:=[]
 nils:List (Nat×Nat×Nat×Nat):=[]
 nilsB:List (Nat×Nat×Nat×Nat×Nat):=[]
 kept:List Nat:=[]
 fuel:Bool:=true
 pubs:List Nat:=[]
def q0o:List (Nat×Nat×Nat×Nat)->St->(St->Prop)->Prop
 | [],st,K=>K st
 |(s,e,sz,by_)::r,⟨n,fr,bx,ow⟩,K=>match rdA ⟨n,fr,bx,ow⟩ (N3 fr s),Nat.blt s n with
  | .val (.slice none 0 0),true=>s0q ow λk=>q0o r ⟨n,(s,.own k 0)::fr,bx,ow ++ [⟨0,.live e sz by_ false []⟩]⟩ K
  |_,_=>False
def l0j:List (Nat×Nat×Nat×Nat×Nat)->St->(St->Prop)->Prop
 | [],st,K=>K st
 |(i,k,e,sz,by_)::r,⟨n,fr,bx,ow⟩,K=>match nth bx i with
  |some (.live cs ty)=>match nth cs k with
   |some (.val (.slice none 0 0))=>s0q ow λj=>l0j r ⟨n,fr,e03 bx i (.live (e03 cs k (.own j 0)) ty),ow ++ [⟨0,.live e sz by_ false []⟩]⟩ K
   |_=>False
  |_=>False
def r0o:List Nat->St->Hp->(St->Hp->Prop)->Prop
 | [],st,h,K=>K st h
 |s::r,st,h,K=>rfy (rdA st (N3 st.fr s)) st h λv st h=>match st with
  |⟨n,fr,bx,ow⟩=>match Nat.blt s n with
   |true=>r0o r ⟨n,(s,.val v)::fr,bx,ow⟩ h K
   |false=>False
def C0d(x:Nat):List Nat->Bool
 | []=>false
 |y::r=>match Nat.beq x y with
  |true=>true
  |false=>C0d x r
def M0x:List Oper->List Nat->List Nat
 | [],acc=>acc
 |o::r,acc=>match o.dst with
  |some d=>M0x r (d::acc)
  |none=>M0x r acc
def i0l:Code->List Nat->List Nat
 | .region _ ops _,acc=>M0x ops.toList acc
 | .seq a b,acc=>i0l a (i0l b acc)
 | .cond _ a b,acc=>i0l a (i0l b acc)
 | .block _ a,acc=>i0l a acc
 | .loop a,acc=>i0l a acc
 | .scope a,acc=>i0l a acc
 |_,acc=>acc
def K0g:List Nat->(List Nat->Prop)->Prop
 | [],K=>K []
 |x::r,K=>K0g r λr=>K (x::r)
def u0w:List Nat->St->(List Value->Prop)->Prop
 | [],_,K=>K []
 |s::r,st,K=>match rdA st (N3 st.fr s)with
  | .val v=>u0w r st λvs=>K (v::vs)
  |_=>False
def s0o:List Z6->St->(List Value->Prop)->Prop
 | [],_,K=>K []
 | .val v::r,st,K=>s0o r st λvs=>K (v::vs)
 | .own _ _::r,st,K=>s0o r st K
def m0j:List Nat->St->(List Value->Prop)->Prop
 | [],_,K=>K []
 |i::r,st,K=>match nth st.bx i with
  |some (.live cs _)=>s0o cs st λvs=>m0j r st λa=>K (vs++a)
  |_=>False
def A0l:List Nat->St->(List (LV)->Prop)->Prop
 | [],_,K=>K []
 |i::r,st,K=>match nth st.ow i with
  |some ⟨_,.live _ _ _ _ xs⟩=>A0l r st λos=>K (xs::os)
  |_=>False
def C0q(A:Ann)(st:St)(K:List Value->List (LV)->Prop):Prop :=
 u0w A.vars st λvs=>m0j A.boxes st λa=>A0l A.owns st λos=>K (vs++a) os
def m07:List Z6->List Value->(List Z6->List Value->Prop)->Prop
 | [],vs,K=>K [] vs
 | .val _::r,v::vs,K=>m07 r vs λcs a=>K (.val v::cs) a
 | .val _::_,[],_=>False
 | .own i k::r,vs,K=>m07 r vs λcs a=>K (.own i k::cs) a
def X09:List Nat->List Value->List BSt->(List BSt->Prop)->Prop
 | [],_,bx,K=>K bx
 |i::r,vs,bx,K=>match nth bx i with
  |some (.live cs ty)=>m07 cs vs λcs a=>X09 r a (e03 bx i (.live cs ty)) K
  |_=>False
def Y09:List Nat->List (LV)->List Own->(List Own->Prop)->Prop
 | [],_,ow,K=>K ow
 |i::r,xs::os,ow,K=>match nth ow i with
  |some ⟨s,.live e sz by_ nn _⟩=>Y09 r os (e03 ow i ⟨s,.live e sz by_ nn xs⟩) K
  |_=>False
 |_::_,[],_,_=>False
def X0b{c:Type}:Nat->List c->(List c->List c->Prop)->Prop
 |0,l,K=>K [] l
 |n+1,x::l,K=>X0b n l λa b=>K (x::a) b
 |_+1,[],_=>False
def U0d(A:Ann)(st:St):List Nat->List (Nat×AV)->(List (Nat×AV)->Prop)->Prop
 | [],acc,K=>K acc
 |s::r,acc,K=>match C0d s A.vars with
  |true=>U0d A st r acc K
  |false=>match rdA st (N3 st.fr s)with
   | .own i k=>U0d A st r ((s,.own i k)::acc) K
   | .box i o=>U0d A st r ((s,.box i o)::acc) K
   |_=>U0d A st r ((s,.dead)::acc) K
def M0r:List Z6->Bool
 | []=>true
 | .val _::r=>M0r r
 | .own _ _::_=>false
def Z09(A:Ann)(ds:List Nat)(st:St):List (Nat×AV)->(List (Nat×AV)->Prop)->Prop
 | [],K=>K []
 |(s,av)::r,K=>match C0d s ds with
  |true=>Z09 A ds st r K
  |false=>match rdA st av with
   | .own i k=>match C0d i A.owns,C0d i A.kept with
    |true,false=>Z09 A (s::ds) st r λl=>K ((s,.dead)::l)
    |_,_=>Z09 A (s::ds) st r λl=>K ((s,.own i k)::l)
   | .oel _ _ _ _ _=>Z09 A (s::ds) st r λl=>K ((s,.dead)::l)
   | .agg cs=>match M0r cs with
    |true=>Z09 A (s::ds) st r λl=>K ((s,.agg cs)::l)
    |false=>Z09 A (s::ds) st r λl=>K ((s,.dead)::l)
   |a=>Z09 A (s::ds) st r λl=>K ((s,a)::l)
def L0g:List Nat->List Value->List (Nat×AV)->List (Nat×AV)
 |s::r,v::vs,acc=>L0g r vs ((s,.val v)::acc)
 |_,_,acc=>acc
def P0h(b a:St):List (Nat×AV)->Bool
 | []=>true
 |(c,av)::r=>match av with
  | .own i _=>match rdA a (N3 a.fr c)with
   | .own j _=>match Nat.beq i j with
    |true=>P0h b a r
    |false=>false
   |_=>false
  | .box i o=>match rdA a (N3 a.fr c)with
   | .box j p=>match Nat.beq i j,Nat.beq o p with
    |true,true=>P0h b a r
    |_,_=>false
   |_=>false
  |_=>P0h b a r
def D0q:AV->Bool
 | .dead=>true
 |_=>false
def o0t:List (Nat×AV)->List AV
 | []=>[]
 |(_,av)::r=>match D0q av with
  |true=>o0t r
  |false=>av::o0t r
def B0l(fr:List (Nat×AV)):List (Nat×AV)->List AV
 | []=>[]
 |(s,av)::r=>match D0q av with
  |true=>B0l fr r
  |false=>N3 fr s::B0l fr r
def a0a(c a:St):List Z6->List Z6->Bool
 | [],[]=>true
 | .val _::r,.val _::b=>a0a c a r b
 | .own i _::r,.own d e::b=>match Nat.beq i d,rdA a (.own d e)with
  |true,.own _ _=>a0a c a r b
  |_,_=>false
 |_,_=>false
def m0f(os:List Nat):List Z6->Bool
 | []=>true
 | .val _::r=>m0f os r
 | .own i _::r=>match C0d i os with
  |true=>false
  |false=>m0f os r
def E0q(os:List Nat):BSt->Bool
 | .live cs _=>m0f os cs
 | .publ _=>true
def M0g(A:Ann)(c a:St):Nat->List BSt->List BSt->Prop
 |_,[],_=>True
 |i,b::r,d::e=>match C0d i A.boxes with
  |true=>match b,d with
   | .live cs ty,.live cs' f=>match Nat.beq ty f,a0a c a cs cs' with
    |true,true=>M0g A c a (i+1) r e
    |_,_=>False
   |_,_=>False
  |false=>match E0q A.owns b with
   |true=>d=b/\M0g A c a (i+1) r e
   |false=>False
 |_,_::_,[]=>False
def leB(a b:Bool):Bool:=match a with
 |true=>b
 |false=>true
def N0g(A:Ann):Nat->List Own->List Own->Prop
 |_,[],_=>True
 |i,b::r,a::c=>match C0d i A.owns with
  |true=>match b,a with
   |⟨h,.live e sz by_ nn _⟩,⟨j,.live f k d g _⟩=>match Nat.beq e f,Nat.beq sz k,Nat.beq by_ d,leB nn g,leB (C0d i A.kept) (Nat.beq h j)with
    |true,true,true,true,true=>N0g A (i+1) r c
    |_,_,_,_,_=>False
   |_,_=>False
  |false=>a=b/\N0g A (i+1) r c
 |_,_::_,[]=>False
def n0f:Nat->(List Value->Prop)->Prop
 |0,K=>K []
 |n+1,K=>∀ v,n0f n λvs=>K (v::vs)
def o0f:Nat->(List (LV)->Prop)->Prop
 |0,K=>K []
 |n+1,K=>∀ xs,o0f n λos=>K (xs::os)
abbrev O0g:=List Value->List (LV)->Hp->Prop
abbrev o0b:=List Value->List (LV)->Nat
def v0w:List Value->List Value->Bool
 | [],[]=>true
 |_::r,_::a=>v0w r a
 |_,_=>false
def t0o(A:Ann)(I:O0g)(vs:List Value)(os:List (LV))(h:Hp):Prop:=match A.fuel with
 |false=>I vs os h
 |true=>∃ m:Nat,I (.int .i64 m::vs) os h
def u0o(A:Ann)(I:O0g)(μ:o0b)(vs:List Value)(os:List (LV))(X:Nat->Hp->Prop):Prop:=match A.fuel with
 |false=>∀ h',I vs os h'->X (μ vs os) h'
 |true=>∀(m:Nat) (h':Hp),I (.int .i64 m::vs) os h'->X m h'
def w0w(A:Ann)(a:O0g)(μ:o0b)(m:Nat)(vs:List Value)(os:List (LV))(h:Hp):Prop:=match A.fuel with
 |false=>a vs os h/\μ vs os<m
 |true=>∃ b:Nat,a (.int .i64 b::vs) os h/\b<m
def atI(A:Ann)(I:O0g)(μ:o0b)(m:Nat)(vs:List Value)(os:List (LV))(h:Hp):Prop:=match A.fuel with
 |false=>I vs os h/\m=μ vs os
 |true=>I (.int .i64 m::vs) os h
theorem C0u{A:Ann}{b:O0g}{μ:o0b}{vs:List Value}{os:List (LV)}{h:Hp}(a:t0o A b vs os h):∃ m,atI A b μ m vs os h:=by
 unfold t0o at a
 unfold atI
 cases hf:A.fuel with
 |false=>rw[hf]at a;exact⟨_,a,rfl⟩
 |true=>rw[hf]at a;exact a
theorem D0u{A:Ann}{c:O0g}{μ:o0b}{vs:List Value}{os:List (LV)}{d:Nat->Hp->Prop}(b:u0o A c μ vs os d){m:Nat}{h:Hp}(a:atI A c μ m vs os h):d m h:=by
 unfold u0o at b
 unfold atI at a
 cases hf:A.fuel with
 |false=>rw[hf]at b a;rw[a.2];exact b _ a.1
 |true=>rw[hf]at b a;exact b _ _ a
theorem x0w{A:Ann}{b:O0g}{μ:o0b}{m:Nat}{vs:List Value}{os:List (LV)}{h:Hp}(a:w0w A b μ m vs os h):∃ c,atI A b μ c vs os h/\c<m:=by
 unfold w0w at a
 unfold atI
 cases hf:A.fuel with
 |false=>rw[hf]at a;exact⟨_,⟨a.1,rfl⟩,a.2⟩
 |true=>rw[hf]at a;exact a
def E0u(A:Ann)(d b:List (Nat×AV))(a:St)(c:O0g)(μ:o0b)(f:List Value)(m:Nat)(st:St)(h:Hp):Prop :=
 match Nat.beq st.n a.n,P0h a st d with
 |true,true=>B0l st.fr b=o0t b/\M0g A a st 0 a.bx st.bx/\N0g A 0 a.ow st.ow /\
   C0q A st λvs os=>match v0w vs f with
    |true=>X0b A.vars.length vs λ_ e=>X09 A.boxes e a.bx λ_=>Y09 A.owns os a.ow λ_=>w0w A c μ m vs os h
    |false=>False
 |_,_=>False
def N0r(i:(Ex->St->Hp->Prop)->St->Hp->Prop)(j:List Nat)(Q:Ex->St->Hp->Prop)(st:St)(h:Hp):Prop :=
 ∃(A:Ann) (b:O0g) (μ:o0b),q0o A.nils st λst=>l0j A.nilsB st λst=>r0o A.pubs st h λst h=>C0q A st λg d=>t0o A b g d h /\
  K0g j λds=>U0d A st ds [] λc=>Z09 A ds st st.fr λf =>
   n0f g.length λvs=>o0f d.length λos=>u0o A b μ vs os λm h' =>
    X0b A.vars.length vs λk l=>X09 A.boxes l st.bx λbx=>Y09 A.owns os st.ow λow =>
     i (λe st' a=>match e with
      | .normal=>r0o A.pubs st' a λst' a=>E0u A c f st b μ vs m st' a
      |e=>Q e st' a) ⟨st.n,L0g A.vars k (c++f),bx,ow⟩ h'
def F0u(b:Bool)(X Y:Prop):Prop:=(b=true->X)/\(b=false->Y)
def ev(P:Program):Code->(Ex->St->Hp->Prop)->St->Hp->Prop
 | .skip,Q,st,h=>Q .normal st h
 | .region _ ops false,Q,st,h=>match t0w P ops.toList with
  |true=>l07 st.n ops.toList=true/\evU P ops.toList 0 [] [] st h λst h=>Q .normal st h
  |false=>m0b P ops.toList 0 ⟨st,h,[],[]⟩ λrs=>Q .normal rs.st rs.h
 | .region _ ops true,Q,st,h=>((P.follows .mixedOrders=true/\Region.lexB .any ops=true) /\
   evQ P ops.toList 0 ⟨st,h,[],[]⟩ λrs=>Q .normal rs.st rs.h) ∨
   False ∨
   ((P.follows .mixedOrders=true/\c09 st.n ops.toList=true)/\U0b P st ops.toList 0 [] [] λL d=>f0l (S05 L st ops.toList) (ops.size,H0g d) P (g0l d) d L st h λst h=>Q .normal st h) ∨
   ((P.follows .mixedOrders=true/\l07 st.n ops.toList=true)/\evU P ops.toList 0 [] [] st h λst h=>Q .normal st h) ∨
   (∃ m,(P.follows .mixedOrders=true/\okZ P st.n m ops.toList=true)/\evT P (P07 P) m ops.toList st h λst h=>Q .normal st h)
 | .seq a b,Q,st,h=>ev P a (λe st h=>match e with
  | .normal=>ev P b Q st h
  |e=>Q e st h) st h
 | .cond c t e,Q,st,h=>match rdO st c with
  | .val (.bool b)=>F0u b (ev P t Q st h) (ev P e Q st h)
  |_=>False
 | .block id c,Q,st,h=>ev P c (λe st h=>match e with
  | .exit i=>match Nat.beq i id with
   |true=>Q .normal st h
   |false=>Q (.exit i) st h
  |e=>Q e st h) st h
 | .loop f,Q,st,h=>N0r (λQ=>ev P f Q) (i0l f []) Q st h
 | .exit id,Q,st,h=>Q (.exit id) st h
 | .ret,Q,st,h=>Q .ret st h
 |_,_,_,_=>False
def F0q(P:Program):List ResultVar->St->Hp->(List Value->St->Hp->Prop)->Prop
 | [],st,h,K=>K [] st h
 | .tmp t::r,st,h,K=>rfy (rdA st (N3 st.fr t)) st h λv st h=>F0q P r st h λvs st h=>K (v::vs) st h
 | .cell t ty::r,st,h,K=>match rdA st (N3 st.fr t)with
  | .box i off=>match nth st.bx i with
   |some (.live cs _)=>m08 P ty cs off λav=>rfy av st h λv st h=>F0q P r st h λvs st h=>K (v::vs) st h
   |_=>False
  |_=>False
def v0o:List Value->Value
 | [v]=>v
 |vs => .tuple vs.toArray
def p0f:Nat->List Value->List (Nat×AV)
 |_,[]=>[]
 |i,v::r=>(i,.val v)::p0f (i+1) r
def N0x(P:Program)(fn:Func)(args:List Value)(h:Hp)(T:Value->Hp->Prop):Prop :=
 match fn.body with
 |some c=>match Nat.ble args.length fn.ntmps with
  |true=>ev P c (λe st h=>match e with
   | .exit _=>False
   |_=>F0q P fn.results.toList st h λvs _ h=>T (v0o vs) h) ⟨fn.ntmps,p0f 0 args,[],[]⟩ h
  |false=>False
 |none=>False
end Go.H
