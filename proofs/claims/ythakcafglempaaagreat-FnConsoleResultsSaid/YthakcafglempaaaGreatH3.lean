/- Plain laws over the model: what a function's code asks: regions with guards, regions that draw their order, branches and loops. -/
import Derived.Test.YthakcafglempaaaGreatH2
namespace Go.H
set_option linter.all false
structure BE where
 j:Nat
 d:Nat
 e:Bool
 ch:List (Nat×Bool)
structure RS where
 st:St
 h:Hp
 gf:List (Nat×List (Nat×Bool)×AV)
 bs:List BE
def K0i:List (Nat×List (Nat×Bool)×AV)->Nat->Option (List (Nat×Bool)×AV)
 | [],_=>none
 |(k,x)::r,s=>match Nat.beq k s with
  |true=>some x
  |false=>K0i r s
def eqB(a b:Bool):Bool:=match a,b with
 |true,true=>true
 |false,false=>true
 |_,_=>false
def V0u:List (Nat×Bool)->List (Nat×Bool)->Bool
 | [],[]=>true
 |(j,w)::r,(a,c)::b=>match Nat.beq j a,eqB w c with
  |true,true=>V0u r b
  |_,_=>false
 |_,_=>false
def g0o(a:List (Nat×Bool)):List (Nat×Bool)->Bool
 | []=>V0u a []
 |x::r=>match V0u a (x::r)with
  |true=>true
  |false=>g0o a r
def rdG(rs:RS)(ch:List (Nat×Bool)):Operand->AV
 | .tmp t=>match K0i rs.gf t with
  |some (a,av)=>match g0o a ch with
   |true=>rdA rs.st av
   |false => .dead
  |none=>rdA rs.st (L3 rs.st.fr t)
 |x=>rdO rs.st x
def H05:List BE->Nat->Option BE
 | [],_=>none
 |b::r,j=>match Nat.beq b.j j with
  |true=>some b
  |false=>H05 r j
def L0e:List BE->Nat->Option BE
 | [],_=>none
 |b::r,s=>match Nat.beq b.d s with
  |true=>some b
  |false=>L0e r s
def lit(w e:Bool):Bool:=match w with
 |true=>e
 |false => !e
def cB(bs:List BE):List (Nat×Bool)->Option Bool
 | []=>some true
 |(j,w)::r=>match H05 bs j with
  |some b=>match r with
   | []=>some (lit w b.e)
   |_=>match cB bs r with
    |some c=>some (lit w b.e&&c)
    |none=>none
  |none=>none
def I01(bs:List BE):Option (Nat×Bool)->Option (List (Nat×Bool))
 |none=>some []
 |some (j,w)=>match H05 bs j with
  |some b=>some ((j,w)::b.ch)
  |none=>none
def imp(ch:List (Nat×Bool))(c:Bool)(X:Prop):Prop:=match ch with
 | []=>X
 |_=>c=true->X
def h0o(rs:RS)(ch:List (Nat×Bool)):List Operand->Option (List (Nat×Value))
 | []=>some []
 | .tmp t::r=>match j08 (rdG rs ch (.tmp t))with
  |some v=>match h0o rs ch r with
   |some vs=>some ((t,v)::vs)
   |none=>none
  |none=>none
 | .global _::_=>none
 |_::r=>h0o rs ch r
def b0x(rs:RS)(ch:List (Nat×Bool)):List Operand->St->Hp->(List (Nat×Value)->St->Hp->Prop)->Prop
 | [],st,h,K=>K [] st h
 | .tmp t::r,st,h,K=>rfy (rdA st (rdG rs ch (.tmp t))) st h λv st h=>b0x rs ch r st h λvs st h=>K ((t,v)::vs) st h
 | .global _::_,_,_,_=>False
 |_::r,st,h,K=>b0x rs ch r st h K
def O0m(P:Program)(o:Oper)(ch:List (Nat×Bool))(c:Bool)(rs:RS)(K:AV->Prop):Prop :=
 match I0e o.op,h0o rs ch o.op.operands.toList with
 |false,some vs=>match m0b (rho vs) o with
  |some (f,l)=>match okF P f with
   |true=>∃ v,imp ch c (Tr P f l.toArray rs.h λa h'=>a=v/\h'=rs.h)/\K (.val v)
   |false=>False
  |none=>match evP P (n0l (rho vs) o)with
   |some (.value v)=>K (.val v)
   |_=>False
 |false,none=>∃ r,imp ch c (b0x rs ch o.op.operands.toList rs.st rs.h λvs _ hf=>match m0b (rho vs) o with
  |some (f,l)=>match okF P f with
   |true=>Tr P f l.toArray hf λv h'=>v=r/\h'=hf
   |false=>False
  |none=>False)/\K (.val r)
 |_,_=>False
def evG(P:Program)(o:Oper)(ch:List (Nat×Bool))(c:Bool)(rs:RS)(K:AV->Prop):Prop :=
 match o.op with
 | .move x | .assign x=>match rdG rs ch x with
  | .dead=>False
  |a=>K a
 | .pick (.tmp d) a b=>match rdG rs ch (.tmp d),L0e rs.bs d with
  | .val (.bool e),some q=>match g0o q.ch ch with
   |true=>match rdG rs ((q.j,true)::q.ch) a,rdG rs ((q.j,false)::q.ch) b with
    | .val (.bool x),.val (.bool y)=>K (.val (.bool (cond e x y)))
    |_,_=>False
   |false=>False
  |_,_=>False
 | .fieldAddr t x k=>match rdG rs ch x,L0m P t k with
  | .box i off,some g=>K (.box i (off+g))
  | .hel d i sz k,some g=>K (.hel d i sz (k+g))
  | .oel i d j sz k,some g=>K (.oel i d j sz (k+g))
  |_,_=>False
 | .indexAddr t x i=>match rdG rs ch i with
  | .val (.int _ j)=>match q03 P t with
   |some e=>match o7 P e with
    |some sz=>match rdG rs ch x with
     | .val (.slice a n f)=>imp ch c (InB (.slice a n f) j)/\K (.hel (.slice a n f) j sz 0)
     | .own i k=>match nth rs.st.ow i with
      |some ⟨_,.live _ p _ _ xs⟩=>match Nat.beq p sz with
       |true=>imp ch c (0<=j/\j<(xs.length:Int))/\K (.oel i k j sz 0)
       |false=>False
      |_=>False
     |_=>False
    |none=>False
   |none=>False
  |_=>False
 | .load t x=>match rdG rs ch x with
  | .box i off=>match nth rs.st.bx i with
   |some (.live cs _)=>h08 P t cs off K
   |_=>False
  | .hel d idx sz k=>∃ e,imp ch c (T7 rs.h d sz idx e)/\h08 P t (vals e) k K
  | .oel i _ idx sz k=>match nth rs.st.ow i with
   |some ⟨_,.live _ p _ _ xs⟩=>match Nat.beq p sz with
    |true=>∃ e,imp ch c (xs[idx.toNat]?=some e)/\h08 P t (vals e) k K
    |false=>False
   |_=>False
  |_=>False
 | .build t ps=>match P.underlying t,Q02 P t with
  |some (.struct u),some z=>match G09 P u.toList with
   |true=>p0b P u (rdG rs ch) ps.toList (vals z.cells.toList) λcs=>K (.agg cs)
   |false=>False
  |_,_=>False
 | .index t x i=>match rdG rs ch x,rdG rs ch i,P.underlying t with
  | .val (.string d),.val (.int _ j),some .string=>∃ e,imp ch c (0<=j/\d[j.toNat]?=some e)/\K (.val (.int .u8 e.toNat))
  |_,_,_=>False
 | .slice t x lo hi none=>match rdG rs ch x,P.underlying t with
  | .val (.string d),some .string=>match X08 0 (lo.map (rdG rs ch)),X08 d.size (hi.map (rdG rs ch))with
   |some l,some m=>imp ch c (0<=l/\l<=m/\m<=(d.size:Int))/\K (.val (.string (d.extract l.toNat m.toNat)))
   |_,_=>False
  | .val (.slice w n f),_=>match q03 P t with
   |some e=>match o7 P e with
    |some sz=>match X08 0 (lo.map (rdG rs ch)),X08 n (hi.map (rdG rs ch))with
     |some l,some m=>∃ v,imp ch c ((0<=l/\l<=m/\m<=(n:Int)/\n<=f)/\S0k sz (.slice w n f) l.toNat m.toNat v)/\K (.val v)
     |_,_=>False
    |none=>False
   |none=>False
  |_,_=>False
 | .binOp .eql t x y yt=>match j08 (rdG rs ch x),j08 (rdG rs ch y)with
  |some (.agg xs),some (.agg s)=>∃ b,imp ch c (q0b P o x y (.agg xs) (.agg s) b)/\K (.val (.bool b))
  |some (.slice a n m),some (.slice none 0 0)=>∃ b,imp ch c (q0b P o x y (.slice a n m) (.slice none 0 0) b)/\K (.val (.bool b))
  |_,_=>O0m P o ch c rs K
 | .binOp .neq t x y yt=>match j08 (rdG rs ch x),j08 (rdG rs ch y)with
  |some (.agg xs),some (.agg s)=>∃ b,imp ch c (q0b P o x y (.agg xs) (.agg s) b)/\K (.val (.bool b))
  |some (.slice a n m),some (.slice none 0 0)=>∃ b,imp ch c (q0b P o x y (.slice a n m) (.slice none 0 0) b)/\K (.val (.bool b))
  |_,_=>O0m P o ch c rs K
 | .binOp .add t x y yt=>match rdG rs ch x,rdG rs ch y with
  | .val (.string a),.val (.string b)=>imp ch c (a.size+b.size<=9223372036854775807)/\K (.val (.string (a++b)))
  |_,_=>O0m P o ch c rs K
 | .binOp .quo t x y yt=>match rdG rs ch x,rdG rs ch y with
  | .val (.int .i64 a),.val (.int .i64 b)=>imp ch c (b≠0)/\K (.val (.int .i64 (IntKind.i64.wrap (a.tdiv b))))
  |_,_=>O0m P o ch c rs K
 | .binOp .rem t x y yt=>match rdG rs ch x,rdG rs ch y with
  | .val (.int .i64 a),.val (.int .i64 b)=>imp ch c (b≠0)/\K (.val (.int .i64 (a.tmod b)))
  |_,_=>O0m P o ch c rs K
 | .call { callee := .builtin .len,args:=as,argTypes:=A }=>match as.toList,A.toList with
  | [x],[t]=>match rdG rs ch x with
   | .own i _=>match nth rs.st.ow i,q03 P t with
    |some ⟨_,.live _ _ _ _ xs⟩,some _=>K (.val (.int .i64 xs.length))
    |_,_=>False
   |_=>O0m P o ch c rs K
  |_,_=>False
 |_=>O0m P o ch c rs K
def s0b(rs:RS)(d:Nat):Bool:=match K0i rs.gf d,L0e rs.bs d with
 |none,none=>false
 |_,_=>true
def i0o(i d:Nat)(ch:List (Nat×Bool))(av:AV)(bs:List BE):List BE:=match av with
 | .val (.bool e)=>⟨i,d,e,ch⟩::bs
 |_=>bs
def V0d(d:Option Tmp)(i:Nat)(ch:List (Nat×Bool))(av:AV)(rs:RS)(K:RS->Prop):Prop :=
 match d with
 |none=>K rs
 |some d=>match Nat.blt d rs.st.n,s0b rs d with
  |true,false=>match ch with
   | []=>K { rs with st := { rs.st with fr:=(d,av)::rs.st.fr },bs:=i0o i d ch av rs.bs }
   |_=>K { rs with st := { rs.st with fr:=(d,.dead)::rs.st.fr },gf:=(d,ch,av)::rs.gf,bs:=i0o i d ch av rs.bs }
  |_,_=>False
def K0q:Op->Bool
 | .pick ..=>true
 |_=>false
def U0y(rs:RS)(ch:List (Nat×Bool))(o:Oper):Bool:=match o.op with
 | .call { callee := .value _,args:=as,argTypes:=_ }=>match as.toList with
  |x::_=>match rdG rs ch x with
   | .val (.pointer _)=>true
   |_=>false
  | []=>false
 |_=>false
def j0o(rs:RS)(ch:List (Nat×Bool)):List Operand->List (Nat×AV)
 | []=>rs.st.fr
 | .tmp t::r=>(t,rdG rs ch (.tmp t))::j0o rs ch r
 |_::r=>j0o rs ch r
def X0a(P:Program):List Oper->Nat->RS->(RS->Prop)->Prop
 | [],_,rs,K=>K rs
 |o::r,i,rs,K=>match o.guard,K0q o.op with
  |none,false=>z00 P o rs.st rs.h λav st h=>V0d o.dst i [] av { rs with st:=st,h:=h } λrs=>X0a P r (i+1) rs K
  |_,_=>match I01 rs.bs o.guard with
   |some ch=>match cB rs.bs ch with
    |some c=>match U0y rs ch o with
     |false=>evG P o ch c rs λav=>V0d o.dst i ch av rs λrs=>X0a P r (i+1) rs K
     |true=>(c=true->z00 P o { rs.st with fr:=j0o rs ch o.op.operands.toList } rs.h λav st h=>V0d o.dst i ch av { rs with st:=st,h:=h } λrs=>X0a P r (i+1) rs K) /\
       (c=false->V0d o.dst i ch (.val (.bool false)) rs λrs=>X0a P r (i+1) rs K)
    |none=>False
   |none=>False
def evQ(P:Program):List Oper->Nat->RS->(RS->Prop)->Prop
 | [],_,rs,K=>K rs
 |o::r,i,rs,K=>match I01 rs.bs o.guard with
  |some ch=>match cB rs.bs ch with
   |some c=>evG P o ch c rs λav=>V0d o.dst i ch av rs λrs=>evQ P r (i+1) rs K
   |none=>False
  |none=>False
def Sub(h h':Hp):Prop:=∀ b o,h b=some o->h' b=some o
def W0u(v:Value)(K:Value->Prop):Prop:=match v with
 | .bool b=>K (.bool b)
 | .int k n=>K (.int k n)
 | .string s=>K (.string s)
 | .pointer a=>K (.pointer a)
 | .slice a n c=>K (.slice a n c)
 | .func f x y=>K (.func f x y)
 | .agg cs=>K (.agg cs)
 | .tuple vs=>K (.tuple vs)
 |v=>K v
theorem E0t(v:Value)(K:Value->Prop):W0u v K=K v:=by cases v<;>rfl
def R02{a:Type}:List a->(List a->Prop)->Prop
 | [],K=>K []
 |x::r,K=>R02 r λr=>K (x::r)
theorem H04{a:Type}:∀(l:List a) (K:List a->Prop),R02 l K=K l
 | [],K=>rfl
 |x::r,K=>by simp only[R02,H04 r]
def k08:Nat->(Nat->Prop)->Prop
 |0,K=>K 0
 |n+1,K=>k08 n λm=>K (m+1)
theorem t0b:∀(n:Nat) (K:Nat->Prop),k08 n K=K n
 |0,K=>rfl
 |n+1,K=>by simp only[k08,t0b n]
def a06(av:AV)(K:AV->Prop):Prop:=match av with
 | .val v=>W0u v λv=>K (.val v)
 | .own i k=>K (.own i k)
 | .box i k=>K (.box i k)
 | .hel s i z k=>k08 z λz=>k08 k λk=>K (.hel s i z k)
 | .oel j s i z k=>k08 z λz=>k08 k λk=>K (.oel j s i z k)
 | .agg cs=>R02 cs λcs=>K (.agg cs)
 | .dead=>K .dead
theorem I06(av:AV)(K:AV->Prop):a06 av K=K av:=by
 cases av with
 |val v=>exact E0t v (λv=>K (.val v))
 |hel s i z k=>simp only[a06,t0b]
 |oel j s i z k=>simp only[a06,t0b]
 |agg cs=>simp only[a06,H04]
 |_=>rfl
inductive H00 where
 |pu (av:AV)
 |ef (F:Value->Hp->Prop)
def U5:List (Nat×H00)->Nat->Option H00
 | [],_=>none
 |(k,x)::r,s=>match Nat.beq k s with
  |true=>some x
  |false=>U5 r s
def rdS(L:List (Nat×H00))(st:St):Operand->AV
 | .tmp t=>match U5 L t with
  |some (.pu av)=>rdA st av
  |some (.ef _) => .dead
  |none=>rdA st (L3 st.fr t)
 |x=>rdO st x
def L0i(P:Program)(t:TypeId)(cs:List S6)(off:Nat):Option AV :=
 match K0m P t with
 |some true=>match o7 P t with
  |some n=>match u0a ((cs.drop off).take n) n with
   |true=>some (.agg ((cs.drop off).take n))
   |false=>none
  |none=>none
 |some false=>match nth cs off with
  |some c=>some (ofCell c)
  |none=>none
 |none=>none
def L0q(P:Program)(L:List (Nat×H00))(o:Oper)(st:St):Option AV:=match o.op with
 | .move x | .assign x=>match rdS L st x with
  | .dead=>none
  |a=>some a
 | .load t x=>match rdS L st x with
  | .box i off=>match nth st.bx i with
   |some (.live cs _)=>L0i P t cs off
   |_=>none
  |_=>none
 |_=>none
def M0i(L:List (Nat×H00))(st:St)(h:Hp):List Operand->List (Nat×AV)->(List (Nat×AV)->Prop)->Prop
 | [],acc,K=>K acc
 | .tmp t::r,acc,K=>match U5 L t with
  |some (.pu av)=>M0i L st h r ((t,av)::acc) K
  |some (.ef F)=>∀ v,F v h->M0i L st h r ((t,.val v)::acc) K
  |none=>M0i L st h r ((t,L3 st.fr t)::acc) K
 |_::r,acc,K=>M0i L st h r acc K
def o0g(d:Option Tmp)(f:H00)(L:List (Nat×H00)):List (Nat×H00):=match d with
 |some d=>(d,f)::L
 |none=>L
def L0z(st:St)(h:Hp)(F:Value->Hp->Prop):AV->St->Hp->Prop
 | .val v,st',h'=>st'=st/\Sub h h'/\F v h'
 |_,_,_=>False
def n02(i:Nat)(o:Oper):Bool:=o.after.toList.any λe=>Region.binds .any e&&Nat.beq e.on i
def I04(o:Oper)(t:Nat):List Oper->Nat->Bool
 | [],_=>true
 |x::r,i=>match x.dst with
  |some d=>match Nat.beq d t with
   |true=>n02 i o&&I04 o t r (i+1)
   |false=>I04 o t r (i+1)
  |none=>I04 o t r (i+1)
def M0e(o:Oper)(ops:List Oper):List Operand->Bool
 | []=>true
 | .tmp t::r=>I04 o t ops 0&&M0e o ops r
 |_::r=>M0e o ops r
def u0b(d:Nat):List Oper->Bool
 | []=>true
 |o::r=>match o.dst with
  |some a => !Nat.beq d a&&u0b d r
  |none=>u0b d r
def k0o(n:Nat):List Oper->Bool
 | []=>true
 |o::r=>match o.dst with
  |some d=>Nat.blt d n&&u0b d r&&k0o n r
  |none=>k0o n r
def l0o:List Oper->Nat->Bool
 | [],_=>true
 |o::r,j=>(o.after.toList.all λe => !Region.binds .any e || Nat.blt e.on j)&&l0o r (j+1)
def T0r(ops:List Oper):List Oper->Bool
 | []=>true
 |o::r=>M0e o ops o.op.operands.toList&&T0r ops r
def Y08(n:Nat)(ops:List Oper):Bool:=k0o n ops&&l0o ops 0&&T0r ops ops
def U0r:List S6->Bool
 | []=>true
 | .val _::r=>U0r r
 | .own _ _::_=>false
def P0m:AV->Bool
 | .val _=>true
 | .box _ _=>true
 | .own _ _=>true
 | .agg cs=>U0r cs
 |_=>false
def v09(L:List (Nat×H00))(st:St):Operand->AV
 | .tmp t=>match U5 L t with
  |some (.pu av)=>av
  |some (.ef _) => .dead
  |none=>L3 st.fr t
 | .const v => .val v
 |_ => .dead
def q0h(L:List (Nat×H00))(st:St):List Operand->Option (List (Nat×Value))
 | []=>some []
 | .tmp t::r=>match v09 L st (.tmp t)with
  | .val v=>match q0h L st r with
   |some vs=>some ((t,v)::vs)
   |none=>none
  |_=>none
 | .global _::_=>none
 |_::r=>q0h L st r
def M0q(P:Program)(L:List (Nat×H00))(o:Oper)(st:St):Option AV:=match I0e o.op,q0h L st o.op.operands.toList with
 |false,some vs=>match m0b (rho vs) o with
  |some _=>none
  |none=>match evP P (n0l (rho vs) o)with
   |some (.value v)=>some (.val v)
   |_=>none
 |_,_=>none
def M0z:AV->Bool
 | .val (.int _ _)=>true
 |_=>false
def o0A:BinOp->Bool
 | .lss=>true
 | .leq=>true
 | .gtr=>true
 | .geq=>true
 | .eql=>true
 | .neq=>true
 | .add=>true
 | .sub=>true
 | .mul=>true
 |_=>false
def v0d(P:Program)(L:List (Nat×H00))(o:Oper)(st:St):Option AV:=match o.op with
 | .move x=>match P0m (v09 L st x)with
  |true=>some (v09 L st x)
  |false=>none
 | .assign x=>match P0m (v09 L st x)with
  |true=>some (v09 L st x)
  |false=>none
 | .load t x=>match v09 L st x with
  | .box i off=>match nth st.bx i with
   |some (.live cs _)=>match L0i P t cs off with
    |some av=>match P0m av with
     |true=>some av
     |false=>none
    |none=>none
   |_=>none
  |_=>none
 | .fieldAddr t x k=>match v09 L st x,L0m P t k with
  | .box i off,some a=>some (.box i (off+a))
  |_,_=>none
 | .binOp op _ x y _=>match o0A op,M0z (v09 L st x),M0z (v09 L st y)with
  |true,true,true=>M0q P L o st
  |_,_,_=>none
 | .call { callee := .builtin .len,args:=as,argTypes:=_ }=>match as.toList with
  | [x]=>match v09 L st x with
   | .val (.slice _ _ _)=>M0q P L o st
   |_=>none
  |_=>none
 |_=>none
def w05(L:List (Nat×H00))(st:St):List Oper->List Nat
 | []=>[]
 |o::r=>match o.op with
  | .load _ x=>match v09 L st x with
   | .box i _=>i::w05 L st r
   |_=>w05 L st r
  |_=>w05 L st r
def w0d(bx:List BSt):List Nat->List (Option BSt)
 | []=>[]
 |i::r=>nth bx i::w0d bx r
def r0h(L:List (Nat×H00))(a:List (Nat×AV)):List Operand->List (Nat×AV)->(List (Nat×AV)->Prop)->Prop
 | [],acc,K=>K acc
 | .tmp t::r,acc,K=>match U5 L t with
  |some (.pu av)=>r0h L a r ((t,av)::acc) K
  |some (.ef _)=>r0h L a r ((t,.dead)::acc) K
  |none=>r0h L a r ((t,L3 a t)::acc) K
 |_::r,acc,K=>r0h L a r acc K
def N0q:List (Nat×H00)->List (Nat×AV)->List (Nat×AV)
 | [],fr=>fr
 |(d,.pu av)::r,fr=>(d,av)::N0q r fr
 |(d,.ef _)::r,fr=>(d,.dead)::N0q r fr
def X0u(av:AV)(st:St)(h:Hp):AV->St->Hp->Prop:=λa st' h'=>a=av/\st'=st/\h'=h
def v0b(P:Program)(st:St):List Oper->Nat->List (Nat×H00)->List (Nat×Oper)->(List (Nat×H00)->List (Nat×Oper)->Prop)->Prop
 | [],_,L,E,K=>K L E
 |o::r,i,L,E,K=>match o.guard with
  |some _=>False
  |none=>match v0d P L o st with
   |some av=>a06 av λav=>v0b P st r (i+1) (o0g o.dst (.pu av) L) E K
   |none=>v0b P st r (i+1) (o0g o.dst (.ef λ_ _=>True) L) (E ++ [(i,o)]) K
def w0b(d:Nat):List Operand->Bool
 | []=>false
 | .tmp t::r=>Nat.beq t d || w0b d r
 |_::r=>w0b d r
def Q0m(d:Nat):List Oper->Bool
 | []=>false
 |o::r=>w0b d o.op.operands.toList || Q0m d r
def A07(P:Program)(o:Oper)(st:St)(h:Hp)(K:St->Hp->Prop):Prop :=
 z00 P o st h λav st h=>V0d o.dst 0 [] av ⟨st,h,[],[]⟩ λrs=>K rs.st rs.h
def inK(k:Nat):List Nat->Bool
 | []=>false
 |x::r=>Nat.beq k x || inK k r
def x0b(es:List Nat):Nat->Nat->Oper->Bool
 |0,_,_=>true
 |k+1,i,o=>((Nat.beq k i || n02 k o) || inK k es)&&x0b es k i o
def p0g:List (Nat×Oper)->List Nat
 | []=>[]
 |x::r=>x.1::p0g r
def Y0u(N:Nat×List Nat)(i:Nat)(o:Oper):Bool:=x0b N.2 N.1 i o
def i0y(b:Bool)(rd:List Nat)(bx a:List BSt):Prop:=match b with
 |true=>True
 |false=>w0d a rd=w0d bx rd
def q0g:List (Nat×Oper)->List (Nat×Oper)->List ((Nat×Oper)×List (Nat×Oper))
 |_,[]=>[]
 |A,x::B=>(x,A++B)::q0g (A ++ [x]) B
def R0m(x:Nat×Oper):List (Nat×Oper)->Bool
 | []=>true
 |y::r => !n02 y.1 x.2&&R0m x r
def O0q(f:(Nat×Oper)->List (Nat×Oper)->Prop):List ((Nat×Oper)×List (Nat×Oper))->Prop
 | []=>True
 |p::l=>match R0m p.1 p.2 with
  |true=>f p.1 p.2/\O0q f l
  |false=>O0q f l
def T0k(rd:List Nat)(N:Nat×List Nat)(P:Program):Nat->List (Nat×Oper)->List (Nat×H00)->St->Hp->(St->Hp->Prop)->Prop
 |0,_,L,⟨n,fr,bx,ow⟩,h,K=>R02 (N0q L fr) λfr=>K ⟨n,fr,bx,ow⟩ h
 |m+1,E,L,⟨n,fr,bx,ow⟩,h,K=>O0q (λx r=>r0h L fr x.2.op.operands.toList [] λc=>z00 P x.2 ⟨n,c,bx,ow⟩ h λav st' h'=>match st' with
  |⟨_,_,a,b⟩=>i0y (Y0u N x.1 x.2) rd bx a/\a06 av λav=>R02 a λa=>R02 b λb=>T0k rd N P m r (o0g x.2.dst (.pu av) L) ⟨n,fr,a,b⟩ h' K) (q0g [] E)
def U0k:List (Nat×Oper)->Nat
 | []=>0
 |_::r=>U0k r+1
abbrev FL:=List (Nat×List (Nat×Bool)×H00)
def z06:FL->Nat->Option (List (Nat×Bool)×H00)
 | [],_=>none
 |(k,x)::r,s=>match Nat.beq k s with
  |true=>some x
  |false=>z06 r s
def rdU(L:FL)(st:St)(ch:List (Nat×Bool)):Operand->AV
 | .tmp t=>match z06 L t with
  |some (a,.pu av)=>match g0o a ch with
   |true=>rdA st av
   |false => .dead
  |some (_,.ef _) => .dead
  |none=>rdA st (L3 st.fr t)
 |x=>rdO st x
def x0d(P:Program)(L:FL)(bs:List BE)(ch:List (Nat×Bool))(o:Oper)(st:St):Option AV:=match o.op with
 | .move x | .assign x=>match rdU L st ch x with
  | .dead=>none
  |a=>some a
 | .load t x=>match rdU L st ch x with
  | .box i off=>match nth st.bx i with
   |some (.live cs _)=>L0i P t cs off
   |_=>none
  |_=>none
 | .fieldAddr t x k=>match rdU L st ch x,L0m P t k with
  | .box i off,some d=>some (.box i (off+d))
  | .hel c i sz k,some d=>some (.hel c i sz (k+d))
  |_,_=>none
 | .pick (.tmp c) a b=>match rdU L st ch (.tmp c),L0e bs c with
  | .val (.bool e),some q=>match g0o q.ch ch with
   |true=>match rdU L st ((q.j,true)::q.ch) a,rdU L st ((q.j,false)::q.ch) b with
    | .val (.bool x),.val (.bool y)=>some (.val (.bool (cond e x y)))
    |_,_=>none
   |false=>none
  |_,_=>none
 |_=>none
def Y0a(L:FL)(st:St)(h:Hp)(ch:List (Nat×Bool)):List Operand->List (Nat×AV)->(List (Nat×AV)->Prop)->Prop
 | [],acc,K=>K acc
 | .tmp t::r,acc,K=>match z06 L t with
  |some (a,f)=>match g0o a ch with
   |true=>match f with
    | .pu av=>Y0a L st h ch r ((t,av)::acc) K
    | .ef F=>∀ v,F v h->Y0a L st h ch r ((t,.val v)::acc) K
   |false=>False
  |none=>Y0a L st h ch r ((t,L3 st.fr t)::acc) K
 |_::r,acc,K=>Y0a L st h ch r acc K
def V0k(h:Hp):FL->List (Nat×AV)->(List (Nat×AV)->Prop)->Prop
 | [],fr,K=>K fr
 |(d,[],.pu av)::r,fr,K=>V0k h r ((d,av)::fr) K
 |(d,[],.ef F)::r,fr,K=>∀ v,F v h->V0k h r ((d,.val v)::fr) K
 |(d,_::_,_)::r,fr,K=>V0k h r ((d,.dead)::fr) K
def S0m(d:Option Tmp)(ch:List (Nat×Bool))(f:H00)(L:FL):FL:=match d with
 |some d=>(d,ch,f)::L
 |none=>L
def T0m(i:Nat)(d:Option Tmp)(ch:List (Nat×Bool))(av:AV)(bs:List BE):List BE:=match d with
 |some d=>match av with
  | .val (.bool e)=>⟨i,d,e,ch⟩::bs
  |_=>bs
 |none=>bs
def P0q(st st':St):Prop:=st'.n=st.n/\st'.fr=st.fr/\st'.bx=st.bx/\∃ t,st'.ow=st.ow++t
def Z0u(st:St)(h:Hp)(b:Value->Hp->Prop):AV->St->Hp->Prop:=λav st' h'=>rfy av st' h' λv c a=>P0q st c/\Sub h a/\b v a
def a0v(P:Program)(t n:Nat)(st:St)(h:Hp)(K:AV->St->Hp->Prop):Prop :=
 match q03 P t with
 |some e=>match o7 P e,Nat.beq n 0 with
  |some (_+1),true=>∀ g,h g=none->K (.val (.slice (some ⟨g,0,none⟩) 0 0)) st (h.set g (.cells #[] e (0,0)))
  |_,_=>False
 |none=>False
def b0v(P:Program)(t:TypeId)(a b:Operand)(st:St)(h:Hp)(K:AV->St->Hp->Prop):Prop :=
 match q03 P t with
 |some e=>match o7 P e,U0d P e,Q02 P e with
  |some (sz+1),some (by_+1),some z=>match u0a z.cells.toList (sz+1)with
   |true=>match rdO st a with
    | .val (.slice (some ⟨g,o,none⟩) 0 0)=>I0i st h (sz+1) (rdO st b) λc=>H09 c.length (by_+1) /\
      ((c = []->K (.val (.slice (some ⟨g,o,none⟩) 0 0)) st h)/\∀ v h',Y0 h h' v e (sz+1) true c->K (.val v) st h')
    |_=>False
   |false=>False
  |_,_,_=>False
 |none=>False
def m0o(P:Program)(o:Oper)(st:St)(h:Hp)(K:AV->St->Hp->Prop):Prop :=
 match o.op with
 | .buildSlice t n ps=>match ps.toList with
  | []=>a0v P t n st h K
  |_::_=>z00 P o st h K
 | .call { callee := .builtin .append,args:=as,argTypes:=d }=>match as.toList,d.toList with
  | [a,b],[t,c]=>match Nat.beq t c with
   |true=>b0v P t a b st h K
   |false=>False
  |_,_=>False
 |_=>z00 P o st h K
def evU(P:Program)(l:List Oper):Nat->FL->List BE->St->Hp->(St->Hp->Prop)->Prop :=
  List.rec (motive:=λ_=>Nat->FL->List BE->St->Hp->(St->Hp->Prop)->Prop)
    (λ_ L _ st h K=>match st with
      |⟨n,fr,bx,ow⟩=>∀ h',Sub h h'->V0k h' L fr λfr=>K ⟨n,fr,bx,ow⟩ h')
    (λo _ b i L bs st h K=>match st with
      |⟨n,fr,bx,ow⟩=>match I01 bs o.guard with
        |some ch=>match cB bs ch with
          |some c=>match x0d P L bs ch o ⟨n,fr,bx,ow⟩with
            |some av=>a06 av λav=>b (i+1) (S0m o.dst ch (.pu av) L) (T0m i o.dst ch av bs) ⟨n,fr,bx,ow⟩ h K
            |none=>(∃ av,(∀ h',Sub h h'->imp ch c (Y0a L ⟨n,fr,bx,ow⟩ h' ch o.op.operands.toList [] λfr=>z00 P o ⟨n,fr,bx,ow⟩ h' (X0u av ⟨n,fr,bx,ow⟩ h'))) /\
                  a06 av λav=>b (i+1) (S0m o.dst ch (.pu av) L) (T0m i o.dst ch av bs) ⟨n,fr,bx,ow⟩ h K) ∨
                (∃ a:Value->Hp->Prop,(∀ v d e,Sub d e->a v d->a v e) /\
                  (∀ h',Sub h h'->imp ch c (Y0a L ⟨n,fr,bx,ow⟩ h' ch o.op.operands.toList [] λfr=>m0o P o ⟨n,fr,bx,ow⟩ h' (Z0u ⟨n,fr,bx,ow⟩ h' a))) /\
                  b (i+1) (S0m o.dst ch (.ef a) L) bs ⟨n,fr,bx,ow⟩ h K)
          |none=>False
        |none=>False) l
def u0i:List Oper->Bool
 | []=>true
 |o::r=>(match o.guard with
  |some (j,_)=>n02 j o
  |none=>true)&&u0i r
def U06(n:Nat)(ops:List Oper):Bool:=Y08 n ops&&u0i ops
def c0x(P:Program):List Oper->Bool
 | []=>false
 |o::r=>(match o.guard,o.op with
  |some _,.call { callee := .value _,args:=_,argTypes:=_ }=>match P.underlying o.type with
   |some (.slice _)=>true
   |some (.struct _)=>true
   |some (.tuple _)=>true
   |_=>false
  |_,_=>false) || c0x P r
def l08(o:Oper):Bool:=match o.op with
 | .alloc _=>true
 |_=>false
def t02(o:Oper):Oper:=match o.op with
 | .alloc _ => { o with op := .move (.const undef) }
 |_=>o
def p7:List Oper->List Oper
 | []=>[]
 |o::r=>t02 o::p7 r
def okA(P:Program)(all:List Oper):List Oper->Bool
 | []=>true
 |o::r=>(match o.op with
  | .alloc t=>(match o.guard,o.dst,Q02 P t with
   |none,some d,some _ => !Q0m d all
   |_,_,_=>false)
  |_=>true)&&okA P all r
def Q0q(x:Nat):List Nat->Bool
 | []=>false
 |y::r=>Nat.beq x y || Q0q x r
def N0e(ops:List Oper)(i:Nat):List Nat->Bool
 | []=>false
 |j::r=>(match nth ops j with
  |some o=>n02 i o
  |none=>false) || N0e ops i r
def o0l(ops:List Oper):Nat->List Nat->List Nat
 |0,acc=>acc
 |i+1,acc=>match N0e ops i acc with
  |true=>o0l ops i (i::acc)
  |false=>o0l ops i acc
def r0g:Operand->List Nat
 | .tmp t=>[t]
 |_=>[]
def y0d(o:Oper):Option (List Nat):=match o.guard with
 |some _=>none
 |none=>match o.op with
  | .extract x _=>some (r0g x)
  | .move x=>some (r0g x)
  | .assign x=>some (r0g x)
  | .pick c x y=>some (r0g c++(r0g x++r0g y))
  |_=>none
def z0d(d:Nat):List Oper->Bool
 | []=>false
 |o::r=>(match o.dst with
  |some e=>Nat.beq e d
  |none=>false) || z0d d r
def m08(a:List Nat)(t:Nat):List Oper->Nat->Bool
 | [],_=>true
 |o::r,i=>(match o.dst with
  |some e => !Nat.beq e t || Q0q i a
  |none=>true)&&m08 a t r (i+1)
def J09(i d:Nat):List Oper->Bool
 | []=>true
 |o::r=>(!w0b d o.op.operands.toList || n02 i o)&&J09 i d r
def V0r(b c:List Oper)(a:List Nat):List Nat->Bool
 | []=>true
 |t::r=>(!z0d t c&&m08 a t b 0)&&V0r b c a r
def W0r(c a:List Oper)(b:List Nat)(i:Nat)(o:Oper):Bool:=match y0d o,o.dst with
 |some e,some d => !z0d d a&&V0r c a b e&&J09 i d a
 |_,_=>false
def v0i(b c:List Oper)(a:List Nat):List Oper->Nat->Bool
 | [],_=>true
 |o::r,i=>(Q0q i a || W0r b c a i o)&&v0i b c a r (i+1)
def n0o:List Oper->Bool
 | []=>true
 |o::r => !I0e o.op&&n0o r
def c0v:Nat->List Oper->Bool
 |_,[]=>true
 |k,o::r=>(match o.guard with
  |none=>true
  |some _=>false)&&(match r with
  | []=>true
  |o'::_=>n02 k o')&&c0v (k+1) r
def N0z:List Oper->Bool
 | []=>true
 |_::_=>false
def okZ(P:Program)(n m:Nat)(ops:List Oper):Bool :=
 U06 n (p7 (ops.take m))&&okA P (ops.take m) (ops.take m)&&l0o ops 0&&c0v m (ops.drop m)&&(N0z (ops.drop m) || (v0i (ops.take m) (ops.drop m) (o0l ops m [m]) (ops.take m) 0&&n0o (ops.drop m)))
abbrev V0y:=Oper->St->Hp->(St->Hp->Prop)->Prop
def doA(R:V0y)(l:List Oper):St->Hp->(St->Hp->Prop)->Prop :=
 List.rec (motive:=λ_=>St->Hp->(St->Hp->Prop)->Prop) (λst h K=>K st h) (λo _ a st h K=>match l08 o with
  |true=>R o st h λst h=>a st h K
  |false=>a st h K) l
def doT(R:V0y)(l:List Oper):St->Hp->(St->Hp->Prop)->Prop :=
 List.rec (motive:=λ_=>St->Hp->(St->Hp->Prop)->Prop) (λst h K=>K st h) (λo _ a st h K=>R o st h λst h=>a st h K) l
def evT(P:Program)(R:V0y)(m:Nat)(ops:List Oper)(st:St)(h:Hp)(K:St->Hp->Prop):Prop :=
 evU P (p7 (ops.take m)) 0 [] [] st h λst h=>doA R (ops.take m) st h λst h=>doT R (ops.drop m) st h K
inductive Ex where
 |normal|ret
 |exit (i:Nat)
structure Ann where
 vars:List Nat
 boxes:List Nat:=[]
 owns:List Nat:=[]
 nils:List (Nat×Nat×Nat×Nat):=[]
 nilsB:List (Nat×Nat×Nat×Nat×Nat):=[]
 kept:List Nat:=[]
 fuel:Bool:=true
 pubs:List Nat:=[]
def o0o:List (Nat×Nat×Nat×Nat)->St->(St->Prop)->Prop
 | [],st,K=>K st
 |(s,e,sz,by_)::r,⟨n,fr,bx,ow⟩,K=>match rdA ⟨n,fr,bx,ow⟩ (L3 fr s),Nat.blt s n with
  | .val (.slice none 0 0),true=>G0q ow λk=>o0o r ⟨n,(s,.own k 0)::fr,bx,ow ++ [⟨0,.live e sz by_ false []⟩]⟩ K
  |_,_=>False
def N0i:List (Nat×Nat×Nat×Nat×Nat)->St->(St->Prop)->Prop
 | [],st,K=>K st
 |(i,k,e,sz,by_)::r,⟨n,fr,bx,ow⟩,K=>match nth bx i with
  |some (.live cs ty)=>match nth cs k with
   |some (.val (.slice none 0 0))=>G0q ow λj=>N0i r ⟨n,fr,F02 bx i (.live (F02 cs k (.own j 0)) ty),ow ++ [⟨0,.live e sz by_ false []⟩]⟩ K
   |_=>False
  |_=>False
def p0o:List Nat->St->Hp->(St->Hp->Prop)->Prop
 | [],st,h,K=>K st h
 |s::r,st,h,K=>rfy (rdA st (L3 st.fr s)) st h λv st h=>match st with
  |⟨n,fr,bx,ow⟩=>match Nat.blt s n with
   |true=>p0o r ⟨n,(s,.val v)::fr,bx,ow⟩ h K
   |false=>False
def k0d(x:Nat):List Nat->Bool
 | []=>false
 |y::r=>match Nat.beq x y with
  |true=>true
  |false=>k0d x r
def W0y:List Oper->List Nat->List Nat
 | [],acc=>acc
 |o::r,acc=>match o.dst with
  |some d=>W0y r (d::acc)
  |none=>W0y r acc
def W0k:Code->List Nat->List Nat
 | .region _ ops _,acc=>W0y ops.toList acc
 | .seq a b,acc=>W0k a (W0k b acc)
 | .cond _ a b,acc=>W0k a (W0k b acc)
 | .block _ a,acc=>W0k a acc
 | .loop a,acc=>W0k a acc
 | .scope a,acc=>W0k a acc
 |_,acc=>acc
def s0g:List Nat->(List Nat->Prop)->Prop
 | [],K=>K []
 |x::r,K=>s0g r λr=>K (x::r)
def d0x:List Nat->St->(List Value->Prop)->Prop
 | [],_,K=>K []
 |s::r,st,K=>match rdA st (L3 st.fr s)with
  | .val v=>d0x r st λvs=>K (v::vs)
  |_=>False
def q0o:List S6->St->(List Value->Prop)->Prop
 | [],_,K=>K []
 | .val v::r,st,K=>q0o r st λvs=>K (v::vs)
 | .own _ _::r,st,K=>q0o r st K
def O0i:List Nat->St->(List Value->Prop)->Prop
 | [],_,K=>K []
 |i::r,st,K=>match nth st.bx i with
  |some (.live cs _)=>q0o cs st λvs=>O0i r st λws=>K (vs++ws)
  |_=>False
def p0l:List Nat->St->(List (LV)->Prop)->Prop
 | [],_,K=>K []
 |i::r,st,K=>match nth st.ow i with
  |some ⟨_,.live _ _ _ _ xs⟩=>p0l r st λos=>K (xs::os)
  |_=>False
def R0q(A:Ann)(st:St)(K:List Value->List (LV)->Prop):Prop :=
 d0x A.vars st λvs=>O0i A.boxes st λws=>p0l A.owns st λos=>K (vs++ws) os
def V06:List S6->List Value->(List S6->List Value->Prop)->Prop
 | [],vs,K=>K [] vs
 | .val _::r,v::vs,K=>V06 r vs λcs a=>K (.val v::cs) a
 | .val _::_,[],_=>False
 | .own i k::r,vs,K=>V06 r vs λcs a=>K (.own i k::cs) a
def K09:List Nat->List Value->List BSt->(List BSt->Prop)->Prop
 | [],_,bx,K=>K bx
 |i::r,vs,bx,K=>match nth bx i with
  |some (.live cs ty)=>V06 cs vs λcs a=>K09 r a (F02 bx i (.live cs ty)) K
  |_=>False
def L09:List Nat->List (LV)->List Own->(List Own->Prop)->Prop
 | [],_,ow,K=>K ow
 |i::r,xs::os,ow,K=>match nth ow i with
  |some ⟨s,.live e sz by_ nn _⟩=>L09 r os (F02 ow i ⟨s,.live e sz by_ nn xs⟩) K
  |_=>False
 |_::_,[],_,_=>False
def y0b{c:Type}:Nat->List c->(List c->List c->Prop)->Prop
 |0,l,K=>K [] l
 |n+1,x::l,K=>y0b n l λa b=>K (x::a) b
 |_+1,[],_=>False
def headD(A:Ann)(st:St):List Nat->List (Nat×AV)->(List (Nat×AV)->Prop)->Prop
 | [],acc,K=>K acc
 |s::r,acc,K=>match k0d s A.vars with
  |true=>headD A st r acc K
  |false=>match rdA st (L3 st.fr s)with
   | .own i k=>headD A st r ((s,.own i k)::acc) K
   | .box i o=>headD A st r ((s,.box i o)::acc) K
   |_=>headD A st r ((s,.dead)::acc) K
def X0r:List S6->Bool
 | []=>true
 | .val _::r=>X0r r
 | .own _ _::_=>false
def M09(A:Ann)(ds:List Nat)(st:St):List (Nat×AV)->(List (Nat×AV)->Prop)->Prop
 | [],K=>K []
 |(s,av)::r,K=>match k0d s ds with
  |true=>M09 A ds st r K
  |false=>match rdA st av with
   | .own i k=>match k0d i A.owns,k0d i A.kept with
    |true,false=>M09 A (s::ds) st r λl=>K ((s,.dead)::l)
    |_,_=>M09 A (s::ds) st r λl=>K ((s,.own i k)::l)
   | .oel _ _ _ _ _=>M09 A (s::ds) st r λl=>K ((s,.dead)::l)
   | .agg cs=>match X0r cs with
    |true=>M09 A (s::ds) st r λl=>K ((s,.agg cs)::l)
    |false=>M09 A (s::ds) st r λl=>K ((s,.dead)::l)
   |a=>M09 A (s::ds) st r λl=>K ((s,a)::l)
def t0g:List Nat->List Value->List (Nat×AV)->List (Nat×AV)
 |s::r,v::vs,acc=>t0g r vs ((s,.val v)::acc)
 |_,_,acc=>acc
def s0h(b a:St):List (Nat×AV)->Bool
 | []=>true
 |(c,av)::r=>match av with
  | .own i _=>match rdA a (L3 a.fr c)with
   | .own j _=>match Nat.beq i j with
    |true=>s0h b a r
    |false=>false
   |_=>false
  | .box i o=>match rdA a (L3 a.fr c)with
   | .box j p=>match Nat.beq i j,Nat.beq o p with
    |true,true=>s0h b a r
    |_,_=>false
   |_=>false
  |_=>s0h b a r
def S0q:AV->Bool
 | .dead=>true
 |_=>false
def F0t:List (Nat×AV)->List AV
 | []=>[]
 |(_,av)::r=>match S0q av with
  |true=>F0t r
  |false=>av::F0t r
def q0l(fr:List (Nat×AV)):List (Nat×AV)->List AV
 | []=>[]
 |(s,av)::r=>match S0q av with
  |true=>q0l fr r
  |false=>L3 fr s::q0l fr r
def N09(c a:St):List S6->List S6->Bool
 | [],[]=>true
 | .val _::r,.val _::b=>N09 c a r b
 | .own i _::r,.own j d::b=>match Nat.beq i j,rdA a (.own j d)with
  |true,.own _ _=>N09 c a r b
  |_,_=>false
 |_,_=>false
def O0e(os:List Nat):List S6->Bool
 | []=>true
 | .val _::r=>O0e os r
 | .own i _::r=>match k0d i os with
  |true=>false
  |false=>O0e os r
def T0q(os:List Nat):BSt->Bool
 | .live cs _=>O0e os cs
 | .publ _=>true
def u0g(A:Ann)(c a:St):Nat->List BSt->List BSt->Prop
 |_,[],_=>True
 |i,b::r,d::e=>match k0d i A.boxes with
  |true=>match b,d with
   | .live cs ty,.live cs' f=>match Nat.beq ty f,N09 c a cs cs' with
    |true,true=>u0g A c a (i+1) r e
    |_,_=>False
   |_,_=>False
  |false=>match T0q A.owns b with
   |true=>d=b/\u0g A c a (i+1) r e
   |false=>False
 |_,_::_,[]=>False
def leB(a b:Bool):Bool:=match a with
 |true=>b
 |false=>true
def v0g(A:Ann):Nat->List Own->List Own->Prop
 |_,[],_=>True
 |i,b::r,a::c=>match k0d i A.owns with
  |true=>match b,a with
   |⟨h,.live e sz by_ nn _⟩,⟨j,.live f k d g _⟩=>match Nat.beq e f,Nat.beq sz k,Nat.beq by_ d,leB nn g,leB (k0d i A.kept) (Nat.beq h j)with
    |true,true,true,true,true=>v0g A (i+1) r c
    |_,_,_,_,_=>False
   |_,_=>False
  |false=>a=b/\v0g A (i+1) r c
 |_,_::_,[]=>False
def P0e:Nat->(List Value->Prop)->Prop
 |0,K=>K []
 |n+1,K=>∀ v,P0e n λvs=>K (v::vs)
def Q0e:Nat->(List (LV)->Prop)->Prop
 |0,K=>K []
 |n+1,K=>∀ xs,Q0e n λos=>K (xs::os)
abbrev w0g:=List Value->List (LV)->Hp->Prop
abbrev Z0a:=List Value->List (LV)->Nat
def e0x:List Value->List Value->Bool
 | [],[]=>true
 |_::r,_::a=>e0x r a
 |_,_=>false
def r0o(A:Ann)(I:w0g)(vs:List Value)(os:List (LV))(h:Hp):Prop:=match A.fuel with
 |false=>I vs os h
 |true=>∃ m:Nat,I (.int .i64 m::vs) os h
def s0o(A:Ann)(I:w0g)(μ:Z0a)(vs:List Value)(os:List (LV))(X:Nat->Hp->Prop):Prop:=match A.fuel with
 |false=>∀ h',I vs os h'->X (μ vs os) h'
 |true=>∀(m:Nat) (h':Hp),I (.int .i64 m::vs) os h'->X m h'
def f0x(A:Ann)(a:w0g)(μ:Z0a)(m:Nat)(vs:List Value)(os:List (LV))(h:Hp):Prop:=match A.fuel with
 |false=>a vs os h/\μ vs os<m
 |true=>∃ b:Nat,a (.int .i64 b::vs) os h/\b<m
def atI(A:Ann)(I:w0g)(μ:Z0a)(m:Nat)(vs:List Value)(os:List (LV))(h:Hp):Prop:=match A.fuel with
 |false=>I vs os h/\m=μ vs os
 |true=>I (.int .i64 m::vs) os h
theorem d0v{A:Ann}{b:w0g}{μ:Z0a}{vs:List Value}{os:List (LV)}{h:Hp}(a:r0o A b vs os h):∃ m,atI A b μ m vs os h:=by
 unfold r0o at a;unfold atI;cases hf:A.fuel;·rw[hf]at a;exact⟨_,a,rfl⟩
 rw[hf]at a;exact a
theorem e0v{A:Ann}{c:w0g}{μ:Z0a}{vs:List Value}{os:List (LV)}{d:Nat->Hp->Prop}(b:s0o A c μ vs os d){m:Nat}{h:Hp}(a:atI A c μ m vs os h):d m h:=by
 unfold s0o at b;unfold atI at a;cases hf:A.fuel;·rw[hf]at b a;rw[a.2];exact b _ a.1
 rw[hf]at b a;exact b _ _ a
theorem g0x{A:Ann}{b:w0g}{μ:Z0a}{m:Nat}{vs:List Value}{os:List (LV)}{h:Hp}(a:f0x A b μ m vs os h):∃ c,atI A b μ c vs os h/\c<m:=by
 unfold f0x at a;unfold atI;cases hf:A.fuel;·rw[hf]at a;exact⟨_,⟨a.1,rfl⟩,a.2⟩
 rw[hf]at a;exact a
def f0v(A:Ann)(d b:List (Nat×AV))(a:St)(c:w0g)(μ:Z0a)(f:List Value)(m:Nat)(st:St)(h:Hp):Prop :=
 match Nat.beq st.n a.n,s0h a st d with
 |true,true=>q0l st.fr b=F0t b/\u0g A a st 0 a.bx st.bx/\v0g A 0 a.ow st.ow /\
   R0q A st λvs os=>match e0x vs f with
    |true=>y0b A.vars.length vs λ_ e=>K09 A.boxes e a.bx λ_=>L09 A.owns os a.ow λ_=>f0x A c μ m vs os h
    |false=>False
 |_,_=>False
def Y0r(i:(Ex->St->Hp->Prop)->St->Hp->Prop)(j:List Nat)(Q:Ex->St->Hp->Prop)(st:St)(h:Hp):Prop :=
 ∃(A:Ann) (b:w0g) (μ:Z0a),o0o A.nils st λst=>N0i A.nilsB st λst=>p0o A.pubs st h λst h=>R0q A st λg d=>r0o A b g d h /\
  s0g (A.vars++j) λds=>headD A st ds [] λc=>M09 A ds st st.fr λf =>
   P0e g.length λvs=>Q0e d.length λos=>s0o A b μ vs os λm h' =>
    y0b A.vars.length vs λk l=>K09 A.boxes l st.bx λbx=>L09 A.owns os st.ow λow =>
     i (λe st' a=>match e with
      | .normal=>p0o A.pubs st' a λst' a=>f0v A c f st b μ vs m st' a
      |e=>Q e st' a) ⟨st.n,t0g A.vars k (c++f),bx,ow⟩ h'
def g0v(b:Bool)(X Y:Prop):Prop:=(b=true->X)/\(b=false->Y)
def ev(P:Program):Code->(Ex->St->Hp->Prop)->St->Hp->Prop
 | .skip,Q,st,h=>Q .normal st h
 | .region _ ops false,Q,st,h=>match c0x P ops.toList with
  |true=>U06 st.n ops.toList=true/\evU P ops.toList 0 [] [] st h λst h=>Q .normal st h
  |false=>X0a P ops.toList 0 ⟨st,h,[],[]⟩ λrs=>Q .normal rs.st rs.h
 | .region _ ops true,Q,st,h=>((P.follows .mixedOrders=true/\Region.lexB .any ops=true) /\
   evQ P ops.toList 0 ⟨st,h,[],[]⟩ λrs=>Q .normal rs.st rs.h) ∨
   False ∨
   ((P.follows .mixedOrders=true/\Y08 st.n ops.toList=true)/\v0b P st ops.toList 0 [] [] λL d=>T0k (w05 L st ops.toList) (ops.size,p0g d) P (U0k d) d L st h λst h=>Q .normal st h) ∨
   ((P.follows .mixedOrders=true/\U06 st.n ops.toList=true)/\evU P ops.toList 0 [] [] st h λst h=>Q .normal st h) ∨
   (∃ m,(P.follows .mixedOrders=true/\okZ P st.n m ops.toList=true)/\evT P (A07 P) m ops.toList st h λst h=>Q .normal st h)
 | .seq a b,Q,st,h=>ev P a (λe st h=>match e with
  | .normal=>ev P b Q st h
  |e=>Q e st h) st h
 | .cond c t e,Q,st,h=>match rdO st c with
  | .val (.bool b)=>g0v b (ev P t Q st h) (ev P e Q st h)
  |_=>False
 | .block id c,Q,st,h=>ev P c (λe st h=>match e with
  | .exit i=>match Nat.beq i id with
   |true=>Q .normal st h
   |false=>Q (.exit i) st h
  |e=>Q e st h) st h
 | .loop f,Q,st,h=>Y0r (λQ=>ev P f Q) (W0k f []) Q st h
 | .exit id,Q,st,h=>Q (.exit id) st h
 | .ret,Q,st,h=>Q .ret st h
 |_,_,_,_=>False
def U0q(P:Program):List ResultVar->St->Hp->(List Value->St->Hp->Prop)->Prop
 | [],st,h,K=>K [] st h
 | .tmp t::r,st,h,K=>rfy (rdA st (L3 st.fr t)) st h λv st h=>U0q P r st h λvs st h=>K (v::vs) st h
 | .cell t ty::r,st,h,K=>match rdA st (L3 st.fr t)with
  | .box i off=>match nth st.bx i with
   |some (.live cs _)=>h08 P ty cs off λav=>rfy av st h λv st h=>U0q P r st h λvs st h=>K (v::vs) st h
   |_=>False
  |_=>False
def t0o:List Value->Value
 | [v]=>v
 |vs => .tuple vs.toArray
def R0e:Nat->List Value->List (Nat×AV)
 |_,[]=>[]
 |i,v::r=>(i,.val v)::R0e (i+1) r
def X0y(P:Program)(fn:Func)(args:List Value)(h:Hp)(T:Value->Hp->Prop):Prop :=
 match fn.body with
 |some c=>match Nat.ble args.length fn.ntmps with
  |true=>ev P c (λe st h=>match e with
   | .exit _=>False
   |_=>U0q P fn.results.toList st h λvs _ h=>T (t0o vs) h) ⟨fn.ntmps,R0e 0 args,[],[]⟩ h
  |false=>False
 |none=>False
end Go.H
