/- Plain laws over the model: what a function's code asks: regions with guards, regions that draw their order, branches and loops. -/
import Derived.Test.YtcakocbgbelmeaaGreatH2
namespace Go.H
set_option linter.unusedVariables false
structure BE where
 j:Nat
 d:Nat
 e:Bool
 ch:List (Nat×Bool)
structure RS where
 st:St
 h:Hp
 gf:List (Nat×List (Nat×Bool)×AV)
 bs:List BE
def a0e:List (Nat×List (Nat×Bool)×AV)→Nat→Option (List (Nat×Bool)×AV)
 | [],_=>none
 |(k,x)::r,s=>match Nat.beq k s with
  |true=>some x
  |false=>a0e r s
def eqB (a b:Bool):Bool:=match a,b with
 |true,true=>true
 |false,false=>true
 |_,_=>false
def R0n:List (Nat×Bool)→List (Nat×Bool)→Bool
 | [],[]=>true
 |(j,w)::r,(j',w')::r'=>match Nat.beq j j',eqB w w' with
  |true,true=>R0n r r'
  |_,_=>false
 |_,_=>false
def t0i (a:List (Nat×Bool)):List (Nat×Bool)→Bool
 | []=>R0n a []
 |x::r=>match R0n a (x::r)with
  |true=>true
  |false=>t0i a r
def rdG (rs:RS) (ch:List (Nat×Bool)):Operand→AV
 | .tmp t=>match a0e rs.gf t with
  |some (ch2,av)=>match t0i ch2 ch with
   |true=>rdA rs.st av
   |false => .dead
  |none=>rdA rs.st (U2 rs.st.fr t)
 |x=>rdO rs.st x
def W01:List BE→Nat→Option BE
 | [],_=>none
 |b::r,j=>match Nat.beq b.j j with
  |true=>some b
  |false=>W01 r j
def T09:List BE→Nat→Option BE
 | [],_=>none
 |b::r,s=>match Nat.beq b.d s with
  |true=>some b
  |false=>T09 r s
def lit (w e:Bool):Bool:=match w with
 |true=>e
 |false => !e
def cB (bs:List BE):List (Nat×Bool)→Option Bool
 | []=>some true
 |(j,w)::r=>match W01 bs j with
  |some b=>match r with
   | []=>some (lit w b.e)
   |_=>match cB bs r with
    |some c=>some (lit w b.e&&c)
    |none=>none
  |none=>none
def Z9 (bs:List BE):Option (Nat×Bool)→Option (List (Nat×Bool))
 |none=>some []
 |some (j,w)=>match W01 bs j with
  |some b=>some ((j,w)::b.ch)
  |none=>none
def imp (ch:List (Nat×Bool)) (c:Bool) (X:Prop):Prop:=match ch with
 | []=>X
 |_=>c=true→X
def u0i (rs:RS) (ch:List (Nat×Bool)):List Operand→Option (List (Nat×Value))
 | []=>some []
 | .tmp t::r=>match i04 (rdG rs ch (.tmp t))with
  |some v=>match u0i rs ch r with
   |some vs=>some ((t,v)::vs)
   |none=>none
  |none=>none
 | .global _::_=>none
 |_::r=>u0i rs ch r
def z0p (rs:RS) (ch:List (Nat×Bool)):List Operand→St→Hp→(List (Nat×Value)→St→Hp→Prop)→Prop
 | [],st,h,K=>K [] st h
 | .tmp t::r,st,h,K=>rfy (rdA st (rdG rs ch (.tmp t))) st h fun v st h=>z0p rs ch r st h fun vs st h=>K ((t,v)::vs) st h
 | .global _::_,_,_,_=>False
 |_::r,st,h,K=>z0p rs ch r st h K
def q0h (P:Program) (o:Oper) (ch:List (Nat×Bool)) (c:Bool) (rs:RS) (K:AV→Prop):Prop :=
 match N0c o.op,u0i rs ch o.op.operands.toList with
 |false,some vs=>match G08 (rho vs) o with
  |some (f,l)=>match okF P f with
   |true=>∃ v,imp ch c (Tr P f l.toArray rs.h fun v' h'=>v'=v∧h'=rs.h)∧K (.val v)
   |false=>False
  |none=>match evP P (q0i (rho vs) o)with
   |some (.value v)=>K (.val v)
   |_=>False
 |false,none=>∃ r,imp ch c (z0p rs ch o.op.operands.toList rs.st rs.h fun vs _ hf=>match G08 (rho vs) o with
  |some (f,l)=>match okF P f with
   |true=>Tr P f l.toArray hf fun v h'=>v=r∧h'=hf
   |false=>False
  |none=>False)∧K (.val r)
 |_,_=>False
def evG (P:Program) (o:Oper) (ch:List (Nat×Bool)) (c:Bool) (rs:RS) (K:AV→Prop):Prop :=
 match o.op with
 | .move x | .assign x=>match rdG rs ch x with
  | .dead=>False
  |a=>K a
 | .pick (.tmp s) a b=>match rdG rs ch (.tmp s),T09 rs.bs s with
  | .val (.bool e),some q=>match t0i q.ch ch with
   |true=>match rdG rs ((q.j,true)::q.ch) a,rdG rs ((q.j,false)::q.ch) b with
    | .val (.bool x),.val (.bool y)=>K (.val (.bool (cond e x y)))
    |_,_=>False
   |false=>False
  |_,_=>False
 | .fieldAddr t x k=>match rdG rs ch x,n0h P t k with
  | .box i off,some fo=>K (.box i (off+fo))
  | .hel s i sz k,some fo=>K (.hel s i sz (k+fo))
  | .oel i s j sz k,some fo=>K (.oel i s j sz (k+fo))
  |_,_=>False
 | .indexAddr t x i=>match rdG rs ch i with
  | .val (.int _ j)=>match G00 P t with
   |some e=>match i6 P e with
    |some sz=>match rdG rs ch x with
     | .val (.slice a n cp)=>imp ch c (InB (.slice a n cp) j)∧K (.hel (.slice a n cp) j sz 0)
     | .own i k=>match nth rs.st.ow i with
      |some ⟨_,.live _ sz' _ _ xs⟩=>match Nat.beq sz' sz with
       |true=>imp ch c (0≤j∧j<(xs.length:Int))∧K (.oel i k j sz 0)
       |false=>False
      |_=>False
     |_=>False
    |none=>False
   |none=>False
  |_=>False
 | .load t x=>match rdG rs ch x with
  | .box i off=>match nth rs.st.bx i with
   |some (.live cs _)=>g04 P t cs off K
   |_=>False
  | .hel s idx sz k=>∃ e,imp ch c (A8 rs.h s sz idx e)∧g04 P t (vals e) k K
  | .oel i _ idx sz k=>match nth rs.st.ow i with
   |some ⟨_,.live _ sz' _ _ xs⟩=>match Nat.beq sz' sz with
    |true=>∃ e,imp ch c (xs[idx.toNat]?=some e)∧g04 P t (vals e) k K
    |false=>False
   |_=>False
  |_=>False
 | .build t ps=>match P.underlying t,N00 P t with
  |some (.struct fs),some z=>match C05 P fs.toList with
   |true=>k07 P fs (rdG rs ch) ps.toList (vals z.cells.toList) fun cs=>K (.agg cs)
   |false=>False
  |_,_=>False
 | .index t x i=>match rdG rs ch x,rdG rs ch i,P.underlying t with
  | .val (.string s),.val (.int _ j),some .string=>∃ e,imp ch c (0≤j∧s[j.toNat]?=some e)∧K (.val (.int .u8 e.toNat))
  |_,_,_=>False
 | .slice t x lo hi none=>match rdG rs ch x,P.underlying t with
  | .val (.string s),some .string=>match K04 0 (lo.map (rdG rs ch)),K04 s.size (hi.map (rdG rs ch))with
   |some l,some m=>imp ch c (0≤l∧l≤m∧m≤(s.size:Int))∧K (.val (.string (s.extract l.toNat m.toNat)))
   |_,_=>False
  | .val (.slice ad n cp),_=>match G00 P t with
   |some e=>match i6 P e with
    |some sz=>match K04 0 (lo.map (rdG rs ch)),K04 n (hi.map (rdG rs ch))with
     |some l,some m=>∃ v,imp ch c ((0≤l∧l≤m∧m≤(n:Int)∧n≤cp)∧s0i sz (.slice ad n cp) l.toNat m.toNat v)∧K (.val v)
     |_,_=>False
    |none=>False
   |none=>False
  |_,_=>False
 | .binOp .eql t x y yt=>match i04 (rdG rs ch x),i04 (rdG rs ch y)with
  |some (.agg xs),some (.agg ys)=>∃ b,imp ch c (S09 P o x y (.agg xs) (.agg ys) b)∧K (.val (.bool b))
  |some (.slice a n m),some (.slice none 0 0)=>∃ b,imp ch c (S09 P o x y (.slice a n m) (.slice none 0 0) b)∧K (.val (.bool b))
  |_,_=>q0h P o ch c rs K
 | .binOp .neq t x y yt=>match i04 (rdG rs ch x),i04 (rdG rs ch y)with
  |some (.agg xs),some (.agg ys)=>∃ b,imp ch c (S09 P o x y (.agg xs) (.agg ys) b)∧K (.val (.bool b))
  |_,_=>q0h P o ch c rs K
 | .binOp .add t x y yt=>match rdG rs ch x,rdG rs ch y with
  | .val (.string a),.val (.string b)=>imp ch c (a.size+b.size≤9223372036854775807)∧K (.val (.string (a++b)))
  |_,_=>q0h P o ch c rs K
 | .binOp .quo t x y yt=>match rdG rs ch x,rdG rs ch y with
  | .val (.int .i64 a),.val (.int .i64 b)=>imp ch c (b≠0)∧K (.val (.int .i64 (IntKind.i64.wrap (a.tdiv b))))
  |_,_=>q0h P o ch c rs K
 | .binOp .rem t x y yt=>match rdG rs ch x,rdG rs ch y with
  | .val (.int .i64 a),.val (.int .i64 b)=>imp ch c (b≠0)∧K (.val (.int .i64 (a.tmod b)))
  |_,_=>q0h P o ch c rs K
 | .call { callee := .builtin .len,args:=as,argTypes:=ts }=>match as.toList,ts.toList with
  | [x],[t]=>match rdG rs ch x with
   | .own i _=>match nth rs.st.ow i,G00 P t with
    |some ⟨_,.live _ _ _ _ xs⟩,some _=>K (.val (.int .i64 xs.length))
    |_,_=>False
   |_=>q0h P o ch c rs K
  |_,_=>False
 |_=>q0h P o ch c rs K
def m07 (rs:RS) (d:Nat):Bool:=match a0e rs.gf d,T09 rs.bs d with
 |none,none=>false
 |_,_=>true
def v0i (i d:Nat) (ch:List (Nat×Bool)) (av:AV) (bs:List BE):List BE:=match av with
 | .val (.bool e)=>⟨i,d,e,ch⟩::bs
 |_=>bs
def b0e (d:Option Tmp) (i:Nat) (ch:List (Nat×Bool)) (av:AV) (rs:RS) (K:RS→Prop):Prop :=
 match d with
 |none=>K rs
 |some d=>match Nat.blt d rs.st.n,m07 rs d with
  |true,false=>match ch with
   | []=>K { rs with st := { rs.st with fr:=(d,av)::rs.st.fr },bs:=v0i i d ch av rs.bs }
   |_=>K { rs with st := { rs.st with fr:=(d,.dead)::rs.st.fr },gf:=(d,ch,av)::rs.gf,bs:=v0i i d ch av rs.bs }
  |_,_=>False
def C0k:Op→Bool
 | .pick ..=>true
 |_=>false
def O0c (P:Program):List Oper→Nat→RS→(RS→Prop)→Prop
 | [],_,rs,K=>K rs
 |o::r,i,rs,K=>match o.guard,C0k o.op with
  |none,false=>B8 P o rs.st rs.h fun av st h=>b0e o.dst i [] av { rs with st:=st,h:=h } fun rs=>O0c P r (i+1) rs K
  |_,_=>match Z9 rs.bs o.guard with
   |some ch=>match cB rs.bs ch with
    |some c=>evG P o ch c rs fun av=>b0e o.dst i ch av rs fun rs=>O0c P r (i+1) rs K
    |none=>False
   |none=>False
def evQ (P:Program):List Oper→Nat→RS→(RS→Prop)→Prop
 | [],_,rs,K=>K rs
 |o::r,i,rs,K=>match Z9 rs.bs o.guard with
  |some ch=>match cB rs.bs ch with
   |some c=>evG P o ch c rs fun av=>b0e o.dst i ch av rs fun rs=>evQ P r (i+1) rs K
   |none=>False
  |none=>False
def Sub (h h':Hp):Prop:=∀ b o,h b=some o→h' b=some o
def S0n (v:Value) (K:Value→Prop):Prop:=match v with
 | .bool b=>K (.bool b)
 | .int k n=>K (.int k n)
 | .string s=>K (.string s)
 | .pointer a=>K (.pointer a)
 | .slice a n c=>K (.slice a n c)
 | .func f x y=>K (.func f x y)
 | .agg cs=>K (.agg cs)
 | .tuple vs=>K (.tuple vs)
 |v=>K v
theorem T0m (v:Value) (K:Value→Prop):S0n v K=K v:=by cases v <;> rfl
def l9 {α:Type}:List α→(List α→Prop)→Prop
 | [],K=>K []
 |x::r,K=>l9 r fun r=>K (x::r)
theorem K01 {α:Type}:∀(l:List α) (K:List α→Prop),l9 l K=K l
 | [],K=>rfl
 |x::r,K=>by simp only[l9,K01 r]
def j04:Nat→(Nat→Prop)→Prop
 |0,K=>K 0
 |n+1,K=>j04 n fun m=>K (m+1)
theorem n07:∀(n:Nat) (K:Nat→Prop),j04 n K=K n
 |0,K=>rfl
 |n+1,K=>by simp only[j04,n07 n]
def l01 (av:AV) (K:AV→Prop):Prop:=match av with
 | .val v=>S0n v fun v=>K (.val v)
 | .own i k=>K (.own i k)
 | .box i k=>K (.box i k)
 | .hel s i z k=>j04 z fun z=>j04 k fun k=>K (.hel s i z k)
 | .oel j s i z k=>j04 z fun z=>j04 k fun k=>K (.oel j s i z k)
 | .agg cs=>l9 cs fun cs=>K (.agg cs)
 | .dead=>K .dead
theorem L01 (av:AV) (K:AV→Prop):l01 av K=K av:=by
 cases av with
 |val v=>exact T0m v (fun v=>K (.val v))
 |hel s i z k=>simp only[l01,n07]
 |oel j s i z k=>simp only[l01,n07]
 |agg cs=>simp only[l01,K01]
 |_=>rfl
inductive N5 where
 |pu (av:AV)
 |ef (F:Value→Hp→Prop)
def Y1:List (Nat×N5)→Nat→Option N5
 | [],_=>none
 |(k,x)::r,s=>match Nat.beq k s with
  |true=>some x
  |false=>Y1 r s
def rdS (L:List (Nat×N5)) (st:St):Operand→AV
 | .tmp t=>match Y1 L t with
  |some (.pu av)=>rdA st av
  |some (.ef _) => .dead
  |none=>rdA st (U2 st.fr t)
 |x=>rdO st x
def c0e (P:Program) (t:TypeId) (cs:List R5) (off:Nat):Option AV :=
 match m0h P t with
 |some true=>match i6 P t with
  |some n=>match a07 ((cs.drop off).take n) n with
   |true=>some (.agg ((cs.drop off).take n))
   |false=>none
  |none=>none
 |some false=>match nth cs off with
  |some c=>some (ofCell c)
  |none=>none
 |none=>none
def e09 (P:Program) (L:List (Nat×N5)) (o:Oper) (st:St):Option AV:=match o.op with
 | .move x | .assign x=>match rdS L st x with
  | .dead=>none
  |a=>some a
 | .load t x=>match rdS L st x with
  | .box i off=>match nth st.bx i with
   |some (.live cs _)=>c0e P t cs off
   |_=>none
  |_=>none
 |_=>none
def o07 (L:List (Nat×N5)) (st:St) (h:Hp):List Operand→List (Nat×AV)→(List (Nat×AV)→Prop)→Prop
 | [],acc,K=>K acc
 | .tmp t::r,acc,K=>match Y1 L t with
  |some (.pu av)=>o07 L st h r ((t,av)::acc) K
  |some (.ef F)=>∀ v,F v h→o07 L st h r ((t,.val v)::acc) K
  |none=>o07 L st h r ((t,U2 st.fr t)::acc) K
 |_::r,acc,K=>o07 L st h r acc K
def w0i (h:Hp):List (Nat×N5)→List (Nat×AV)→(List (Nat×AV)→Prop)→Prop
 | [],fr,K=>K fr
 |(d,.pu av)::r,fr,K=>w0i h r ((d,av)::fr) K
 |(d,.ef F)::r,fr,K=>∀ v,F v h→w0i h r ((d,.val v)::fr) K
def q03 (d:Option Tmp) (f:N5) (L:List (Nat×N5)):List (Nat×N5):=match d with
 |some d=>(d,f)::L
 |none=>L
def x0q (st:St) (h:Hp) (F:Value→Hp→Prop):AV→St→Hp→Prop
 | .val v,st',h'=>st'=st∧Sub h h'∧F v h'
 |_,_,_=>False
def evS (P:Program):List Oper→List (Nat×N5)→St→Hp→(St→Hp→Prop)→Prop
 | [],L,⟨n,fr,bx,ow⟩,h,K=>∀ h',Sub h h'→w0i h' L fr fun fr=>K ⟨n,fr,bx,ow⟩ h'
 |o::r,L,⟨n,fr,bx,ow⟩,h,K=>match o.guard with
  |some _=>False
  |none=>match e09 P L o ⟨n,fr,bx,ow⟩with
   |some av=>l01 av fun av=>evS P r (q03 o.dst (.pu av) L) ⟨n,fr,bx,ow⟩ h K
   |none=>∃ F:Value→Hp→Prop,(∀ v h1 h2,Sub h1 h2→F v h1→F v h2) ∧
     (∀ h',Sub h h'→o07 L ⟨n,fr,bx,ow⟩ h' o.op.operands.toList [] fun fr=>B8 P o ⟨n,fr,bx,ow⟩ h' (x0q ⟨n,fr,bx,ow⟩ h' F)) ∧
     evS P r (q03 o.dst (.ef F) L) ⟨n,fr,bx,ow⟩ h K
def F9 (i:Nat) (o:Oper):Bool:=o.after.toList.any fun e=>Region.binds .any e&&Nat.beq e.on i
def M01 (o:Oper) (t:Nat):List Oper→Nat→Bool
 | [],_=>true
 |x::r,i=>match x.dst with
  |some d=>match Nat.beq d t with
   |true=>F9 i o&&M01 o t r (i+1)
   |false=>M01 o t r (i+1)
  |none=>M01 o t r (i+1)
def U09 (o:Oper) (ops:List Oper):List Operand→Bool
 | []=>true
 | .tmp t::r=>M01 o t ops 0&&U09 o ops r
 |_::r=>U09 o ops r
def p07 (d:Nat):List Oper→Bool
 | []=>true
 |o::r=>match o.dst with
  |some d' => !Nat.beq d d'&&p07 d r
  |none=>p07 d r
def x0i (n:Nat):List Oper→Bool
 | []=>true
 |o::r=>match o.dst with
  |some d=>Nat.blt d n&&p07 d r&&x0i n r
  |none=>x0i n r
def P0c:List Oper→Nat→Bool
 | [],_=>true
 |o::r,j=>(o.after.toList.all fun e => !Region.binds .any e || Nat.blt e.on j)&&P0c r (j+1)
def D0l (ops:List Oper):List Oper→Bool
 | []=>true
 |o::r=>U09 o ops o.op.operands.toList&&D0l ops r
def g00 (n:Nat) (ops:List Oper):Bool:=x0i n ops&&P0c ops 0&&D0l ops ops
def E0l:List R5→Bool
 | []=>true
 | .val _::r=>E0l r
 | .own _ _::_=>false
def r0h:AV→Bool
 | .val _=>true
 | .box _ _=>true
 | .own _ _=>true
 | .agg cs=>E0l cs
 |_=>false
def k05 (L:List (Nat×N5)) (st:St):Operand→AV
 | .tmp t=>match Y1 L t with
  |some (.pu av)=>av
  |some (.ef _) => .dead
  |none=>U2 st.fr t
 | .const v => .val v
 |_ => .dead
def Q0c (L:List (Nat×N5)) (st:St):List Operand→Option (List (Nat×Value))
 | []=>some []
 | .tmp t::r=>match k05 L st (.tmp t)with
  | .val v=>match Q0c L st r with
   |some vs=>some ((t,v)::vs)
   |none=>none
  |_=>none
 | .global _::_=>none
 |_::r=>Q0c L st r
def D0k (P:Program) (L:List (Nat×N5)) (o:Oper) (st:St):Option AV:=match N0c o.op,Q0c L st o.op.operands.toList with
 |false,some vs=>match G08 (rho vs) o with
  |some _=>none
  |none=>match evP P (q0i (rho vs) o)with
   |some (.value v)=>some (.val v)
   |_=>none
 |_,_=>none
def u0r:AV→Bool
 | .val (.int _ _)=>true
 |_=>false
def K0r:BinOp→Bool
 | .lss=>true
 | .leq=>true
 | .gtr=>true
 | .geq=>true
 |_=>false
def H08 (P:Program) (L:List (Nat×N5)) (o:Oper) (st:St):Option AV:=match o.op with
 | .move x=>match r0h (k05 L st x)with
  |true=>some (k05 L st x)
  |false=>none
 | .assign x=>match r0h (k05 L st x)with
  |true=>some (k05 L st x)
  |false=>none
 | .load t x=>match k05 L st x with
  | .box i off=>match nth st.bx i with
   |some (.live cs _)=>match c0e P t cs off with
    |some av=>match r0h av with
     |true=>some av
     |false=>none
    |none=>none
   |_=>none
  |_=>none
 | .fieldAddr t x k=>match k05 L st x,n0h P t k with
  | .box i off,some fo=>some (.box i (off+fo))
  |_,_=>none
 | .binOp op _ x y _=>match K0r op,u0r (k05 L st x),u0r (k05 L st y)with
  |true,true,true=>D0k P L o st
  |_,_,_=>none
 | .call { callee := .builtin .len,args:=as,argTypes:=_ }=>match as.toList with
  | [x]=>match k05 L st x with
   | .val (.slice _ _ _)=>D0k P L o st
   |_=>none
  |_=>none
 |_=>none
def q00 (L:List (Nat×N5)) (st:St):List Oper→List Nat
 | []=>[]
 |o::r=>match o.op with
  | .load _ x=>match k05 L st x with
   | .box i _=>i::q00 L st r
   |_=>q00 L st r
  |_=>q00 L st r
def I08 (bx:List BSt):List Nat→List (Option BSt)
 | []=>[]
 |i::r=>nth bx i::I08 bx r
def L04 (L:List (Nat×N5)) (fr0:List (Nat×AV)):List Operand→List (Nat×AV)→(List (Nat×AV)→Prop)→Prop
 | [],acc,K=>K acc
 | .tmp t::r,acc,K=>match Y1 L t with
  |some (.pu av)=>L04 L fr0 r ((t,av)::acc) K
  |some (.ef _)=>L04 L fr0 r ((t,.dead)::acc) K
  |none=>L04 L fr0 r ((t,U2 fr0 t)::acc) K
 |_::r,acc,K=>L04 L fr0 r acc K
def E0k:List (Nat×N5)→List (Nat×AV)→List (Nat×AV)
 | [],fr=>fr
 |(d,.pu av)::r,fr=>(d,av)::E0k r fr
 |(d,.ef _)::r,fr=>(d,.dead)::E0k r fr
def F0l (av:AV) (st:St) (h:Hp):AV→St→Hp→Prop:=fun av' st' h'=>av'=av∧st'=st∧h'=h
def y0i (P:Program) (st:St) (h:Hp) (L:List (Nat×N5)) (o:Oper) (av:AV):Prop :=
 match st with
 |⟨n,fr,bx,ow⟩=>∀ h',Sub h h'→L04 L fr o.op.operands.toList [] fun fr=>B8 P o ⟨n,fr,bx,ow⟩ h' (F0l av ⟨n,fr,bx,ow⟩ h')
def X02 (P:Program) (st:St) (h:Hp):List Oper→Nat→List (Nat×N5)→List (Nat×Oper)→List (Nat×Oper)→(List (Nat×N5)→List (Nat×Oper)→List (Nat×Oper)→Prop)→Prop
 | [],_,L,X,E,K=>K L X E
 |o::r,i,L,X,E,K=>match o.guard with
  |some _=>False
  |none=>match H08 P L o st with
   |some av=>l01 av fun av=>X02 P st h r (i+1) (q03 o.dst (.pu av) L) X E K
   |none=>(∃ av,y0i P st h L o av∧l01 av fun av=>X02 P st h r (i+1) (q03 o.dst (.pu av) L) (X ++ [(i,o)]) E K) ∨
     X02 P st h r (i+1) (q03 o.dst (.ef fun _ _=>True) L) X (E ++ [(i,o)]) K
def s0h (X:List (Nat×Oper)):Nat→Nat→Oper→Bool
 |0,i,q=>F9 i q
 |n+1,i,q=>F9 i q || X.any fun y=>F9 y.1 q&&s0h X n i y.2
def d0e (X Y:List (Nat×Oper)):List (Nat×Oper)→Bool
 | []=>true
 |(_,q)::_=>X.all fun x=>s0h Y 8 x.1 q
def k04:List (Nat×Oper)→Bool
 |(i,o)::(j,o')::r=>F9 i o'&&k04 ((j,o')::r)
 |_=>true
def l04:Nat→Nat→Oper→Bool
 |0,_,_=>true
 |k+1,i,o=>(Nat.beq k i || F9 k o)&&l04 k i o
def q07 (d:Nat):List Operand→Bool
 | []=>false
 | .tmp t::r=>Nat.beq t d || q07 d r
 |_::r=>q07 d r
def e0e (d:Nat):List Oper→Bool
 | []=>false
 |o::r=>q07 d o.op.operands.toList || e0e d r
def H00:List Oper→List Oper
 | []=>[]
 |o::r=>match r with
  | []=>[]
  |_::_=>o::H00 r
def f0e:List Oper→Option Oper
 | []=>none
 |o::r=>match r with
  | []=>some o
  |_::_=>f0e r
def T0n (ops:List Oper):Option Oper:=match f0e ops with
 |some o=>match o.guard,o.dst with
  |none,some d=>match e0e d (H00 ops)&&l04 (H00 ops).length (H00 ops).length o with
   |true=>some o
   |false=>none
  |_,_=>none
 |none=>none
def r03 (P:Program) (o:Oper) (st:St) (h:Hp) (K:St→Hp→Prop):Prop :=
 B8 P o st h fun av st h=>b0e o.dst 0 [] av ⟨st,h,[],[]⟩ fun rs=>K rs.st rs.h
def g0e (N i:Nat) (o:Oper):List (Nat×Oper)→Bool
 | []=>l04 N i o
 |_::_=>false
def G0l (c:Nat) (b:Bool) (rd:List Nat) (bx bx':List BSt):Prop:=match b with
 |true=>True
 |false=>match c with
  |0=>I08 bx' rd=I08 bx rd
  |_+1=>bx'=bx
def t0h:Nat→List Own→List Own→Hp→Hp→Prop
 |0,_,_,_,_=>True
 |_+1,ow,ow',h,h'=>ow'=ow∧Sub h h'
def evC (rd:List Nat) (N:Nat) (P:Program):Nat→List (Nat×Oper)→List (Nat×N5)→St→Hp→(St→Hp→Prop)→Prop
 |_,[],L,⟨n,fr,bx,ow⟩,h,K=>l9 (E0k L fr) fun fr=>K ⟨n,fr,bx,ow⟩ h
 |c,(i,o)::r,L,⟨n,fr,bx,ow⟩,h,K=>L04 L fr o.op.operands.toList [] fun fr1=>B8 P o ⟨n,fr1,bx,ow⟩ h fun av st' h'=>match st' with
  |⟨_,_,bx',ow'⟩=>t0h c ow ow' h h'∧G0l c (g0e N i o r) rd bx bx'∧l01 av fun av=>l9 bx' fun bx'=>l9 ow' fun ow'=>evC rd N P (c-1) r (q03 o.dst (.pu av) L) ⟨n,fr,bx',ow'⟩ h' K
def A0p (f:Nat×Oper) (rd:List Nat) (N:Nat) (P:Program):Nat→List (Nat×Oper)→List (Nat×N5)→St→Hp→(St→Hp→Prop)→Prop
 |0,E,L,st,h,K=>evC rd N P 0 (f::E) L st h K
 |p+1,E,L,st,h,K=>evC rd N P 0 (f::E) L st h K∧match E with
  | []=>False
  |(i,o)::r=>match st with
   |⟨n,fr,bx,ow⟩=>L04 L fr o.op.operands.toList [] fun fr1=>B8 P o ⟨n,fr1,bx,ow⟩ h fun av st' h'=>match st' with
    |⟨_,_,bx',ow'⟩=>t0h 0 ow ow' h h'∧G0l 0 (g0e N i o r) rd bx bx'∧l01 av fun av=>l9 bx' fun bx'=>l9 ow' fun ow'=>A0p f rd N P p r (q03 o.dst (.pu av) L) ⟨n,fr,bx',ow'⟩ h' K
def U0m (f:Nat×Oper):Nat→List (Nat×Oper)→Bool
 |_,[]=>false
 |0,(_,q)::_=>F9 f.1 q
 |p+1,_::r=>U0m f p r
def j0g:Nat→List (Nat×Oper)→Option ((Nat×Oper)×List (Nat×Oper))
 |_,[]=>none
 |0,x::r=>some (x,r)
 |k+1,x::r=>match j0g k r with
  |some (f,r')=>some (f,x::r')
  |none=>none
def noX:List (Nat×Oper)→Bool
 | []=>true
 |_::_=>false
def evD (rd:List Nat) (N:Nat) (P:Program) (X E:List (Nat×Oper)) (L:List (Nat×N5)) (st:St) (h:Hp) (K:St→Hp→Prop):Prop :=
 (∃ c,(k04 E=true∧d0e X (X++E) (E.drop c)=true)∧evC rd N P c E L st h K) ∨
 (∃ k p,match j0g k E with
  |some (f,E')=>(noX X=true∧k04 E'=true∧U0m f p E'=true)∧A0p f rd N P p E' L st h K
  |none=>False)
abbrev FL:=List (Nat×List (Nat×Bool)×N5)
def Q02:FL→Nat→Option (List (Nat×Bool)×N5)
 | [],_=>none
 |(k,x)::r,s=>match Nat.beq k s with
  |true=>some x
  |false=>Q02 r s
def rdU (L:FL) (st:St) (ch:List (Nat×Bool)):Operand→AV
 | .tmp t=>match Q02 L t with
  |some (ch2,.pu av)=>match t0i ch2 ch with
   |true=>rdA st av
   |false => .dead
  |some (_,.ef _) => .dead
  |none=>rdA st (U2 st.fr t)
 |x=>rdO st x
def J08 (P:Program) (L:FL) (bs:List BE) (ch:List (Nat×Bool)) (o:Oper) (st:St):Option AV:=match o.op with
 | .move x | .assign x=>match rdU L st ch x with
  | .dead=>none
  |a=>some a
 | .load t x=>match rdU L st ch x with
  | .box i off=>match nth st.bx i with
   |some (.live cs _)=>c0e P t cs off
   |_=>none
  |_=>none
 | .fieldAddr t x k=>match rdU L st ch x,n0h P t k with
  | .box i off,some fo=>some (.box i (off+fo))
  | .hel s i sz k,some fo=>some (.hel s i sz (k+fo))
  |_,_=>none
 | .pick (.tmp s) a b=>match rdU L st ch (.tmp s),T09 bs s with
  | .val (.bool e),some q=>match t0i q.ch ch with
   |true=>match rdU L st ((q.j,true)::q.ch) a,rdU L st ((q.j,false)::q.ch) b with
    | .val (.bool x),.val (.bool y)=>some (.val (.bool (cond e x y)))
    |_,_=>none
   |false=>none
  |_,_=>none
 |_=>none
def Q06 (L:FL) (st:St) (h:Hp) (ch:List (Nat×Bool)):List Operand→List (Nat×AV)→(List (Nat×AV)→Prop)→Prop
 | [],acc,K=>K acc
 | .tmp t::r,acc,K=>match Q02 L t with
  |some (ch2,f)=>match t0i ch2 ch with
   |true=>match f with
    | .pu av=>Q06 L st h ch r ((t,av)::acc) K
    | .ef F=>∀ v,F v h→Q06 L st h ch r ((t,.val v)::acc) K
   |false=>False
  |none=>Q06 L st h ch r ((t,U2 st.fr t)::acc) K
 |_::r,acc,K=>Q06 L st h ch r acc K
def S0f (h:Hp):FL→List (Nat×AV)→(List (Nat×AV)→Prop)→Prop
 | [],fr,K=>K fr
 |(d,[],.pu av)::r,fr,K=>S0f h r ((d,av)::fr) K
 |(d,[],.ef F)::r,fr,K=>∀ v,F v h→S0f h r ((d,.val v)::fr) K
 |(d,_::_,_)::r,fr,K=>S0f h r ((d,.dead)::fr) K
def u0h (d:Option Tmp) (ch:List (Nat×Bool)) (f:N5) (L:FL):FL:=match d with
 |some d=>(d,ch,f)::L
 |none=>L
def v0h (i:Nat) (d:Option Tmp) (ch:List (Nat×Bool)) (av:AV) (bs:List BE):List BE:=match d with
 |some d=>match av with
  | .val (.bool e)=>⟨i,d,e,ch⟩::bs
  |_=>bs
 |none=>bs
def F0k (st st':St):Prop:=st'.n=st.n∧st'.fr=st.fr∧st'.bx=st.bx∧∃ t,st'.ow=st.ow++t
def U0n (st:St) (h:Hp) (F:Value→Hp→Prop):AV→St→Hp→Prop:=fun av st' h'=>rfy av st' h' fun v st'' h''=>F0k st st''∧Sub h h''∧F v h''
def V0n (P:Program) (t n:Nat) (st:St) (h:Hp) (K:AV→St→Hp→Prop):Prop :=
 match G00 P t with
 |some e=>match i6 P e,Nat.beq n 0 with
  |some (_+1),true=>∀ g,h g=none→K (.val (.slice (some ⟨g,0,none⟩) 0 0)) st (h.set g (.cells #[] e (0,0)))
  |_,_=>False
 |none=>False
def W0n (P:Program) (t:TypeId) (a b:Operand) (st:St) (h:Hp) (K:AV→St→Hp→Prop):Prop :=
 match G00 P t with
 |some e=>match i6 P e,d09 P e,N00 P e with
  |some (sz+1),some (by_+1),some z=>match a07 z.cells.toList (sz+1)with
   |true=>match rdO st a with
    | .val (.slice (some ⟨g,o,none⟩) 0 0)=>i0g st h (sz+1) (rdO st b) fun ys=>R09 ys.length (by_+1) ∧
      ((ys = []→K (.val (.slice (some ⟨g,o,none⟩) 0 0)) st h)∧∀ v h',j1 h h' v e (sz+1) true ys→K (.val v) st h')
    |_=>False
   |false=>False
  |_,_,_=>False
 |none=>False
def z0i (P:Program) (o:Oper) (st:St) (h:Hp) (K:AV→St→Hp→Prop):Prop :=
 match o.op with
 | .buildSlice t n ps=>match ps.toList with
  | []=>V0n P t n st h K
  |_::_=>B8 P o st h K
 | .call { callee := .builtin .append,args:=as,argTypes:=ts }=>match as.toList,ts.toList with
  | [a,b],[t,t']=>match Nat.beq t t' with
   |true=>W0n P t a b st h K
   |false=>False
  |_,_=>False
 |_=>B8 P o st h K
def evU (P:Program) (l:List Oper):Nat→FL→List BE→St→Hp→(St→Hp→Prop)→Prop :=
  List.rec (motive:=fun _=>Nat→FL→List BE→St→Hp→(St→Hp→Prop)→Prop)
    (fun _ L _ st h K=>match st with
      |⟨n,fr,bx,ow⟩=>∀ h',Sub h h'→S0f h' L fr fun fr=>K ⟨n,fr,bx,ow⟩ h')
    (fun o _ ih i L bs st h K=>match st with
      |⟨n,fr,bx,ow⟩=>match Z9 bs o.guard with
        |some ch=>match cB bs ch with
          |some c=>match J08 P L bs ch o ⟨n,fr,bx,ow⟩with
            |some av=>l01 av fun av=>ih (i+1) (u0h o.dst ch (.pu av) L) (v0h i o.dst ch av bs) ⟨n,fr,bx,ow⟩ h K
            |none=>(∃ av,(∀ h',Sub h h'→imp ch c (Q06 L ⟨n,fr,bx,ow⟩ h' ch o.op.operands.toList [] fun fr=>B8 P o ⟨n,fr,bx,ow⟩ h' (F0l av ⟨n,fr,bx,ow⟩ h'))) ∧
                  l01 av fun av=>ih (i+1) (u0h o.dst ch (.pu av) L) (v0h i o.dst ch av bs) ⟨n,fr,bx,ow⟩ h K) ∨
                (∃ F:Value→Hp→Prop,(∀ v h1 h2,Sub h1 h2→F v h1→F v h2) ∧
                  (∀ h',Sub h h'→imp ch c (Q06 L ⟨n,fr,bx,ow⟩ h' ch o.op.operands.toList [] fun fr=>z0i P o ⟨n,fr,bx,ow⟩ h' (U0n ⟨n,fr,bx,ow⟩ h' F))) ∧
                  ih (i+1) (u0h o.dst ch (.ef F) L) bs ⟨n,fr,bx,ow⟩ h K)
          |none=>False
        |none=>False) l
def O0d:List Oper→Bool
 | []=>true
 |o::r=>(match o.guard with
  |some (j,_)=>F9 j o
  |none=>true)&&O0d r
def l03 (n:Nat) (ops:List Oper):Bool:=g00 n ops&&O0d ops
def B0p (P:Program):List Oper→Bool
 | []=>false
 |o::r=>(match o.guard,o.op with
  |some _,.call { callee := .value _,args:=_,argTypes:=_ }=>match P.underlying o.type with
   |some (.slice _)=>true
   |some (.struct _)=>true
   |some (.tuple _)=>true
   |_=>false
  |_,_=>false) || B0p P r
def W03 (o:Oper):Bool:=match o.op with
 | .alloc _=>true
 |_=>false
def i00 (o:Oper):Oper:=match o.op with
 | .alloc _ => { o with op := .move (.const undef) }
 |_=>o
def Q5:List Oper→List Oper
 | []=>[]
 |o::r=>i00 o::Q5 r
def okA (P:Program) (all:List Oper):List Oper→Bool
 | []=>true
 |o::r=>(match o.op with
  | .alloc t=>(match o.guard,o.dst,N00 P t with
   |none,some d,some _ => !e0e d all
   |_,_,_=>false)
  |_=>true)&&okA P all r
def G0k (x:Nat):List Nat→Bool
 | []=>false
 |y::r=>Nat.beq x y || G0k x r
def C0p (ops:List Oper) (i:Nat):List Nat→Bool
 | []=>false
 |j::r=>(match nth ops j with
  |some o=>F9 i o
  |none=>false) || C0p ops i r
def k0g (ops:List Oper):Nat→List Nat→List Nat
 |0,acc=>acc
 |i+1,acc=>match C0p ops i acc with
  |true=>k0g ops i (i::acc)
  |false=>k0g ops i acc
def V09 (o:Oper):Option Nat:=match o.guard with
 |some _=>none
 |none=>match o.op with
  | .extract (.tmp t) _=>some t
  | .move (.tmp t)=>some t
  | .assign (.tmp t)=>some t
  |_=>none
def W09 (d:Nat):List Oper→Bool
 | []=>false
 |o::r=>(match o.dst with
  |some e=>Nat.beq e d
  |none=>false) || W09 d r
def F05 (ml:List Nat) (t:Nat):List Oper→Nat→Bool
 | [],_=>true
 |o::r,i=>(match o.dst with
  |some e => !Nat.beq e t || G0k i ml
  |none=>true)&&F05 ml t r (i+1)
def G05 (i d:Nat):List Oper→Bool
 | []=>true
 |o::r=>(!q07 d o.op.operands.toList || F9 i o)&&G05 i d r
def H0l (pre tl:List Oper) (ml:List Nat) (i:Nat) (o:Oper):Bool:=match V09 o,o.dst with
 |some t,some d => !W09 d tl && !W09 t tl&&F05 ml t pre 0&&G05 i d tl
 |_,_=>false
def P0d (pre tl:List Oper) (ml:List Nat):List Oper→Nat→Bool
 | [],_=>true
 |o::r,i=>(G0k i ml || H0l pre tl ml i o)&&P0d pre tl ml r (i+1)
def A0i:List Oper→Bool
 | []=>true
 |o::r => !N0c o.op&&A0i r
def X0n:Nat→List Oper→Bool
 |_,[]=>true
 |k,o::r=>(match o.guard with
  |none=>true
  |some _=>false)&&(match r with
  | []=>true
  |o'::_=>F9 k o')&&X0n (k+1) r
def v0r:List Oper→Bool
 | []=>true
 |_::_=>false
def okZ (P:Program) (n m:Nat) (ops:List Oper):Bool :=
 l03 n (Q5 (ops.take m))&&okA P (ops.take m) (ops.take m)&&P0c ops 0&&X0n m (ops.drop m)&&(v0r (ops.drop m) || (P0d (ops.take m) (ops.drop m) (k0g ops m [m]) (ops.take m) 0&&A0i (ops.drop m)))
abbrev S0q:=Oper→St→Hp→(St→Hp→Prop)→Prop
def doA (R:S0q) (l:List Oper):St→Hp→(St→Hp→Prop)→Prop :=
 List.rec (motive:=fun _=>St→Hp→(St→Hp→Prop)→Prop) (fun st h K=>K st h) (fun o _ ih st h K=>match W03 o with
  |true=>R o st h fun st h=>ih st h K
  |false=>ih st h K) l
def doT (R:S0q) (l:List Oper):St→Hp→(St→Hp→Prop)→Prop :=
 List.rec (motive:=fun _=>St→Hp→(St→Hp→Prop)→Prop) (fun st h K=>K st h) (fun o _ ih st h K=>R o st h fun st h=>ih st h K) l
def evT (P:Program) (R:S0q) (m:Nat) (ops:List Oper) (st:St) (h:Hp) (K:St→Hp→Prop):Prop :=
 evU P (Q5 (ops.take m)) 0 [] [] st h fun st h=>doA R (ops.take m) st h fun st h=>doT R (ops.drop m) st h K
inductive Ex where
 |normal|ret
 |exit (i:Nat)
structure Ann where
 vars:List Nat
 boxes:List Nat
 owns:List Nat
 nils:List (Nat×Nat×Nat×Nat):=[]
 nilsB:List (Nat×Nat×Nat×Nat×Nat):=[]
 kept:List Nat:=[]
 fuel:Bool:=false
 pubs:List Nat:=[]
def B0i:List (Nat×Nat×Nat×Nat)→St→(St→Prop)→Prop
 | [],st,K=>K st
 |(s,e,sz,by_)::r,⟨n,fr,bx,ow⟩,K=>match rdA ⟨n,fr,bx,ow⟩ (U2 fr s),Nat.blt s n with
  | .val (.slice none 0 0),true=>z0k ow fun k=>B0i r ⟨n,(s,.own k 0)::fr,bx,ow ++ [⟨0,.live e sz by_ false []⟩]⟩ K
  |_,_=>False
def h0e:List (Nat×Nat×Nat×Nat×Nat)→St→(St→Prop)→Prop
 | [],st,K=>K st
 |(i,k,e,sz,by_)::r,⟨n,fr,bx,ow⟩,K=>match nth bx i with
  |some (.live cs ty)=>match nth cs k with
   |some (.val (.slice none 0 0))=>z0k ow fun j=>h0e r ⟨n,fr,p00 bx i (.live (p00 cs k (.own j 0)) ty),ow ++ [⟨0,.live e sz by_ false []⟩]⟩ K
   |_=>False
  |_=>False
def C0i:List Nat→St→Hp→(St→Hp→Prop)→Prop
 | [],st,h,K=>K st h
 |s::r,st,h,K=>rfy (rdA st (U2 st.fr s)) st h fun v st h=>match st with
  |⟨n,fr,bx,ow⟩=>match Nat.blt s n with
   |true=>C0i r ⟨n,(s,.val v)::fr,bx,ow⟩ h K
   |false=>False
def x08 (x:Nat):List Nat→Bool
 | []=>false
 |y::r=>match Nat.beq x y with
  |true=>true
  |false=>x08 x r
def T0q:List Oper→List Nat→List Nat
 | [],acc=>acc
 |o::r,acc=>match o.dst with
  |some d=>T0q r (d::acc)
  |none=>T0q r acc
def T0f:Code→List Nat→List Nat
 | .region _ ops _,acc=>T0q ops.toList acc
 | .seq a b,acc=>T0f a (T0f b acc)
 | .cond _ a b,acc=>T0f a (T0f b acc)
 | .block _ a,acc=>T0f a acc
 | .loop a,acc=>T0f a acc
 | .scope a,acc=>T0f a acc
 |_,acc=>acc
def A0b:List Nat→(List Nat→Prop)→Prop
 | [],K=>K []
 |x::r,K=>A0b r fun r=>K (x::r)
def D0p:List Nat→St→(List Value→Prop)→Prop
 | [],_,K=>K []
 |s::r,st,K=>match rdA st (U2 st.fr s)with
  | .val v=>D0p r st fun vs=>K (v::vs)
  |_=>False
def D0i:List R5→St→(List Value→Prop)→Prop
 | [],_,K=>K []
 | .val v::r,st,K=>D0i r st fun vs=>K (v::vs)
 | .own _ _::r,st,K=>D0i r st K
def i0e:List Nat→St→(List Value→Prop)→Prop
 | [],_,K=>K []
 |i::r,st,K=>match nth st.bx i with
  |some (.live cs _)=>D0i cs st fun vs=>i0e r st fun ws=>K (vs++ws)
  |_=>False
def l0g:List Nat→St→(List (List (List Value))→Prop)→Prop
 | [],_,K=>K []
 |i::r,st,K=>match nth st.ow i with
  |some ⟨_,.live _ _ _ _ xs⟩=>l0g r st fun os=>K (xs::os)
  |_=>False
def H0k (A:Ann) (st:St) (K:List Value→List (List (List Value))→Prop):Prop :=
 D0p A.vars st fun vs=>i0e A.boxes st fun ws=>l0g A.owns st fun os=>K (vs++ws) os
def m03:List R5→List Value→(List R5→List Value→Prop)→Prop
 | [],vs,K=>K [] vs
 | .val _::r,v::vs,K=>m03 r vs fun cs rest=>K (.val v::cs) rest
 | .val _::_,[],_=>False
 | .own i k::r,vs,K=>m03 r vs fun cs rest=>K (.own i k::cs) rest
def H05:List Nat→List Value→List BSt→(List BSt→Prop)→Prop
 | [],_,bx,K=>K bx
 |i::r,vs,bx,K=>match nth bx i with
  |some (.live cs ty)=>m03 cs vs fun cs rest=>H05 r rest (p00 bx i (.live cs ty)) K
  |_=>False
def I05:List Nat→List (List (List Value))→List Own→(List Own→Prop)→Prop
 | [],_,ow,K=>K ow
 |i::r,xs::os,ow,K=>match nth ow i with
  |some ⟨s,.live e sz by_ nn _⟩=>I05 r os (p00 ow i ⟨s,.live e sz by_ nn xs⟩) K
  |_=>False
 |_::_,[],_,_=>False
def r07 {α:Type}:Nat→List α→(List α→List α→Prop)→Prop
 |0,l,K=>K [] l
 |n+1,x::l,K=>r07 n l fun a b=>K (x::a) b
 |_+1,[],_=>False
def headD (A:Ann) (st:St):List Nat→List (Nat×AV)→(List (Nat×AV)→Prop)→Prop
 | [],acc,K=>K acc
 |s::r,acc,K=>match x08 s A.vars with
  |true=>headD A st r acc K
  |false=>match rdA st (U2 st.fr s)with
   | .own i k=>headD A st r ((s,.own i k)::acc) K
   | .box i o=>headD A st r ((s,.box i o)::acc) K
   |_=>headD A st r ((s,.dead)::acc) K
def I0l:List R5→Bool
 | []=>true
 | .val _::r=>I0l r
 | .own _ _::_=>false
def J05 (A:Ann) (ds:List Nat) (st:St):List (Nat×AV)→(List (Nat×AV)→Prop)→Prop
 | [],K=>K []
 |(s,av)::r,K=>match x08 s ds with
  |true=>J05 A ds st r K
  |false=>match rdA st av with
   | .own i k=>match x08 i A.owns,x08 i A.kept with
    |true,false=>J05 A ds st r fun l=>K ((s,.dead)::l)
    |_,_=>J05 A ds st r fun l=>K ((s,.own i k)::l)
   | .oel _ _ _ _ _=>J05 A ds st r fun l=>K ((s,.dead)::l)
   | .agg cs=>match I0l cs with
    |true=>J05 A ds st r fun l=>K ((s,.agg cs)::l)
    |false=>J05 A ds st r fun l=>K ((s,.dead)::l)
   |a=>J05 A ds st r fun l=>K ((s,a)::l)
def B0b:List Nat→List Value→List (Nat×AV)→List (Nat×AV)
 |s::r,v::vs,acc=>B0b r vs ((s,.val v)::acc)
 |_,_,acc=>acc
def R0c (head end_:St):List (Nat×AV)→Bool
 | []=>true
 |(s,av)::r=>match av with
  | .own i _=>match rdA end_ (U2 end_.fr s)with
   | .own j _=>match Nat.beq i j with
    |true=>R0c head end_ r
    |false=>false
   |_=>false
  | .box i o=>match rdA end_ (U2 end_.fr s)with
   | .box j p=>match Nat.beq i j,Nat.beq o p with
    |true,true=>R0c head end_ r
    |_,_=>false
   |_=>false
  |_=>R0c head end_ r
def I0k:AV→Bool
 | .dead=>true
 |_=>false
def V0m:List (Nat×AV)→List AV
 | []=>[]
 |(_,av)::r=>match I0k av with
  |true=>V0m r
  |false=>av::V0m r
def m0g (fr:List (Nat×AV)):List (Nat×AV)→List AV
 | []=>[]
 |(s,av)::r=>match I0k av with
  |true=>m0g fr r
  |false=>U2 fr s::m0g fr r
def K05 (head end_:St):List R5→List R5→Bool
 | [],[]=>true
 | .val _::r,.val _::r'=>K05 head end_ r r'
 | .own i _::r,.own j k'::r'=>match Nat.beq i j,rdA end_ (.own j k')with
  |true,.own _ _=>K05 head end_ r r'
  |_,_=>false
 |_,_=>false
def X09 (os:List Nat):List R5→Bool
 | []=>true
 | .val _::r=>X09 os r
 | .own i _::r=>match x08 i os with
  |true=>false
  |false=>X09 os r
def J0k (os:List Nat):BSt→Bool
 | .live cs _=>X09 os cs
 | .publ _=>true
def C0b (A:Ann) (head end_:St):Nat→List BSt→List BSt→Prop
 |_,[],_=>True
 |i,b::r,b'::r'=>match x08 i A.boxes with
  |true=>match b,b' with
   | .live cs ty,.live cs' ty'=>match Nat.beq ty ty',K05 head end_ cs cs' with
    |true,true=>C0b A head end_ (i+1) r r'
    |_,_=>False
   |_,_=>False
  |false=>match J0k A.owns b with
   |true=>b'=b∧C0b A head end_ (i+1) r r'
   |false=>False
 |_,_::_,[]=>False
def leB (a b:Bool):Bool:=match a with
 |true=>b
 |false=>true
def D0b (A:Ann):Nat→List Own→List Own→Prop
 |_,[],_=>True
 |i,b::r,b'::r'=>match x08 i A.owns with
  |true=>match b,b' with
   |⟨s,.live e sz by_ nn _⟩,⟨s',.live e' sz' by' nn' _⟩=>match Nat.beq e e',Nat.beq sz sz',Nat.beq by_ by',leB nn nn',leB (x08 i A.kept) (Nat.beq s s')with
    |true,true,true,true,true=>D0b A (i+1) r r'
    |_,_,_,_,_=>False
   |_,_=>False
  |false=>b'=b∧D0b A (i+1) r r'
 |_,_::_,[]=>False
def Y09:Nat→(List Value→Prop)→Prop
 |0,K=>K []
 |n+1,K=>∀ v,Y09 n fun vs=>K (v::vs)
def Z09:Nat→(List (List (List Value))→Prop)→Prop
 |0,K=>K []
 |n+1,K=>∀ xs,Z09 n fun os=>K (xs::os)
abbrev E0b:=List Value→List (List (List Value))→Hp→Prop
abbrev R06:=List Value→List (List (List Value))→Nat
def E0p:List Value→List Value→Bool
 | [],[]=>true
 |_::r,_::r'=>E0p r r'
 |_,_=>false
def E0i (A:Ann) (I:E0b) (vs:List Value) (os:List (List (List Value))) (h:Hp):Prop:=match A.fuel with
 |false=>I vs os h
 |true=>∃ m:Nat,I (.int .i64 m::vs) os h
def F0i (A:Ann) (I:E0b) (μ:R06) (vs:List Value) (os:List (List (List Value))) (X:Nat→Hp→Prop):Prop:=match A.fuel with
 |false=>∀ h',I vs os h'→X (μ vs os) h'
 |true=>∀(m:Nat) (h':Hp),I (.int .i64 m::vs) os h'→X m h'
def F0p (A:Ann) (I:E0b) (μ:R06) (m:Nat) (vs:List Value) (os:List (List (List Value))) (h:Hp):Prop:=match A.fuel with
 |false=>I vs os h∧μ vs os<m
 |true=>∃ m':Nat,I (.int .i64 m'::vs) os h∧m'<m
def atI (A:Ann) (I:E0b) (μ:R06) (m:Nat) (vs:List Value) (os:List (List (List Value))) (h:Hp):Prop:=match A.fuel with
 |false=>I vs os h∧m=μ vs os
 |true=>I (.int .i64 m::vs) os h
theorem Y0n {A:Ann} {I:E0b} {μ:R06} {vs:List Value} {os:List (List (List Value))} {h:Hp} (hh:E0i A I vs os h):∃ m,atI A I μ m vs os h:=by
 unfold E0i at hh
 unfold atI
 cases hf:A.fuel with
 |false=>rw[hf]at hh;exact⟨_,hh,rfl⟩
 |true=>rw[hf]at hh;exact hh
theorem Z0n {A:Ann} {I:E0b} {μ:R06} {vs:List Value} {os:List (List (List Value))} {X:Nat→Hp→Prop} (hh:F0i A I μ vs os X) {m:Nat} {h:Hp} (ha:atI A I μ m vs os h):X m h:=by
 unfold F0i at hh
 unfold atI at ha
 cases hf:A.fuel with
 |false=>rw[hf]at hh ha;rw[ha.2];exact hh _ ha.1
 |true=>rw[hf]at hh ha;exact hh _ _ ha
theorem G0p {A:Ann} {I:E0b} {μ:R06} {m:Nat} {vs:List Value} {os:List (List (List Value))} {h:Hp} (hh:F0p A I μ m vs os h):∃ m',atI A I μ m' vs os h∧m'<m:=by
 unfold F0p at hh
 unfold atI
 cases hf:A.fuel with
 |false=>rw[hf]at hh;exact⟨_,⟨hh.1,rfl⟩,hh.2⟩
 |true=>rw[hf]at hh;exact hh
def a0o (A:Ann) (dyn sta:List (Nat×AV)) (st0:St) (I:E0b) (μ:R06) (vs0:List Value) (m:Nat) (st:St) (h:Hp):Prop :=
 match Nat.beq st.n st0.n,R0c st0 st dyn with
 |true,true=>m0g st.fr sta=V0m sta∧C0b A st0 st 0 st0.bx st.bx∧D0b A 0 st0.ow st.ow ∧
   H0k A st fun vs os=>match E0p vs vs0 with
    |true=>r07 A.vars.length vs fun _ v2=>H05 A.boxes v2 st0.bx fun _=>I05 A.owns os st0.ow fun _=>F0p A I μ m vs os h
    |false=>False
 |_,_=>False
def J0l (body:(Ex→St→Hp→Prop)→St→Hp→Prop) (ds0:List Nat) (Q:Ex→St→Hp→Prop) (st:St) (h:Hp):Prop :=
 ∃(A:Ann) (I:E0b) (μ:R06),B0i A.nils st fun st=>h0e A.nilsB st fun st=>C0i A.pubs st h fun st h=>H0k A st fun vs0 os0=>E0i A I vs0 os0 h ∧
  A0b ds0 fun ds=>headD A st ds [] fun dyn=>J05 A ds st st.fr fun sta =>
   Y09 vs0.length fun vs=>Z09 os0.length fun os=>F0i A I μ vs os fun m h' =>
    r07 A.vars.length vs fun v1 v2=>H05 A.boxes v2 st.bx fun bx=>I05 A.owns os st.ow fun ow =>
     body (fun e st' h''=>match e with
      | .normal=>C0i A.pubs st' h'' fun st' h''=>a0o A dyn sta st I μ vs m st' h''
      |e=>Q e st' h'') ⟨st.n,B0b A.vars v1 (dyn++sta),bx,ow⟩ h'
def b0o (b:Bool) (X Y:Prop):Prop:=(b=true→X)∧(b=false→Y)
def ev (P:Program):Code→(Ex→St→Hp→Prop)→St→Hp→Prop
 | .skip,Q,st,h=>Q .normal st h
 | .region _ ops false,Q,st,h=>match B0p P ops.toList with
  |true=>l03 st.n ops.toList=true∧evU P ops.toList 0 [] [] st h fun st h=>Q .normal st h
  |false=>O0c P ops.toList 0 ⟨st,h,[],[]⟩ fun rs=>Q .normal rs.st rs.h
 | .region _ ops true,Q,st,h=>((P.follows .mixedOrders=true∧Region.lexB .any ops=true) ∧
   evQ P ops.toList 0 ⟨st,h,[],[]⟩ fun rs=>Q .normal rs.st rs.h) ∨
   ((P.follows .mixedOrders=true∧g00 st.n ops.toList=true)∧evS P ops.toList [] st h fun st h=>Q .normal st h) ∨
   (match T0n ops.toList with
    |none=>(P.follows .mixedOrders=true∧g00 st.n ops.toList=true)∧X02 P st h ops.toList 0 [] [] [] fun L X E=>evD (q00 L st ops.toList) ops.size P X E L st h fun st h=>Q .normal st h
    |some o=>(P.follows .mixedOrders=true∧(g00 st.n (H00 ops.toList)&&P0c ops.toList 0)=true)∧X02 P st h (H00 ops.toList) 0 [] [] [] fun L X E=>evD (q00 L st (H00 ops.toList)) (H00 ops.toList).length P X E L st h fun st h=>r03 P o st h fun st h=>Q .normal st h) ∨
   ((P.follows .mixedOrders=true∧l03 st.n ops.toList=true)∧evU P ops.toList 0 [] [] st h fun st h=>Q .normal st h) ∨
   (∃ m,(P.follows .mixedOrders=true∧okZ P st.n m ops.toList=true)∧evT P (r03 P) m ops.toList st h fun st h=>Q .normal st h)
 | .seq a b,Q,st,h=>ev P a (fun e st h=>match e with
  | .normal=>ev P b Q st h
  |e=>Q e st h) st h
 | .cond c t e,Q,st,h=>match rdO st c with
  | .val (.bool b)=>b0o b (ev P t Q st h) (ev P e Q st h)
  |_=>False
 | .block id c,Q,st,h=>ev P c (fun e st h=>match e with
  | .exit i=>match Nat.beq i id with
   |true=>Q .normal st h
   |false=>Q (.exit i) st h
  |e=>Q e st h) st h
 | .loop body,Q,st,h=>J0l (fun Q=>ev P body Q) (T0f body []) Q st h
 | .exit id,Q,st,h=>Q (.exit id) st h
 | .ret,Q,st,h=>Q .ret st h
 |_,_,_,_=>False
def K0k (P:Program):List ResultVar→St→Hp→(List Value→St→Hp→Prop)→Prop
 | [],st,h,K=>K [] st h
 | .tmp t::r,st,h,K=>rfy (rdA st (U2 st.fr t)) st h fun v st h=>K0k P r st h fun vs st h=>K (v::vs) st h
 | .cell t ty::r,st,h,K=>match rdA st (U2 st.fr t)with
  | .box i off=>match nth st.bx i with
   |some (.live cs _)=>g04 P ty cs off fun av=>rfy av st h fun v st h=>K0k P r st h fun vs st h=>K (v::vs) st h
   |_=>False
  |_=>False
def G0i:List Value→Value
 | [v]=>v
 |vs => .tuple vs.toArray
def a0a:Nat→List Value→List (Nat×AV)
 |_,[]=>[]
 |i,v::r=>(i,.val v)::a0a (i+1) r
def U0q (P:Program) (fn:Func) (args:List Value) (h:Hp) (T:Value→Hp→Prop):Prop :=
 match fn.body with
 |some c=>match Nat.ble args.length fn.ntmps with
  |true=>ev P c (fun e st h=>match e with
   | .exit _=>False
   |_=>K0k P fn.results.toList st h fun vs _ h=>T (G0i vs) h) ⟨fn.ntmps,a0a 0 args,[],[]⟩ h
  |false=>False
 |none=>False
end Go.H
