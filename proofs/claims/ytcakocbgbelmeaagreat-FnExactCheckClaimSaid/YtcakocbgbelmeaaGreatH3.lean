/- Plain laws over the model: what a function's code asks: regions with guards, regions that draw their order, branches and loops. -/
import Derived.Test.YtcakocbgbelmeaaGreatH2
namespace Go.H
set_option linter.unusedVariables false
structure BE where
 j:Nat
 d:Nat
 e:Bool
 ch:List (Nat×Bool)
structure RS where
 st:St
 h:Hp
 gf:List (Nat×List (Nat×Bool)×AV)
 bs:List BE
def v0d:List (Nat×List (Nat×Bool)×AV)→Nat→Option (List (Nat×Bool)×AV)
 | [],_=>none
 |(k,x)::r,s=>match Nat.beq k s with
  |true=>some x
  |false=>v0d r s
def eqB(a b:Bool):Bool:=match a,b with
 |true,true=>true
 |false,false=>true
 |_,_=>false
def G0n:List (Nat×Bool)→List (Nat×Bool)→Bool
 | [],[]=>true
 |(j,w)::r,(j',w')::r'=>match Nat.beq j j',eqB w w' with
  |true,true=>G0n r r'
  |_,_=>false
 |_,_=>false
def f0i(a:List (Nat×Bool)):List (Nat×Bool)→Bool
 | []=>G0n a []
 |x::r=>match G0n a (x::r)with
  |true=>true
  |false=>f0i a r
def rdG(rs:RS)(ch:List (Nat×Bool)):Operand→AV
 | .tmp t=>match v0d rs.gf t with
  |some (ch2,av)=>match f0i ch2 ch with
   |true=>rdA rs.st av
   |false => .dead
  |none=>rdA rs.st (J2 rs.st.fr t)
 |x=>rdO rs.st x
def l02:List BE→Nat→Option BE
 | [],_=>none
 |b::r,j=>match Nat.beq b.j j with
  |true=>some b
  |false=>l02 r j
def K09:List BE→Nat→Option BE
 | [],_=>none
 |b::r,s=>match Nat.beq b.d s with
  |true=>some b
  |false=>K09 r s
def lit(w e:Bool):Bool:=match w with
 |true=>e
 |false => !e
def cB(bs:List BE):List (Nat×Bool)→Option Bool
 | []=>some true
 |(j,w)::r=>match l02 bs j with
  |some b=>match r with
   | []=>some (lit w b.e)
   |_=>match cB bs r with
    |some c=>some (lit w b.e&&c)
    |none=>none
  |none=>none
def U9(bs:List BE):Option (Nat×Bool)→Option (List (Nat×Bool))
 |none=>some []
 |some (j,w)=>match l02 bs j with
  |some b=>some ((j,w)::b.ch)
  |none=>none
def imp(ch:List (Nat×Bool))(c:Bool)(X:Prop):Prop:=match ch with
 | []=>X
 |_=>c=true→X
def g0i(rs:RS)(ch:List (Nat×Bool)):List Operand→Option (List (Nat×Value))
 | []=>some []
 | .tmp t::r=>match w04 (rdG rs ch (.tmp t))with
  |some v=>match g0i rs ch r with
   |some vs=>some ((t,v)::vs)
   |none=>none
  |none=>none
 | .global _::_=>none
 |_::r=>g0i rs ch r
def q0p(rs:RS)(ch:List (Nat×Bool)):List Operand→St→Hp→(List (Nat×Value)→St→Hp→Prop)→Prop
 | [],st,h,K=>K [] st h
 | .tmp t::r,st,h,K=>rfy (rdA st (rdG rs ch (.tmp t))) st h fun v st h=>q0p rs ch r st h fun vs st h=>K ((t,v)::vs) st h
 | .global _::_,_,_,_=>False
 |_::r,st,h,K=>q0p rs ch r st h K
def Z0g(P:Program)(o:Oper)(ch:List (Nat×Bool))(c:Bool)(rs:RS)(K:AV→Prop):Prop :=
 match i0c o.op,g0i rs ch o.op.operands.toList with
 |false,some vs=>match G08 (rho vs) o with
  |some (f,l)=>match okF P f with
   |true=>∃ v,imp ch c (Tr P f l.toArray rs.h fun v' h'=>v'=v∧h'=rs.h)∧K (.val v)
   |false=>False
  |none=>match evP P (d0i (rho vs) o)with
   |some (.value v)=>K (.val v)
   |_=>False
 |false,none=>∃ r,imp ch c (q0p rs ch o.op.operands.toList rs.st rs.h fun vs _ hf=>match G08 (rho vs) o with
  |some (f,l)=>match okF P f with
   |true=>Tr P f l.toArray hf fun v h'=>v=r∧h'=hf
   |false=>False
  |none=>False)∧K (.val r)
 |_,_=>False
def evG(P:Program)(o:Oper)(ch:List (Nat×Bool))(c:Bool)(rs:RS)(K:AV→Prop):Prop :=
 match o.op with
 | .move x | .assign x=>match rdG rs ch x with
  | .dead=>False
  |a=>K a
 | .pick (.tmp s) a b=>match rdG rs ch (.tmp s),K09 rs.bs s with
  | .val (.bool e),some q=>match f0i q.ch ch with
   |true=>match rdG rs ((q.j,true)::q.ch) a,rdG rs ((q.j,false)::q.ch) b with
    | .val (.bool x),.val (.bool y)=>K (.val (.bool (cond e x y)))
    |_,_=>False
   |false=>False
  |_,_=>False
 | .fieldAddr t x k=>match rdG rs ch x,W0g P t k with
  | .box i off,some fo=>K (.box i (off+fo))
  | .hel s i sz k,some fo=>K (.hel s i sz (k+fo))
  | .oel i s j sz k,some fo=>K (.oel i s j sz (k+fo))
  |_,_=>False
 | .indexAddr t x i=>match rdG rs ch i with
  | .val (.int _ j)=>match O00 P t with
   |some e=>match W5 P e with
    |some sz=>match rdG rs ch x with
     | .val (.slice a n cp)=>imp ch c (InB (.slice a n cp) j)∧K (.hel (.slice a n cp) j sz 0)
     | .own i k=>match nth rs.st.ow i with
      |some ⟨_,.live _ sz' _ _ xs⟩=>match Nat.beq sz' sz with
       |true=>imp ch c (0≤j∧j<(xs.length:Int))∧K (.oel i k j sz 0)
       |false=>False
      |_=>False
     |_=>False
    |none=>False
   |none=>False
  |_=>False
 | .load t x=>match rdG rs ch x with
  | .box i off=>match nth rs.st.bx i with
   |some (.live cs _)=>u04 P t cs off K
   |_=>False
  | .hel s idx sz k=>∃ e,imp ch c (w9 rs.h s sz idx e)∧u04 P t (vals e) k K
  | .oel i _ idx sz k=>match nth rs.st.ow i with
   |some ⟨_,.live _ sz' _ _ xs⟩=>match Nat.beq sz' sz with
    |true=>∃ e,imp ch c (xs[idx.toNat]?=some e)∧u04 P t (vals e) k K
    |false=>False
   |_=>False
  |_=>False
 | .build t ps=>match P.underlying t,W00 P t with
  |some (.struct fs),some z=>match K05 P fs.toList with
   |true=>h07 P fs (rdG rs ch) ps.toList (vals z.cells.toList) fun cs=>K (.agg cs)
   |false=>False
  |_,_=>False
 | .index t x i=>match rdG rs ch x,rdG rs ch i,P.underlying t with
  | .val (.string s),.val (.int _ j),some .string=>∃ e,imp ch c (0≤j∧s[j.toNat]?=some e)∧K (.val (.int .u8 e.toNat))
  |_,_,_=>False
 | .slice t x lo hi none=>match rdG rs ch x,P.underlying t with
  | .val (.string s),some .string=>match a05 0 (lo.map (rdG rs ch)),a05 s.size (hi.map (rdG rs ch))with
   |some l,some m=>imp ch c (0≤l∧l≤m∧m≤(s.size:Int))∧K (.val (.string (s.extract l.toNat m.toNat)))
   |_,_=>False
  | .val (.slice ad n cp),_=>match O00 P t with
   |some e=>match W5 P e with
    |some sz=>match a05 0 (lo.map (rdG rs ch)),a05 n (hi.map (rdG rs ch))with
     |some l,some m=>∃ v,imp ch c ((0≤l∧l≤m∧m≤(n:Int)∧n≤cp)∧b0k sz (.slice ad n cp) l.toNat m.toNat v)∧K (.val v)
     |_,_=>False
    |none=>False
   |none=>False
  |_,_=>False
 | .binOp .eql t x y yt=>match w04 (rdG rs ch x),w04 (rdG rs ch y)with
  |some (.agg xs),some (.agg ys)=>∃ b,imp ch c (J09 P o x y (.agg xs) (.agg ys) b)∧K (.val (.bool b))
  |some (.slice a n m),some (.slice none 0 0)=>∃ b,imp ch c (J09 P o x y (.slice a n m) (.slice none 0 0) b)∧K (.val (.bool b))
  |_,_=>Z0g P o ch c rs K
 | .binOp .neq t x y yt=>match w04 (rdG rs ch x),w04 (rdG rs ch y)with
  |some (.agg xs),some (.agg ys)=>∃ b,imp ch c (J09 P o x y (.agg xs) (.agg ys) b)∧K (.val (.bool b))
  |_,_=>Z0g P o ch c rs K
 | .binOp .add t x y yt=>match rdG rs ch x,rdG rs ch y with
  | .val (.string a),.val (.string b)=>imp ch c (a.size+b.size≤9223372036854775807)∧K (.val (.string (a++b)))
  |_,_=>Z0g P o ch c rs K
 | .binOp .quo t x y yt=>match rdG rs ch x,rdG rs ch y with
  | .val (.int .i64 a),.val (.int .i64 b)=>imp ch c (b≠0)∧K (.val (.int .i64 (IntKind.i64.wrap (a.tdiv b))))
  |_,_=>Z0g P o ch c rs K
 | .binOp .rem t x y yt=>match rdG rs ch x,rdG rs ch y with
  | .val (.int .i64 a),.val (.int .i64 b)=>imp ch c (b≠0)∧K (.val (.int .i64 (a.tmod b)))
  |_,_=>Z0g P o ch c rs K
 | .call { callee := .builtin .len,args:=as,argTypes:=ts }=>match as.toList,ts.toList with
  | [x],[t]=>match rdG rs ch x with
   | .own i _=>match nth rs.st.ow i,O00 P t with
    |some ⟨_,.live _ _ _ _ xs⟩,some _=>K (.val (.int .i64 xs.length))
    |_,_=>False
   |_=>Z0g P o ch c rs K
  |_,_=>False
 |_=>Z0g P o ch c rs K
def j07(rs:RS)(d:Nat):Bool:=match v0d rs.gf d,K09 rs.bs d with
 |none,none=>false
 |_,_=>true
def h0i(i d:Nat)(ch:List (Nat×Bool))(av:AV)(bs:List BE):List BE:=match av with
 | .val (.bool e)=>⟨i,d,e,ch⟩::bs
 |_=>bs
def w0d(d:Option Tmp)(i:Nat)(ch:List (Nat×Bool))(av:AV)(rs:RS)(K:RS→Prop):Prop :=
 match d with
 |none=>K rs
 |some d=>match Nat.blt d rs.st.n,j07 rs d with
  |true,false=>match ch with
   | []=>K { rs with st := { rs.st with fr:=(d,av)::rs.st.fr },bs:=h0i i d ch av rs.bs }
   |_=>K { rs with st := { rs.st with fr:=(d,.dead)::rs.st.fr },gf:=(d,ch,av)::rs.gf,bs:=h0i i d ch av rs.bs }
  |_,_=>False
def d0k:Op→Bool
 | .pick ..=>true
 |_=>false
def j0c(P:Program):List Oper→Nat→RS→(RS→Prop)→Prop
 | [],_,rs,K=>K rs
 |o::r,i,rs,K=>match o.guard,d0k o.op with
  |none,false=>t8 P o rs.st rs.h fun av st h=>w0d o.dst i [] av { rs with st:=st,h:=h } fun rs=>j0c P r (i+1) rs K
  |_,_=>match U9 rs.bs o.guard with
   |some ch=>match cB rs.bs ch with
    |some c=>evG P o ch c rs fun av=>w0d o.dst i ch av rs fun rs=>j0c P r (i+1) rs K
    |none=>False
   |none=>False
def evQ(P:Program):List Oper→Nat→RS→(RS→Prop)→Prop
 | [],_,rs,K=>K rs
 |o::r,i,rs,K=>match U9 rs.bs o.guard with
  |some ch=>match cB rs.bs ch with
   |some c=>evG P o ch c rs fun av=>w0d o.dst i ch av rs fun rs=>evQ P r (i+1) rs K
   |none=>False
  |none=>False
def Sub(h h':Hp):Prop:=∀ b o,h b=some o→h' b=some o
def H0n(v:Value)(K:Value→Prop):Prop:=match v with
 | .bool b=>K (.bool b)
 | .int k n=>K (.int k n)
 | .string s=>K (.string s)
 | .pointer a=>K (.pointer a)
 | .slice a n c=>K (.slice a n c)
 | .func f x y=>K (.func f x y)
 | .agg cs=>K (.agg cs)
 | .tuple vs=>K (.tuple vs)
 |v=>K v
theorem m0m(v:Value)(K:Value→Prop):H0n v K=K v:=by cases v<;>rfl
def z9{α:Type}:List α→(List α→Prop)→Prop
 | [],K=>K []
 |x::r,K=>z9 r fun r=>K (x::r)
theorem Z01{α:Type}:∀(l:List α) (K:List α→Prop),z9 l K=K l
 | [],K=>rfl
 |x::r,K=>by simp only[z9,Z01 r]
def x04:Nat→(Nat→Prop)→Prop
 |0,K=>K 0
 |n+1,K=>x04 n fun m=>K (m+1)
theorem k07:∀(n:Nat) (K:Nat→Prop),x04 n K=K n
 |0,K=>rfl
 |n+1,K=>by simp only[x04,k07 n]
def t01(av:AV)(K:AV→Prop):Prop:=match av with
 | .val v=>H0n v fun v=>K (.val v)
 | .own i k=>K (.own i k)
 | .box i k=>K (.box i k)
 | .hel s i z k=>x04 z fun z=>x04 k fun k=>K (.hel s i z k)
 | .oel j s i z k=>x04 z fun z=>x04 k fun k=>K (.oel j s i z k)
 | .agg cs=>z9 cs fun cs=>K (.agg cs)
 | .dead=>K .dead
theorem a02(av:AV)(K:AV→Prop):t01 av K=K av:=by
 cases av with
 |val v=>exact m0m v (fun v=>K (.val v))
 |hel s i z k=>simp only[t01,k07]
 |oel j s i z k=>simp only[t01,k07]
 |agg cs=>simp only[t01,Z01]
 |_=>rfl
inductive B5 where
 |pu (av:AV)
 |ef (F:Value→Hp→Prop)
def T1:List (Nat×B5)→Nat→Option B5
 | [],_=>none
 |(k,x)::r,s=>match Nat.beq k s with
  |true=>some x
  |false=>T1 r s
def rdS(L:List (Nat×B5))(st:St):Operand→AV
 | .tmp t=>match T1 L t with
  |some (.pu av)=>rdA st av
  |some (.ef _) => .dead
  |none=>rdA st (J2 st.fr t)
 |x=>rdO st x
def x0d(P:Program)(t:TypeId)(cs:List J5)(off:Nat):Option AV :=
 match V0g P t with
 |some true=>match W5 P t with
  |some n=>match a07 ((cs.drop off).take n) n with
   |true=>some (.agg ((cs.drop off).take n))
   |false=>none
  |none=>none
 |some false=>match nth cs off with
  |some c=>some (ofCell c)
  |none=>none
 |none=>none
def e09(P:Program)(L:List (Nat×B5))(o:Oper)(st:St):Option AV:=match o.op with
 | .move x | .assign x=>match rdS L st x with
  | .dead=>none
  |a=>some a
 | .load t x=>match rdS L st x with
  | .box i off=>match nth st.bx i with
   |some (.live cs _)=>x0d P t cs off
   |_=>none
  |_=>none
 |_=>none
def l07(L:List (Nat×B5))(st:St)(h:Hp):List Operand→List (Nat×AV)→(List (Nat×AV)→Prop)→Prop
 | [],acc,K=>K acc
 | .tmp t::r,acc,K=>match T1 L t with
  |some (.pu av)=>l07 L st h r ((t,av)::acc) K
  |some (.ef F)=>∀ v,F v h→l07 L st h r ((t,.val v)::acc) K
  |none=>l07 L st h r ((t,J2 st.fr t)::acc) K
 |_::r,acc,K=>l07 L st h r acc K
def i0i(h:Hp):List (Nat×B5)→List (Nat×AV)→(List (Nat×AV)→Prop)→Prop
 | [],fr,K=>K fr
 |(d,.pu av)::r,fr,K=>i0i h r ((d,av)::fr) K
 |(d,.ef F)::r,fr,K=>∀ v,F v h→i0i h r ((d,.val v)::fr) K
def I03(d:Option Tmp)(f:B5)(L:List (Nat×B5)):List (Nat×B5):=match d with
 |some d=>(d,f)::L
 |none=>L
def Z0p(st:St)(h:Hp)(F:Value→Hp→Prop):AV→St→Hp→Prop
 | .val v,st',h'=>st'=st∧Sub h h'∧F v h'
 |_,_,_=>False
def evS(P:Program):List Oper→List (Nat×B5)→St→Hp→(St→Hp→Prop)→Prop
 | [],L,⟨n,fr,bx,ow⟩,h,K=>∀ h',Sub h h'→i0i h' L fr fun fr=>K ⟨n,fr,bx,ow⟩ h'
 |o::r,L,⟨n,fr,bx,ow⟩,h,K=>match o.guard with
  |some _=>False
  |none=>match e09 P L o ⟨n,fr,bx,ow⟩with
   |some av=>t01 av fun av=>evS P r (I03 o.dst (.pu av) L) ⟨n,fr,bx,ow⟩ h K
   |none=>∃ F:Value→Hp→Prop,(∀ v h1 h2,Sub h1 h2→F v h1→F v h2) ∧
     (∀ h',Sub h h'→l07 L ⟨n,fr,bx,ow⟩ h' o.op.operands.toList [] fun fr=>t8 P o ⟨n,fr,bx,ow⟩ h' (Z0p ⟨n,fr,bx,ow⟩ h' F)) ∧
     evS P r (I03 o.dst (.ef F) L) ⟨n,fr,bx,ow⟩ h K
def M9(i:Nat)(o:Oper):Bool:=o.after.toList.any fun e=>Region.binds .any e&&Nat.beq e.on i
def b02(o:Oper)(t:Nat):List Oper→Nat→Bool
 | [],_=>true
 |x::r,i=>match x.dst with
  |some d=>match Nat.beq d t with
   |true=>M9 i o&&b02 o t r (i+1)
   |false=>b02 o t r (i+1)
  |none=>b02 o t r (i+1)
def L09(o:Oper)(ops:List Oper):List Operand→Bool
 | []=>true
 | .tmp t::r=>b02 o t ops 0&&L09 o ops r
 |_::r=>L09 o ops r
def m07(d:Nat):List Oper→Bool
 | []=>true
 |o::r=>match o.dst with
  |some d' => !Nat.beq d d'&&m07 d r
  |none=>m07 d r
def j0i(n:Nat):List Oper→Bool
 | []=>true
 |o::r=>match o.dst with
  |some d=>Nat.blt d n&&m07 d r&&j0i n r
  |none=>j0i n r
def k0c:List Oper→Nat→Bool
 | [],_=>true
 |o::r,j=>(o.after.toList.all fun e => !Region.binds .any e || Nat.blt e.on j)&&k0c r (j+1)
def f0l(ops:List Oper):List Oper→Bool
 | []=>true
 |o::r=>L09 o ops o.op.operands.toList&&f0l ops r
def g00(n:Nat)(ops:List Oper):Bool:=j0i n ops&&k0c ops 0&&f0l ops ops
def g0l:List J5→Bool
 | []=>true
 | .val _::r=>g0l r
 | .own _ _::_=>false
def a0h:AV→Bool
 | .val _=>true
 | .box _ _=>true
 | .own _ _=>true
 | .agg cs=>g0l cs
 |_=>false
def w05(L:List (Nat×B5))(st:St):Operand→AV
 | .tmp t=>match T1 L t with
  |some (.pu av)=>av
  |some (.ef _) => .dead
  |none=>J2 st.fr t
 | .const v => .val v
 |_ => .dead
def l0c(L:List (Nat×B5))(st:St):List Operand→Option (List (Nat×Value))
 | []=>some []
 | .tmp t::r=>match w05 L st (.tmp t)with
  | .val v=>match l0c L st r with
   |some vs=>some ((t,v)::vs)
   |none=>none
  |_=>none
 | .global _::_=>none
 |_::r=>l0c L st r
def e0k(P:Program)(L:List (Nat×B5))(o:Oper)(st:St):Option AV:=match i0c o.op,l0c L st o.op.operands.toList with
 |false,some vs=>match G08 (rho vs) o with
  |some _=>none
  |none=>match evP P (d0i (rho vs) o)with
   |some (.value v)=>some (.val v)
   |_=>none
 |_,_=>none
def b0r:AV→Bool
 | .val (.int _ _)=>true
 |_=>false
def p0r:BinOp→Bool
 | .lss=>true
 | .leq=>true
 | .gtr=>true
 | .geq=>true
 |_=>false
def H08(P:Program)(L:List (Nat×B5))(o:Oper)(st:St):Option AV:=match o.op with
 | .move x=>match a0h (w05 L st x)with
  |true=>some (w05 L st x)
  |false=>none
 | .assign x=>match a0h (w05 L st x)with
  |true=>some (w05 L st x)
  |false=>none
 | .load t x=>match w05 L st x with
  | .box i off=>match nth st.bx i with
   |some (.live cs _)=>match x0d P t cs off with
    |some av=>match a0h av with
     |true=>some av
     |false=>none
    |none=>none
   |_=>none
  |_=>none
 | .fieldAddr t x k=>match w05 L st x,W0g P t k with
  | .box i off,some fo=>some (.box i (off+fo))
  |_,_=>none
 | .binOp op _ x y _=>match p0r op,b0r (w05 L st x),b0r (w05 L st y)with
  |true,true,true=>e0k P L o st
  |_,_,_=>none
 | .call { callee := .builtin .len,args:=as,argTypes:=_ }=>match as.toList with
  | [x]=>match w05 L st x with
   | .val (.slice _ _ _)=>e0k P L o st
   |_=>none
  |_=>none
 |_=>none
def w00(L:List (Nat×B5))(st:St):List Oper→List Nat
 | []=>[]
 |o::r=>match o.op with
  | .load _ x=>match w05 L st x with
   | .box i _=>i::w00 L st r
   |_=>w00 L st r
  |_=>w00 L st r
def I08(bx:List BSt):List Nat→List (Option BSt)
 | []=>[]
 |i::r=>nth bx i::I08 bx r
def b05(L:List (Nat×B5))(fr0:List (Nat×AV)):List Operand→List (Nat×AV)→(List (Nat×AV)→Prop)→Prop
 | [],acc,K=>K acc
 | .tmp t::r,acc,K=>match T1 L t with
  |some (.pu av)=>b05 L fr0 r ((t,av)::acc) K
  |some (.ef _)=>b05 L fr0 r ((t,.dead)::acc) K
  |none=>b05 L fr0 r ((t,J2 fr0 t)::acc) K
 |_::r,acc,K=>b05 L fr0 r acc K
def f0k:List (Nat×B5)→List (Nat×AV)→List (Nat×AV)
 | [],fr=>fr
 |(d,.pu av)::r,fr=>(d,av)::f0k r fr
 |(d,.ef _)::r,fr=>(d,.dead)::f0k r fr
def h0l(av:AV)(st:St)(h:Hp):AV→St→Hp→Prop:=fun av' st' h'=>av'=av∧st'=st∧h'=h
def k0i(P:Program)(st:St)(h:Hp)(L:List (Nat×B5))(o:Oper)(av:AV):Prop :=
 match st with
 |⟨n,fr,bx,ow⟩=>∀ h',Sub h h'→b05 L fr o.op.operands.toList [] fun fr=>t8 P o ⟨n,fr,bx,ow⟩ h' (h0l av ⟨n,fr,bx,ow⟩ h')
def o03(P:Program)(st:St)(h:Hp):List Oper→Nat→List (Nat×B5)→List (Nat×Oper)→List (Nat×Oper)→(List (Nat×B5)→List (Nat×Oper)→List (Nat×Oper)→Prop)→Prop
 | [],_,L,X,E,K=>K L X E
 |o::r,i,L,X,E,K=>match o.guard with
  |some _=>False
  |none=>match H08 P L o st with
   |some av=>t01 av fun av=>o03 P st h r (i+1) (I03 o.dst (.pu av) L) X E K
   |none=>(∃ av,k0i P st h L o av∧t01 av fun av=>o03 P st h r (i+1) (I03 o.dst (.pu av) L) (X ++ [(i,o)]) E K) ∨
     o03 P st h r (i+1) (I03 o.dst (.ef fun _ _=>True) L) X (E ++ [(i,o)]) K
def b0h(X:List (Nat×Oper)):Nat→Nat→Oper→Bool
 |0,i,q=>M9 i q
 |n+1,i,q=>M9 i q || X.any fun y=>M9 y.1 q&&b0h X n i y.2
def y0d(X Y:List (Nat×Oper)):List (Nat×Oper)→Bool
 | []=>true
 |(_,q)::_=>X.all fun x=>b0h Y 8 x.1 q
def y04:List (Nat×Oper)→Bool
 |(i,o)::(j,o')::r=>M9 i o'&&y04 ((j,o')::r)
 |_=>true
def z04:Nat→Nat→Oper→Bool
 |0,_,_=>true
 |k+1,i,o=>(Nat.beq k i || M9 k o)&&z04 k i o
def n07(d:Nat):List Operand→Bool
 | []=>false
 | .tmp t::r=>Nat.beq t d || n07 d r
 |_::r=>n07 d r
def z0d(d:Nat):List Oper→Bool
 | []=>false
 |o::r=>n07 d o.op.operands.toList || z0d d r
def P00:List Oper→List Oper
 | []=>[]
 |o::r=>match r with
  | []=>[]
  |_::_=>o::P00 r
def A0d:List Oper→Option Oper
 | []=>none
 |o::r=>match r with
  | []=>some o
  |_::_=>A0d r
def I0n(ops:List Oper):Option Oper:=match A0d ops with
 |some o=>match o.guard,o.dst with
  |none,some d=>match z0d d (P00 ops)&&z04 (P00 ops).length (P00 ops).length o with
   |true=>some o
   |false=>none
  |_,_=>none
 |none=>none
def J03(P:Program)(o:Oper)(st:St)(h:Hp)(K:St→Hp→Prop):Prop :=
 t8 P o st h fun av st h=>w0d o.dst 0 [] av ⟨st,h,[],[]⟩ fun rs=>K rs.st rs.h
def B0d(N i:Nat)(o:Oper):List (Nat×Oper)→Bool
 | []=>z04 N i o
 |_::_=>false
def i0l(c:Nat)(b:Bool)(rd:List Nat)(bx bx':List BSt):Prop:=match b with
 |true=>True
 |false=>match c with
  |0=>I08 bx' rd=I08 bx rd
  |_+1=>bx'=bx
def c0h:Nat→List Own→List Own→Hp→Hp→Prop
 |0,_,_,_,_=>True
 |_+1,ow,ow',h,h'=>ow'=ow∧Sub h h'
def evC(rd:List Nat)(N:Nat)(P:Program):Nat→List (Nat×Oper)→List (Nat×B5)→St→Hp→(St→Hp→Prop)→Prop
 |_,[],L,⟨n,fr,bx,ow⟩,h,K=>z9 (f0k L fr) fun fr=>K ⟨n,fr,bx,ow⟩ h
 |c,(i,o)::r,L,⟨n,fr,bx,ow⟩,h,K=>b05 L fr o.op.operands.toList [] fun fr1=>t8 P o ⟨n,fr1,bx,ow⟩ h fun av st' h'=>match st' with
  |⟨_,_,bx',ow'⟩=>c0h c ow ow' h h'∧i0l c (B0d N i o r) rd bx bx'∧t01 av fun av=>z9 bx' fun bx'=>z9 ow' fun ow'=>evC rd N P (c-1) r (I03 o.dst (.pu av) L) ⟨n,fr,bx',ow'⟩ h' K
def r0p(f:Nat×Oper)(rd:List Nat)(N:Nat)(P:Program):Nat→List (Nat×Oper)→List (Nat×B5)→St→Hp→(St→Hp→Prop)→Prop
 |0,E,L,st,h,K=>evC rd N P 0 (f::E) L st h K
 |p+1,E,L,st,h,K=>evC rd N P 0 (f::E) L st h K∧match E with
  | []=>False
  |(i,o)::r=>match st with
   |⟨n,fr,bx,ow⟩=>b05 L fr o.op.operands.toList [] fun fr1=>t8 P o ⟨n,fr1,bx,ow⟩ h fun av st' h'=>match st' with
    |⟨_,_,bx',ow'⟩=>c0h 0 ow ow' h h'∧i0l 0 (B0d N i o r) rd bx bx'∧t01 av fun av=>z9 bx' fun bx'=>z9 ow' fun ow'=>r0p f rd N P p r (I03 o.dst (.pu av) L) ⟨n,fr,bx',ow'⟩ h' K
def n0m(f:Nat×Oper):Nat→List (Nat×Oper)→Bool
 |_,[]=>false
 |0,(_,q)::_=>M9 f.1 q
 |p+1,_::r=>n0m f p r
def F0f:Nat→List (Nat×Oper)→Option ((Nat×Oper)×List (Nat×Oper))
 |_,[]=>none
 |0,x::r=>some (x,r)
 |k+1,x::r=>match F0f k r with
  |some (f,r')=>some (f,x::r')
  |none=>none
def noX:List (Nat×Oper)→Bool
 | []=>true
 |_::_=>false
def evD(rd:List Nat)(N:Nat)(P:Program)(X E:List (Nat×Oper))(L:List (Nat×B5))(st:St)(h:Hp)(K:St→Hp→Prop):Prop :=
 (∃ c,(y04 E=true∧y0d X (X++E) (E.drop c)=true)∧evC rd N P c E L st h K) ∨
 (∃ k p,match F0f k E with
  |some (f,E')=>(noX X=true∧y04 E'=true∧n0m f p E'=true)∧r0p f rd N P p E' L st h K
  |none=>False)
abbrev FL:=List (Nat×List (Nat×Bool)×B5)
def i03:FL→Nat→Option (List (Nat×Bool)×B5)
 | [],_=>none
 |(k,x)::r,s=>match Nat.beq k s with
  |true=>some x
  |false=>i03 r s
def rdU(L:FL)(st:St)(ch:List (Nat×Bool)):Operand→AV
 | .tmp t=>match i03 L t with
  |some (ch2,.pu av)=>match f0i ch2 ch with
   |true=>rdA st av
   |false => .dead
  |some (_,.ef _) => .dead
  |none=>rdA st (J2 st.fr t)
 |x=>rdO st x
def J08(P:Program)(L:FL)(bs:List BE)(ch:List (Nat×Bool))(o:Oper)(st:St):Option AV:=match o.op with
 | .move x | .assign x=>match rdU L st ch x with
  | .dead=>none
  |a=>some a
 | .load t x=>match rdU L st ch x with
  | .box i off=>match nth st.bx i with
   |some (.live cs _)=>x0d P t cs off
   |_=>none
  |_=>none
 | .fieldAddr t x k=>match rdU L st ch x,W0g P t k with
  | .box i off,some fo=>some (.box i (off+fo))
  | .hel s i sz k,some fo=>some (.hel s i sz (k+fo))
  |_,_=>none
 | .pick (.tmp s) a b=>match rdU L st ch (.tmp s),K09 bs s with
  | .val (.bool e),some q=>match f0i q.ch ch with
   |true=>match rdU L st ((q.j,true)::q.ch) a,rdU L st ((q.j,false)::q.ch) b with
    | .val (.bool x),.val (.bool y)=>some (.val (.bool (cond e x y)))
    |_,_=>none
   |false=>none
  |_,_=>none
 |_=>none
def R06(L:FL)(st:St)(h:Hp)(ch:List (Nat×Bool)):List Operand→List (Nat×AV)→(List (Nat×AV)→Prop)→Prop
 | [],acc,K=>K acc
 | .tmp t::r,acc,K=>match i03 L t with
  |some (ch2,f)=>match f0i ch2 ch with
   |true=>match f with
    | .pu av=>R06 L st h ch r ((t,av)::acc) K
    | .ef F=>∀ v,F v h→R06 L st h ch r ((t,.val v)::acc) K
   |false=>False
  |none=>R06 L st h ch r ((t,J2 st.fr t)::acc) K
 |_::r,acc,K=>R06 L st h ch r acc K
def o0f(h:Hp):FL→List (Nat×AV)→(List (Nat×AV)→Prop)→Prop
 | [],fr,K=>K fr
 |(d,[],.pu av)::r,fr,K=>o0f h r ((d,av)::fr) K
 |(d,[],.ef F)::r,fr,K=>∀ v,F v h→o0f h r ((d,.val v)::fr) K
 |(d,_::_,_)::r,fr,K=>o0f h r ((d,.dead)::fr) K
def d0h(d:Option Tmp)(ch:List (Nat×Bool))(f:B5)(L:FL):FL:=match d with
 |some d=>(d,ch,f)::L
 |none=>L
def e0h(i:Nat)(d:Option Tmp)(ch:List (Nat×Bool))(av:AV)(bs:List BE):List BE:=match d with
 |some d=>match av with
  | .val (.bool e)=>⟨i,d,e,ch⟩::bs
  |_=>bs
 |none=>bs
def g0k(st st':St):Prop:=st'.n=st.n∧st'.fr=st.fr∧st'.bx=st.bx∧∃ t,st'.ow=st.ow++t
def J0n(st:St)(h:Hp)(F:Value→Hp→Prop):AV→St→Hp→Prop:=fun av st' h'=>rfy av st' h' fun v st'' h''=>g0k st st''∧Sub h h''∧F v h''
def K0n(P:Program)(t n:Nat)(st:St)(h:Hp)(K:AV→St→Hp→Prop):Prop :=
 match O00 P t with
 |some e=>match W5 P e,Nat.beq n 0 with
  |some (_+1),true=>∀ g,h g=none→K (.val (.slice (some ⟨g,0,none⟩) 0 0)) st (h.set g (.cells #[] e (0,0)))
  |_,_=>False
 |none=>False
def L0n(P:Program)(t:TypeId)(a b:Operand)(st:St)(h:Hp)(K:AV→St→Hp→Prop):Prop :=
 match O00 P t with
 |some e=>match W5 P e,d09 P e,W00 P e with
  |some (sz+1),some (by_+1),some z=>match a07 z.cells.toList (sz+1)with
   |true=>match rdO st a with
    | .val (.slice (some ⟨g,o,none⟩) 0 0)=>E0f st h (sz+1) (rdO st b) fun ys=>I09 ys.length (by_+1) ∧
      ((ys = []→K (.val (.slice (some ⟨g,o,none⟩) 0 0)) st h)∧∀ v h',Z0 h h' v e (sz+1) true ys→K (.val v) st h')
    |_=>False
   |false=>False
  |_,_,_=>False
 |none=>False
def l0i(P:Program)(o:Oper)(st:St)(h:Hp)(K:AV→St→Hp→Prop):Prop :=
 match o.op with
 | .buildSlice t n ps=>match ps.toList with
  | []=>K0n P t n st h K
  |_::_=>t8 P o st h K
 | .call { callee := .builtin .append,args:=as,argTypes:=ts }=>match as.toList,ts.toList with
  | [a,b],[t,t']=>match Nat.beq t t' with
   |true=>L0n P t a b st h K
   |false=>False
  |_,_=>False
 |_=>t8 P o st h K
def evU(P:Program)(l:List Oper):Nat→FL→List BE→St→Hp→(St→Hp→Prop)→Prop :=
  List.rec (motive:=fun _=>Nat→FL→List BE→St→Hp→(St→Hp→Prop)→Prop)
    (fun _ L _ st h K=>match st with
      |⟨n,fr,bx,ow⟩=>∀ h',Sub h h'→o0f h' L fr fun fr=>K ⟨n,fr,bx,ow⟩ h')
    (fun o _ ih i L bs st h K=>match st with
      |⟨n,fr,bx,ow⟩=>match U9 bs o.guard with
        |some ch=>match cB bs ch with
          |some c=>match J08 P L bs ch o ⟨n,fr,bx,ow⟩with
            |some av=>t01 av fun av=>ih (i+1) (d0h o.dst ch (.pu av) L) (e0h i o.dst ch av bs) ⟨n,fr,bx,ow⟩ h K
            |none=>(∃ av,(∀ h',Sub h h'→imp ch c (R06 L ⟨n,fr,bx,ow⟩ h' ch o.op.operands.toList [] fun fr=>t8 P o ⟨n,fr,bx,ow⟩ h' (h0l av ⟨n,fr,bx,ow⟩ h'))) ∧
                  t01 av fun av=>ih (i+1) (d0h o.dst ch (.pu av) L) (e0h i o.dst ch av bs) ⟨n,fr,bx,ow⟩ h K) ∨
                (∃ F:Value→Hp→Prop,(∀ v h1 h2,Sub h1 h2→F v h1→F v h2) ∧
                  (∀ h',Sub h h'→imp ch c (R06 L ⟨n,fr,bx,ow⟩ h' ch o.op.operands.toList [] fun fr=>l0i P o ⟨n,fr,bx,ow⟩ h' (J0n ⟨n,fr,bx,ow⟩ h' F))) ∧
                  ih (i+1) (d0h o.dst ch (.ef F) L) bs ⟨n,fr,bx,ow⟩ h K)
          |none=>False
        |none=>False) l
def i0d:List Oper→Bool
 | []=>true
 |o::r=>(match o.guard with
  |some (j,_)=>M9 j o
  |none=>true)&&i0d r
def y03(n:Nat)(ops:List Oper):Bool:=g00 n ops&&i0d ops
def s0p(P:Program):List Oper→Bool
 | []=>false
 |o::r=>(match o.guard,o.op with
  |some _,.call { callee := .value _,args:=_,argTypes:=_ }=>match P.underlying o.type with
   |some (.slice _)=>true
   |some (.struct _)=>true
   |some (.tuple _)=>true
   |_=>false
  |_,_=>false) || s0p P r
def i04(o:Oper):Bool:=match o.op with
 | .alloc _=>true
 |_=>false
def i00(o:Oper):Oper:=match o.op with
 | .alloc _ => { o with op := .move (.const undef) }
 |_=>o
def G5:List Oper→List Oper
 | []=>[]
 |o::r=>i00 o::G5 r
def okA(P:Program)(all:List Oper):List Oper→Bool
 | []=>true
 |o::r=>(match o.op with
  | .alloc t=>(match o.guard,o.dst,W00 P t with
   |none,some d,some _ => !z0d d all
   |_,_,_=>false)
  |_=>true)&&okA P all r
def h0k(x:Nat):List Nat→Bool
 | []=>false
 |y::r=>Nat.beq x y || h0k x r
def t0p(ops:List Oper)(i:Nat):List Nat→Bool
 | []=>false
 |j::r=>(match nth ops j with
  |some o=>M9 i o
  |none=>false) || t0p ops i r
def G0f(ops:List Oper):Nat→List Nat→List Nat
 |0,acc=>acc
 |i+1,acc=>match t0p ops i acc with
  |true=>G0f ops i (i::acc)
  |false=>G0f ops i acc
def M09(o:Oper):Option Nat:=match o.guard with
 |some _=>none
 |none=>match o.op with
  | .extract (.tmp t) _=>some t
  | .move (.tmp t)=>some t
  | .assign (.tmp t)=>some t
  |_=>none
def N09(d:Nat):List Oper→Bool
 | []=>false
 |o::r=>(match o.dst with
  |some e=>Nat.beq e d
  |none=>false) || N09 d r
def N05(ml:List Nat)(t:Nat):List Oper→Nat→Bool
 | [],_=>true
 |o::r,i=>(match o.dst with
  |some e => !Nat.beq e t || h0k i ml
  |none=>true)&&N05 ml t r (i+1)
def O05(i d:Nat):List Oper→Bool
 | []=>true
 |o::r=>(!n07 d o.op.operands.toList || M9 i o)&&O05 i d r
def j0l(pre tl:List Oper)(ml:List Nat)(i:Nat)(o:Oper):Bool:=match M09 o,o.dst with
 |some t,some d => !N09 d tl && !N09 t tl&&N05 ml t pre 0&&O05 i d tl
 |_,_=>false
def j0d(pre tl:List Oper)(ml:List Nat):List Oper→Nat→Bool
 | [],_=>true
 |o::r,i=>(h0k i ml || j0l pre tl ml i o)&&j0d pre tl ml r (i+1)
def m0i:List Oper→Bool
 | []=>true
 |o::r => !i0c o.op&&m0i r
def M0n:Nat→List Oper→Bool
 |_,[]=>true
 |k,o::r=>(match o.guard with
  |none=>true
  |some _=>false)&&(match r with
  | []=>true
  |o'::_=>M9 k o')&&M0n (k+1) r
def c0r:List Oper→Bool
 | []=>true
 |_::_=>false
def okZ(P:Program)(n m:Nat)(ops:List Oper):Bool :=
 y03 n (G5 (ops.take m))&&okA P (ops.take m) (ops.take m)&&k0c ops 0&&M0n m (ops.drop m)&&(c0r (ops.drop m) || (j0d (ops.take m) (ops.drop m) (G0f ops m [m]) (ops.take m) 0&&m0i (ops.drop m)))
abbrev v0q:=Oper→St→Hp→(St→Hp→Prop)→Prop
def doA(R:v0q)(l:List Oper):St→Hp→(St→Hp→Prop)→Prop :=
 List.rec (motive:=fun _=>St→Hp→(St→Hp→Prop)→Prop) (fun st h K=>K st h) (fun o _ ih st h K=>match i04 o with
  |true=>R o st h fun st h=>ih st h K
  |false=>ih st h K) l
def doT(R:v0q)(l:List Oper):St→Hp→(St→Hp→Prop)→Prop :=
 List.rec (motive:=fun _=>St→Hp→(St→Hp→Prop)→Prop) (fun st h K=>K st h) (fun o _ ih st h K=>R o st h fun st h=>ih st h K) l
def evT(P:Program)(R:v0q)(m:Nat)(ops:List Oper)(st:St)(h:Hp)(K:St→Hp→Prop):Prop :=
 evU P (G5 (ops.take m)) 0 [] [] st h fun st h=>doA R (ops.take m) st h fun st h=>doT R (ops.drop m) st h K
inductive Ex where
 |normal|ret
 |exit (i:Nat)
structure Ann where
 vars:List Nat
 boxes:List Nat
 owns:List Nat
 nils:List (Nat×Nat×Nat×Nat):=[]
 nilsB:List (Nat×Nat×Nat×Nat×Nat):=[]
 kept:List Nat:=[]
 fuel:Bool:=false
 pubs:List Nat:=[]
def n0i:List (Nat×Nat×Nat×Nat)→St→(St→Prop)→Prop
 | [],st,K=>K st
 |(s,e,sz,by_)::r,⟨n,fr,bx,ow⟩,K=>match rdA ⟨n,fr,bx,ow⟩ (J2 fr s),Nat.blt s n with
  | .val (.slice none 0 0),true=>Z0j ow fun k=>n0i r ⟨n,(s,.own k 0)::fr,bx,ow ++ [⟨0,.live e sz by_ false []⟩]⟩ K
  |_,_=>False
def C0d:List (Nat×Nat×Nat×Nat×Nat)→St→(St→Prop)→Prop
 | [],st,K=>K st
 |(i,k,e,sz,by_)::r,⟨n,fr,bx,ow⟩,K=>match nth bx i with
  |some (.live cs ty)=>match nth cs k with
   |some (.val (.slice none 0 0))=>Z0j ow fun j=>C0d r ⟨n,fr,v00 bx i (.live (v00 cs k (.own j 0)) ty),ow ++ [⟨0,.live e sz by_ false []⟩]⟩ K
   |_=>False
  |_=>False
def o0i:List Nat→St→Hp→(St→Hp→Prop)→Prop
 | [],st,h,K=>K st h
 |s::r,st,h,K=>rfy (rdA st (J2 st.fr s)) st h fun v st h=>match st with
  |⟨n,fr,bx,ow⟩=>match Nat.blt s n with
   |true=>o0i r ⟨n,(s,.val v)::fr,bx,ow⟩ h K
   |false=>False
def A08(x:Nat):List Nat→Bool
 | []=>false
 |y::r=>match Nat.beq x y with
  |true=>true
  |false=>A08 x r
def w0q:List Oper→List Nat→List Nat
 | [],acc=>acc
 |o::r,acc=>match o.dst with
  |some d=>w0q r (d::acc)
  |none=>w0q r acc
def p0f:Code→List Nat→List Nat
 | .region _ ops _,acc=>w0q ops.toList acc
 | .seq a b,acc=>p0f a (p0f b acc)
 | .cond _ a b,acc=>p0f a (p0f b acc)
 | .block _ a,acc=>p0f a acc
 | .loop a,acc=>p0f a acc
 | .scope a,acc=>p0f a acc
 |_,acc=>acc
def Y0a:List Nat→(List Nat→Prop)→Prop
 | [],K=>K []
 |x::r,K=>Y0a r fun r=>K (x::r)
def u0p:List Nat→St→(List Value→Prop)→Prop
 | [],_,K=>K []
 |s::r,st,K=>match rdA st (J2 st.fr s)with
  | .val v=>u0p r st fun vs=>K (v::vs)
  |_=>False
def p0i:List J5→St→(List Value→Prop)→Prop
 | [],_,K=>K []
 | .val v::r,st,K=>p0i r st fun vs=>K (v::vs)
 | .own _ _::r,st,K=>p0i r st K
def D0d:List Nat→St→(List Value→Prop)→Prop
 | [],_,K=>K []
 |i::r,st,K=>match nth st.bx i with
  |some (.live cs _)=>p0i cs st fun vs=>D0d r st fun ws=>K (vs++ws)
  |_=>False
def H0f:List Nat→St→(List (List (List Value))→Prop)→Prop
 | [],_,K=>K []
 |i::r,st,K=>match nth st.ow i with
  |some ⟨_,.live _ _ _ _ xs⟩=>H0f r st fun os=>K (xs::os)
  |_=>False
def i0k(A:Ann)(st:St)(K:List Value→List (List (List Value))→Prop):Prop :=
 u0p A.vars st fun vs=>D0d A.boxes st fun ws=>H0f A.owns st fun os=>K (vs++ws) os
def z03:List J5→List Value→(List J5→List Value→Prop)→Prop
 | [],vs,K=>K [] vs
 | .val _::r,v::vs,K=>z03 r vs fun cs rest=>K (.val v::cs) rest
 | .val _::_,[],_=>False
 | .own i k::r,vs,K=>z03 r vs fun cs rest=>K (.own i k::cs) rest
def P05:List Nat→List Value→List BSt→(List BSt→Prop)→Prop
 | [],_,bx,K=>K bx
 |i::r,vs,bx,K=>match nth bx i with
  |some (.live cs ty)=>z03 cs vs fun cs rest=>P05 r rest (v00 bx i (.live cs ty)) K
  |_=>False
def Q05:List Nat→List (List (List Value))→List Own→(List Own→Prop)→Prop
 | [],_,ow,K=>K ow
 |i::r,xs::os,ow,K=>match nth ow i with
  |some ⟨s,.live e sz by_ nn _⟩=>Q05 r os (v00 ow i ⟨s,.live e sz by_ nn xs⟩) K
  |_=>False
 |_::_,[],_,_=>False
def o07{α:Type}:Nat→List α→(List α→List α→Prop)→Prop
 |0,l,K=>K [] l
 |n+1,x::l,K=>o07 n l fun a b=>K (x::a) b
 |_+1,[],_=>False
def K08(A:Ann)(st:St):List Nat→List (Nat×AV)→(List (Nat×AV)→Prop)→Prop
 | [],acc,K=>K acc
 |s::r,acc,K=>match A08 s A.vars with
  |true=>K08 A st r acc K
  |false=>match rdA st (J2 st.fr s)with
   | .own i k=>K08 A st r ((s,.own i k)::acc) K
   | .box i o=>K08 A st r ((s,.box i o)::acc) K
   |_=>K08 A st r ((s,.dead)::acc) K
def k0l:List J5→Bool
 | []=>true
 | .val _::r=>k0l r
 | .own _ _::_=>false
def R05(A:Ann)(ds:List Nat)(st:St):List (Nat×AV)→(List (Nat×AV)→Prop)→Prop
 | [],K=>K []
 |(s,av)::r,K=>match A08 s ds with
  |true=>R05 A ds st r K
  |false=>match rdA st av with
   | .own i k=>match A08 i A.owns,A08 i A.kept with
    |true,false=>R05 A ds st r fun l=>K ((s,.dead)::l)
    |_,_=>R05 A ds st r fun l=>K ((s,.own i k)::l)
   | .oel _ _ _ _ _=>R05 A ds st r fun l=>K ((s,.dead)::l)
   | .agg cs=>match k0l cs with
    |true=>R05 A ds st r fun l=>K ((s,.agg cs)::l)
    |false=>R05 A ds st r fun l=>K ((s,.dead)::l)
   |a=>R05 A ds st r fun l=>K ((s,a)::l)
def Z0a:List Nat→List Value→List (Nat×AV)→List (Nat×AV)
 |s::r,v::vs,acc=>Z0a r vs ((s,.val v)::acc)
 |_,_,acc=>acc
def m0c(head end_:St):List (Nat×AV)→Bool
 | []=>true
 |(s,av)::r=>match av with
  | .own i _=>match rdA end_ (J2 end_.fr s)with
   | .own j _=>match Nat.beq i j with
    |true=>m0c head end_ r
    |false=>false
   |_=>false
  | .box i o=>match rdA end_ (J2 end_.fr s)with
   | .box j p=>match Nat.beq i j,Nat.beq o p with
    |true,true=>m0c head end_ r
    |_,_=>false
   |_=>false
  |_=>m0c head end_ r
def j0k:AV→Bool
 | .dead=>true
 |_=>false
def o0m:List (Nat×AV)→List AV
 | []=>[]
 |(_,av)::r=>match j0k av with
  |true=>o0m r
  |false=>av::o0m r
def I0f(fr:List (Nat×AV)):List (Nat×AV)→List AV
 | []=>[]
 |(s,av)::r=>match j0k av with
  |true=>I0f fr r
  |false=>J2 fr s::I0f fr r
def S05(head end_:St):List J5→List J5→Bool
 | [],[]=>true
 | .val _::r,.val _::r'=>S05 head end_ r r'
 | .own i _::r,.own j k'::r'=>match Nat.beq i j,rdA end_ (.own j k')with
  |true,.own _ _=>S05 head end_ r r'
  |_,_=>false
 |_,_=>false
def O09(os:List Nat):List J5→Bool
 | []=>true
 | .val _::r=>O09 os r
 | .own i _::r=>match A08 i os with
  |true=>false
  |false=>O09 os r
def k0k(os:List Nat):BSt→Bool
 | .live cs _=>O09 os cs
 | .publ _=>true
def a0b(A:Ann)(head end_:St):Nat→List BSt→List BSt→Prop
 |_,[],_=>True
 |i,b::r,b'::r'=>match A08 i A.boxes with
  |true=>match b,b' with
   | .live cs ty,.live cs' ty'=>match Nat.beq ty ty',S05 head end_ cs cs' with
    |true,true=>a0b A head end_ (i+1) r r'
    |_,_=>False
   |_,_=>False
  |false=>match k0k A.owns b with
   |true=>b'=b∧a0b A head end_ (i+1) r r'
   |false=>False
 |_,_::_,[]=>False
def leB(a b:Bool):Bool:=match a with
 |true=>b
 |false=>true
def b0b(A:Ann):Nat→List Own→List Own→Prop
 |_,[],_=>True
 |i,b::r,b'::r'=>match A08 i A.owns with
  |true=>match b,b' with
   |⟨s,.live e sz by_ nn _⟩,⟨s',.live e' sz' by' nn' _⟩=>match Nat.beq e e',Nat.beq sz sz',Nat.beq by_ by',leB nn nn',leB (A08 i A.kept) (Nat.beq s s')with
    |true,true,true,true,true=>b0b A (i+1) r r'
    |_,_,_,_,_=>False
   |_,_=>False
  |false=>b'=b∧b0b A (i+1) r r'
 |_,_::_,[]=>False
def P09:Nat→(List Value→Prop)→Prop
 |0,K=>K []
 |n+1,K=>∀ v,P09 n fun vs=>K (v::vs)
def Q09:Nat→(List (List (List Value))→Prop)→Prop
 |0,K=>K []
 |n+1,K=>∀ xs,Q09 n fun os=>K (xs::os)
abbrev c0b:=List Value→List (List (List Value))→Hp→Prop
abbrev S06:=List Value→List (List (List Value))→Nat
def v0p:List Value→List Value→Bool
 | [],[]=>true
 |_::r,_::r'=>v0p r r'
 |_,_=>false
def q0i(A:Ann)(I:c0b)(vs:List Value)(os:List (List (List Value)))(h:Hp):Prop:=match A.fuel with
 |false=>I vs os h
 |true=>∃ m:Nat,I (.int .i64 m::vs) os h
def r0i(A:Ann)(I:c0b)(μ:S06)(vs:List Value)(os:List (List (List Value)))(X:Nat→Hp→Prop):Prop:=match A.fuel with
 |false=>∀ h',I vs os h'→X (μ vs os) h'
 |true=>∀(m:Nat) (h':Hp),I (.int .i64 m::vs) os h'→X m h'
def w0p(A:Ann)(I:c0b)(μ:S06)(m:Nat)(vs:List Value)(os:List (List (List Value)))(h:Hp):Prop:=match A.fuel with
 |false=>I vs os h∧μ vs os<m
 |true=>∃ m':Nat,I (.int .i64 m'::vs) os h∧m'<m
def atI(A:Ann)(I:c0b)(μ:S06)(m:Nat)(vs:List Value)(os:List (List (List Value)))(h:Hp):Prop:=match A.fuel with
 |false=>I vs os h∧m=μ vs os
 |true=>I (.int .i64 m::vs) os h
theorem N0n{A:Ann}{I:c0b}{μ:S06}{vs:List Value}{os:List (List (List Value))}{h:Hp}(hh:q0i A I vs os h):∃ m,atI A I μ m vs os h:=by
 unfold q0i at hh
 unfold atI
 cases hf:A.fuel with
 |false=>rw[hf]at hh;exact⟨_,hh,rfl⟩
 |true=>rw[hf]at hh;exact hh
theorem O0n{A:Ann}{I:c0b}{μ:S06}{vs:List Value}{os:List (List (List Value))}{X:Nat→Hp→Prop}(hh:r0i A I μ vs os X){m:Nat}{h:Hp}(ha:atI A I μ m vs os h):X m h:=by
 unfold r0i at hh
 unfold atI at ha
 cases hf:A.fuel with
 |false=>rw[hf]at hh ha;rw[ha.2];exact hh _ ha.1
 |true=>rw[hf]at hh ha;exact hh _ _ ha
theorem x0p{A:Ann}{I:c0b}{μ:S06}{m:Nat}{vs:List Value}{os:List (List (List Value))}{h:Hp}(hh:w0p A I μ m vs os h):∃ m',atI A I μ m' vs os h∧m'<m:=by
 unfold w0p at hh
 unfold atI
 cases hf:A.fuel with
 |false=>rw[hf]at hh;exact⟨_,⟨hh.1,rfl⟩,hh.2⟩
 |true=>rw[hf]at hh;exact hh
def P0n(A:Ann)(dyn sta:List (Nat×AV))(st0:St)(I:c0b)(μ:S06)(vs0:List Value)(m:Nat)(st:St)(h:Hp):Prop :=
 match Nat.beq st.n st0.n,m0c st0 st dyn with
 |true,true=>I0f st.fr sta=o0m sta∧a0b A st0 st 0 st0.bx st.bx∧b0b A 0 st0.ow st.ow ∧
   i0k A st fun vs os=>match v0p vs vs0 with
    |true=>o07 A.vars.length vs fun _ v2=>P05 A.boxes v2 st0.bx fun _=>Q05 A.owns os st0.ow fun _=>w0p A I μ m vs os h
    |false=>False
 |_,_=>False
def l0l(body:(Ex→St→Hp→Prop)→St→Hp→Prop)(ds0:List Nat)(Q:Ex→St→Hp→Prop)(st:St)(h:Hp):Prop :=
 ∃(A:Ann) (I:c0b) (μ:S06),n0i A.nils st fun st=>C0d A.nilsB st fun st=>o0i A.pubs st h fun st h=>i0k A st fun vs0 os0=>q0i A I vs0 os0 h ∧
  Y0a ds0 fun ds=>K08 A st ds [] fun dyn=>R05 A ds st st.fr fun sta =>
   P09 vs0.length fun vs=>Q09 os0.length fun os=>r0i A I μ vs os fun m h' =>
    o07 A.vars.length vs fun v1 v2=>P05 A.boxes v2 st.bx fun bx=>Q05 A.owns os st.ow fun ow =>
     body (fun e st' h''=>match e with
      | .normal=>o0i A.pubs st' h'' fun st' h''=>P0n A dyn sta st I μ vs m st' h''
      |e=>Q e st' h'') ⟨st.n,Z0a A.vars v1 (dyn++sta),bx,ow⟩ h'
def Q0n(b:Bool)(X Y:Prop):Prop:=(b=true→X)∧(b=false→Y)
def ev(P:Program):Code→(Ex→St→Hp→Prop)→St→Hp→Prop
 | .skip,Q,st,h=>Q .normal st h
 | .region _ ops false,Q,st,h=>match s0p P ops.toList with
  |true=>y03 st.n ops.toList=true∧evU P ops.toList 0 [] [] st h fun st h=>Q .normal st h
  |false=>j0c P ops.toList 0 ⟨st,h,[],[]⟩ fun rs=>Q .normal rs.st rs.h
 | .region _ ops true,Q,st,h=>((P.follows .mixedOrders=true∧Region.lexB .any ops=true) ∧
   evQ P ops.toList 0 ⟨st,h,[],[]⟩ fun rs=>Q .normal rs.st rs.h) ∨
   ((P.follows .mixedOrders=true∧g00 st.n ops.toList=true)∧evS P ops.toList [] st h fun st h=>Q .normal st h) ∨
   (match I0n ops.toList with
    |none=>(P.follows .mixedOrders=true∧g00 st.n ops.toList=true)∧o03 P st h ops.toList 0 [] [] [] fun L X E=>evD (w00 L st ops.toList) ops.size P X E L st h fun st h=>Q .normal st h
    |some o=>(P.follows .mixedOrders=true∧(g00 st.n (P00 ops.toList)&&k0c ops.toList 0)=true)∧o03 P st h (P00 ops.toList) 0 [] [] [] fun L X E=>evD (w00 L st (P00 ops.toList)) (P00 ops.toList).length P X E L st h fun st h=>J03 P o st h fun st h=>Q .normal st h) ∨
   ((P.follows .mixedOrders=true∧y03 st.n ops.toList=true)∧evU P ops.toList 0 [] [] st h fun st h=>Q .normal st h) ∨
   (∃ m,(P.follows .mixedOrders=true∧okZ P st.n m ops.toList=true)∧evT P (J03 P) m ops.toList st h fun st h=>Q .normal st h)
 | .seq a b,Q,st,h=>ev P a (fun e st h=>match e with
  | .normal=>ev P b Q st h
  |e=>Q e st h) st h
 | .cond c t e,Q,st,h=>match rdO st c with
  | .val (.bool b)=>Q0n b (ev P t Q st h) (ev P e Q st h)
  |_=>False
 | .block id c,Q,st,h=>ev P c (fun e st h=>match e with
  | .exit i=>match Nat.beq i id with
   |true=>Q .normal st h
   |false=>Q (.exit i) st h
  |e=>Q e st h) st h
 | .loop body,Q,st,h=>l0l (fun Q=>ev P body Q) (p0f body []) Q st h
 | .exit id,Q,st,h=>Q (.exit id) st h
 | .ret,Q,st,h=>Q .ret st h
 |_,_,_,_=>False
def l0k(P:Program):List ResultVar→St→Hp→(List Value→St→Hp→Prop)→Prop
 | [],st,h,K=>K [] st h
 | .tmp t::r,st,h,K=>rfy (rdA st (J2 st.fr t)) st h fun v st h=>l0k P r st h fun vs st h=>K (v::vs) st h
 | .cell t ty::r,st,h,K=>match rdA st (J2 st.fr t)with
  | .box i off=>match nth st.bx i with
   |some (.live cs _)=>u04 P ty cs off fun av=>rfy av st h fun v st h=>l0k P r st h fun vs st h=>K (v::vs) st h
   |_=>False
  |_=>False
def s0i:List Value→Value
 | [v]=>v
 |vs => .tuple vs.toArray
def R09:Nat→List Value→List (Nat×AV)
 |_,[]=>[]
 |i,v::r=>(i,.val v)::R09 (i+1) r
def x0q(P:Program)(fn:Func)(args:List Value)(h:Hp)(T:Value→Hp→Prop):Prop :=
 match fn.body with
 |some c=>match Nat.ble args.length fn.ntmps with
  |true=>ev P c (fun e st h=>match e with
   | .exit _=>False
   |_=>l0k P fn.results.toList st h fun vs _ h=>T (s0i vs) h) ⟨fn.ntmps,R09 0 args,[],[]⟩ h
  |false=>False
 |none=>False
end Go.H
