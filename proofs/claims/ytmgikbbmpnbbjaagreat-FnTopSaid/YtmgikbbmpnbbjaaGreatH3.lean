/- Plain laws over the model: what a function's code asks: regions with guards, regions that draw their order, branches and loops. -/
import Derived.Test.YtmgikbbmpnbbjaaGreatH2
namespace Go.H
set_option linter.unusedVariables false
structure BE where
 j:Nat
 d:Nat
 e:Bool
 ch:List (Nat×Bool)
structure RS where
 st:St
 h:Hp
 gf:List (Nat×List (Nat×Bool)×AV)
 bs:List BE
def o0e:List (Nat×List (Nat×Bool)×AV)->Nat->Option (List (Nat×Bool)×AV)
 | [],_=>none
 |(k,x)::r,s=>match Nat.beq k s with
  |true=>some x
  |false=>o0e r s
def eqB(a b:Bool):Bool:=match a,b with
 |true,true=>true
 |false,false=>true
 |_,_=>false
def X0p:List (Nat×Bool)->List (Nat×Bool)->Bool
 | [],[]=>true
 |(j,w)::r,(a,c)::b=>match Nat.beq j a,eqB w c with
  |true,true=>X0p r b
  |_,_=>false
 |_,_=>false
def I0j(a:List (Nat×Bool)):List (Nat×Bool)->Bool
 | []=>X0p a []
 |x::r=>match X0p a (x::r)with
  |true=>true
  |false=>I0j a r
def rdG(rs:RS)(ch:List (Nat×Bool)):Operand->AV
 | .tmp t=>match o0e rs.gf t with
  |some (a,av)=>match I0j a ch with
   |true=>rdA rs.st av
   |false => .dead
  |none=>rdA rs.st (E3 rs.st.fr t)
 |x=>rdO rs.st x
def k03:List BE->Nat->Option BE
 | [],_=>none
 |b::r,j=>match Nat.beq b.j j with
  |true=>some b
  |false=>k03 r j
def M0a:List BE->Nat->Option BE
 | [],_=>none
 |b::r,s=>match Nat.beq b.d s with
  |true=>some b
  |false=>M0a r s
def lit(w e:Bool):Bool:=match w with
 |true=>e
 |false => !e
def cB(bs:List BE):List (Nat×Bool)->Option Bool
 | []=>some true
 |(j,w)::r=>match k03 bs j with
  |some b=>match r with
   | []=>some (lit w b.e)
   |_=>match cB bs r with
    |some c=>some (lit w b.e&&c)
    |none=>none
  |none=>none
def s00(bs:List BE):Option (Nat×Bool)->Option (List (Nat×Bool))
 |none=>some []
 |some (j,w)=>match k03 bs j with
  |some b=>some ((j,w)::b.ch)
  |none=>none
def imp(ch:List (Nat×Bool))(c:Bool)(X:Prop):Prop:=match ch with
 | []=>X
 |_=>c=true->X
def J0j(rs:RS)(ch:List (Nat×Bool)):List Operand->Option (List (Nat×Value))
 | []=>some []
 | .tmp t::r=>match n05 (rdG rs ch (.tmp t))with
  |some v=>match J0j rs ch r with
   |some vs=>some ((t,v)::vs)
   |none=>none
  |none=>none
 | .global _::_=>none
 |_::r=>J0j rs ch r
def L0r(rs:RS)(ch:List (Nat×Bool)):List Operand->St->Hp->(List (Nat×Value)->St->Hp->Prop)->Prop
 | [],st,h,K=>K [] st h
 | .tmp t::r,st,h,K=>rfy (rdA st (rdG rs ch (.tmp t))) st h λv st h=>L0r rs ch r st h λvs st h=>K ((t,v)::vs) st h
 | .global _::_,_,_,_=>False
 |_::r,st,h,K=>L0r rs ch r st h K
def v0i(P:Program)(o:Oper)(ch:List (Nat×Bool))(c:Bool)(rs:RS)(K:AV->Prop):Prop :=
 match I0a o.op,J0j rs ch o.op.operands.toList with
 |false,some vs=>match g08 (rho vs) o with
  |some (f,l)=>match okF P f with
   |true=>∃ v,imp ch c (Tr P f l.toArray rs.h λa h'=>a=v/\h'=rs.h)/\K (.val v)
   |false=>False
  |none=>match evP P (Q0g (rho vs) o)with
   |some (.value v)=>K (.val v)
   |_=>False
 |false,none=>∃ r,imp ch c (L0r rs ch o.op.operands.toList rs.st rs.h λvs _ hf=>match g08 (rho vs) o with
  |some (f,l)=>match okF P f with
   |true=>Tr P f l.toArray hf λv h'=>v=r/\h'=hf
   |false=>False
  |none=>False)/\K (.val r)
 |_,_=>False
def evG(P:Program)(o:Oper)(ch:List (Nat×Bool))(c:Bool)(rs:RS)(K:AV->Prop):Prop :=
 match o.op with
 | .move x | .assign x=>match rdG rs ch x with
  | .dead=>False
  |a=>K a
 | .pick (.tmp d) a b=>match rdG rs ch (.tmp d),M0a rs.bs d with
  | .val (.bool e),some q=>match I0j q.ch ch with
   |true=>match rdG rs ((q.j,true)::q.ch) a,rdG rs ((q.j,false)::q.ch) b with
    | .val (.bool x),.val (.bool y)=>K (.val (.bool (cond e x y)))
    |_,_=>False
   |false=>False
  |_,_=>False
 | .fieldAddr t x k=>match rdG rs ch x,r0i P t k with
  | .box i off,some g=>K (.box i (off+g))
  | .hel d i sz k,some g=>K (.hel d i sz (k+g))
  | .oel i d j sz k,some g=>K (.oel i d j sz (k+g))
  |_,_=>False
 | .indexAddr t x i=>match rdG rs ch i with
  | .val (.int _ j)=>match m01 P t with
   |some e=>match R5 P e with
    |some sz=>match rdG rs ch x with
     | .val (.slice a n f)=>imp ch c (InB (.slice a n f) j)/\K (.hel (.slice a n f) j sz 0)
     | .own i k=>match nth rs.st.ow i with
      |some ⟨_,.live _ p _ _ xs⟩=>match Nat.beq p sz with
       |true=>imp ch c (0<=j/\j<(xs.length:Int))/\K (.oel i k j sz 0)
       |false=>False
      |_=>False
     |_=>False
    |none=>False
   |none=>False
  |_=>False
 | .load t x=>match rdG rs ch x with
  | .box i off=>match nth rs.st.bx i with
   |some (.live cs _)=>l05 P t cs off K
   |_=>False
  | .hel d idx sz k=>∃ e,imp ch c (n9 rs.h d sz idx e)/\l05 P t (vals e) k K
  | .oel i _ idx sz k=>match nth rs.st.ow i with
   |some ⟨_,.live _ p _ _ xs⟩=>match Nat.beq p sz with
    |true=>∃ e,imp ch c (xs[idx.toNat]?=some e)/\l05 P t (vals e) k K
    |false=>False
   |_=>False
  |_=>False
 | .build t ps=>match P.underlying t,O00 P t with
  |some (.struct u),some z=>match F06 P u.toList with
   |true=>j08 P u (rdG rs ch) ps.toList (vals z.cells.toList) λcs=>K (.agg cs)
   |false=>False
  |_,_=>False
 | .index t x i=>match rdG rs ch x,rdG rs ch i,P.underlying t with
  | .val (.string d),.val (.int _ j),some .string=>∃ e,imp ch c (0<=j/\d[j.toNat]?=some e)/\K (.val (.int .u8 e.toNat))
  |_,_,_=>False
 | .slice t x lo hi none=>match rdG rs ch x,P.underlying t with
  | .val (.string d),some .string=>match W05 0 (lo.map (rdG rs ch)),W05 d.size (hi.map (rdG rs ch))with
   |some l,some m=>imp ch c (0<=l/\l<=m/\m<=(d.size:Int))/\K (.val (.string (d.extract l.toNat m.toNat)))
   |_,_=>False
  | .val (.slice w n f),_=>match m01 P t with
   |some e=>match R5 P e with
    |some sz=>match W05 0 (lo.map (rdG rs ch)),W05 n (hi.map (rdG rs ch))with
     |some l,some m=>∃ v,imp ch c ((0<=l/\l<=m/\m<=(n:Int)/\n<=f)/\Y0l sz (.slice w n f) l.toNat m.toNat v)/\K (.val v)
     |_,_=>False
    |none=>False
   |none=>False
  |_,_=>False
 | .binOp .eql t x y yt=>match n05 (rdG rs ch x),n05 (rdG rs ch y)with
  |some (.agg xs),some (.agg s)=>∃ b,imp ch c (L0a P o x y (.agg xs) (.agg s) b)/\K (.val (.bool b))
  |some (.slice a n m),some (.slice none 0 0)=>∃ b,imp ch c (L0a P o x y (.slice a n m) (.slice none 0 0) b)/\K (.val (.bool b))
  |_,_=>v0i P o ch c rs K
 | .binOp .neq t x y yt=>match n05 (rdG rs ch x),n05 (rdG rs ch y)with
  |some (.agg xs),some (.agg s)=>∃ b,imp ch c (L0a P o x y (.agg xs) (.agg s) b)/\K (.val (.bool b))
  |_,_=>v0i P o ch c rs K
 | .binOp .add t x y yt=>match rdG rs ch x,rdG rs ch y with
  | .val (.string a),.val (.string b)=>imp ch c (a.size+b.size<=9223372036854775807)/\K (.val (.string (a++b)))
  |_,_=>v0i P o ch c rs K
 | .binOp .quo t x y yt=>match rdG rs ch x,rdG rs ch y with
  | .val (.int .i64 a),.val (.int .i64 b)=>imp ch c (b≠0)/\K (.val (.int .i64 (IntKind.i64.wrap (a.tdiv b))))
  |_,_=>v0i P o ch c rs K
 | .binOp .rem t x y yt=>match rdG rs ch x,rdG rs ch y with
  | .val (.int .i64 a),.val (.int .i64 b)=>imp ch c (b≠0)/\K (.val (.int .i64 (a.tmod b)))
  |_,_=>v0i P o ch c rs K
 | .call { callee := .builtin .len,args:=as,argTypes:=A }=>match as.toList,A.toList with
  | [x],[t]=>match rdG rs ch x with
   | .own i _=>match nth rs.st.ow i,m01 P t with
    |some ⟨_,.live _ _ _ _ xs⟩,some _=>K (.val (.int .i64 xs.length))
    |_,_=>False
   |_=>v0i P o ch c rs K
  |_,_=>False
 |_=>v0i P o ch c rs K
def l08(rs:RS)(d:Nat):Bool:=match o0e rs.gf d,M0a rs.bs d with
 |none,none=>false
 |_,_=>true
def K0j(i d:Nat)(ch:List (Nat×Bool))(av:AV)(bs:List BE):List BE:=match av with
 | .val (.bool e)=>⟨i,d,e,ch⟩::bs
 |_=>bs
def p0e(d:Option Tmp)(i:Nat)(ch:List (Nat×Bool))(av:AV)(rs:RS)(K:RS->Prop):Prop :=
 match d with
 |none=>K rs
 |some d=>match Nat.blt d rs.st.n,l08 rs d with
  |true,false=>match ch with
   | []=>K { rs with st := { rs.st with fr:=(d,av)::rs.st.fr },bs:=K0j i d ch av rs.bs }
   |_=>K { rs with st := { rs.st with fr:=(d,.dead)::rs.st.fr },gf:=(d,ch,av)::rs.gf,bs:=K0j i d ch av rs.bs }
  |_,_=>False
def a0m:Op->Bool
 | .pick ..=>true
 |_=>false
def d0d(P:Program):List Oper->Nat->RS->(RS->Prop)->Prop
 | [],_,rs,K=>K rs
 |o::r,i,rs,K=>match o.guard,a0m o.op with
  |none,false=>t8 P o rs.st rs.h λav st h=>p0e o.dst i [] av { rs with st:=st,h:=h } λrs=>d0d P r (i+1) rs K
  |_,_=>match s00 rs.bs o.guard with
   |some ch=>match cB rs.bs ch with
    |some c=>evG P o ch c rs λav=>p0e o.dst i ch av rs λrs=>d0d P r (i+1) rs K
    |none=>False
   |none=>False
def evQ(P:Program):List Oper->Nat->RS->(RS->Prop)->Prop
 | [],_,rs,K=>K rs
 |o::r,i,rs,K=>match s00 rs.bs o.guard with
  |some ch=>match cB rs.bs ch with
   |some c=>evG P o ch c rs λav=>p0e o.dst i ch av rs λrs=>evQ P r (i+1) rs K
   |none=>False
  |none=>False
def Sub(h h':Hp):Prop:=∀ b o,h b=some o->h' b=some o
def Y0p(v:Value)(K:Value->Prop):Prop:=match v with
 | .bool b=>K (.bool b)
 | .int k n=>K (.int k n)
 | .string s=>K (.string s)
 | .pointer a=>K (.pointer a)
 | .slice a n c=>K (.slice a n c)
 | .func f x y=>K (.func f x y)
 | .agg cs=>K (.agg cs)
 | .tuple vs=>K (.tuple vs)
 |v=>K v
theorem M0o(v:Value)(K:Value->Prop):Y0p v K=K v:=by cases v<;>rfl
def w8{a:Type}:List a->(List a->Prop)->Prop
 | [],K=>K []
 |x::r,K=>w8 r λr=>K (x::r)
theorem v02{a:Type}:∀(l:List a) (K:List a->Prop),w8 l K=K l
 | [],K=>rfl
 |x::r,K=>by simp only[w8,v02 r]
def o05:Nat->(Nat->Prop)->Prop
 |0,K=>K 0
 |n+1,K=>o05 n λm=>K (m+1)
theorem m08:∀(n:Nat) (K:Nat->Prop),o05 n K=K n
 |0,K=>rfl
 |n+1,K=>by simp only[o05,m08 n]
def t01(av:AV)(K:AV->Prop):Prop:=match av with
 | .val v=>Y0p v λv=>K (.val v)
 | .own i k=>K (.own i k)
 | .box i k=>K (.box i k)
 | .hel s i z k=>o05 z λz=>o05 k λk=>K (.hel s i z k)
 | .oel j s i z k=>o05 z λz=>o05 k λk=>K (.oel j s i z k)
 | .agg cs=>w8 cs λcs=>K (.agg cs)
 | .dead=>K .dead
theorem l03(av:AV)(K:AV->Prop):t01 av K=K av:=by
 cases av with
 |val v=>exact M0o v (λv=>K (.val v))
 |hel s i z k=>simp only[t01,m08]
 |oel j s i z k=>simp only[t01,m08]
 |agg cs=>simp only[t01,v02]
 |_=>rfl
inductive j6 where
 |pu (av:AV)
 |ef (F:Value->Hp->Prop)
def P3:List (Nat×j6)->Nat->Option j6
 | [],_=>none
 |(k,x)::r,s=>match Nat.beq k s with
  |true=>some x
  |false=>P3 r s
def rdS(L:List (Nat×j6))(st:St):Operand->AV
 | .tmp t=>match P3 L t with
  |some (.pu av)=>rdA st av
  |some (.ef _) => .dead
  |none=>rdA st (E3 st.fr t)
 |x=>rdO st x
def q0e(P:Program)(t:TypeId)(cs:List F5)(off:Nat):Option AV :=
 match q0i P t with
 |some true=>match R5 P t with
  |some n=>match q07 ((cs.drop off).take n) n with
   |true=>some (.agg ((cs.drop off).take n))
   |false=>none
  |none=>none
 |some false=>match nth cs off with
  |some c=>some (ofCell c)
  |none=>none
 |none=>none
def b0m(P:Program)(L:List (Nat×j6))(o:Oper)(st:St):Option AV:=match o.op with
 | .move x | .assign x=>match rdS L st x with
  | .dead=>none
  |a=>some a
 | .load t x=>match rdS L st x with
  | .box i off=>match nth st.bx i with
   |some (.live cs _)=>q0e P t cs off
   |_=>none
  |_=>none
 |_=>none
def r0e(L:List (Nat×j6))(st:St)(h:Hp):List Operand->List (Nat×AV)->(List (Nat×AV)->Prop)->Prop
 | [],acc,K=>K acc
 | .tmp t::r,acc,K=>match P3 L t with
  |some (.pu av)=>r0e L st h r ((t,av)::acc) K
  |some (.ef F)=>∀ v,F v h->r0e L st h r ((t,.val v)::acc) K
  |none=>r0e L st h r ((t,E3 st.fr t)::acc) K
 |_::r,acc,K=>r0e L st h r acc K
def r07(d:Option Tmp)(f:j6)(L:List (Nat×j6)):List (Nat×j6):=match d with
 |some d=>(d,f)::L
 |none=>L
def f0u(st:St)(h:Hp)(F:Value->Hp->Prop):AV->St->Hp->Prop
 | .val v,st',h'=>st'=st/\Sub h h'/\F v h'
 |_,_,_=>False
def j8(i:Nat)(o:Oper):Bool:=o.after.toList.any λe=>Region.binds .any e&&Nat.beq e.on i
def w02(o:Oper)(t:Nat):List Oper->Nat->Bool
 | [],_=>true
 |x::r,i=>match x.dst with
  |some d=>match Nat.beq d t with
   |true=>j8 i o&&w02 o t r (i+1)
   |false=>w02 o t r (i+1)
  |none=>w02 o t r (i+1)
def N0a(o:Oper)(ops:List Oper):List Operand->Bool
 | []=>true
 | .tmp t::r=>w02 o t ops 0&&N0a o ops r
 |_::r=>N0a o ops r
def n08(d:Nat):List Oper->Bool
 | []=>true
 |o::r=>match o.dst with
  |some a => !Nat.beq d a&&n08 d r
  |none=>n08 d r
def L0j(n:Nat):List Oper->Bool
 | []=>true
 |o::r=>match o.dst with
  |some d=>Nat.blt d n&&n08 d r&&L0j n r
  |none=>L0j n r
def e0d:List Oper->Nat->Bool
 | [],_=>true
 |o::r,j=>(o.after.toList.all λe => !Region.binds .any e || Nat.blt e.on j)&&e0d r (j+1)
def l0n(ops:List Oper):List Oper->Bool
 | []=>true
 |o::r=>N0a o ops o.op.operands.toList&&l0n ops r
def W02(n:Nat)(ops:List Oper):Bool:=L0j n ops&&e0d ops 0&&l0n ops ops
def m0n:List F5->Bool
 | []=>true
 | .val _::r=>m0n r
 | .own _ _::_=>false
def w0i:AV->Bool
 | .val _=>true
 | .box _ _=>true
 | .own _ _=>true
 | .agg cs=>m0n cs
 |_=>false
def u06(L:List (Nat×j6))(st:St):Operand->AV
 | .tmp t=>match P3 L t with
  |some (.pu av)=>av
  |some (.ef _) => .dead
  |none=>E3 st.fr t
 | .const v => .val v
 |_ => .dead
def f0d(L:List (Nat×j6))(st:St):List Operand->Option (List (Nat×Value))
 | []=>some []
 | .tmp t::r=>match u06 L st (.tmp t)with
  | .val v=>match f0d L st r with
   |some vs=>some ((t,v)::vs)
   |none=>none
  |_=>none
 | .global _::_=>none
 |_::r=>f0d L st r
def c0m(P:Program)(L:List (Nat×j6))(o:Oper)(st:St):Option AV:=match I0a o.op,f0d L st o.op.operands.toList with
 |false,some vs=>match g08 (rho vs) o with
  |some _=>none
  |none=>match evP P (Q0g (rho vs) o)with
   |some (.value v)=>some (.val v)
   |_=>none
 |_,_=>none
def g0u:AV->Bool
 | .val (.int _ _)=>true
 |_=>false
def A0u:BinOp->Bool
 | .lss=>true
 | .leq=>true
 | .gtr=>true
 | .geq=>true
 | .eql=>true
 | .neq=>true
 | .add=>true
 | .sub=>true
 | .mul=>true
 |_=>false
def I09(P:Program)(L:List (Nat×j6))(o:Oper)(st:St):Option AV:=match o.op with
 | .move x=>match w0i (u06 L st x)with
  |true=>some (u06 L st x)
  |false=>none
 | .assign x=>match w0i (u06 L st x)with
  |true=>some (u06 L st x)
  |false=>none
 | .load t x=>match u06 L st x with
  | .box i off=>match nth st.bx i with
   |some (.live cs _)=>match q0e P t cs off with
    |some av=>match w0i av with
     |true=>some av
     |false=>none
    |none=>none
   |_=>none
  |_=>none
 | .fieldAddr t x k=>match u06 L st x,r0i P t k with
  | .box i off,some a=>some (.box i (off+a))
  |_,_=>none
 | .binOp op _ x y _=>match A0u op,g0u (u06 L st x),g0u (u06 L st y)with
  |true,true,true=>c0m P L o st
  |_,_,_=>none
 | .call { callee := .builtin .len,args:=as,argTypes:=_ }=>match as.toList with
  | [x]=>match u06 L st x with
   | .val (.slice _ _ _)=>c0m P L o st
   |_=>none
  |_=>none
 |_=>none
def T9(L:List (Nat×j6))(st:St):List Oper->List Nat
 | []=>[]
 |o::r=>match o.op with
  | .load _ x=>match u06 L st x with
   | .box i _=>i::T9 L st r
   |_=>T9 L st r
  |_=>T9 L st r
def J09(bx:List BSt):List Nat->List (Option BSt)
 | []=>[]
 |i::r=>nth bx i::J09 bx r
def R04(L:List (Nat×j6))(a:List (Nat×AV)):List Operand->List (Nat×AV)->(List (Nat×AV)->Prop)->Prop
 | [],acc,K=>K acc
 | .tmp t::r,acc,K=>match P3 L t with
  |some (.pu av)=>R04 L a r ((t,av)::acc) K
  |some (.ef _)=>R04 L a r ((t,.dead)::acc) K
  |none=>R04 L a r ((t,E3 a t)::acc) K
 |_::r,acc,K=>R04 L a r acc K
def M0j:List (Nat×j6)->List (Nat×AV)->List (Nat×AV)
 | [],fr=>fr
 |(d,.pu av)::r,fr=>(d,av)::M0j r fr
 |(d,.ef _)::r,fr=>(d,.dead)::M0j r fr
def n0n(av:AV)(st:St)(h:Hp):AV->St->Hp->Prop:=λa st' h'=>a=av/\st'=st/\h'=h
def N0j(P:Program)(st:St)(h:Hp)(L:List (Nat×j6))(o:Oper)(av:AV):Prop :=
 match st with
 |⟨n,fr,bx,ow⟩=>∀ h',Sub h h'->R04 L fr o.op.operands.toList [] λfr=>t8 P o ⟨n,fr,bx,ow⟩ h' (n0n av ⟨n,fr,bx,ow⟩ h')
def c04(P:Program)(st:St)(h:Hp):List Oper->Nat->List (Nat×j6)->List (Nat×Oper)->List (Nat×Oper)->(List (Nat×j6)->List (Nat×Oper)->List (Nat×Oper)->Prop)->Prop
 | [],_,L,X,E,K=>K L X E
 |o::r,i,L,X,E,K=>match o.guard with
  |some _=>False
  |none=>match I09 P L o st with
   |some av=>t01 av λav=>c04 P st h r (i+1) (r07 o.dst (.pu av) L) X E K
   |none=>(∃ av,N0j P st h L o av/\t01 av λav=>c04 P st h r (i+1) (r07 o.dst (.pu av) L) (X ++ [(i,o)]) E K) ∨
     c04 P st h r (i+1) (r07 o.dst (.ef λ_ _=>True) L) X (E ++ [(i,o)]) K
def x0i(X:List (Nat×Oper)):Nat->Nat->Oper->Bool
 |0,i,q=>j8 i q
 |n+1,i,q=>j8 i q || X.any λy=>j8 y.1 q&&x0i X n i y.2
def s0e(X Y:List (Nat×Oper)):List (Nat×Oper)->Bool
 | []=>true
 |(_,q)::_=>X.all λx=>x0i Y 8 x.1 q
def p05:List (Nat×Oper)->Bool
 |(i,o)::(j,a)::r=>j8 i a&&p05 ((j,a)::r)
 |_=>true
def o08:Nat->Nat->Oper->Bool
 |0,_,_=>true
 |k+1,i,o=>(Nat.beq k i || j8 k o)&&o08 k i o
def p08(d:Nat):List Operand->Bool
 | []=>false
 | .tmp t::r=>Nat.beq t d || p08 d r
 |_::r=>p08 d r
def t0e(d:Nat):List Oper->Bool
 | []=>false
 |o::r=>p08 d o.op.operands.toList || t0e d r
def n01:List Oper->List Oper
 | []=>[]
 |o::r=>match r with
  | []=>[]
  |_::_=>o::n01 r
def u0e:List Oper->Option Oper
 | []=>none
 |o::r=>match r with
  | []=>some o
  |_::_=>u0e r
def Z0p(ops:List Oper):Option Oper:=match u0e ops with
 |some o=>match o.guard,o.dst with
  |none,some d=>match t0e d (n01 ops)&&o08 (n01 ops).length (n01 ops).length o with
   |true=>some o
   |false=>none
  |_,_=>none
 |none=>none
def v04(P:Program)(o:Oper)(st:St)(h:Hp)(K:St->Hp->Prop):Prop :=
 t8 P o st h λav st h=>p0e o.dst 0 [] av ⟨st,h,[],[]⟩ λrs=>K rs.st rs.h
def inK(k:Nat):List Nat->Bool
 | []=>false
 |x::r=>Nat.beq k x || inK k r
def q08(es:List Nat):Nat->Nat->Oper->Bool
 |0,_,_=>true
 |k+1,i,o=>((Nat.beq k i || j8 k o) || inK k es)&&q08 es k i o
def D09:List (Nat×Oper)->List Nat
 | []=>[]
 |x::r=>x.1::D09 r
def O0a(N:Nat×List Nat)(i:Nat)(o:Oper):Bool:=q08 N.2 N.1 i o
def R0g(c:Nat)(b:Bool)(rd:List Nat)(bx a:List BSt):Prop:=match b with
 |true=>True
 |false=>match c with
  |0=>J09 a rd=J09 bx rd
  |_+1=>a=bx
def b0c:Nat->List Own->List Own->Hp->Hp->Prop
 |0,_,_,_,_=>True
 |_+1,ow,a,h,h'=>a=ow/\Sub h h'
def evC(rd:List Nat)(N:Nat×List Nat)(P:Program):Nat->List (Nat×Oper)->List (Nat×j6)->St->Hp->(St->Hp->Prop)->Prop
 |_,[],L,⟨n,fr,bx,ow⟩,h,K=>w8 (M0j L fr) λfr=>K ⟨n,fr,bx,ow⟩ h
 |c,(i,o)::r,L,⟨n,fr,bx,ow⟩,h,K=>R04 L fr o.op.operands.toList [] λd=>t8 P o ⟨n,d,bx,ow⟩ h λav st' h'=>match st' with
  |⟨_,_,a,b⟩=>b0c c ow b h h'/\R0g c (O0a N i o) rd bx a/\t01 av λav=>w8 a λa=>w8 b λb=>evC rd N P (c-1) r (r07 o.dst (.pu av) L) ⟨n,fr,a,b⟩ h' K
def M0r(f:Nat×Oper)(rd:List Nat)(N:Nat×List Nat)(P:Program):Nat->List (Nat×Oper)->List (Nat×j6)->St->Hp->(St->Hp->Prop)->Prop
 |0,E,L,st,h,K=>evC rd N P 0 (f::E) L st h K
 |p+1,E,L,st,h,K=>evC rd N P 0 (f::E) L st h K/\match E with
  | []=>False
  |(i,o)::r=>match st with
   |⟨n,fr,bx,ow⟩=>R04 L fr o.op.operands.toList [] λc=>t8 P o ⟨n,c,bx,ow⟩ h λav st' h'=>match st' with
    |⟨_,_,a,b⟩=>b0c 0 ow b h h'/\R0g 0 (O0a N i o) rd bx a/\t01 av λav=>w8 a λa=>w8 b λb=>M0r f rd N P p r (r07 o.dst (.pu av) L) ⟨n,fr,a,b⟩ h' K
def N0o(f:Nat×Oper):Nat->List (Nat×Oper)->Bool
 |_,[]=>false
 |0,(_,q)::_=>j8 f.1 q
 |p+1,_::r=>N0o f p r
def S0g:Nat->List (Nat×Oper)->Option ((Nat×Oper)×List (Nat×Oper))
 |_,[]=>none
 |0,x::r=>some (x,r)
 |k+1,x::r=>match S0g k r with
  |some (f,a)=>some (f,x::a)
  |none=>none
def noX:List (Nat×Oper)->Bool
 | []=>true
 |_::_=>false
def c0c:List (Nat×Oper)->List (Nat×Oper)->List ((Nat×Oper)×List (Nat×Oper))
 |_,[]=>[]
 |A,x::B=>(x,A++B)::c0c (A ++ [x]) B
def y0i(x:Nat×Oper):List (Nat×Oper)->Bool
 | []=>true
 |y::r => !j8 y.1 x.2&&y0i x r
def d0m(f:(Nat×Oper)->List (Nat×Oper)->Prop):List ((Nat×Oper)×List (Nat×Oper))->Prop
 | []=>True
 |p::l=>match y0i p.1 p.2 with
  |true=>f p.1 p.2/\d0m f l
  |false=>d0m f l
def O0j(rd:List Nat)(N:Nat×List Nat)(P:Program):Nat->List (Nat×Oper)->List (Nat×j6)->St->Hp->(St->Hp->Prop)->Prop
 |0,_,L,⟨n,fr,bx,ow⟩,h,K=>w8 (M0j L fr) λfr=>K ⟨n,fr,bx,ow⟩ h
 |m+1,E,L,⟨n,fr,bx,ow⟩,h,K=>d0m (λx r=>R04 L fr x.2.op.operands.toList [] λc=>t8 P x.2 ⟨n,c,bx,ow⟩ h λav st' h'=>match st' with
  |⟨_,_,a,b⟩=>b0c 0 ow b h h'/\R0g 0 (O0a N x.1 x.2) rd bx a/\t01 av λav=>w8 a λa=>w8 b λb=>O0j rd N P m r (r07 x.2.dst (.pu av) L) ⟨n,fr,a,b⟩ h' K) (c0c [] E)
def C0g:List (Nat×Oper)->Nat
 | []=>0
 |_::r=>C0g r+1
def evD(rd:List Nat)(N:Nat)(P:Program)(X E:List (Nat×Oper))(L:List (Nat×j6))(st:St)(h:Hp)(K:St->Hp->Prop):Prop :=
 (∃ c,(p05 E=true/\s0e X (X++E) (E.drop c)=true)/\evC rd (N,D09 E) P c E L st h K) ∨
 (∃ k p,match S0g k E with
  |some (f,E')=>(noX X=true/\p05 E'=true/\N0o f p E'=true)/\M0r f rd (N,D09 E) P p E' L st h K
  |none=>noX X=true/\O0j rd (N,D09 E) P (C0g E) E L st h K)
abbrev FL:=List (Nat×List (Nat×Bool)×j6)
def W03:FL->Nat->Option (List (Nat×Bool)×j6)
 | [],_=>none
 |(k,x)::r,s=>match Nat.beq k s with
  |true=>some x
  |false=>W03 r s
def rdU(L:FL)(st:St)(ch:List (Nat×Bool)):Operand->AV
 | .tmp t=>match W03 L t with
  |some (a,.pu av)=>match I0j a ch with
   |true=>rdA st av
   |false => .dead
  |some (_,.ef _) => .dead
  |none=>rdA st (E3 st.fr t)
 |x=>rdO st x
def K09(P:Program)(L:FL)(bs:List BE)(ch:List (Nat×Bool))(o:Oper)(st:St):Option AV:=match o.op with
 | .move x | .assign x=>match rdU L st ch x with
  | .dead=>none
  |a=>some a
 | .load t x=>match rdU L st ch x with
  | .box i off=>match nth st.bx i with
   |some (.live cs _)=>q0e P t cs off
   |_=>none
  |_=>none
 | .fieldAddr t x k=>match rdU L st ch x,r0i P t k with
  | .box i off,some d=>some (.box i (off+d))
  | .hel c i sz k,some d=>some (.hel c i sz (k+d))
  |_,_=>none
 | .pick (.tmp c) a b=>match rdU L st ch (.tmp c),M0a bs c with
  | .val (.bool e),some q=>match I0j q.ch ch with
   |true=>match rdU L st ((q.j,true)::q.ch) a,rdU L st ((q.j,false)::q.ch) b with
    | .val (.bool x),.val (.bool y)=>some (.val (.bool (cond e x y)))
    |_,_=>none
   |false=>none
  |_,_=>none
 |_=>none
def T07(L:FL)(st:St)(h:Hp)(ch:List (Nat×Bool)):List Operand->List (Nat×AV)->(List (Nat×AV)->Prop)->Prop
 | [],acc,K=>K acc
 | .tmp t::r,acc,K=>match W03 L t with
  |some (a,f)=>match I0j a ch with
   |true=>match f with
    | .pu av=>T07 L st h ch r ((t,av)::acc) K
    | .ef F=>∀ v,F v h->T07 L st h ch r ((t,.val v)::acc) K
   |false=>False
  |none=>T07 L st h ch r ((t,E3 st.fr t)::acc) K
 |_::r,acc,K=>T07 L st h ch r acc K
def D0g(h:Hp):FL->List (Nat×AV)->(List (Nat×AV)->Prop)->Prop
 | [],fr,K=>K fr
 |(d,[],.pu av)::r,fr,K=>D0g h r ((d,av)::fr) K
 |(d,[],.ef F)::r,fr,K=>∀ v,F v h->D0g h r ((d,.val v)::fr) K
 |(d,_::_,_)::r,fr,K=>D0g h r ((d,.dead)::fr) K
def z0i(d:Option Tmp)(ch:List (Nat×Bool))(f:j6)(L:FL):FL:=match d with
 |some d=>(d,ch,f)::L
 |none=>L
def A0i(i:Nat)(d:Option Tmp)(ch:List (Nat×Bool))(av:AV)(bs:List BE):List BE:=match d with
 |some d=>match av with
  | .val (.bool e)=>⟨i,d,e,ch⟩::bs
  |_=>bs
 |none=>bs
def e0m(st st':St):Prop:=st'.n=st.n/\st'.fr=st.fr/\st'.bx=st.bx/\∃ t,st'.ow=st.ow++t
def a0q(st:St)(h:Hp)(F:Value->Hp->Prop):AV->St->Hp->Prop:=λav st' h'=>rfy av st' h' λv b a=>e0m st b/\Sub h a/\F v a
def b0q(P:Program)(t n:Nat)(st:St)(h:Hp)(K:AV->St->Hp->Prop):Prop :=
 match m01 P t with
 |some e=>match R5 P e,Nat.beq n 0 with
  |some (_+1),true=>∀ g,h g=none->K (.val (.slice (some ⟨g,0,none⟩) 0 0)) st (h.set g (.cells #[] e (0,0)))
  |_,_=>False
 |none=>False
def c0q(P:Program)(t:TypeId)(a b:Operand)(st:St)(h:Hp)(K:AV->St->Hp->Prop):Prop :=
 match m01 P t with
 |some e=>match R5 P e,g0a P e,O00 P e with
  |some (sz+1),some (by_+1),some z=>match q07 z.cells.toList (sz+1)with
   |true=>match rdO st a with
    | .val (.slice (some ⟨g,o,none⟩) 0 0)=>l0e st h (sz+1) (rdO st b) λc=>G06 c.length (by_+1) /\
      ((c = []->K (.val (.slice (some ⟨g,o,none⟩) 0 0)) st h)/\∀ v h',E1 h h' v e (sz+1) true c->K (.val v) st h')
    |_=>False
   |false=>False
  |_,_,_=>False
 |none=>False
def P0j(P:Program)(o:Oper)(st:St)(h:Hp)(K:AV->St->Hp->Prop):Prop :=
 match o.op with
 | .buildSlice t n ps=>match ps.toList with
  | []=>b0q P t n st h K
  |_::_=>t8 P o st h K
 | .call { callee := .builtin .append,args:=as,argTypes:=d }=>match as.toList,d.toList with
  | [a,b],[t,c]=>match Nat.beq t c with
   |true=>c0q P t a b st h K
   |false=>False
  |_,_=>False
 |_=>t8 P o st h K
def evU(P:Program)(l:List Oper):Nat->FL->List BE->St->Hp->(St->Hp->Prop)->Prop :=
  List.rec (motive:=λ_=>Nat->FL->List BE->St->Hp->(St->Hp->Prop)->Prop)
    (λ_ L _ st h K=>match st with
      |⟨n,fr,bx,ow⟩=>∀ h',Sub h h'->D0g h' L fr λfr=>K ⟨n,fr,bx,ow⟩ h')
    (λo _ a i L bs st h K=>match st with
      |⟨n,fr,bx,ow⟩=>match s00 bs o.guard with
        |some ch=>match cB bs ch with
          |some c=>match K09 P L bs ch o ⟨n,fr,bx,ow⟩with
            |some av=>t01 av λav=>a (i+1) (z0i o.dst ch (.pu av) L) (A0i i o.dst ch av bs) ⟨n,fr,bx,ow⟩ h K
            |none=>(∃ av,(∀ h',Sub h h'->imp ch c (T07 L ⟨n,fr,bx,ow⟩ h' ch o.op.operands.toList [] λfr=>t8 P o ⟨n,fr,bx,ow⟩ h' (n0n av ⟨n,fr,bx,ow⟩ h'))) /\
                  t01 av λav=>a (i+1) (z0i o.dst ch (.pu av) L) (A0i i o.dst ch av bs) ⟨n,fr,bx,ow⟩ h K) ∨
                (∃ F:Value->Hp->Prop,(∀ v b d,Sub b d->F v b->F v d) /\
                  (∀ h',Sub h h'->imp ch c (T07 L ⟨n,fr,bx,ow⟩ h' ch o.op.operands.toList [] λfr=>P0j P o ⟨n,fr,bx,ow⟩ h' (a0q ⟨n,fr,bx,ow⟩ h' F))) /\
                  a (i+1) (z0i o.dst ch (.ef F) L) bs ⟨n,fr,bx,ow⟩ h K)
          |none=>False
        |none=>False) l
def c0e:List Oper->Bool
 | []=>true
 |o::r=>(match o.guard with
  |some (j,_)=>j8 j o
  |none=>true)&&c0e r
def o04(n:Nat)(ops:List Oper):Bool:=W02 n ops&&c0e ops
def N0r(P:Program):List Oper->Bool
 | []=>false
 |o::r=>(match o.guard,o.op with
  |some _,.call { callee := .value _,args:=_,argTypes:=_ }=>match P.underlying o.type with
   |some (.slice _)=>true
   |some (.struct _)=>true
   |some (.tuple _)=>true
   |_=>false
  |_,_=>false) || N0r P r
def q05(o:Oper):Bool:=match o.op with
 | .alloc _=>true
 |_=>false
def z00(o:Oper):Oper:=match o.op with
 | .alloc _ => { o with op := .move (.const undef) }
 |_=>o
def T5:List Oper->List Oper
 | []=>[]
 |o::r=>z00 o::T5 r
def okA(P:Program)(all:List Oper):List Oper->Bool
 | []=>true
 |o::r=>(match o.op with
  | .alloc t=>(match o.guard,o.dst,O00 P t with
   |none,some d,some _ => !t0e d all
   |_,_,_=>false)
  |_=>true)&&okA P all r
def f0m(x:Nat):List Nat->Bool
 | []=>false
 |y::r=>Nat.beq x y || f0m x r
def g0m(ops:List Oper)(i:Nat):List Nat->Bool
 | []=>false
 |j::r=>(match nth ops j with
  |some o=>j8 i o
  |none=>false) || g0m ops i r
def T0g(ops:List Oper):Nat->List Nat->List Nat
 |0,acc=>acc
 |i+1,acc=>match g0m ops i acc with
  |true=>T0g ops i (i::acc)
  |false=>T0g ops i acc
def d0c:Operand->List Nat
 | .tmp t=>[t]
 |_=>[]
def L09(o:Oper):Option (List Nat):=match o.guard with
 |some _=>none
 |none=>match o.op with
  | .extract x _=>some (d0c x)
  | .move x=>some (d0c x)
  | .assign x=>some (d0c x)
  | .pick c x y=>some (d0c c++(d0c x++d0c y))
  |_=>none
def M09(d:Nat):List Oper->Bool
 | []=>false
 |o::r=>(match o.dst with
  |some e=>Nat.beq e d
  |none=>false) || M09 d r
def r05(a:List Nat)(t:Nat):List Oper->Nat->Bool
 | [],_=>true
 |o::r,i=>(match o.dst with
  |some e => !Nat.beq e t || f0m i a
  |none=>true)&&r05 a t r (i+1)
def I06(i d:Nat):List Oper->Bool
 | []=>true
 |o::r=>(!p08 d o.op.operands.toList || j8 i o)&&I06 i d r
def o0n(b c:List Oper)(a:List Nat):List Nat->Bool
 | []=>true
 |t::r=>(!M09 t c&&r05 a t b 0)&&o0n b c a r
def p0n(c a:List Oper)(b:List Nat)(i:Nat)(o:Oper):Bool:=match L09 o,o.dst with
 |some e,some d => !M09 d a&&o0n c a b e&&I06 i d a
 |_,_=>false
def d0e(b c:List Oper)(a:List Nat):List Oper->Nat->Bool
 | [],_=>true
 |o::r,i=>(f0m i a || p0n b c a i o)&&d0e b c a r (i+1)
def Q0j:List Oper->Bool
 | []=>true
 |o::r => !I0a o.op&&Q0j r
def d0q:Nat->List Oper->Bool
 |_,[]=>true
 |k,o::r=>(match o.guard with
  |none=>true
  |some _=>false)&&(match r with
  | []=>true
  |o'::_=>j8 k o')&&d0q (k+1) r
def h0u:List Oper->Bool
 | []=>true
 |_::_=>false
def okZ(P:Program)(n m:Nat)(ops:List Oper):Bool :=
 o04 n (T5 (ops.take m))&&okA P (ops.take m) (ops.take m)&&e0d ops 0&&d0q m (ops.drop m)&&(h0u (ops.drop m) || (d0e (ops.take m) (ops.drop m) (T0g ops m [m]) (ops.take m) 0&&Q0j (ops.drop m)))
abbrev l0t:=Oper->St->Hp->(St->Hp->Prop)->Prop
def doA(R:l0t)(l:List Oper):St->Hp->(St->Hp->Prop)->Prop :=
 List.rec (motive:=λ_=>St->Hp->(St->Hp->Prop)->Prop) (λst h K=>K st h) (λo _ a st h K=>match q05 o with
  |true=>R o st h λst h=>a st h K
  |false=>a st h K) l
def doT(R:l0t)(l:List Oper):St->Hp->(St->Hp->Prop)->Prop :=
 List.rec (motive:=λ_=>St->Hp->(St->Hp->Prop)->Prop) (λst h K=>K st h) (λo _ a st h K=>R o st h λst h=>a st h K) l
def evT(P:Program)(R:l0t)(m:Nat)(ops:List Oper)(st:St)(h:Hp)(K:St->Hp->Prop):Prop :=
 evU P (T5 (ops.take m)) 0 [] [] st h λst h=>doA R (ops.take m) st h λst h=>doT R (ops.drop m) st h K
inductive Ex where
 |normal|ret
 |exit (i:Nat)
structure Ann where
 vars:List Nat
 boxes:List Nat
 owns:List Nat
 nils:List (Nat×Nat×Nat×Nat):=[]
 nilsB:List (Nat×Nat×Nat×Nat×Nat):=[]
 kept:List Nat:=[]
 fuel:Bool:=false
 pubs:List Nat:=[]
def R0j:List (Nat×Nat×Nat×Nat)->St->(St->Prop)->Prop
 | [],st,K=>K st
 |(s,e,sz,by_)::r,⟨n,fr,bx,ow⟩,K=>match rdA ⟨n,fr,bx,ow⟩ (E3 fr s),Nat.blt s n with
  | .val (.slice none 0 0),true=>V0l ow λk=>R0j r ⟨n,(s,.own k 0)::fr,bx,ow ++ [⟨0,.live e sz by_ false []⟩]⟩ K
  |_,_=>False
def v0e:List (Nat×Nat×Nat×Nat×Nat)->St->(St->Prop)->Prop
 | [],st,K=>K st
 |(i,k,e,sz,by_)::r,⟨n,fr,bx,ow⟩,K=>match nth bx i with
  |some (.live cs ty)=>match nth cs k with
   |some (.val (.slice none 0 0))=>V0l ow λj=>v0e r ⟨n,fr,F00 bx i (.live (F00 cs k (.own j 0)) ty),ow ++ [⟨0,.live e sz by_ false []⟩]⟩ K
   |_=>False
  |_=>False
def S0j:List Nat->St->Hp->(St->Hp->Prop)->Prop
 | [],st,h,K=>K st h
 |s::r,st,h,K=>rfy (rdA st (E3 st.fr s)) st h λv st h=>match st with
  |⟨n,fr,bx,ow⟩=>match Nat.blt s n with
   |true=>S0j r ⟨n,(s,.val v)::fr,bx,ow⟩ h K
   |false=>False
def E09(x:Nat):List Nat->Bool
 | []=>false
 |y::r=>match Nat.beq x y with
  |true=>true
  |false=>E09 x r
def m0t:List Oper->List Nat->List Nat
 | [],acc=>acc
 |o::r,acc=>match o.dst with
  |some d=>m0t r (d::acc)
  |none=>m0t r acc
def E0g:Code->List Nat->List Nat
 | .region _ ops _,acc=>m0t ops.toList acc
 | .seq a b,acc=>E0g a (E0g b acc)
 | .cond _ a b,acc=>E0g a (E0g b acc)
 | .block _ a,acc=>E0g a acc
 | .loop a,acc=>E0g a acc
 | .scope a,acc=>E0g a acc
 |_,acc=>acc
def e0c:List Nat->(List Nat->Prop)->Prop
 | [],K=>K []
 |x::r,K=>e0c r λr=>K (x::r)
def O0r:List Nat->St->(List Value->Prop)->Prop
 | [],_,K=>K []
 |s::r,st,K=>match rdA st (E3 st.fr s)with
  | .val v=>O0r r st λvs=>K (v::vs)
  |_=>False
def T0j:List F5->St->(List Value->Prop)->Prop
 | [],_,K=>K []
 | .val v::r,st,K=>T0j r st λvs=>K (v::vs)
 | .own _ _::r,st,K=>T0j r st K
def w0e:List Nat->St->(List Value->Prop)->Prop
 | [],_,K=>K []
 |i::r,st,K=>match nth st.bx i with
  |some (.live cs _)=>T0j cs st λvs=>w0e r st λws=>K (vs++ws)
  |_=>False
def U0g:List Nat->St->(List (List (List Value))->Prop)->Prop
 | [],_,K=>K []
 |i::r,st,K=>match nth st.ow i with
  |some ⟨_,.live _ _ _ _ xs⟩=>U0g r st λos=>K (xs::os)
  |_=>False
def h0m(A:Ann)(st:St)(K:List Value->List (List (List Value))->Prop):Prop :=
 O0r A.vars st λvs=>w0e A.boxes st λws=>U0g A.owns st λos=>K (vs++ws) os
def p04:List F5->List Value->(List F5->List Value->Prop)->Prop
 | [],vs,K=>K [] vs
 | .val _::r,v::vs,K=>p04 r vs λcs a=>K (.val v::cs) a
 | .val _::_,[],_=>False
 | .own i k::r,vs,K=>p04 r vs λcs a=>K (.own i k::cs) a
def J06:List Nat->List Value->List BSt->(List BSt->Prop)->Prop
 | [],_,bx,K=>K bx
 |i::r,vs,bx,K=>match nth bx i with
  |some (.live cs ty)=>p04 cs vs λcs a=>J06 r a (F00 bx i (.live cs ty)) K
  |_=>False
def K06:List Nat->List (List (List Value))->List Own->(List Own->Prop)->Prop
 | [],_,ow,K=>K ow
 |i::r,xs::os,ow,K=>match nth ow i with
  |some ⟨s,.live e sz by_ nn _⟩=>K06 r os (F00 ow i ⟨s,.live e sz by_ nn xs⟩) K
  |_=>False
 |_::_,[],_,_=>False
def r08{c:Type}:Nat->List c->(List c->List c->Prop)->Prop
 |0,l,K=>K [] l
 |n+1,x::l,K=>r08 n l λa b=>K (x::a) b
 |_+1,[],_=>False
def N09(A:Ann)(st:St):List Nat->List (Nat×AV)->(List (Nat×AV)->Prop)->Prop
 | [],acc,K=>K acc
 |s::r,acc,K=>match E09 s A.vars with
  |true=>N09 A st r acc K
  |false=>match rdA st (E3 st.fr s)with
   | .own i k=>N09 A st r ((s,.own i k)::acc) K
   | .box i o=>N09 A st r ((s,.box i o)::acc) K
   |_=>N09 A st r ((s,.dead)::acc) K
def q0n:List F5->Bool
 | []=>true
 | .val _::r=>q0n r
 | .own _ _::_=>false
def L06(A:Ann)(ds:List Nat)(st:St):List (Nat×AV)->(List (Nat×AV)->Prop)->Prop
 | [],K=>K []
 |(s,av)::r,K=>match E09 s ds with
  |true=>L06 A ds st r K
  |false=>match rdA st av with
   | .own i k=>match E09 i A.owns,E09 i A.kept with
    |true,false=>L06 A (s::ds) st r λl=>K ((s,.dead)::l)
    |_,_=>L06 A (s::ds) st r λl=>K ((s,.own i k)::l)
   | .oel _ _ _ _ _=>L06 A (s::ds) st r λl=>K ((s,.dead)::l)
   | .agg cs=>match q0n cs with
    |true=>L06 A (s::ds) st r λl=>K ((s,.agg cs)::l)
    |false=>L06 A (s::ds) st r λl=>K ((s,.dead)::l)
   |a=>L06 A (s::ds) st r λl=>K ((s,a)::l)
def f0c:List Nat->List Value->List (Nat×AV)->List (Nat×AV)
 |s::r,v::vs,acc=>f0c r vs ((s,.val v)::acc)
 |_,_,acc=>acc
def g0d(b a:St):List (Nat×AV)->Bool
 | []=>true
 |(c,av)::r=>match av with
  | .own i _=>match rdA a (E3 a.fr c)with
   | .own j _=>match Nat.beq i j with
    |true=>g0d b a r
    |false=>false
   |_=>false
  | .box i o=>match rdA a (E3 a.fr c)with
   | .box j p=>match Nat.beq i j,Nat.beq o p with
    |true,true=>g0d b a r
    |_,_=>false
   |_=>false
  |_=>g0d b a r
def i0m:AV->Bool
 | .dead=>true
 |_=>false
def O0o:List (Nat×AV)->List AV
 | []=>[]
 |(_,av)::r=>match i0m av with
  |true=>O0o r
  |false=>av::O0o r
def V0g(fr:List (Nat×AV)):List (Nat×AV)->List AV
 | []=>[]
 |(s,av)::r=>match i0m av with
  |true=>V0g fr r
  |false=>E3 fr s::V0g fr r
def M06(c a:St):List F5->List F5->Bool
 | [],[]=>true
 | .val _::r,.val _::b=>M06 c a r b
 | .own i _::r,.own j d::b=>match Nat.beq i j,rdA a (.own j d)with
  |true,.own _ _=>M06 c a r b
  |_,_=>false
 |_,_=>false
def P0a(os:List Nat):List F5->Bool
 | []=>true
 | .val _::r=>P0a os r
 | .own i _::r=>match E09 i os with
  |true=>false
  |false=>P0a os r
def j0m(os:List Nat):BSt->Bool
 | .live cs _=>P0a os cs
 | .publ _=>true
def g0c(A:Ann)(c a:St):Nat->List BSt->List BSt->Prop
 |_,[],_=>True
 |i,b::r,d::e=>match E09 i A.boxes with
  |true=>match b,d with
   | .live cs ty,.live cs' f=>match Nat.beq ty f,M06 c a cs cs' with
    |true,true=>g0c A c a (i+1) r e
    |_,_=>False
   |_,_=>False
  |false=>match j0m A.owns b with
   |true=>d=b/\g0c A c a (i+1) r e
   |false=>False
 |_,_::_,[]=>False
def leB(a b:Bool):Bool:=match a with
 |true=>b
 |false=>true
def h0c(A:Ann):Nat->List Own->List Own->Prop
 |_,[],_=>True
 |i,b::r,a::c=>match E09 i A.owns with
  |true=>match b,a with
   |⟨h,.live e sz by_ nn _⟩,⟨j,.live f k d g _⟩=>match Nat.beq e f,Nat.beq sz k,Nat.beq by_ d,leB nn g,leB (E09 i A.kept) (Nat.beq h j)with
    |true,true,true,true,true=>h0c A (i+1) r c
    |_,_,_,_,_=>False
   |_,_=>False
  |false=>a=b/\h0c A (i+1) r c
 |_,_::_,[]=>False
def Q0a:Nat->(List Value->Prop)->Prop
 |0,K=>K []
 |n+1,K=>∀ v,Q0a n λvs=>K (v::vs)
def R0a:Nat->(List (List (List Value))->Prop)->Prop
 |0,K=>K []
 |n+1,K=>∀ xs,R0a n λos=>K (xs::os)
abbrev i0c:=List Value->List (List (List Value))->Hp->Prop
abbrev U07:=List Value->List (List (List Value))->Nat
def P0r:List Value->List Value->Bool
 | [],[]=>true
 |_::r,_::a=>P0r r a
 |_,_=>false
def U0j(A:Ann)(I:i0c)(vs:List Value)(os:List (List (List Value)))(h:Hp):Prop:=match A.fuel with
 |false=>I vs os h
 |true=>∃ m:Nat,I (.int .i64 m::vs) os h
def V0j(A:Ann)(I:i0c)(μ:U07)(vs:List Value)(os:List (List (List Value)))(X:Nat->Hp->Prop):Prop:=match A.fuel with
 |false=>∀ h',I vs os h'->X (μ vs os) h'
 |true=>∀(m:Nat) (h':Hp),I (.int .i64 m::vs) os h'->X m h'
def Q0r(A:Ann)(a:i0c)(μ:U07)(m:Nat)(vs:List Value)(os:List (List (List Value)))(h:Hp):Prop:=match A.fuel with
 |false=>a vs os h/\μ vs os<m
 |true=>∃ b:Nat,a (.int .i64 b::vs) os h/\b<m
def atI(A:Ann)(I:i0c)(μ:U07)(m:Nat)(vs:List Value)(os:List (List (List Value)))(h:Hp):Prop:=match A.fuel with
 |false=>I vs os h/\m=μ vs os
 |true=>I (.int .i64 m::vs) os h
theorem e0q{A:Ann}{b:i0c}{μ:U07}{vs:List Value}{os:List (List (List Value))}{h:Hp}(a:U0j A b vs os h):∃ m,atI A b μ m vs os h:=by
 unfold U0j at a
 unfold atI
 cases hf:A.fuel with
 |false=>rw[hf]at a;exact⟨_,a,rfl⟩
 |true=>rw[hf]at a;exact a
theorem f0q{A:Ann}{c:i0c}{μ:U07}{vs:List Value}{os:List (List (List Value))}{X:Nat->Hp->Prop}(b:V0j A c μ vs os X){m:Nat}{h:Hp}(a:atI A c μ m vs os h):X m h:=by
 unfold V0j at b
 unfold atI at a
 cases hf:A.fuel with
 |false=>rw[hf]at b a;rw[a.2];exact b _ a.1
 |true=>rw[hf]at b a;exact b _ _ a
theorem R0r{A:Ann}{b:i0c}{μ:U07}{m:Nat}{vs:List Value}{os:List (List (List Value))}{h:Hp}(a:Q0r A b μ m vs os h):∃ c,atI A b μ c vs os h/\c<m:=by
 unfold Q0r at a
 unfold atI
 cases hf:A.fuel with
 |false=>rw[hf]at a;exact⟨_,⟨a.1,rfl⟩,a.2⟩
 |true=>rw[hf]at a;exact a
def g0q(A:Ann)(d b:List (Nat×AV))(a:St)(c:i0c)(μ:U07)(f:List Value)(m:Nat)(st:St)(h:Hp):Prop :=
 match Nat.beq st.n a.n,g0d a st d with
 |true,true=>V0g st.fr b=O0o b/\g0c A a st 0 a.bx st.bx/\h0c A 0 a.ow st.ow /\
   h0m A st λvs os=>match P0r vs f with
    |true=>r08 A.vars.length vs λ_ e=>J06 A.boxes e a.bx λ_=>K06 A.owns os a.ow λ_=>Q0r A c μ m vs os h
    |false=>False
 |_,_=>False
def r0n(i:(Ex->St->Hp->Prop)->St->Hp->Prop)(j:List Nat)(Q:Ex->St->Hp->Prop)(st:St)(h:Hp):Prop :=
 ∃(A:Ann) (b:i0c) (μ:U07),R0j A.nils st λst=>v0e A.nilsB st λst=>S0j A.pubs st h λst h=>h0m A st λg d=>U0j A b g d h /\
  e0c j λds=>N09 A st ds [] λc=>L06 A ds st st.fr λf =>
   Q0a g.length λvs=>R0a d.length λos=>V0j A b μ vs os λm h' =>
    r08 A.vars.length vs λk l=>J06 A.boxes l st.bx λbx=>K06 A.owns os st.ow λow =>
     i (λe st' a=>match e with
      | .normal=>S0j A.pubs st' a λst' a=>g0q A c f st b μ vs m st' a
      |e=>Q e st' a) ⟨st.n,f0c A.vars k (c++f),bx,ow⟩ h'
def h0q(b:Bool)(X Y:Prop):Prop:=(b=true->X)/\(b=false->Y)
def ev(P:Program):Code->(Ex->St->Hp->Prop)->St->Hp->Prop
 | .skip,Q,st,h=>Q .normal st h
 | .region _ ops false,Q,st,h=>match N0r P ops.toList with
  |true=>o04 st.n ops.toList=true/\evU P ops.toList 0 [] [] st h λst h=>Q .normal st h
  |false=>d0d P ops.toList 0 ⟨st,h,[],[]⟩ λrs=>Q .normal rs.st rs.h
 | .region _ ops true,Q,st,h=>((P.follows .mixedOrders=true/\Region.lexB .any ops=true) /\
   evQ P ops.toList 0 ⟨st,h,[],[]⟩ λrs=>Q .normal rs.st rs.h) ∨
   False ∨
   (match Z0p ops.toList with
    |none=>(P.follows .mixedOrders=true/\W02 st.n ops.toList=true)/\c04 P st h ops.toList 0 [] [] [] λL X E=>evD (T9 L st ops.toList) ops.size P X E L st h λst h=>Q .normal st h
    |some o=>(P.follows .mixedOrders=true/\(W02 st.n (n01 ops.toList)&&e0d ops.toList 0)=true)/\c04 P st h (n01 ops.toList) 0 [] [] [] λL X E=>evD (T9 L st (n01 ops.toList)) (n01 ops.toList).length P X E L st h λst h=>v04 P o st h λst h=>Q .normal st h) ∨
   ((P.follows .mixedOrders=true/\o04 st.n ops.toList=true)/\evU P ops.toList 0 [] [] st h λst h=>Q .normal st h) ∨
   (∃ m,(P.follows .mixedOrders=true/\okZ P st.n m ops.toList=true)/\evT P (v04 P) m ops.toList st h λst h=>Q .normal st h)
 | .seq a b,Q,st,h=>ev P a (λe st h=>match e with
  | .normal=>ev P b Q st h
  |e=>Q e st h) st h
 | .cond c t e,Q,st,h=>match rdO st c with
  | .val (.bool b)=>h0q b (ev P t Q st h) (ev P e Q st h)
  |_=>False
 | .block id c,Q,st,h=>ev P c (λe st h=>match e with
  | .exit i=>match Nat.beq i id with
   |true=>Q .normal st h
   |false=>Q (.exit i) st h
  |e=>Q e st h) st h
 | .loop d,Q,st,h=>r0n (λQ=>ev P d Q) (E0g d []) Q st h
 | .exit id,Q,st,h=>Q (.exit id) st h
 | .ret,Q,st,h=>Q .ret st h
 |_,_,_,_=>False
def k0m(P:Program):List ResultVar->St->Hp->(List Value->St->Hp->Prop)->Prop
 | [],st,h,K=>K [] st h
 | .tmp t::r,st,h,K=>rfy (rdA st (E3 st.fr t)) st h λv st h=>k0m P r st h λvs st h=>K (v::vs) st h
 | .cell t ty::r,st,h,K=>match rdA st (E3 st.fr t)with
  | .box i off=>match nth st.bx i with
   |some (.live cs _)=>l05 P ty cs off λav=>rfy av st h λv st h=>k0m P r st h λvs st h=>K (v::vs) st h
   |_=>False
  |_=>False
def W0j:List Value->Value
 | [v]=>v
 |vs => .tuple vs.toArray
def S0a:Nat->List Value->List (Nat×AV)
 |_,[]=>[]
 |i,v::r=>(i,.val v)::S0a (i+1) r
def n0t(P:Program)(fn:Func)(args:List Value)(h:Hp)(T:Value->Hp->Prop):Prop :=
 match fn.body with
 |some c=>match Nat.ble args.length fn.ntmps with
  |true=>ev P c (λe st h=>match e with
   | .exit _=>False
   |_=>k0m P fn.results.toList st h λvs _ h=>T (W0j vs) h) ⟨fn.ntmps,S0a 0 args,[],[]⟩ h
  |false=>False
 |none=>False
end Go.H
