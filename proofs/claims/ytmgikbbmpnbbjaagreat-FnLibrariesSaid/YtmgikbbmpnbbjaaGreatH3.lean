/- Plain laws over the model: what a function's code asks: regions with guards, regions that draw their order, branches and loops. -/
import Derived.Test.YtmgikbbmpnbbjaaGreatH2
namespace Go.H
set_option linter.unusedVariables false
structure BE where
 j:Nat
 d:Nat
 e:Bool
 ch:List (Nat×Bool)
structure RS where
 st:St
 h:Hp
 gf:List (Nat×List (Nat×Bool)×AV)
 bs:List BE
def R0e:List (Nat×List (Nat×Bool)×AV)->Nat->Option (List (Nat×Bool)×AV)
 | [],_=>none
 |(k,x)::r,s=>match Nat.beq k s with
  |true=>some x
  |false=>R0e r s
def eqB(a b:Bool):Bool:=match a,b with
 |true,true=>true
 |false,false=>true
 |_,_=>false
def H0q:List (Nat×Bool)->List (Nat×Bool)->Bool
 | [],[]=>true
 |(j,w)::r,(a,c)::b=>match Nat.beq j a,eqB w c with
  |true,true=>H0q r b
  |_,_=>false
 |_,_=>false
def d0k(a:List (Nat×Bool)):List (Nat×Bool)->Bool
 | []=>H0q a []
 |x::r=>match H0q a (x::r)with
  |true=>true
  |false=>d0k a r
def rdG(rs:RS)(ch:List (Nat×Bool)):Operand->AV
 | .tmp t=>match R0e rs.gf t with
  |some (a,av)=>match d0k a ch with
   |true=>rdA rs.st av
   |false => .dead
  |none=>rdA rs.st (O3 rs.st.fr t)
 |x=>rdO rs.st x
def V03:List BE->Nat->Option BE
 | [],_=>none
 |b::r,j=>match Nat.beq b.j j with
  |true=>some b
  |false=>V03 r j
def f0b:List BE->Nat->Option BE
 | [],_=>none
 |b::r,s=>match Nat.beq b.d s with
  |true=>some b
  |false=>f0b r s
def lit(w e:Bool):Bool:=match w with
 |true=>e
 |false => !e
def cB(bs:List BE):List (Nat×Bool)->Option Bool
 | []=>some true
 |(j,w)::r=>match V03 bs j with
  |some b=>match r with
   | []=>some (lit w b.e)
   |_=>match cB bs r with
    |some c=>some (lit w b.e&&c)
    |none=>none
  |none=>none
def b01(bs:List BE):Option (Nat×Bool)->Option (List (Nat×Bool))
 |none=>some []
 |some (j,w)=>match V03 bs j with
  |some b=>some ((j,w)::b.ch)
  |none=>none
def imp(ch:List (Nat×Bool))(c:Bool)(X:Prop):Prop:=match ch with
 | []=>X
 |_=>c=true->X
def e0k(rs:RS)(ch:List (Nat×Bool)):List Operand->Option (List (Nat×Value))
 | []=>some []
 | .tmp t::r=>match R05 (rdG rs ch (.tmp t))with
  |some v=>match e0k rs ch r with
   |some vs=>some ((t,v)::vs)
   |none=>none
  |none=>none
 | .global _::_=>none
 |_::r=>e0k rs ch r
def Q0s(rs:RS)(ch:List (Nat×Bool)):List Operand->St->Hp->(List (Nat×Value)->St->Hp->Prop)->Prop
 | [],st,h,K=>K [] st h
 | .tmp t::r,st,h,K=>rfy (rdA st (rdG rs ch (.tmp t))) st h λv st h=>Q0s rs ch r st h λvs st h=>K ((t,v)::vs) st h
 | .global _::_,_,_,_=>False
 |_::r,st,h,K=>Q0s rs ch r st h K
def O0i(P:Program)(o:Oper)(ch:List (Nat×Bool))(c:Bool)(rs:RS)(K:AV->Prop):Prop :=
 match b0b o.op,e0k rs ch o.op.operands.toList with
 |false,some vs=>match F08 (rho vs) o with
  |some (f,l)=>match okF P f with
   |true=>∃ v,imp ch c (Tr P f l.toArray rs.h λa h'=>a=v/\h'=rs.h)/\K (.val v)
   |false=>False
  |none=>match evP P (c0a (rho vs) o)with
   |some (.value v)=>K (.val v)
   |_=>False
 |false,none=>∃ r,imp ch c (Q0s rs ch o.op.operands.toList rs.st rs.h λvs _ hf=>match F08 (rho vs) o with
  |some (f,l)=>match okF P f with
   |true=>Tr P f l.toArray hf λv h'=>v=r/\h'=hf
   |false=>False
  |none=>False)/\K (.val r)
 |_,_=>False
def evG(P:Program)(o:Oper)(ch:List (Nat×Bool))(c:Bool)(rs:RS)(K:AV->Prop):Prop :=
 match o.op with
 | .move x | .assign x=>match rdG rs ch x with
  | .dead=>False
  |a=>K a
 | .pick (.tmp s) a b=>match rdG rs ch (.tmp s),f0b rs.bs s with
  | .val (.bool e),some q=>match d0k q.ch ch with
   |true=>match rdG rs ((q.j,true)::q.ch) a,rdG rs ((q.j,false)::q.ch) b with
    | .val (.bool x),.val (.bool y)=>K (.val (.bool (cond e x y)))
    |_,_=>False
   |false=>False
  |_,_=>False
 | .fieldAddr t x k=>match rdG rs ch x,L0i P t k with
  | .box i off,some f=>K (.box i (off+f))
  | .hel s i sz k,some f=>K (.hel s i sz (k+f))
  | .oel i s j sz k,some f=>K (.oel i s j sz (k+f))
  |_,_=>False
 | .indexAddr t x i=>match rdG rs ch i with
  | .val (.int _ j)=>match j02 P t with
   |some e=>match d6 P e with
    |some sz=>match rdG rs ch x with
     | .val (.slice a n d)=>imp ch c (InB (.slice a n d) j)/\K (.hel (.slice a n d) j sz 0)
     | .own i k=>match nth rs.st.ow i with
      |some ⟨_,.live _ g _ _ xs⟩=>match Nat.beq g sz with
       |true=>imp ch c (0<=j/\j<(xs.length:Int))/\K (.oel i k j sz 0)
       |false=>False
      |_=>False
     |_=>False
    |none=>False
   |none=>False
  |_=>False
 | .load t x=>match rdG rs ch x with
  | .box i off=>match nth rs.st.bx i with
   |some (.live cs _)=>P05 P t cs off K
   |_=>False
  | .hel s idx sz k=>∃ e,imp ch c (A5 rs.h s sz idx e)/\P05 P t (vals e) k K
  | .oel i _ idx sz k=>match nth rs.st.ow i with
   |some ⟨_,.live _ g _ _ xs⟩=>match Nat.beq g sz with
    |true=>∃ e,imp ch c (xs[idx.toNat]?=some e)/\P05 P t (vals e) k K
    |false=>False
   |_=>False
  |_=>False
 | .build t ps=>match P.underlying t,Q01 P t with
  |some (.struct u),some z=>match c07 P u.toList with
   |true=>I08 P u (rdG rs ch) ps.toList (vals z.cells.toList) λcs=>K (.agg cs)
   |false=>False
  |_,_=>False
 | .index t x i=>match rdG rs ch x,rdG rs ch i,P.underlying t with
  | .val (.string s),.val (.int _ j),some .string=>∃ e,imp ch c (0<=j/\s[j.toNat]?=some e)/\K (.val (.int .u8 e.toNat))
  |_,_,_=>False
 | .slice t x lo hi none=>match rdG rs ch x,P.underlying t with
  | .val (.string s),some .string=>match z06 0 (lo.map (rdG rs ch)),z06 s.size (hi.map (rdG rs ch))with
   |some l,some m=>imp ch c (0<=l/\l<=m/\m<=(s.size:Int))/\K (.val (.string (s.extract l.toNat m.toNat)))
   |_,_=>False
  | .val (.slice w n d),_=>match j02 P t with
   |some e=>match d6 P e with
    |some sz=>match z06 0 (lo.map (rdG rs ch)),z06 n (hi.map (rdG rs ch))with
     |some l,some m=>∃ v,imp ch c ((0<=l/\l<=m/\m<=(n:Int)/\n<=d)/\v0m sz (.slice w n d) l.toNat m.toNat v)/\K (.val v)
     |_,_=>False
    |none=>False
   |none=>False
  |_,_=>False
 | .binOp .eql t x y yt=>match R05 (rdG rs ch x),R05 (rdG rs ch y)with
  |some (.agg xs),some (.agg p)=>∃ b,imp ch c (e0b P o x y (.agg xs) (.agg p) b)/\K (.val (.bool b))
  |some (.slice a n m),some (.slice none 0 0)=>∃ b,imp ch c (e0b P o x y (.slice a n m) (.slice none 0 0) b)/\K (.val (.bool b))
  |_,_=>O0i P o ch c rs K
 | .binOp .neq t x y yt=>match R05 (rdG rs ch x),R05 (rdG rs ch y)with
  |some (.agg xs),some (.agg p)=>∃ b,imp ch c (e0b P o x y (.agg xs) (.agg p) b)/\K (.val (.bool b))
  |_,_=>O0i P o ch c rs K
 | .binOp .add t x y yt=>match rdG rs ch x,rdG rs ch y with
  | .val (.string a),.val (.string b)=>imp ch c (a.size+b.size<=9223372036854775807)/\K (.val (.string (a++b)))
  |_,_=>O0i P o ch c rs K
 | .binOp .quo t x y yt=>match rdG rs ch x,rdG rs ch y with
  | .val (.int .i64 a),.val (.int .i64 b)=>imp ch c (b≠0)/\K (.val (.int .i64 (IntKind.i64.wrap (a.tdiv b))))
  |_,_=>O0i P o ch c rs K
 | .binOp .rem t x y yt=>match rdG rs ch x,rdG rs ch y with
  | .val (.int .i64 a),.val (.int .i64 b)=>imp ch c (b≠0)/\K (.val (.int .i64 (a.tmod b)))
  |_,_=>O0i P o ch c rs K
 | .call { callee := .builtin .len,args:=as,argTypes:=A }=>match as.toList,A.toList with
  | [x],[t]=>match rdG rs ch x with
   | .own i _=>match nth rs.st.ow i,j02 P t with
    |some ⟨_,.live _ _ _ _ xs⟩,some _=>K (.val (.int .i64 xs.length))
    |_,_=>False
   |_=>O0i P o ch c rs K
  |_,_=>False
 |_=>O0i P o ch c rs K
def K08(rs:RS)(d:Nat):Bool:=match R0e rs.gf d,f0b rs.bs d with
 |none,none=>false
 |_,_=>true
def f0k(i d:Nat)(ch:List (Nat×Bool))(av:AV)(bs:List BE):List BE:=match av with
 | .val (.bool e)=>⟨i,d,e,ch⟩::bs
 |_=>bs
def S0e(d:Option Tmp)(i:Nat)(ch:List (Nat×Bool))(av:AV)(rs:RS)(K:RS->Prop):Prop :=
 match d with
 |none=>K rs
 |some d=>match Nat.blt d rs.st.n,K08 rs d with
  |true,false=>match ch with
   | []=>K { rs with st := { rs.st with fr:=(d,av)::rs.st.fr },bs:=f0k i d ch av rs.bs }
   |_=>K { rs with st := { rs.st with fr:=(d,.dead)::rs.st.fr },gf:=(d,ch,av)::rs.gf,bs:=f0k i d ch av rs.bs }
  |_,_=>False
def x0m:Op->Bool
 | .pick ..=>true
 |_=>false
def H0d(P:Program):List Oper->Nat->RS->(RS->Prop)->Prop
 | [],_,rs,K=>K rs
 |o::r,i,rs,K=>match o.guard,x0m o.op with
  |none,false=>Z8 P o rs.st rs.h λav st h=>S0e o.dst i [] av { rs with st:=st,h:=h } λrs=>H0d P r (i+1) rs K
  |_,_=>match b01 rs.bs o.guard with
   |some ch=>match cB rs.bs ch with
    |some c=>evG P o ch c rs λav=>S0e o.dst i ch av rs λrs=>H0d P r (i+1) rs K
    |none=>False
   |none=>False
def evQ(P:Program):List Oper->Nat->RS->(RS->Prop)->Prop
 | [],_,rs,K=>K rs
 |o::r,i,rs,K=>match b01 rs.bs o.guard with
  |some ch=>match cB rs.bs ch with
   |some c=>evG P o ch c rs λav=>S0e o.dst i ch av rs λrs=>evQ P r (i+1) rs K
   |none=>False
  |none=>False
def Sub(h h':Hp):Prop:=∀ b o,h b=some o->h' b=some o
def I0q(v:Value)(K:Value->Prop):Prop:=match v with
 | .bool b=>K (.bool b)
 | .int k n=>K (.int k n)
 | .string s=>K (.string s)
 | .pointer a=>K (.pointer a)
 | .slice a n c=>K (.slice a n c)
 | .func f x y=>K (.func f x y)
 | .agg cs=>K (.agg cs)
 | .tuple vs=>K (.tuple vs)
 |v=>K v
theorem A0p(v:Value)(K:Value->Prop):I0q v K=K v:=by cases v<;>rfl
def a9{a:Type}:List a->(List a->Prop)->Prop
 | [],K=>K []
 |x::r,K=>a9 r λr=>K (x::r)
theorem j03{a:Type}:∀(l:List a) (K:List a->Prop),a9 l K=K l
 | [],K=>rfl
 |x::r,K=>by simp only[a9,j03 r]
def S05:Nat->(Nat->Prop)->Prop
 |0,K=>K 0
 |n+1,K=>S05 n λm=>K (m+1)
theorem L08:∀(n:Nat) (K:Nat->Prop),S05 n K=K n
 |0,K=>rfl
 |n+1,K=>by simp only[S05,L08 n]
def l02(av:AV)(K:AV->Prop):Prop:=match av with
 | .val v=>I0q v λv=>K (.val v)
 | .own i k=>K (.own i k)
 | .box i k=>K (.box i k)
 | .hel s i z k=>S05 z λz=>S05 k λk=>K (.hel s i z k)
 | .oel j s i z k=>S05 z λz=>S05 k λk=>K (.oel j s i z k)
 | .agg cs=>a9 cs λcs=>K (.agg cs)
 | .dead=>K .dead
theorem W03(av:AV)(K:AV->Prop):l02 av K=K av:=by
 cases av with
 |val v=>exact A0p v (λv=>K (.val v))
 |hel s i z k=>simp only[l02,L08]
 |oel j s i z k=>simp only[l02,L08]
 |agg cs=>simp only[l02,j03]
 |_=>rfl
inductive H6 where
 |pu (av:AV)
 |ef (F:Value->Hp->Prop)
def W3:List (Nat×H6)->Nat->Option H6
 | [],_=>none
 |(k,x)::r,s=>match Nat.beq k s with
  |true=>some x
  |false=>W3 r s
def rdS(L:List (Nat×H6))(st:St):Operand->AV
 | .tmp t=>match W3 L t with
  |some (.pu av)=>rdA st av
  |some (.ef _) => .dead
  |none=>rdA st (O3 st.fr t)
 |x=>rdO st x
def T0e(P:Program)(t:TypeId)(cs:List c6)(off:Nat):Option AV :=
 match N0e P t with
 |some true=>match d6 P t with
  |some n=>match K07 ((cs.drop off).take n) n with
   |true=>some (.agg ((cs.drop off).take n))
   |false=>none
  |none=>none
 |some false=>match nth cs off with
  |some c=>some (ofCell c)
  |none=>none
 |none=>none
def y0m(P:Program)(L:List (Nat×H6))(o:Oper)(st:St):Option AV:=match o.op with
 | .move x | .assign x=>match rdS L st x with
  | .dead=>none
  |a=>some a
 | .load t x=>match rdS L st x with
  | .box i off=>match nth st.bx i with
   |some (.live cs _)=>T0e P t cs off
   |_=>none
  |_=>none
 |_=>none
def U0e(L:List (Nat×H6))(st:St)(h:Hp):List Operand->List (Nat×AV)->(List (Nat×AV)->Prop)->Prop
 | [],acc,K=>K acc
 | .tmp t::r,acc,K=>match W3 L t with
  |some (.pu av)=>U0e L st h r ((t,av)::acc) K
  |some (.ef F)=>∀ v,F v h->U0e L st h r ((t,.val v)::acc) K
  |none=>U0e L st h r ((t,O3 st.fr t)::acc) K
 |_::r,acc,K=>U0e L st h r acc K
def L07(d:Option Tmp)(f:H6)(L:List (Nat×H6)):List (Nat×H6):=match d with
 |some d=>(d,f)::L
 |none=>L
def Z0u(st:St)(h:Hp)(F:Value->Hp->Prop):AV->St->Hp->Prop
 | .val v,st',h'=>st'=st/\Sub h h'/\F v h'
 |_,_,_=>False
def Q8(i:Nat)(o:Oper):Bool:=o.after.toList.any λe=>Region.binds .any e&&Nat.beq e.on i
def k03(o:Oper)(t:Nat):List Oper->Nat->Bool
 | [],_=>true
 |x::r,i=>match x.dst with
  |some d=>match Nat.beq d t with
   |true=>Q8 i o&&k03 o t r (i+1)
   |false=>k03 o t r (i+1)
  |none=>k03 o t r (i+1)
def g0b(o:Oper)(ops:List Oper):List Operand->Bool
 | []=>true
 | .tmp t::r=>k03 o t ops 0&&g0b o ops r
 |_::r=>g0b o ops r
def M08(d:Nat):List Oper->Bool
 | []=>true
 |o::r=>match o.dst with
  |some a => !Nat.beq d a&&M08 d r
  |none=>M08 d r
def g0k(n:Nat):List Oper->Bool
 | []=>true
 |o::r=>match o.dst with
  |some d=>Nat.blt d n&&M08 d r&&g0k n r
  |none=>g0k n r
def I0d:List Oper->Nat->Bool
 | [],_=>true
 |o::r,j=>(o.after.toList.all λe => !Region.binds .any e || Nat.blt e.on j)&&I0d r (j+1)
def P0n(ops:List Oper):List Oper->Bool
 | []=>true
 |o::r=>g0b o ops o.op.operands.toList&&P0n ops r
def M03(n:Nat)(ops:List Oper):Bool:=g0k n ops&&I0d ops 0&&P0n ops ops
def Q0n:List c6->Bool
 | []=>true
 | .val _::r=>Q0n r
 | .own _ _::_=>false
def P0i:AV->Bool
 | .val _=>true
 | .box _ _=>true
 | .own _ _=>true
 | .agg cs=>Q0n cs
 |_=>false
def S06(L:List (Nat×H6))(st:St):Operand->AV
 | .tmp t=>match W3 L t with
  |some (.pu av)=>av
  |some (.ef _) => .dead
  |none=>O3 st.fr t
 | .const v => .val v
 |_ => .dead
def J0d(L:List (Nat×H6))(st:St):List Operand->Option (List (Nat×Value))
 | []=>some []
 | .tmp t::r=>match S06 L st (.tmp t)with
  | .val v=>match J0d L st r with
   |some vs=>some ((t,v)::vs)
   |none=>none
  |_=>none
 | .global _::_=>none
 |_::r=>J0d L st r
def z0m(P:Program)(L:List (Nat×H6))(o:Oper)(st:St):Option AV:=match b0b o.op,J0d L st o.op.operands.toList with
 |false,some vs=>match F08 (rho vs) o with
  |some _=>none
  |none=>match evP P (c0a (rho vs) o)with
   |some (.value v)=>some (.val v)
   |_=>none
 |_,_=>none
def a0v:AV->Bool
 | .val (.int _ _)=>true
 |_=>false
def u0v:BinOp->Bool
 | .lss=>true
 | .leq=>true
 | .gtr=>true
 | .geq=>true
 | .eql=>true
 | .neq=>true
 | .add=>true
 | .sub=>true
 | .mul=>true
 |_=>false
def d0a(P:Program)(L:List (Nat×H6))(o:Oper)(st:St):Option AV:=match o.op with
 | .move x=>match P0i (S06 L st x)with
  |true=>some (S06 L st x)
  |false=>none
 | .assign x=>match P0i (S06 L st x)with
  |true=>some (S06 L st x)
  |false=>none
 | .load t x=>match S06 L st x with
  | .box i off=>match nth st.bx i with
   |some (.live cs _)=>match T0e P t cs off with
    |some av=>match P0i av with
     |true=>some av
     |false=>none
    |none=>none
   |_=>none
  |_=>none
 | .fieldAddr t x k=>match S06 L st x,L0i P t k with
  | .box i off,some a=>some (.box i (off+a))
  |_,_=>none
 | .binOp op _ x y _=>match u0v op,a0v (S06 L st x),a0v (S06 L st y)with
  |true,true,true=>z0m P L o st
  |_,_,_=>none
 | .call { callee := .builtin .len,args:=as,argTypes:=_ }=>match as.toList with
  | [x]=>match S06 L st x with
   | .val (.slice _ _ _)=>z0m P L o st
   |_=>none
  |_=>none
 |_=>none
def B00(L:List (Nat×H6))(st:St):List Oper->List Nat
 | []=>[]
 |o::r=>match o.op with
  | .load _ x=>match S06 L st x with
   | .box i _=>i::B00 L st r
   |_=>B00 L st r
  |_=>B00 L st r
def e0a(bx:List BSt):List Nat->List (Option BSt)
 | []=>[]
 |i::r=>nth bx i::e0a bx r
def t05(L:List (Nat×H6))(a:List (Nat×AV)):List Operand->List (Nat×AV)->(List (Nat×AV)->Prop)->Prop
 | [],acc,K=>K acc
 | .tmp t::r,acc,K=>match W3 L t with
  |some (.pu av)=>t05 L a r ((t,av)::acc) K
  |some (.ef _)=>t05 L a r ((t,.dead)::acc) K
  |none=>t05 L a r ((t,O3 a t)::acc) K
 |_::r,acc,K=>t05 L a r acc K
def h0k:List (Nat×H6)->List (Nat×AV)->List (Nat×AV)
 | [],fr=>fr
 |(d,.pu av)::r,fr=>(d,av)::h0k r fr
 |(d,.ef _)::r,fr=>(d,.dead)::h0k r fr
def R0n(av:AV)(st:St)(h:Hp):AV->St->Hp->Prop:=λa st' h'=>a=av/\st'=st/\h'=h
def i0k(P:Program)(st:St)(h:Hp)(L:List (Nat×H6))(o:Oper)(av:AV):Prop :=
 match st with
 |⟨n,fr,bx,ow⟩=>∀ h',Sub h h'->t05 L fr o.op.operands.toList [] λfr=>Z8 P o ⟨n,fr,bx,ow⟩ h' (R0n av ⟨n,fr,bx,ow⟩ h')
def G04(P:Program)(st:St)(h:Hp):List Oper->Nat->List (Nat×H6)->List (Nat×Oper)->List (Nat×Oper)->(List (Nat×H6)->List (Nat×Oper)->List (Nat×Oper)->Prop)->Prop
 | [],_,L,X,E,K=>K L X E
 |o::r,i,L,X,E,K=>match o.guard with
  |some _=>False
  |none=>match d0a P L o st with
   |some av=>l02 av λav=>G04 P st h r (i+1) (L07 o.dst (.pu av) L) X E K
   |none=>(∃ av,i0k P st h L o av/\l02 av λav=>G04 P st h r (i+1) (L07 o.dst (.pu av) L) (X ++ [(i,o)]) E K) ∨
     G04 P st h r (i+1) (L07 o.dst (.ef λ_ _=>True) L) X (E ++ [(i,o)]) K
def Q0i(X:List (Nat×Oper)):Nat->Nat->Oper->Bool
 |0,i,q=>Q8 i q
 |n+1,i,q=>Q8 i q || X.any λy=>Q8 y.1 q&&Q0i X n i y.2
def V0e(X Y:List (Nat×Oper)):List (Nat×Oper)->Bool
 | []=>true
 |(_,q)::_=>X.all λx=>Q0i Y 8 x.1 q
def T05:List (Nat×Oper)->Bool
 |(i,o)::(j,a)::r=>Q8 i a&&T05 ((j,a)::r)
 |_=>true
def N08:Nat->Nat->Oper->Bool
 |0,_,_=>true
 |k+1,i,o=>(Nat.beq k i || Q8 k o)&&N08 k i o
def O08(d:Nat):List Operand->Bool
 | []=>false
 | .tmp t::r=>Nat.beq t d || O08 d r
 |_::r=>O08 d r
def W0e(d:Nat):List Oper->Bool
 | []=>false
 |o::r=>O08 d o.op.operands.toList || W0e d r
def k02:List Oper->List Oper
 | []=>[]
 |o::r=>match r with
  | []=>[]
  |_::_=>o::k02 r
def X0e:List Oper->Option Oper
 | []=>none
 |o::r=>match r with
  | []=>some o
  |_::_=>X0e r
def J0q(ops:List Oper):Option Oper:=match X0e ops with
 |some o=>match o.guard,o.dst with
  |none,some d=>match W0e d (k02 ops)&&N08 (k02 ops).length (k02 ops).length o with
   |true=>some o
   |false=>none
  |_,_=>none
 |none=>none
def b05(P:Program)(o:Oper)(st:St)(h:Hp)(K:St->Hp->Prop):Prop :=
 Z8 P o st h λav st h=>S0e o.dst 0 [] av ⟨st,h,[],[]⟩ λrs=>K rs.st rs.h
def inK(k:Nat):List Nat->Bool
 | []=>false
 |x::r=>Nat.beq k x || inK k r
def P08(es:List Nat):Nat->Nat->Oper->Bool
 |0,_,_=>true
 |k+1,i,o=>((Nat.beq k i || Q8 k o) || inK k es)&&P08 es k i o
def V09:List (Nat×Oper)->List Nat
 | []=>[]
 |x::r=>x.1::V09 r
def h0b(N:Nat×List Nat)(i:Nat)(o:Oper):Bool:=P08 N.2 N.1 i o
def s0h(c:Nat)(b:Bool)(rd:List Nat)(bx a:List BSt):Prop:=match b with
 |true=>True
 |false=>match c with
  |0=>e0a a rd=e0a bx rd
  |_+1=>a=bx
def H0c:Nat->List Own->List Own->Hp->Hp->Prop
 |0,_,_,_,_=>True
 |_+1,ow,a,h,h'=>a=ow/\Sub h h'
def evC(rd:List Nat)(N:Nat×List Nat)(P:Program):Nat->List (Nat×Oper)->List (Nat×H6)->St->Hp->(St->Hp->Prop)->Prop
 |_,[],L,⟨n,fr,bx,ow⟩,h,K=>a9 (h0k L fr) λfr=>K ⟨n,fr,bx,ow⟩ h
 |c,(i,o)::r,L,⟨n,fr,bx,ow⟩,h,K=>t05 L fr o.op.operands.toList [] λd=>Z8 P o ⟨n,d,bx,ow⟩ h λav st' h'=>match st' with
  |⟨_,_,a,b⟩=>H0c c ow b h h'/\s0h c (h0b N i o) rd bx a/\l02 av λav=>a9 a λa=>a9 b λb=>evC rd N P (c-1) r (L07 o.dst (.pu av) L) ⟨n,fr,a,b⟩ h' K
def R0s(f:Nat×Oper)(rd:List Nat)(N:Nat×List Nat)(P:Program):Nat->List (Nat×Oper)->List (Nat×H6)->St->Hp->(St->Hp->Prop)->Prop
 |0,E,L,st,h,K=>evC rd N P 0 (f::E) L st h K
 |p+1,E,L,st,h,K=>evC rd N P 0 (f::E) L st h K/\match E with
  | []=>False
  |(i,o)::r=>match st with
   |⟨n,fr,bx,ow⟩=>t05 L fr o.op.operands.toList [] λc=>Z8 P o ⟨n,c,bx,ow⟩ h λav st' h'=>match st' with
    |⟨_,_,a,b⟩=>H0c 0 ow b h h'/\s0h 0 (h0b N i o) rd bx a/\l02 av λav=>a9 a λa=>a9 b λb=>R0s f rd N P p r (L07 o.dst (.pu av) L) ⟨n,fr,a,b⟩ h' K
def B0p(f:Nat×Oper):Nat->List (Nat×Oper)->Bool
 |_,[]=>false
 |0,(_,q)::_=>Q8 f.1 q
 |p+1,_::r=>B0p f p r
def t0h:Nat->List (Nat×Oper)->Option ((Nat×Oper)×List (Nat×Oper))
 |_,[]=>none
 |0,x::r=>some (x,r)
 |k+1,x::r=>match t0h k r with
  |some (f,a)=>some (f,x::a)
  |none=>none
def noX:List (Nat×Oper)->Bool
 | []=>true
 |_::_=>false
def I0c:List (Nat×Oper)->List (Nat×Oper)->List ((Nat×Oper)×List (Nat×Oper))
 |_,[]=>[]
 |A,x::B=>(x,A++B)::I0c (A ++ [x]) B
def R0i(x:Nat×Oper):List (Nat×Oper)->Bool
 | []=>true
 |y::r => !Q8 y.1 x.2&&R0i x r
def A0m(f:(Nat×Oper)->List (Nat×Oper)->Prop):List ((Nat×Oper)×List (Nat×Oper))->Prop
 | []=>True
 |p::l=>match R0i p.1 p.2 with
  |true=>f p.1 p.2/\A0m f l
  |false=>A0m f l
def j0k(rd:List Nat)(N:Nat×List Nat)(P:Program):Nat->List (Nat×Oper)->List (Nat×H6)->St->Hp->(St->Hp->Prop)->Prop
 |0,_,L,⟨n,fr,bx,ow⟩,h,K=>a9 (h0k L fr) λfr=>K ⟨n,fr,bx,ow⟩ h
 |m+1,E,L,⟨n,fr,bx,ow⟩,h,K=>A0m (λx r=>t05 L fr x.2.op.operands.toList [] λc=>Z8 P x.2 ⟨n,c,bx,ow⟩ h λav st' h'=>match st' with
  |⟨_,_,a,b⟩=>H0c 0 ow b h h'/\s0h 0 (h0b N x.1 x.2) rd bx a/\l02 av λav=>a9 a λa=>a9 b λb=>j0k rd N P m r (L07 x.2.dst (.pu av) L) ⟨n,fr,a,b⟩ h' K) (I0c [] E)
def Z0g:List (Nat×Oper)->Nat
 | []=>0
 |_::r=>Z0g r+1
def evD(rd:List Nat)(N:Nat)(P:Program)(X E:List (Nat×Oper))(L:List (Nat×H6))(st:St)(h:Hp)(K:St->Hp->Prop):Prop :=
 (∃ c,(T05 E=true/\V0e X (X++E) (E.drop c)=true)/\evC rd (N,V09 E) P c E L st h K) ∨
 (∃ k p,match t0h k E with
  |some (f,E')=>(noX X=true/\T05 E'=true/\B0p f p E'=true)/\R0s f rd (N,V09 E) P p E' L st h K
  |none=>noX X=true/\j0k rd (N,V09 E) P (Z0g E) E L st h K)
abbrev FL:=List (Nat×List (Nat×Bool)×H6)
def A04:FL->Nat->Option (List (Nat×Bool)×H6)
 | [],_=>none
 |(k,x)::r,s=>match Nat.beq k s with
  |true=>some x
  |false=>A04 r s
def rdU(L:FL)(st:St)(ch:List (Nat×Bool)):Operand->AV
 | .tmp t=>match A04 L t with
  |some (a,.pu av)=>match d0k a ch with
   |true=>rdA st av
   |false => .dead
  |some (_,.ef _) => .dead
  |none=>rdA st (O3 st.fr t)
 |x=>rdO st x
def f0a(P:Program)(L:FL)(bs:List BE)(ch:List (Nat×Bool))(o:Oper)(st:St):Option AV:=match o.op with
 | .move x | .assign x=>match rdU L st ch x with
  | .dead=>none
  |a=>some a
 | .load t x=>match rdU L st ch x with
  | .box i off=>match nth st.bx i with
   |some (.live cs _)=>T0e P t cs off
   |_=>none
  |_=>none
 | .fieldAddr t x k=>match rdU L st ch x,L0i P t k with
  | .box i off,some c=>some (.box i (off+c))
  | .hel s i sz k,some c=>some (.hel s i sz (k+c))
  |_,_=>none
 | .pick (.tmp s) a b=>match rdU L st ch (.tmp s),f0b bs s with
  | .val (.bool e),some q=>match d0k q.ch ch with
   |true=>match rdU L st ((q.j,true)::q.ch) a,rdU L st ((q.j,false)::q.ch) b with
    | .val (.bool x),.val (.bool y)=>some (.val (.bool (cond e x y)))
    |_,_=>none
   |false=>none
  |_,_=>none
 |_=>none
def s08(L:FL)(st:St)(h:Hp)(ch:List (Nat×Bool)):List Operand->List (Nat×AV)->(List (Nat×AV)->Prop)->Prop
 | [],acc,K=>K acc
 | .tmp t::r,acc,K=>match A04 L t with
  |some (a,f)=>match d0k a ch with
   |true=>match f with
    | .pu av=>s08 L st h ch r ((t,av)::acc) K
    | .ef F=>∀ v,F v h->s08 L st h ch r ((t,.val v)::acc) K
   |false=>False
  |none=>s08 L st h ch r ((t,O3 st.fr t)::acc) K
 |_::r,acc,K=>s08 L st h ch r acc K
def Y0e(h:Hp):FL->List (Nat×AV)->(List (Nat×AV)->Prop)->Prop
 | [],fr,K=>K fr
 |(d,[],.pu av)::r,fr,K=>Y0e h r ((d,av)::fr) K
 |(d,[],.ef F)::r,fr,K=>∀ v,F v h->Y0e h r ((d,.val v)::fr) K
 |(d,_::_,_)::r,fr,K=>Y0e h r ((d,.dead)::fr) K
def a0h(d:Option Tmp)(ch:List (Nat×Bool))(f:H6)(L:FL):FL:=match d with
 |some d=>(d,ch,f)::L
 |none=>L
def S0i(i:Nat)(d:Option Tmp)(ch:List (Nat×Bool))(av:AV)(bs:List BE):List BE:=match d with
 |some d=>match av with
  | .val (.bool e)=>⟨i,d,e,ch⟩::bs
  |_=>bs
 |none=>bs
def B0m(st st':St):Prop:=st'.n=st.n/\st'.fr=st.fr/\st'.bx=st.bx/\∃ t,st'.ow=st.ow++t
def K0q(st:St)(h:Hp)(F:Value->Hp->Prop):AV->St->Hp->Prop:=λav st' h'=>rfy av st' h' λv b a=>B0m st b/\Sub h a/\F v a
def L0q(P:Program)(t n:Nat)(st:St)(h:Hp)(K:AV->St->Hp->Prop):Prop :=
 match j02 P t with
 |some e=>match d6 P e,Nat.beq n 0 with
  |some (_+1),true=>∀ g,h g=none->K (.val (.slice (some ⟨g,0,none⟩) 0 0)) st (h.set g (.cells #[] e (0,0)))
  |_,_=>False
 |none=>False
def M0q(P:Program)(t:TypeId)(a b:Operand)(st:St)(h:Hp)(K:AV->St->Hp->Prop):Prop :=
 match j02 P t with
 |some e=>match d6 P e,z0a P e,Q01 P e with
  |some (sz+1),some (by_+1),some z=>match K07 z.cells.toList (sz+1)with
   |true=>match rdO st a with
    | .val (.slice (some ⟨g,o,none⟩) 0 0)=>P0e st h (sz+1) (rdO st b) λc=>d07 c.length (by_+1) /\
      ((c = []->K (.val (.slice (some ⟨g,o,none⟩) 0 0)) st h)/\∀ v h',J1 h h' v e (sz+1) true c->K (.val v) st h')
    |_=>False
   |false=>False
  |_,_,_=>False
 |none=>False
def k0k(P:Program)(o:Oper)(st:St)(h:Hp)(K:AV->St->Hp->Prop):Prop :=
 match o.op with
 | .buildSlice t n ps=>match ps.toList with
  | []=>L0q P t n st h K
  |_::_=>Z8 P o st h K
 | .call { callee := .builtin .append,args:=as,argTypes:=d }=>match as.toList,d.toList with
  | [a,b],[t,c]=>match Nat.beq t c with
   |true=>M0q P t a b st h K
   |false=>False
  |_,_=>False
 |_=>Z8 P o st h K
def evU(P:Program)(l:List Oper):Nat->FL->List BE->St->Hp->(St->Hp->Prop)->Prop :=
  List.rec (motive:=λ_=>Nat->FL->List BE->St->Hp->(St->Hp->Prop)->Prop)
    (λ_ L _ st h K=>match st with
      |⟨n,fr,bx,ow⟩=>∀ h',Sub h h'->Y0e h' L fr λfr=>K ⟨n,fr,bx,ow⟩ h')
    (λo _ a i L bs st h K=>match st with
      |⟨n,fr,bx,ow⟩=>match b01 bs o.guard with
        |some ch=>match cB bs ch with
          |some c=>match f0a P L bs ch o ⟨n,fr,bx,ow⟩with
            |some av=>l02 av λav=>a (i+1) (a0h o.dst ch (.pu av) L) (S0i i o.dst ch av bs) ⟨n,fr,bx,ow⟩ h K
            |none=>(∃ av,(∀ h',Sub h h'->imp ch c (s08 L ⟨n,fr,bx,ow⟩ h' ch o.op.operands.toList [] λfr=>Z8 P o ⟨n,fr,bx,ow⟩ h' (R0n av ⟨n,fr,bx,ow⟩ h'))) /\
                  l02 av λav=>a (i+1) (a0h o.dst ch (.pu av) L) (S0i i o.dst ch av bs) ⟨n,fr,bx,ow⟩ h K) ∨
                (∃ F:Value->Hp->Prop,(∀ v b d,Sub b d->F v b->F v d) /\
                  (∀ h',Sub h h'->imp ch c (s08 L ⟨n,fr,bx,ow⟩ h' ch o.op.operands.toList [] λfr=>k0k P o ⟨n,fr,bx,ow⟩ h' (K0q ⟨n,fr,bx,ow⟩ h' F))) /\
                  a (i+1) (a0h o.dst ch (.ef F) L) bs ⟨n,fr,bx,ow⟩ h K)
          |none=>False
        |none=>False) l
def A0e:List Oper->Bool
 | []=>true
 |o::r=>(match o.guard with
  |some (j,_)=>Q8 j o
  |none=>true)&&A0e r
def W04(n:Nat)(ops:List Oper):Bool:=M03 n ops&&A0e ops
def S0s(P:Program):List Oper->Bool
 | []=>false
 |o::r=>(match o.guard,o.op with
  |some _,.call { callee := .value _,args:=_,argTypes:=_ }=>match P.underlying o.type with
   |some (.slice _)=>true
   |some (.struct _)=>true
   |some (.tuple _)=>true
   |_=>false
  |_,_=>false) || S0s P r
def U05(o:Oper):Bool:=match o.op with
 | .alloc _=>true
 |_=>false
def l01(o:Oper):Oper:=match o.op with
 | .alloc _ => { o with op := .move (.const undef) }
 |_=>o
def B6:List Oper->List Oper
 | []=>[]
 |o::r=>l01 o::B6 r
def okA(P:Program)(all:List Oper):List Oper->Bool
 | []=>true
 |o::r=>(match o.op with
  | .alloc t=>(match o.guard,o.dst,Q01 P t with
   |none,some d,some _ => !W0e d all
   |_,_,_=>false)
  |_=>true)&&okA P all r
def C0m(x:Nat):List Nat->Bool
 | []=>false
 |y::r=>Nat.beq x y || C0m x r
def T0s(ops:List Oper)(i:Nat):List Nat->Bool
 | []=>false
 |j::r=>(match nth ops j with
  |some o=>Q8 i o
  |none=>false) || T0s ops i r
def u0h(ops:List Oper):Nat->List Nat->List Nat
 |0,acc=>acc
 |i+1,acc=>match T0s ops i acc with
  |true=>u0h ops i (i::acc)
  |false=>u0h ops i acc
def J0c:Operand->List Nat
 | .tmp t=>[t]
 |_=>[]
def g0a(o:Oper):Option (List Nat):=match o.guard with
 |some _=>none
 |none=>match o.op with
  | .extract x _=>some (J0c x)
  | .move x=>some (J0c x)
  | .assign x=>some (J0c x)
  | .pick c x y=>some (J0c c++(J0c x++J0c y))
  |_=>none
def h0a(d:Nat):List Oper->Bool
 | []=>false
 |o::r=>(match o.dst with
  |some e=>Nat.beq e d
  |none=>false) || h0a d r
def V05(a:List Nat)(t:Nat):List Oper->Nat->Bool
 | [],_=>true
 |o::r,i=>(match o.dst with
  |some e => !Nat.beq e t || C0m i a
  |none=>true)&&V05 a t r (i+1)
def e07(i d:Nat):List Oper->Bool
 | []=>true
 |o::r=>(!O08 d o.op.operands.toList || Q8 i o)&&e07 i d r
def S0n(b c:List Oper)(a:List Nat):List Nat->Bool
 | []=>true
 |t::r=>(!h0a t c&&V05 a t b 0)&&S0n b c a r
def T0n(c a:List Oper)(b:List Nat)(i:Nat)(o:Oper):Bool:=match g0a o,o.dst with
 |some e,some d => !h0a d a&&S0n c a b e&&e07 i d a
 |_,_=>false
def B0e(b c:List Oper)(a:List Nat):List Oper->Nat->Bool
 | [],_=>true
 |o::r,i=>(C0m i a || T0n b c a i o)&&B0e b c a r (i+1)
def l0k:List Oper->Bool
 | []=>true
 |o::r => !b0b o.op&&l0k r
def N0q:Nat->List Oper->Bool
 |_,[]=>true
 |k,o::r=>(match o.guard with
  |none=>true
  |some _=>false)&&(match r with
  | []=>true
  |o'::_=>Q8 k o')&&N0q (k+1) r
def b0v:List Oper->Bool
 | []=>true
 |_::_=>false
def okZ(P:Program)(n m:Nat)(ops:List Oper):Bool :=
 W04 n (B6 (ops.take m))&&okA P (ops.take m) (ops.take m)&&I0d ops 0&&N0q m (ops.drop m)&&(b0v (ops.drop m) || (B0e (ops.take m) (ops.drop m) (u0h ops m [m]) (ops.take m) 0&&l0k (ops.drop m)))
abbrev j0u:=Oper->St->Hp->(St->Hp->Prop)->Prop
def doA(R:j0u)(l:List Oper):St->Hp->(St->Hp->Prop)->Prop :=
 List.rec (motive:=λ_=>St->Hp->(St->Hp->Prop)->Prop) (λst h K=>K st h) (λo _ a st h K=>match U05 o with
  |true=>R o st h λst h=>a st h K
  |false=>a st h K) l
def doT(R:j0u)(l:List Oper):St->Hp->(St->Hp->Prop)->Prop :=
 List.rec (motive:=λ_=>St->Hp->(St->Hp->Prop)->Prop) (λst h K=>K st h) (λo _ a st h K=>R o st h λst h=>a st h K) l
def evT(P:Program)(R:j0u)(m:Nat)(ops:List Oper)(st:St)(h:Hp)(K:St->Hp->Prop):Prop :=
 evU P (B6 (ops.take m)) 0 [] [] st h λst h=>doA R (ops.take m) st h λst h=>doT R (ops.drop m) st h K
inductive Ex where
 |normal|ret
 |exit (i:Nat)
structure Ann where
 vars:List Nat
 boxes:List Nat
 owns:List Nat
 nils:List (Nat×Nat×Nat×Nat):=[]
 nilsB:List (Nat×Nat×Nat×Nat×Nat):=[]
 kept:List Nat:=[]
 fuel:Bool:=false
 pubs:List Nat:=[]
def m0k:List (Nat×Nat×Nat×Nat)->St->(St->Prop)->Prop
 | [],st,K=>K st
 |(s,e,sz,by_)::r,⟨n,fr,bx,ow⟩,K=>match rdA ⟨n,fr,bx,ow⟩ (O3 fr s),Nat.blt s n with
  | .val (.slice none 0 0),true=>s0m ow λk=>m0k r ⟨n,(s,.own k 0)::fr,bx,ow ++ [⟨0,.live e sz by_ false []⟩]⟩ K
  |_,_=>False
def Z0e:List (Nat×Nat×Nat×Nat×Nat)->St->(St->Prop)->Prop
 | [],st,K=>K st
 |(i,k,e,sz,by_)::r,⟨n,fr,bx,ow⟩,K=>match nth bx i with
  |some (.live cs ty)=>match nth cs k with
   |some (.val (.slice none 0 0))=>s0m ow λj=>Z0e r ⟨n,fr,E01 bx i (.live (E01 cs k (.own j 0)) ty),ow ++ [⟨0,.live e sz by_ false []⟩]⟩ K
   |_=>False
  |_=>False
def n0k:List Nat->St->Hp->(St->Hp->Prop)->Prop
 | [],st,h,K=>K st h
 |s::r,st,h,K=>rfy (rdA st (O3 st.fr s)) st h λv st h=>match st with
  |⟨n,fr,bx,ow⟩=>match Nat.blt s n with
   |true=>n0k r ⟨n,(s,.val v)::fr,bx,ow⟩ h K
   |false=>False
def W09(x:Nat):List Nat->Bool
 | []=>false
 |y::r=>match Nat.beq x y with
  |true=>true
  |false=>W09 x r
def k0u:List Oper->List Nat->List Nat
 | [],acc=>acc
 |o::r,acc=>match o.dst with
  |some d=>k0u r (d::acc)
  |none=>k0u r acc
def b0h:Code->List Nat->List Nat
 | .region _ ops _,acc=>k0u ops.toList acc
 | .seq a b,acc=>b0h a (b0h b acc)
 | .cond _ a b,acc=>b0h a (b0h b acc)
 | .block _ a,acc=>b0h a acc
 | .loop a,acc=>b0h a acc
 | .scope a,acc=>b0h a acc
 |_,acc=>acc
def K0c:List Nat->(List Nat->Prop)->Prop
 | [],K=>K []
 |x::r,K=>K0c r λr=>K (x::r)
def U0s:List Nat->St->(List Value->Prop)->Prop
 | [],_,K=>K []
 |s::r,st,K=>match rdA st (O3 st.fr s)with
  | .val v=>U0s r st λvs=>K (v::vs)
  |_=>False
def o0k:List c6->St->(List Value->Prop)->Prop
 | [],_,K=>K []
 | .val v::r,st,K=>o0k r st λvs=>K (v::vs)
 | .own _ _::r,st,K=>o0k r st K
def a0f:List Nat->St->(List Value->Prop)->Prop
 | [],_,K=>K []
 |i::r,st,K=>match nth st.bx i with
  |some (.live cs _)=>o0k cs st λvs=>a0f r st λa=>K (vs++a)
  |_=>False
def v0h:List Nat->St->(List (List (List Value))->Prop)->Prop
 | [],_,K=>K []
 |i::r,st,K=>match nth st.ow i with
  |some ⟨_,.live _ _ _ _ xs⟩=>v0h r st λos=>K (xs::os)
  |_=>False
def D0m(A:Ann)(st:St)(K:List Value->List (List (List Value))->Prop):Prop :=
 U0s A.vars st λvs=>a0f A.boxes st λa=>v0h A.owns st λos=>K (vs++a) os
def X04:List c6->List Value->(List c6->List Value->Prop)->Prop
 | [],vs,K=>K [] vs
 | .val _::r,v::vs,K=>X04 r vs λcs a=>K (.val v::cs) a
 | .val _::_,[],_=>False
 | .own i k::r,vs,K=>X04 r vs λcs a=>K (.own i k::cs) a
def f07:List Nat->List Value->List BSt->(List BSt->Prop)->Prop
 | [],_,bx,K=>K bx
 |i::r,vs,bx,K=>match nth bx i with
  |some (.live cs ty)=>X04 cs vs λcs a=>f07 r a (E01 bx i (.live cs ty)) K
  |_=>False
def g07:List Nat->List (List (List Value))->List Own->(List Own->Prop)->Prop
 | [],_,ow,K=>K ow
 |i::r,xs::os,ow,K=>match nth ow i with
  |some ⟨s,.live e sz by_ nn _⟩=>g07 r os (E01 ow i ⟨s,.live e sz by_ nn xs⟩) K
  |_=>False
 |_::_,[],_,_=>False
def Q08{c:Type}:Nat->List c->(List c->List c->Prop)->Prop
 |0,l,K=>K [] l
 |n+1,x::l,K=>Q08 n l λa b=>K (x::a) b
 |_+1,[],_=>False
def i0a(A:Ann)(st:St):List Nat->List (Nat×AV)->(List (Nat×AV)->Prop)->Prop
 | [],acc,K=>K acc
 |s::r,acc,K=>match W09 s A.vars with
  |true=>i0a A st r acc K
  |false=>match rdA st (O3 st.fr s)with
   | .own i k=>i0a A st r ((s,.own i k)::acc) K
   | .box i o=>i0a A st r ((s,.box i o)::acc) K
   |_=>i0a A st r ((s,.dead)::acc) K
def U0n:List c6->Bool
 | []=>true
 | .val _::r=>U0n r
 | .own _ _::_=>false
def h07(A:Ann)(ds:List Nat)(st:St):List (Nat×AV)->(List (Nat×AV)->Prop)->Prop
 | [],K=>K []
 |(s,av)::r,K=>match W09 s ds with
  |true=>h07 A ds st r K
  |false=>match rdA st av with
   | .own i k=>match W09 i A.owns,W09 i A.kept with
    |true,false=>h07 A (s::ds) st r λl=>K ((s,.dead)::l)
    |_,_=>h07 A (s::ds) st r λl=>K ((s,.own i k)::l)
   | .oel _ _ _ _ _=>h07 A (s::ds) st r λl=>K ((s,.dead)::l)
   | .agg cs=>match U0n cs with
    |true=>h07 A (s::ds) st r λl=>K ((s,.agg cs)::l)
    |false=>h07 A (s::ds) st r λl=>K ((s,.dead)::l)
   |a=>h07 A (s::ds) st r λl=>K ((s,a)::l)
def L0c:List Nat->List Value->List (Nat×AV)->List (Nat×AV)
 |s::r,v::vs,acc=>L0c r vs ((s,.val v)::acc)
 |_,_,acc=>acc
def K0d(b a:St):List (Nat×AV)->Bool
 | []=>true
 |(s,av)::r=>match av with
  | .own i _=>match rdA a (O3 a.fr s)with
   | .own j _=>match Nat.beq i j with
    |true=>K0d b a r
    |false=>false
   |_=>false
  | .box i o=>match rdA a (O3 a.fr s)with
   | .box j p=>match Nat.beq i j,Nat.beq o p with
    |true,true=>K0d b a r
    |_,_=>false
   |_=>false
  |_=>K0d b a r
def E0m:AV->Bool
 | .dead=>true
 |_=>false
def C0p:List (Nat×AV)->List AV
 | []=>[]
 |(_,av)::r=>match E0m av with
  |true=>C0p r
  |false=>av::C0p r
def w0h(fr:List (Nat×AV)):List (Nat×AV)->List AV
 | []=>[]
 |(s,av)::r=>match E0m av with
  |true=>w0h fr r
  |false=>O3 fr s::w0h fr r
def i07(c a:St):List c6->List c6->Bool
 | [],[]=>true
 | .val _::r,.val _::b=>i07 c a r b
 | .own i _::r,.own j d::b=>match Nat.beq i j,rdA a (.own j d)with
  |true,.own _ _=>i07 c a r b
  |_,_=>false
 |_,_=>false
def i0b(os:List Nat):List c6->Bool
 | []=>true
 | .val _::r=>i0b os r
 | .own i _::r=>match W09 i os with
  |true=>false
  |false=>i0b os r
def F0m(os:List Nat):BSt->Bool
 | .live cs _=>i0b os cs
 | .publ _=>true
def M0c(A:Ann)(c a:St):Nat->List BSt->List BSt->Prop
 |_,[],_=>True
 |i,b::r,d::e=>match W09 i A.boxes with
  |true=>match b,d with
   | .live cs ty,.live cs' f=>match Nat.beq ty f,i07 c a cs cs' with
    |true,true=>M0c A c a (i+1) r e
    |_,_=>False
   |_,_=>False
  |false=>match F0m A.owns b with
   |true=>d=b/\M0c A c a (i+1) r e
   |false=>False
 |_,_::_,[]=>False
def leB(a b:Bool):Bool:=match a with
 |true=>b
 |false=>true
def N0c(A:Ann):Nat->List Own->List Own->Prop
 |_,[],_=>True
 |i,b::r,a::c=>match W09 i A.owns with
  |true=>match b,a with
   |⟨s,.live e sz by_ nn _⟩,⟨s',.live f h d g _⟩=>match Nat.beq e f,Nat.beq sz h,Nat.beq by_ d,leB nn g,leB (W09 i A.kept) (Nat.beq s s')with
    |true,true,true,true,true=>N0c A (i+1) r c
    |_,_,_,_,_=>False
   |_,_=>False
  |false=>a=b/\N0c A (i+1) r c
 |_,_::_,[]=>False
def j0b:Nat->(List Value->Prop)->Prop
 |0,K=>K []
 |n+1,K=>∀ v,j0b n λvs=>K (v::vs)
def k0b:Nat->(List (List (List Value))->Prop)->Prop
 |0,K=>K []
 |n+1,K=>∀ xs,k0b n λos=>K (xs::os)
abbrev O0c:=List Value->List (List (List Value))->Hp->Prop
abbrev t08:=List Value->List (List (List Value))->Nat
def V0s:List Value->List Value->Bool
 | [],[]=>true
 |_::r,_::a=>V0s r a
 |_,_=>false
def p0k(A:Ann)(I:O0c)(vs:List Value)(os:List (List (List Value)))(h:Hp):Prop:=match A.fuel with
 |false=>I vs os h
 |true=>∃ m:Nat,I (.int .i64 m::vs) os h
def q0k(A:Ann)(I:O0c)(μ:t08)(vs:List Value)(os:List (List (List Value)))(X:Nat->Hp->Prop):Prop:=match A.fuel with
 |false=>∀ h',I vs os h'->X (μ vs os) h'
 |true=>∀(m:Nat) (h':Hp),I (.int .i64 m::vs) os h'->X m h'
def W0s(A:Ann)(a:O0c)(μ:t08)(m:Nat)(vs:List Value)(os:List (List (List Value)))(h:Hp):Prop:=match A.fuel with
 |false=>a vs os h/\μ vs os<m
 |true=>∃ b:Nat,a (.int .i64 b::vs) os h/\b<m
def atI(A:Ann)(I:O0c)(μ:t08)(m:Nat)(vs:List Value)(os:List (List (List Value)))(h:Hp):Prop:=match A.fuel with
 |false=>I vs os h/\m=μ vs os
 |true=>I (.int .i64 m::vs) os h
theorem O0q{A:Ann}{b:O0c}{μ:t08}{vs:List Value}{os:List (List (List Value))}{h:Hp}(a:p0k A b vs os h):∃ m,atI A b μ m vs os h:=by
 unfold p0k at a
 unfold atI
 cases hf:A.fuel with
 |false=>rw[hf]at a;exact⟨_,a,rfl⟩
 |true=>rw[hf]at a;exact a
theorem P0q{A:Ann}{c:O0c}{μ:t08}{vs:List Value}{os:List (List (List Value))}{X:Nat->Hp->Prop}(b:q0k A c μ vs os X){m:Nat}{h:Hp}(a:atI A c μ m vs os h):X m h:=by
 unfold q0k at b
 unfold atI at a
 cases hf:A.fuel with
 |false=>rw[hf]at b a;rw[a.2];exact b _ a.1
 |true=>rw[hf]at b a;exact b _ _ a
theorem X0s{A:Ann}{b:O0c}{μ:t08}{m:Nat}{vs:List Value}{os:List (List (List Value))}{h:Hp}(a:W0s A b μ m vs os h):∃ c,atI A b μ c vs os h/\c<m:=by
 unfold W0s at a
 unfold atI
 cases hf:A.fuel with
 |false=>rw[hf]at a;exact⟨_,⟨a.1,rfl⟩,a.2⟩
 |true=>rw[hf]at a;exact a
def Q0q(A:Ann)(d b:List (Nat×AV))(a:St)(c:O0c)(μ:t08)(f:List Value)(m:Nat)(st:St)(h:Hp):Prop :=
 match Nat.beq st.n a.n,K0d a st d with
 |true,true=>w0h st.fr b=C0p b/\M0c A a st 0 a.bx st.bx/\N0c A 0 a.ow st.ow /\
   D0m A st λvs os=>match V0s vs f with
    |true=>Q08 A.vars.length vs λ_ e=>f07 A.boxes e a.bx λ_=>g07 A.owns os a.ow λ_=>W0s A c μ m vs os h
    |false=>False
 |_,_=>False
def V0n(i:(Ex->St->Hp->Prop)->St->Hp->Prop)(j:List Nat)(Q:Ex->St->Hp->Prop)(st:St)(h:Hp):Prop :=
 ∃(A:Ann) (b:O0c) (μ:t08),m0k A.nils st λst=>Z0e A.nilsB st λst=>n0k A.pubs st h λst h=>D0m A st λg d=>p0k A b g d h /\
  K0c j λds=>i0a A st ds [] λc=>h07 A ds st st.fr λf =>
   j0b g.length λvs=>k0b d.length λos=>q0k A b μ vs os λm h' =>
    Q08 A.vars.length vs λk l=>f07 A.boxes l st.bx λbx=>g07 A.owns os st.ow λow =>
     i (λe st' a=>match e with
      | .normal=>n0k A.pubs st' a λst' a=>Q0q A c f st b μ vs m st' a
      |e=>Q e st' a) ⟨st.n,L0c A.vars k (c++f),bx,ow⟩ h'
def R0q(b:Bool)(X Y:Prop):Prop:=(b=true->X)/\(b=false->Y)
def ev(P:Program):Code->(Ex->St->Hp->Prop)->St->Hp->Prop
 | .skip,Q,st,h=>Q .normal st h
 | .region _ ops false,Q,st,h=>match S0s P ops.toList with
  |true=>W04 st.n ops.toList=true/\evU P ops.toList 0 [] [] st h λst h=>Q .normal st h
  |false=>H0d P ops.toList 0 ⟨st,h,[],[]⟩ λrs=>Q .normal rs.st rs.h
 | .region _ ops true,Q,st,h=>((P.follows .mixedOrders=true/\Region.lexB .any ops=true) /\
   evQ P ops.toList 0 ⟨st,h,[],[]⟩ λrs=>Q .normal rs.st rs.h) ∨
   False ∨
   (match J0q ops.toList with
    |none=>(P.follows .mixedOrders=true/\M03 st.n ops.toList=true)/\G04 P st h ops.toList 0 [] [] [] λL X E=>evD (B00 L st ops.toList) ops.size P X E L st h λst h=>Q .normal st h
    |some o=>(P.follows .mixedOrders=true/\(M03 st.n (k02 ops.toList)&&I0d ops.toList 0)=true)/\G04 P st h (k02 ops.toList) 0 [] [] [] λL X E=>evD (B00 L st (k02 ops.toList)) (k02 ops.toList).length P X E L st h λst h=>b05 P o st h λst h=>Q .normal st h) ∨
   ((P.follows .mixedOrders=true/\W04 st.n ops.toList=true)/\evU P ops.toList 0 [] [] st h λst h=>Q .normal st h) ∨
   (∃ m,(P.follows .mixedOrders=true/\okZ P st.n m ops.toList=true)/\evT P (b05 P) m ops.toList st h λst h=>Q .normal st h)
 | .seq a b,Q,st,h=>ev P a (λe st h=>match e with
  | .normal=>ev P b Q st h
  |e=>Q e st h) st h
 | .cond c t e,Q,st,h=>match rdO st c with
  | .val (.bool b)=>R0q b (ev P t Q st h) (ev P e Q st h)
  |_=>False
 | .block id c,Q,st,h=>ev P c (λe st h=>match e with
  | .exit i=>match Nat.beq i id with
   |true=>Q .normal st h
   |false=>Q (.exit i) st h
  |e=>Q e st h) st h
 | .loop d,Q,st,h=>V0n (λQ=>ev P d Q) (b0h d []) Q st h
 | .exit id,Q,st,h=>Q (.exit id) st h
 | .ret,Q,st,h=>Q .ret st h
 |_,_,_,_=>False
def T0i(P:Program):List ResultVar->St->Hp->(List Value->St->Hp->Prop)->Prop
 | [],st,h,K=>K [] st h
 | .tmp t::r,st,h,K=>rfy (rdA st (O3 st.fr t)) st h λv st h=>T0i P r st h λvs st h=>K (v::vs) st h
 | .cell t ty::r,st,h,K=>match rdA st (O3 st.fr t)with
  | .box i off=>match nth st.bx i with
   |some (.live cs _)=>P05 P ty cs off λav=>rfy av st h λv st h=>T0i P r st h λvs st h=>K (v::vs) st h
   |_=>False
  |_=>False
def l0b:List Value->Value
 | [v]=>v
 |vs => .tuple vs.toArray
def m0b:Nat->List Value->List (Nat×AV)
 |_,[]=>[]
 |i,v::r=>(i,.val v)::m0b (i+1) r
def l0u(P:Program)(fn:Func)(args:List Value)(h:Hp)(T:Value->Hp->Prop):Prop :=
 match fn.body with
 |some c=>match Nat.ble args.length fn.ntmps with
  |true=>ev P c (λe st h=>match e with
   | .exit _=>False
   |_=>T0i P fn.results.toList st h λvs _ h=>T (l0b vs) h) ⟨fn.ntmps,m0b 0 args,[],[]⟩ h
  |false=>False
 |none=>False
end Go.H
