/- Plain laws over the model: what a function's code asks: regions with guards, regions that draw their order, branches and loops. -/
import Derived.Test.YtkjhghloldgioaaGreatH2
namespace Go.H
set_option linter.unusedVariables false
structure BE where
 j:Nat
 d:Nat
 e:Bool
 ch:List (Nat×Bool)
structure RS where
 st:St
 h:Hp
 gf:List (Nat×List (Nat×Bool)×AV)
 bs:List BE
def b0d:List (Nat×List (Nat×Bool)×AV)->Nat->Option (List (Nat×Bool)×AV)
 | [],_=>none
 |(k,x)::r,s=>match Nat.beq k s with
  |true=>some x
  |false=>b0d r s
def eqB(a b:Bool):Bool:=match a,b with
 |true,true=>true
 |false,false=>true
 |_,_=>false
def U0n:List (Nat×Bool)->List (Nat×Bool)->Bool
 | [],[]=>true
 |(j,w)::r,(j',w')::r'=>match Nat.beq j j',eqB w w' with
  |true,true=>U0n r r'
  |_,_=>false
 |_,_=>false
def W0h(a:List (Nat×Bool)):List (Nat×Bool)->Bool
 | []=>U0n a []
 |x::r=>match U0n a (x::r)with
  |true=>true
  |false=>W0h a r
def rdG(rs:RS)(ch:List (Nat×Bool)):Operand->AV
 | .tmp t=>match b0d rs.gf t with
  |some (ch2,av)=>match W0h ch2 ch with
   |true=>rdA rs.st av
   |false => .dead
  |none=>rdA rs.st (Z2 rs.st.fr t)
 |x=>rdO rs.st x
def h02:List BE->Nat->Option BE
 | [],_=>none
 |b::r,j=>match Nat.beq b.j j with
  |true=>some b
  |false=>h02 r j
def y09:List BE->Nat->Option BE
 | [],_=>none
 |b::r,s=>match Nat.beq b.d s with
  |true=>some b
  |false=>y09 r s
def lit(w e:Bool):Bool:=match w with
 |true=>e
 |false => !e
def cB(bs:List BE):List (Nat×Bool)->Option Bool
 | []=>some true
 |(j,w)::r=>match h02 bs j with
  |some b=>match r with
   | []=>some (lit w b.e)
   |_=>match cB bs r with
    |some c=>some (lit w b.e&&c)
    |none=>none
  |none=>none
def c00(bs:List BE):Option (Nat×Bool)->Option (List (Nat×Bool))
 |none=>some []
 |some (j,w)=>match h02 bs j with
  |some b=>some ((j,w)::b.ch)
  |none=>none
def imp(ch:List (Nat×Bool))(c:Bool)(X:Prop):Prop:=match ch with
 | []=>X
 |_=>c=true->X
def X0h(rs:RS)(ch:List (Nat×Bool)):List Operand->Option (List (Nat×Value))
 | []=>some []
 | .tmp t::r=>match f04 (rdG rs ch (.tmp t))with
  |some v=>match X0h rs ch r with
   |some vs=>some ((t,v)::vs)
   |none=>none
  |none=>none
 | .global _::_=>none
 |_::r=>X0h rs ch r
def Z0p(rs:RS)(ch:List (Nat×Bool)):List Operand->St->Hp->(List (Nat×Value)->St->Hp->Prop)->Prop
 | [],st,h,K=>K [] st h
 | .tmp t::r,st,h,K=>rfy (rdA st (rdG rs ch (.tmp t))) st h λv st h=>Z0p rs ch r st h λvs st h=>K ((t,v)::vs) st h
 | .global _::_,_,_,_=>False
 |_::r,st,h,K=>Z0p rs ch r st h K
def K0g(P:Program)(o:Oper)(ch:List (Nat×Bool))(c:Bool)(rs:RS)(K:AV->Prop):Prop :=
 match u09 o.op,X0h rs ch o.op.operands.toList with
 |false,some vs=>match S06 (rho vs) o with
  |some (f,l)=>match okF P f with
   |true=>∃ v,imp ch c (Tr P f l.toArray rs.h λv' h'=>v'=v/\h'=rs.h)/\K (.val v)
   |false=>False
  |none=>match evP P (s0f (rho vs) o)with
   |some (.value v)=>K (.val v)
   |_=>False
 |false,none=>∃ r,imp ch c (Z0p rs ch o.op.operands.toList rs.st rs.h λvs _ hf=>match S06 (rho vs) o with
  |some (f,l)=>match okF P f with
   |true=>Tr P f l.toArray hf λv h'=>v=r/\h'=hf
   |false=>False
  |none=>False)/\K (.val r)
 |_,_=>False
def evG(P:Program)(o:Oper)(ch:List (Nat×Bool))(c:Bool)(rs:RS)(K:AV->Prop):Prop :=
 match o.op with
 | .move x | .assign x=>match rdG rs ch x with
  | .dead=>False
  |a=>K a
 | .pick (.tmp s) a b=>match rdG rs ch (.tmp s),y09 rs.bs s with
  | .val (.bool e),some q=>match W0h q.ch ch with
   |true=>match rdG rs ((q.j,true)::q.ch) a,rdG rs ((q.j,false)::q.ch) b with
    | .val (.bool x),.val (.bool y)=>K (.val (.bool (cond e x y)))
    |_,_=>False
   |false=>False
  |_,_=>False
 | .fieldAddr t x k=>match rdG rs ch x,H0g P t k with
  | .box i off,some fo=>K (.box i (off+fo))
  | .hel s i sz k,some fo=>K (.hel s i sz (k+fo))
  | .oel i s j sz k,some fo=>K (.oel i s j sz (k+fo))
  |_,_=>False
 | .indexAddr t x i=>match rdG rs ch i with
  | .val (.int _ j)=>match S00 P t with
   |some e=>match E5 P e with
    |some sz=>match rdG rs ch x with
     | .val (.slice a n cp)=>imp ch c (InB (.slice a n cp) j)/\K (.hel (.slice a n cp) j sz 0)
     | .own i k=>match nth rs.st.ow i with
      |some ⟨_,.live _ sz' _ _ xs⟩=>match Nat.beq sz' sz with
       |true=>imp ch c (0<=j/\j<(xs.length:Int))/\K (.oel i k j sz 0)
       |false=>False
      |_=>False
     |_=>False
    |none=>False
   |none=>False
  |_=>False
 | .load t x=>match rdG rs ch x with
  | .box i off=>match nth rs.st.bx i with
   |some (.live cs _)=>d04 P t cs off K
   |_=>False
  | .hel s idx sz k=>∃ e,imp ch c (d00 rs.h s sz idx e)/\d04 P t (vals e) k K
  | .oel i _ idx sz k=>match nth rs.st.ow i with
   |some ⟨_,.live _ sz' _ _ xs⟩=>match Nat.beq sz' sz with
    |true=>∃ e,imp ch c (xs[idx.toNat]?=some e)/\d04 P t (vals e) k K
    |false=>False
   |_=>False
  |_=>False
 | .build t ps=>match P.underlying t,z00 P t with
  |some (.struct fs),some z=>match w05 P fs.toList with
   |true=>V06 P fs (rdG rs ch) ps.toList (vals z.cells.toList) λcs=>K (.agg cs)
   |false=>False
  |_,_=>False
 | .index t x i=>match rdG rs ch x,rdG rs ch i,P.underlying t with
  | .val (.string s),.val (.int _ j),some .string=>∃ e,imp ch c (0<=j/\s[j.toNat]?=some e)/\K (.val (.int .u8 e.toNat))
  |_,_,_=>False
 | .slice t x lo hi none=>match rdG rs ch x,P.underlying t with
  | .val (.string s),some .string=>match T04 0 (lo.map (rdG rs ch)),T04 s.size (hi.map (rdG rs ch))with
   |some l,some m=>imp ch c (0<=l/\l<=m/\m<=(s.size:Int))/\K (.val (.string (s.extract l.toNat m.toNat)))
   |_,_=>False
  | .val (.slice ad n cp),_=>match S00 P t with
   |some e=>match E5 P e with
    |some sz=>match T04 0 (lo.map (rdG rs ch)),T04 n (hi.map (rdG rs ch))with
     |some l,some m=>∃ v,imp ch c ((0<=l/\l<=m/\m<=(n:Int)/\n<=cp)/\Z0j sz (.slice ad n cp) l.toNat m.toNat v)/\K (.val v)
     |_,_=>False
    |none=>False
   |none=>False
  |_,_=>False
 | .binOp .eql t x y yt=>match f04 (rdG rs ch x),f04 (rdG rs ch y)with
  |some (.agg xs),some (.agg ys)=>∃ b,imp ch c (x09 P o x y (.agg xs) (.agg ys) b)/\K (.val (.bool b))
  |some (.slice a n m),some (.slice none 0 0)=>∃ b,imp ch c (x09 P o x y (.slice a n m) (.slice none 0 0) b)/\K (.val (.bool b))
  |_,_=>K0g P o ch c rs K
 | .binOp .neq t x y yt=>match f04 (rdG rs ch x),f04 (rdG rs ch y)with
  |some (.agg xs),some (.agg ys)=>∃ b,imp ch c (x09 P o x y (.agg xs) (.agg ys) b)/\K (.val (.bool b))
  |_,_=>K0g P o ch c rs K
 | .binOp .add t x y yt=>match rdG rs ch x,rdG rs ch y with
  | .val (.string a),.val (.string b)=>imp ch c (a.size+b.size<=9223372036854775807)/\K (.val (.string (a++b)))
  |_,_=>K0g P o ch c rs K
 | .binOp .quo t x y yt=>match rdG rs ch x,rdG rs ch y with
  | .val (.int .i64 a),.val (.int .i64 b)=>imp ch c (b≠0)/\K (.val (.int .i64 (IntKind.i64.wrap (a.tdiv b))))
  |_,_=>K0g P o ch c rs K
 | .binOp .rem t x y yt=>match rdG rs ch x,rdG rs ch y with
  | .val (.int .i64 a),.val (.int .i64 b)=>imp ch c (b≠0)/\K (.val (.int .i64 (a.tmod b)))
  |_,_=>K0g P o ch c rs K
 | .call { callee := .builtin .len,args:=as,argTypes:=ts }=>match as.toList,ts.toList with
  | [x],[t]=>match rdG rs ch x with
   | .own i _=>match nth rs.st.ow i,S00 P t with
    |some ⟨_,.live _ _ _ _ xs⟩,some _=>K (.val (.int .i64 xs.length))
    |_,_=>False
   |_=>K0g P o ch c rs K
  |_,_=>False
 |_=>K0g P o ch c rs K
def X06(rs:RS)(d:Nat):Bool:=match b0d rs.gf d,y09 rs.bs d with
 |none,none=>false
 |_,_=>true
def Y0h(i d:Nat)(ch:List (Nat×Bool))(av:AV)(bs:List BE):List BE:=match av with
 | .val (.bool e)=>⟨i,d,e,ch⟩::bs
 |_=>bs
def c0d(d:Option Tmp)(i:Nat)(ch:List (Nat×Bool))(av:AV)(rs:RS)(K:RS->Prop):Prop :=
 match d with
 |none=>K rs
 |some d=>match Nat.blt d rs.st.n,X06 rs d with
  |true,false=>match ch with
   | []=>K { rs with st := { rs.st with fr:=(d,av)::rs.st.fr },bs:=Y0h i d ch av rs.bs }
   |_=>K { rs with st := { rs.st with fr:=(d,.dead)::rs.st.fr },gf:=(d,ch,av)::rs.gf,bs:=Y0h i d ch av rs.bs }
  |_,_=>False
def b0k:Op->Bool
 | .pick ..=>true
 |_=>false
def R0b(P:Program):List Oper->Nat->RS->(RS->Prop)->Prop
 | [],_,rs,K=>K rs
 |o::r,i,rs,K=>match o.guard,b0k o.op with
  |none,false=>F7 P o rs.st rs.h λav st h=>c0d o.dst i [] av { rs with st:=st,h:=h } λrs=>R0b P r (i+1) rs K
  |_,_=>match c00 rs.bs o.guard with
   |some ch=>match cB rs.bs ch with
    |some c=>evG P o ch c rs λav=>c0d o.dst i ch av rs λrs=>R0b P r (i+1) rs K
    |none=>False
   |none=>False
def evQ(P:Program):List Oper->Nat->RS->(RS->Prop)->Prop
 | [],_,rs,K=>K rs
 |o::r,i,rs,K=>match c00 rs.bs o.guard with
  |some ch=>match cB rs.bs ch with
   |some c=>evG P o ch c rs λav=>c0d o.dst i ch av rs λrs=>evQ P r (i+1) rs K
   |none=>False
  |none=>False
def Sub(h h':Hp):Prop:=∀ b o,h b=some o->h' b=some o
def V0n(v:Value)(K:Value->Prop):Prop:=match v with
 | .bool b=>K (.bool b)
 | .int k n=>K (.int k n)
 | .string s=>K (.string s)
 | .pointer a=>K (.pointer a)
 | .slice a n c=>K (.slice a n c)
 | .func f x y=>K (.func f x y)
 | .agg cs=>K (.agg cs)
 | .tuple vs=>K (.tuple vs)
 |v=>K v
theorem D0m(v:Value)(K:Value->Prop):V0n v K=K v:=by cases v<;>rfl
def G7{α:Type}:List α->(List α->Prop)->Prop
 | [],K=>K []
 |x::r,K=>G7 r λr=>K (x::r)
theorem X01{α:Type}:∀(l:List α) (K:List α->Prop),G7 l K=K l
 | [],K=>rfl
 |x::r,K=>by simp only[G7,X01 r]
def h04:Nat->(Nat->Prop)->Prop
 |0,K=>K 0
 |n+1,K=>h04 n λm=>K (m+1)
theorem Y06:∀(n:Nat) (K:Nat->Prop),h04 n K=K n
 |0,K=>rfl
 |n+1,K=>by simp only[h04,Y06 n]
def U00(av:AV)(K:AV->Prop):Prop:=match av with
 | .val v=>V0n v λv=>K (.val v)
 | .own i k=>K (.own i k)
 | .box i k=>K (.box i k)
 | .hel s i z k=>h04 z λz=>h04 k λk=>K (.hel s i z k)
 | .oel j s i z k=>h04 z λz=>h04 k λk=>K (.oel j s i z k)
 | .agg cs=>G7 cs λcs=>K (.agg cs)
 | .dead=>K .dead
theorem A02(av:AV)(K:AV->Prop):U00 av K=K av:=by
 cases av with
 |val v=>exact D0m v (λv=>K (.val v))
 |hel s i z k=>simp only[U00,Y06]
 |oel j s i z k=>simp only[U00,Y06]
 |agg cs=>simp only[U00,X01]
 |_=>rfl
inductive R5 where
 |pu (av:AV)
 |ef (F:Value->Hp->Prop)
def D3:List (Nat×R5)->Nat->Option R5
 | [],_=>none
 |(k,x)::r,s=>match Nat.beq k s with
  |true=>some x
  |false=>D3 r s
def rdS(L:List (Nat×R5))(st:St):Operand->AV
 | .tmp t=>match D3 L t with
  |some (.pu av)=>rdA st av
  |some (.ef _) => .dead
  |none=>rdA st (Z2 st.fr t)
 |x=>rdO st x
def d0d(P:Program)(t:TypeId)(cs:List l5)(off:Nat):Option AV :=
 match G0g P t with
 |some true=>match E5 P t with
  |some n=>match Z05 ((cs.drop off).take n) n with
   |true=>some (.agg ((cs.drop off).take n))
   |false=>none
  |none=>none
 |some false=>match nth cs off with
  |some c=>some (ofCell c)
  |none=>none
 |none=>none
def c0k(P:Program)(L:List (Nat×R5))(o:Oper)(st:St):Option AV:=match o.op with
 | .move x | .assign x=>match rdS L st x with
  | .dead=>none
  |a=>some a
 | .load t x=>match rdS L st x with
  | .box i off=>match nth st.bx i with
   |some (.live cs _)=>d0d P t cs off
   |_=>none
  |_=>none
 |_=>none
def e0d(L:List (Nat×R5))(st:St)(h:Hp):List Operand->List (Nat×AV)->(List (Nat×AV)->Prop)->Prop
 | [],acc,K=>K acc
 | .tmp t::r,acc,K=>match D3 L t with
  |some (.pu av)=>e0d L st h r ((t,av)::acc) K
  |some (.ef F)=>∀ v,F v h->e0d L st h r ((t,.val v)::acc) K
  |none=>e0d L st h r ((t,Z2 st.fr t)::acc) K
 |_::r,acc,K=>e0d L st h r acc K
def a06(d:Option Tmp)(f:R5)(L:List (Nat×R5)):List (Nat×R5):=match d with
 |some d=>(d,f)::L
 |none=>L
def a0s(st:St)(h:Hp)(F:Value->Hp->Prop):AV->St->Hp->Prop
 | .val v,st',h'=>st'=st/\Sub h h'/\F v h'
 |_,_,_=>False
def H7(i:Nat)(o:Oper):Bool:=o.after.toList.any λe=>Region.binds .any e&&Nat.beq e.on i
def Y01(o:Oper)(t:Nat):List Oper->Nat->Bool
 | [],_=>true
 |x::r,i=>match x.dst with
  |some d=>match Nat.beq d t with
   |true=>H7 i o&&Y01 o t r (i+1)
   |false=>Y01 o t r (i+1)
  |none=>Y01 o t r (i+1)
def z09(o:Oper)(ops:List Oper):List Operand->Bool
 | []=>true
 | .tmp t::r=>Y01 o t ops 0&&z09 o ops r
 |_::r=>z09 o ops r
def Z06(d:Nat):List Oper->Bool
 | []=>true
 |o::r=>match o.dst with
  |some d' => !Nat.beq d d'&&Z06 d r
  |none=>Z06 d r
def Z0h(n:Nat):List Oper->Bool
 | []=>true
 |o::r=>match o.dst with
  |some d=>Nat.blt d n&&Z06 d r&&Z0h n r
  |none=>Z0h n r
def S0b:List Oper->Nat->Bool
 | [],_=>true
 |o::r,j=>(o.after.toList.all λe => !Region.binds .any e || Nat.blt e.on j)&&S0b r (j+1)
def g0l(ops:List Oper):List Oper->Bool
 | []=>true
 |o::r=>z09 o ops o.op.operands.toList&&g0l ops r
def s02(n:Nat)(ops:List Oper):Bool:=Z0h n ops&&S0b ops 0&&g0l ops ops
def h0l:List l5->Bool
 | []=>true
 | .val _::r=>h0l r
 | .own _ _::_=>false
def L0g:AV->Bool
 | .val _=>true
 | .box _ _=>true
 | .own _ _=>true
 | .agg cs=>h0l cs
 |_=>false
def l05(L:List (Nat×R5))(st:St):Operand->AV
 | .tmp t=>match D3 L t with
  |some (.pu av)=>av
  |some (.ef _) => .dead
  |none=>Z2 st.fr t
 | .const v => .val v
 |_ => .dead
def T0b(L:List (Nat×R5))(st:St):List Operand->Option (List (Nat×Value))
 | []=>some []
 | .tmp t::r=>match l05 L st (.tmp t)with
  | .val v=>match T0b L st r with
   |some vs=>some ((t,v)::vs)
   |none=>none
  |_=>none
 | .global _::_=>none
 |_::r=>T0b L st r
def d0k(P:Program)(L:List (Nat×R5))(o:Oper)(st:St):Option AV:=match u09 o.op,T0b L st o.op.operands.toList with
 |false,some vs=>match S06 (rho vs) o with
  |some _=>none
  |none=>match evP P (s0f (rho vs) o)with
   |some (.value v)=>some (.val v)
   |_=>none
 |_,_=>none
def b0s:AV->Bool
 | .val (.int _ _)=>true
 |_=>false
def o0s:BinOp->Bool
 | .lss=>true
 | .leq=>true
 | .gtr=>true
 | .geq=>true
 | .eql=>true
 | .neq=>true
 | .add=>true
 | .sub=>true
 | .mul=>true
 |_=>false
def s08(P:Program)(L:List (Nat×R5))(o:Oper)(st:St):Option AV:=match o.op with
 | .move x=>match L0g (l05 L st x)with
  |true=>some (l05 L st x)
  |false=>none
 | .assign x=>match L0g (l05 L st x)with
  |true=>some (l05 L st x)
  |false=>none
 | .load t x=>match l05 L st x with
  | .box i off=>match nth st.bx i with
   |some (.live cs _)=>match d0d P t cs off with
    |some av=>match L0g av with
     |true=>some av
     |false=>none
    |none=>none
   |_=>none
  |_=>none
 | .fieldAddr t x k=>match l05 L st x,H0g P t k with
  | .box i off,some fo=>some (.box i (off+fo))
  |_,_=>none
 | .binOp op _ x y _=>match o0s op,b0s (l05 L st x),b0s (l05 L st y)with
  |true,true,true=>d0k P L o st
  |_,_,_=>none
 | .call { callee := .builtin .len,args:=as,argTypes:=_ }=>match as.toList with
  | [x]=>match l05 L st x with
   | .val (.slice _ _ _)=>d0k P L o st
   |_=>none
  |_=>none
 |_=>none
def A9(L:List (Nat×R5))(st:St):List Oper->List Nat
 | []=>[]
 |o::r=>match o.op with
  | .load _ x=>match l05 L st x with
   | .box i _=>i::A9 L st r
   |_=>A9 L st r
  |_=>A9 L st r
def t08(bx:List BSt):List Nat->List (Option BSt)
 | []=>[]
 |i::r=>nth bx i::t08 bx r
def K03(L:List (Nat×R5))(fr0:List (Nat×AV)):List Operand->List (Nat×AV)->(List (Nat×AV)->Prop)->Prop
 | [],acc,K=>K acc
 | .tmp t::r,acc,K=>match D3 L t with
  |some (.pu av)=>K03 L fr0 r ((t,av)::acc) K
  |some (.ef _)=>K03 L fr0 r ((t,.dead)::acc) K
  |none=>K03 L fr0 r ((t,Z2 fr0 t)::acc) K
 |_::r,acc,K=>K03 L fr0 r acc K
def a0i:List (Nat×R5)->List (Nat×AV)->List (Nat×AV)
 | [],fr=>fr
 |(d,.pu av)::r,fr=>(d,av)::a0i r fr
 |(d,.ef _)::r,fr=>(d,.dead)::a0i r fr
def i0l(av:AV)(st:St)(h:Hp):AV->St->Hp->Prop:=λav' st' h'=>av'=av/\st'=st/\h'=h
def b0i(P:Program)(st:St)(h:Hp)(L:List (Nat×R5))(o:Oper)(av:AV):Prop :=
 match st with
 |⟨n,fr,bx,ow⟩=>∀ h',Sub h h'->K03 L fr o.op.operands.toList [] λfr=>F7 P o ⟨n,fr,bx,ow⟩ h' (i0l av ⟨n,fr,bx,ow⟩ h')
def e03(P:Program)(st:St)(h:Hp):List Oper->Nat->List (Nat×R5)->List (Nat×Oper)->List (Nat×Oper)->(List (Nat×R5)->List (Nat×Oper)->List (Nat×Oper)->Prop)->Prop
 | [],_,L,X,E,K=>K L X E
 |o::r,i,L,X,E,K=>match o.guard with
  |some _=>False
  |none=>match s08 P L o st with
   |some av=>U00 av λav=>e03 P st h r (i+1) (a06 o.dst (.pu av) L) X E K
   |none=>(∃ av,b0i P st h L o av/\U00 av λav=>e03 P st h r (i+1) (a06 o.dst (.pu av) L) (X ++ [(i,o)]) E K) ∨
     e03 P st h r (i+1) (a06 o.dst (.ef λ_ _=>True) L) X (E ++ [(i,o)]) K
def M0g(X:List (Nat×Oper)):Nat->Nat->Oper->Bool
 |0,i,q=>H7 i q
 |n+1,i,q=>H7 i q || X.any λy=>H7 y.1 q&&M0g X n i y.2
def f0d(X Y:List (Nat×Oper)):List (Nat×Oper)->Bool
 | []=>true
 |(_,q)::_=>X.all λx=>M0g Y 8 x.1 q
def i04:List (Nat×Oper)->Bool
 |(i,o)::(j,o')::r=>H7 i o'&&i04 ((j,o')::r)
 |_=>true
def j04:Nat->Nat->Oper->Bool
 |0,_,_=>true
 |k+1,i,o=>(Nat.beq k i || H7 k o)&&j04 k i o
def a07(d:Nat):List Operand->Bool
 | []=>false
 | .tmp t::r=>Nat.beq t d || a07 d r
 |_::r=>a07 d r
def g0d(d:Nat):List Oper->Bool
 | []=>false
 |o::r=>a07 d o.op.operands.toList || g0d d r
def T00:List Oper->List Oper
 | []=>[]
 |o::r=>match r with
  | []=>[]
  |_::_=>o::T00 r
def h0d:List Oper->Option Oper
 | []=>none
 |o::r=>match r with
  | []=>some o
  |_::_=>h0d r
def W0n(ops:List Oper):Option Oper:=match h0d ops with
 |some o=>match o.guard,o.dst with
  |none,some d=>match g0d d (T00 ops)&&j04 (T00 ops).length (T00 ops).length o with
   |true=>some o
   |false=>none
  |_,_=>none
 |none=>none
def r03(P:Program)(o:Oper)(st:St)(h:Hp)(K:St->Hp->Prop):Prop :=
 F7 P o st h λav st h=>c0d o.dst 0 [] av ⟨st,h,[],[]⟩ λrs=>K rs.st rs.h
def A09(N i:Nat)(o:Oper):List (Nat×Oper)->Bool
 | []=>j04 N i o
 |_::_=>false
def t0f(c:Nat)(b:Bool)(rd:List Nat)(bx bx':List BSt):Prop:=match b with
 |true=>True
 |false=>match c with
  |0=>t08 bx' rd=t08 bx rd
  |_+1=>bx'=bx
def H0a:Nat->List Own->List Own->Hp->Hp->Prop
 |0,_,_,_,_=>True
 |_+1,ow,ow',h,h'=>ow'=ow/\Sub h h'
def evC(rd:List Nat)(N:Nat)(P:Program):Nat->List (Nat×Oper)->List (Nat×R5)->St->Hp->(St->Hp->Prop)->Prop
 |_,[],L,⟨n,fr,bx,ow⟩,h,K=>G7 (a0i L fr) λfr=>K ⟨n,fr,bx,ow⟩ h
 |c,(i,o)::r,L,⟨n,fr,bx,ow⟩,h,K=>K03 L fr o.op.operands.toList [] λfr1=>F7 P o ⟨n,fr1,bx,ow⟩ h λav st' h'=>match st' with
  |⟨_,_,bx',ow'⟩=>H0a c ow ow' h h'/\t0f c (A09 N i o r) rd bx bx'/\U00 av λav=>G7 bx' λbx'=>G7 ow' λow'=>evC rd N P (c-1) r (a06 o.dst (.pu av) L) ⟨n,fr,bx',ow'⟩ h' K
def a0q(f:Nat×Oper)(rd:List Nat)(N:Nat)(P:Program):Nat->List (Nat×Oper)->List (Nat×R5)->St->Hp->(St->Hp->Prop)->Prop
 |0,E,L,st,h,K=>evC rd N P 0 (f::E) L st h K
 |p+1,E,L,st,h,K=>evC rd N P 0 (f::E) L st h K/\match E with
  | []=>False
  |(i,o)::r=>match st with
   |⟨n,fr,bx,ow⟩=>K03 L fr o.op.operands.toList [] λfr1=>F7 P o ⟨n,fr1,bx,ow⟩ h λav st' h'=>match st' with
    |⟨_,_,bx',ow'⟩=>H0a 0 ow ow' h h'/\t0f 0 (A09 N i o r) rd bx bx'/\U00 av λav=>G7 bx' λbx'=>G7 ow' λow'=>a0q f rd N P p r (a06 o.dst (.pu av) L) ⟨n,fr,bx',ow'⟩ h' K
def E0m(f:Nat×Oper):Nat->List (Nat×Oper)->Bool
 |_,[]=>false
 |0,(_,q)::_=>H7 f.1 q
 |p+1,_::r=>E0m f p r
def u0f:Nat->List (Nat×Oper)->Option ((Nat×Oper)×List (Nat×Oper))
 |_,[]=>none
 |0,x::r=>some (x,r)
 |k+1,x::r=>match u0f k r with
  |some (f,r')=>some (f,x::r')
  |none=>none
def noX:List (Nat×Oper)->Bool
 | []=>true
 |_::_=>false
def I0a:List (Nat×Oper)->List (Nat×Oper)->List ((Nat×Oper)×List (Nat×Oper))
 |_,[]=>[]
 |A,x::B=>(x,A++B)::I0a (A ++ [x]) B
def N0g(x:Nat×Oper):List (Nat×Oper)->Bool
 | []=>true
 |y::r => !H7 y.1 x.2&&N0g x r
def y05(f:(Nat×Oper)->List (Nat×Oper)->Prop):List ((Nat×Oper)×List (Nat×Oper))->Prop
 | []=>True
 |p::l=>match N0g p.1 p.2 with
  |true=>f p.1 p.2/\y05 f l
  |false=>y05 f l
def c0i(rd:List Nat)(N:Nat)(P:Program):Nat->List (Nat×Oper)->List (Nat×R5)->St->Hp->(St->Hp->Prop)->Prop
 |0,_,L,⟨n,fr,bx,ow⟩,h,K=>G7 (a0i L fr) λfr=>K ⟨n,fr,bx,ow⟩ h
 |m+1,E,L,⟨n,fr,bx,ow⟩,h,K=>y05 (λx r=>K03 L fr x.2.op.operands.toList [] λfr1=>F7 P x.2 ⟨n,fr1,bx,ow⟩ h λav st' h'=>match st' with
  |⟨_,_,bx',ow'⟩=>H0a 0 ow ow' h h'/\t0f 0 (A09 N x.1 x.2 r) rd bx bx'/\U00 av λav=>G7 bx' λbx'=>G7 ow' λow'=>c0i rd N P m r (a06 x.2.dst (.pu av) L) ⟨n,fr,bx',ow'⟩ h' K) (I0a [] E)
def a0f:List (Nat×Oper)->Nat
 | []=>0
 |_::r=>a0f r+1
def evD(rd:List Nat)(N:Nat)(P:Program)(X E:List (Nat×Oper))(L:List (Nat×R5))(st:St)(h:Hp)(K:St->Hp->Prop):Prop :=
 (∃ c,(i04 E=true/\f0d X (X++E) (E.drop c)=true)/\evC rd N P c E L st h K) ∨
 (∃ k p,match u0f k E with
  |some (f,E')=>(noX X=true/\i04 E'=true/\E0m f p E'=true)/\a0q f rd N P p E' L st h K
  |none=>noX X=true/\c0i rd N P (a0f E) E L st h K)
abbrev FL:=List (Nat×List (Nat×Bool)×R5)
def X02:FL->Nat->Option (List (Nat×Bool)×R5)
 | [],_=>none
 |(k,x)::r,s=>match Nat.beq k s with
  |true=>some x
  |false=>X02 r s
def rdU(L:FL)(st:St)(ch:List (Nat×Bool)):Operand->AV
 | .tmp t=>match X02 L t with
  |some (ch2,.pu av)=>match W0h ch2 ch with
   |true=>rdA st av
   |false => .dead
  |some (_,.ef _) => .dead
  |none=>rdA st (Z2 st.fr t)
 |x=>rdO st x
def u08(P:Program)(L:FL)(bs:List BE)(ch:List (Nat×Bool))(o:Oper)(st:St):Option AV:=match o.op with
 | .move x | .assign x=>match rdU L st ch x with
  | .dead=>none
  |a=>some a
 | .load t x=>match rdU L st ch x with
  | .box i off=>match nth st.bx i with
   |some (.live cs _)=>d0d P t cs off
   |_=>none
  |_=>none
 | .fieldAddr t x k=>match rdU L st ch x,H0g P t k with
  | .box i off,some fo=>some (.box i (off+fo))
  | .hel s i sz k,some fo=>some (.hel s i sz (k+fo))
  |_,_=>none
 | .pick (.tmp s) a b=>match rdU L st ch (.tmp s),y09 bs s with
  | .val (.bool e),some q=>match W0h q.ch ch with
   |true=>match rdU L st ((q.j,true)::q.ch) a,rdU L st ((q.j,false)::q.ch) b with
    | .val (.bool x),.val (.bool y)=>some (.val (.bool (cond e x y)))
    |_,_=>none
   |false=>none
  |_,_=>none
 |_=>none
def D06(L:FL)(st:St)(h:Hp)(ch:List (Nat×Bool)):List Operand->List (Nat×AV)->(List (Nat×AV)->Prop)->Prop
 | [],acc,K=>K acc
 | .tmp t::r,acc,K=>match X02 L t with
  |some (ch2,f)=>match W0h ch2 ch with
   |true=>match f with
    | .pu av=>D06 L st h ch r ((t,av)::acc) K
    | .ef F=>∀ v,F v h->D06 L st h ch r ((t,.val v)::acc) K
   |false=>False
  |none=>D06 L st h ch r ((t,Z2 st.fr t)::acc) K
 |_::r,acc,K=>D06 L st h ch r acc K
def q0c(h:Hp):FL->List (Nat×AV)->(List (Nat×AV)->Prop)->Prop
 | [],fr,K=>K fr
 |(d,[],.pu av)::r,fr,K=>q0c h r ((d,av)::fr) K
 |(d,[],.ef F)::r,fr,K=>∀ v,F v h->q0c h r ((d,.val v)::fr) K
 |(d,_::_,_)::r,fr,K=>q0c h r ((d,.dead)::fr) K
def i0d(d:Option Tmp)(ch:List (Nat×Bool))(f:R5)(L:FL):FL:=match d with
 |some d=>(d,ch,f)::L
 |none=>L
def O0g(i:Nat)(d:Option Tmp)(ch:List (Nat×Bool))(av:AV)(bs:List BE):List BE:=match d with
 |some d=>match av with
  | .val (.bool e)=>⟨i,d,e,ch⟩::bs
  |_=>bs
 |none=>bs
def e0k(st st':St):Prop:=st'.n=st.n/\st'.fr=st.fr/\st'.bx=st.bx/\∃ t,st'.ow=st.ow++t
def X0n(st:St)(h:Hp)(F:Value->Hp->Prop):AV->St->Hp->Prop:=λav st' h'=>rfy av st' h' λv st'' h''=>e0k st st''/\Sub h h''/\F v h''
def Y0n(P:Program)(t n:Nat)(st:St)(h:Hp)(K:AV->St->Hp->Prop):Prop :=
 match S00 P t with
 |some e=>match E5 P e,Nat.beq n 0 with
  |some (_+1),true=>∀ g,h g=none->K (.val (.slice (some ⟨g,0,none⟩) 0 0)) st (h.set g (.cells #[] e (0,0)))
  |_,_=>False
 |none=>False
def Z0n(P:Program)(t:TypeId)(a b:Operand)(st:St)(h:Hp)(K:AV->St->Hp->Prop):Prop :=
 match S00 P t with
 |some e=>match E5 P e,N08 P e,z00 P e with
  |some (sz+1),some (by_+1),some z=>match Z05 z.cells.toList (sz+1)with
   |true=>match rdO st a with
    | .val (.slice (some ⟨g,o,none⟩) 0 0)=>Z0c st h (sz+1) (rdO st b) λys=>W06 ys.length (by_+1) /\
      ((ys = []->K (.val (.slice (some ⟨g,o,none⟩) 0 0)) st h)/\∀ v h',U0 h h' v e (sz+1) true ys->K (.val v) st h')
    |_=>False
   |false=>False
  |_,_,_=>False
 |none=>False
def d0i(P:Program)(o:Oper)(st:St)(h:Hp)(K:AV->St->Hp->Prop):Prop :=
 match o.op with
 | .buildSlice t n ps=>match ps.toList with
  | []=>Y0n P t n st h K
  |_::_=>F7 P o st h K
 | .call { callee := .builtin .append,args:=as,argTypes:=ts }=>match as.toList,ts.toList with
  | [a,b],[t,t']=>match Nat.beq t t' with
   |true=>Z0n P t a b st h K
   |false=>False
  |_,_=>False
 |_=>F7 P o st h K
def evU(P:Program)(l:List Oper):Nat->FL->List BE->St->Hp->(St->Hp->Prop)->Prop :=
  List.rec (motive:=λ_=>Nat->FL->List BE->St->Hp->(St->Hp->Prop)->Prop)
    (λ_ L _ st h K=>match st with
      |⟨n,fr,bx,ow⟩=>∀ h',Sub h h'->q0c h' L fr λfr=>K ⟨n,fr,bx,ow⟩ h')
    (λo _ ih i L bs st h K=>match st with
      |⟨n,fr,bx,ow⟩=>match c00 bs o.guard with
        |some ch=>match cB bs ch with
          |some c=>match u08 P L bs ch o ⟨n,fr,bx,ow⟩with
            |some av=>U00 av λav=>ih (i+1) (i0d o.dst ch (.pu av) L) (O0g i o.dst ch av bs) ⟨n,fr,bx,ow⟩ h K
            |none=>(∃ av,(∀ h',Sub h h'->imp ch c (D06 L ⟨n,fr,bx,ow⟩ h' ch o.op.operands.toList [] λfr=>F7 P o ⟨n,fr,bx,ow⟩ h' (i0l av ⟨n,fr,bx,ow⟩ h'))) /\
                  U00 av λav=>ih (i+1) (i0d o.dst ch (.pu av) L) (O0g i o.dst ch av bs) ⟨n,fr,bx,ow⟩ h K) ∨
                (∃ F:Value->Hp->Prop,(∀ v h1 h2,Sub h1 h2->F v h1->F v h2) /\
                  (∀ h',Sub h h'->imp ch c (D06 L ⟨n,fr,bx,ow⟩ h' ch o.op.operands.toList [] λfr=>d0i P o ⟨n,fr,bx,ow⟩ h' (X0n ⟨n,fr,bx,ow⟩ h' F))) /\
                  ih (i+1) (i0d o.dst ch (.ef F) L) bs ⟨n,fr,bx,ow⟩ h K)
          |none=>False
        |none=>False) l
def K0c:List Oper->Bool
 | []=>true
 |o::r=>(match o.guard with
  |some (j,_)=>H7 j o
  |none=>true)&&K0c r
def k03(n:Nat)(ops:List Oper):Bool:=s02 n ops&&K0c ops
def b0q(P:Program):List Oper->Bool
 | []=>false
 |o::r=>(match o.guard,o.op with
  |some _,.call { callee := .value _,args:=_,argTypes:=_ }=>match P.underlying o.type with
   |some (.slice _)=>true
   |some (.struct _)=>true
   |some (.tuple _)=>true
   |_=>false
  |_,_=>false) || b0q P r
def R03(o:Oper):Bool:=match o.op with
 | .alloc _=>true
 |_=>false
def P9(o:Oper):Oper:=match o.op with
 | .alloc _ => { o with op := .move (.const undef) }
 |_=>o
def F5:List Oper->List Oper
 | []=>[]
 |o::r=>P9 o::F5 r
def okA(P:Program)(all:List Oper):List Oper->Bool
 | []=>true
 |o::r=>(match o.op with
  | .alloc t=>(match o.guard,o.dst,z00 P t with
   |none,some d,some _ => !g0d d all
   |_,_,_=>false)
  |_=>true)&&okA P all r
def f0k(x:Nat):List Nat->Bool
 | []=>false
 |y::r=>Nat.beq x y || f0k x r
def c0q(ops:List Oper)(i:Nat):List Nat->Bool
 | []=>false
 |j::r=>(match nth ops j with
  |some o=>H7 i o
  |none=>false) || c0q ops i r
def v0f(ops:List Oper):Nat->List Nat->List Nat
 |0,acc=>acc
 |i+1,acc=>match c0q ops i acc with
  |true=>v0f ops i (i::acc)
  |false=>v0f ops i acc
def J0a:Operand->List Nat
 | .tmp t=>[t]
 |_=>[]
def v08(o:Oper):Option (List Nat):=match o.guard with
 |some _=>none
 |none=>match o.op with
  | .extract x _=>some (J0a x)
  | .move x=>some (J0a x)
  | .assign x=>some (J0a x)
  | .pick c x y=>some (J0a c++(J0a x++J0a y))
  |_=>none
def w08(d:Nat):List Oper->Bool
 | []=>false
 |o::r=>(match o.dst with
  |some e=>Nat.beq e d
  |none=>false) || w08 d r
def k04(ml:List Nat)(t:Nat):List Oper->Nat->Bool
 | [],_=>true
 |o::r,i=>(match o.dst with
  |some e => !Nat.beq e t || f0k i ml
  |none=>true)&&k04 ml t r (i+1)
def z05(i d:Nat):List Oper->Bool
 | []=>true
 |o::r=>(!a07 d o.op.operands.toList || H7 i o)&&z05 i d r
def j0l(pre tl:List Oper)(ml:List Nat):List Nat->Bool
 | []=>true
 |t::r=>(!w08 t tl&&k04 ml t pre 0)&&j0l pre tl ml r
def k0l(pre tl:List Oper)(ml:List Nat)(i:Nat)(o:Oper):Bool:=match v08 o,o.dst with
 |some ts,some d => !w08 d tl&&j0l pre tl ml ts&&z05 i d tl
 |_,_=>false
def L0c(pre tl:List Oper)(ml:List Nat):List Oper->Nat->Bool
 | [],_=>true
 |o::r,i=>(f0k i ml || k0l pre tl ml i o)&&L0c pre tl ml r (i+1)
def e0i:List Oper->Bool
 | []=>true
 |o::r => !u09 o.op&&e0i r
def a0o:Nat->List Oper->Bool
 |_,[]=>true
 |k,o::r=>(match o.guard with
  |none=>true
  |some _=>false)&&(match r with
  | []=>true
  |o'::_=>H7 k o')&&a0o (k+1) r
def c0s:List Oper->Bool
 | []=>true
 |_::_=>false
def okZ(P:Program)(n m:Nat)(ops:List Oper):Bool :=
 k03 n (F5 (ops.take m))&&okA P (ops.take m) (ops.take m)&&S0b ops 0&&a0o m (ops.drop m)&&(c0s (ops.drop m) || (L0c (ops.take m) (ops.drop m) (v0f ops m [m]) (ops.take m) 0&&e0i (ops.drop m)))
abbrev q0r:=Oper->St->Hp->(St->Hp->Prop)->Prop
def doA(R:q0r)(l:List Oper):St->Hp->(St->Hp->Prop)->Prop :=
 List.rec (motive:=λ_=>St->Hp->(St->Hp->Prop)->Prop) (λst h K=>K st h) (λo _ ih st h K=>match R03 o with
  |true=>R o st h λst h=>ih st h K
  |false=>ih st h K) l
def doT(R:q0r)(l:List Oper):St->Hp->(St->Hp->Prop)->Prop :=
 List.rec (motive:=λ_=>St->Hp->(St->Hp->Prop)->Prop) (λst h K=>K st h) (λo _ ih st h K=>R o st h λst h=>ih st h K) l
def evT(P:Program)(R:q0r)(m:Nat)(ops:List Oper)(st:St)(h:Hp)(K:St->Hp->Prop):Prop :=
 evU P (F5 (ops.take m)) 0 [] [] st h λst h=>doA R (ops.take m) st h λst h=>doT R (ops.drop m) st h K
inductive Ex where
 |normal|ret
 |exit (i:Nat)
structure Ann where
 vars:List Nat
 boxes:List Nat
 owns:List Nat
 nils:List (Nat×Nat×Nat×Nat):=[]
 nilsB:List (Nat×Nat×Nat×Nat×Nat):=[]
 kept:List Nat:=[]
 fuel:Bool:=false
 pubs:List Nat:=[]
def f0i:List (Nat×Nat×Nat×Nat)->St->(St->Prop)->Prop
 | [],st,K=>K st
 |(s,e,sz,by_)::r,⟨n,fr,bx,ow⟩,K=>match rdA ⟨n,fr,bx,ow⟩ (Z2 fr s),Nat.blt s n with
  | .val (.slice none 0 0),true=>X0j ow λk=>f0i r ⟨n,(s,.own k 0)::fr,bx,ow ++ [⟨0,.live e sz by_ false []⟩]⟩ K
  |_,_=>False
def j0d:List (Nat×Nat×Nat×Nat×Nat)->St->(St->Prop)->Prop
 | [],st,K=>K st
 |(i,k,e,sz,by_)::r,⟨n,fr,bx,ow⟩,K=>match nth bx i with
  |some (.live cs ty)=>match nth cs k with
   |some (.val (.slice none 0 0))=>X0j ow λj=>j0d r ⟨n,fr,r00 bx i (.live (r00 cs k (.own j 0)) ty),ow ++ [⟨0,.live e sz by_ false []⟩]⟩ K
   |_=>False
  |_=>False
def g0i:List Nat->St->Hp->(St->Hp->Prop)->Prop
 | [],st,h,K=>K st h
 |s::r,st,h,K=>rfy (rdA st (Z2 st.fr s)) st h λv st h=>match st with
  |⟨n,fr,bx,ow⟩=>match Nat.blt s n with
   |true=>g0i r ⟨n,(s,.val v)::fr,bx,ow⟩ h K
   |false=>False
def i08(x:Nat):List Nat->Bool
 | []=>false
 |y::r=>match Nat.beq x y with
  |true=>true
  |false=>i08 x r
def r0r:List Oper->List Nat->List Nat
 | [],acc=>acc
 |o::r,acc=>match o.dst with
  |some d=>r0r r (d::acc)
  |none=>r0r r acc
def b0f:Code->List Nat->List Nat
 | .region _ ops _,acc=>r0r ops.toList acc
 | .seq a b,acc=>b0f a (b0f b acc)
 | .cond _ a b,acc=>b0f a (b0f b acc)
 | .block _ a,acc=>b0f a acc
 | .loop a,acc=>b0f a acc
 | .scope a,acc=>b0f a acc
 |_,acc=>acc
def K0a:List Nat->(List Nat->Prop)->Prop
 | [],K=>K []
 |x::r,K=>K0a r λr=>K (x::r)
def d0q:List Nat->St->(List Value->Prop)->Prop
 | [],_,K=>K []
 |s::r,st,K=>match rdA st (Z2 st.fr s)with
  | .val v=>d0q r st λvs=>K (v::vs)
  |_=>False
def h0i:List l5->St->(List Value->Prop)->Prop
 | [],_,K=>K []
 | .val v::r,st,K=>h0i r st λvs=>K (v::vs)
 | .own _ _::r,st,K=>h0i r st K
def k0d:List Nat->St->(List Value->Prop)->Prop
 | [],_,K=>K []
 |i::r,st,K=>match nth st.bx i with
  |some (.live cs _)=>h0i cs st λvs=>k0d r st λws=>K (vs++ws)
  |_=>False
def w0f:List Nat->St->(List (List (List Value))->Prop)->Prop
 | [],_,K=>K []
 |i::r,st,K=>match nth st.ow i with
  |some ⟨_,.live _ _ _ _ xs⟩=>w0f r st λos=>K (xs::os)
  |_=>False
def g0k(A:Ann)(st:St)(K:List Value->List (List (List Value))->Prop):Prop :=
 d0q A.vars st λvs=>k0d A.boxes st λws=>w0f A.owns st λos=>K (vs++ws) os
def l03:List l5->List Value->(List l5->List Value->Prop)->Prop
 | [],vs,K=>K [] vs
 | .val _::r,v::vs,K=>l03 r vs λcs rest=>K (.val v::cs) rest
 | .val _::_,[],_=>False
 | .own i k::r,vs,K=>l03 r vs λcs rest=>K (.own i k::cs) rest
def A05:List Nat->List Value->List BSt->(List BSt->Prop)->Prop
 | [],_,bx,K=>K bx
 |i::r,vs,bx,K=>match nth bx i with
  |some (.live cs ty)=>l03 cs vs λcs rest=>A05 r rest (r00 bx i (.live cs ty)) K
  |_=>False
def B05:List Nat->List (List (List Value))->List Own->(List Own->Prop)->Prop
 | [],_,ow,K=>K ow
 |i::r,xs::os,ow,K=>match nth ow i with
  |some ⟨s,.live e sz by_ nn _⟩=>B05 r os (r00 ow i ⟨s,.live e sz by_ nn xs⟩) K
  |_=>False
 |_::_,[],_,_=>False
def b07{α:Type}:Nat->List α->(List α->List α->Prop)->Prop
 |0,l,K=>K [] l
 |n+1,x::l,K=>b07 n l λa b=>K (x::a) b
 |_+1,[],_=>False
def x08(A:Ann)(st:St):List Nat->List (Nat×AV)->(List (Nat×AV)->Prop)->Prop
 | [],acc,K=>K acc
 |s::r,acc,K=>match i08 s A.vars with
  |true=>x08 A st r acc K
  |false=>match rdA st (Z2 st.fr s)with
   | .own i k=>x08 A st r ((s,.own i k)::acc) K
   | .box i o=>x08 A st r ((s,.box i o)::acc) K
   |_=>x08 A st r ((s,.dead)::acc) K
def l0l:List l5->Bool
 | []=>true
 | .val _::r=>l0l r
 | .own _ _::_=>false
def C05(A:Ann)(ds:List Nat)(st:St):List (Nat×AV)->(List (Nat×AV)->Prop)->Prop
 | [],K=>K []
 |(s,av)::r,K=>match i08 s ds with
  |true=>C05 A ds st r K
  |false=>match rdA st av with
   | .own i k=>match i08 i A.owns,i08 i A.kept with
    |true,false=>C05 A ds st r λl=>K ((s,.dead)::l)
    |_,_=>C05 A ds st r λl=>K ((s,.own i k)::l)
   | .oel _ _ _ _ _=>C05 A ds st r λl=>K ((s,.dead)::l)
   | .agg cs=>match l0l cs with
    |true=>C05 A ds st r λl=>K ((s,.agg cs)::l)
    |false=>C05 A ds st r λl=>K ((s,.dead)::l)
   |a=>C05 A ds st r λl=>K ((s,a)::l)
def L0a:List Nat->List Value->List (Nat×AV)->List (Nat×AV)
 |s::r,v::vs,acc=>L0a r vs ((s,.val v)::acc)
 |_,_,acc=>acc
def U0b(head end_:St):List (Nat×AV)->Bool
 | []=>true
 |(s,av)::r=>match av with
  | .own i _=>match rdA end_ (Z2 end_.fr s)with
   | .own j _=>match Nat.beq i j with
    |true=>U0b head end_ r
    |false=>false
   |_=>false
  | .box i o=>match rdA end_ (Z2 end_.fr s)with
   | .box j p=>match Nat.beq i j,Nat.beq o p with
    |true,true=>U0b head end_ r
    |_,_=>false
   |_=>false
  |_=>U0b head end_ r
def h0k:AV->Bool
 | .dead=>true
 |_=>false
def F0m:List (Nat×AV)->List AV
 | []=>[]
 |(_,av)::r=>match h0k av with
  |true=>F0m r
  |false=>av::F0m r
def x0f(fr:List (Nat×AV)):List (Nat×AV)->List AV
 | []=>[]
 |(s,av)::r=>match h0k av with
  |true=>x0f fr r
  |false=>Z2 fr s::x0f fr r
def D05(head end_:St):List l5->List l5->Bool
 | [],[]=>true
 | .val _::r,.val _::r'=>D05 head end_ r r'
 | .own i _::r,.own j k'::r'=>match Nat.beq i j,rdA end_ (.own j k')with
  |true,.own _ _=>D05 head end_ r r'
  |_,_=>false
 |_,_=>false
def B09(os:List Nat):List l5->Bool
 | []=>true
 | .val _::r=>B09 os r
 | .own i _::r=>match i08 i os with
  |true=>false
  |false=>B09 os r
def i0k(os:List Nat):BSt->Bool
 | .live cs _=>B09 os cs
 | .publ _=>true
def M0a(A:Ann)(head end_:St):Nat->List BSt->List BSt->Prop
 |_,[],_=>True
 |i,b::r,b'::r'=>match i08 i A.boxes with
  |true=>match b,b' with
   | .live cs ty,.live cs' ty'=>match Nat.beq ty ty',D05 head end_ cs cs' with
    |true,true=>M0a A head end_ (i+1) r r'
    |_,_=>False
   |_,_=>False
  |false=>match i0k A.owns b with
   |true=>b'=b/\M0a A head end_ (i+1) r r'
   |false=>False
 |_,_::_,[]=>False
def leB(a b:Bool):Bool:=match a with
 |true=>b
 |false=>true
def N0a(A:Ann):Nat->List Own->List Own->Prop
 |_,[],_=>True
 |i,b::r,b'::r'=>match i08 i A.owns with
  |true=>match b,b' with
   |⟨s,.live e sz by_ nn _⟩,⟨s',.live e' sz' by' nn' _⟩=>match Nat.beq e e',Nat.beq sz sz',Nat.beq by_ by',leB nn nn',leB (i08 i A.kept) (Nat.beq s s')with
    |true,true,true,true,true=>N0a A (i+1) r r'
    |_,_,_,_,_=>False
   |_,_=>False
  |false=>b'=b/\N0a A (i+1) r r'
 |_,_::_,[]=>False
def C09:Nat->(List Value->Prop)->Prop
 |0,K=>K []
 |n+1,K=>∀ v,C09 n λvs=>K (v::vs)
def D09:Nat->(List (List (List Value))->Prop)->Prop
 |0,K=>K []
 |n+1,K=>∀ xs,D09 n λos=>K (xs::os)
abbrev O0a:=List Value->List (List (List Value))->Hp->Prop
abbrev E06:=List Value->List (List (List Value))->Nat
def e0q:List Value->List Value->Bool
 | [],[]=>true
 |_::r,_::r'=>e0q r r'
 |_,_=>false
def i0i(A:Ann)(I:O0a)(vs:List Value)(os:List (List (List Value)))(h:Hp):Prop:=match A.fuel with
 |false=>I vs os h
 |true=>∃ m:Nat,I (.int .i64 m::vs) os h
def j0i(A:Ann)(I:O0a)(μ:E06)(vs:List Value)(os:List (List (List Value)))(X:Nat->Hp->Prop):Prop:=match A.fuel with
 |false=>∀ h',I vs os h'->X (μ vs os) h'
 |true=>∀(m:Nat) (h':Hp),I (.int .i64 m::vs) os h'->X m h'
def f0q(A:Ann)(I:O0a)(μ:E06)(m:Nat)(vs:List Value)(os:List (List (List Value)))(h:Hp):Prop:=match A.fuel with
 |false=>I vs os h/\μ vs os<m
 |true=>∃ m':Nat,I (.int .i64 m'::vs) os h/\m'<m
def atI(A:Ann)(I:O0a)(μ:E06)(m:Nat)(vs:List Value)(os:List (List (List Value)))(h:Hp):Prop:=match A.fuel with
 |false=>I vs os h/\m=μ vs os
 |true=>I (.int .i64 m::vs) os h
theorem b0o{A:Ann}{I:O0a}{μ:E06}{vs:List Value}{os:List (List (List Value))}{h:Hp}(hh:i0i A I vs os h):∃ m,atI A I μ m vs os h:=by
 unfold i0i at hh
 unfold atI
 cases hf:A.fuel with
 |false=>rw[hf]at hh;exact⟨_,hh,rfl⟩
 |true=>rw[hf]at hh;exact hh
theorem c0o{A:Ann}{I:O0a}{μ:E06}{vs:List Value}{os:List (List (List Value))}{X:Nat->Hp->Prop}(hh:j0i A I μ vs os X){m:Nat}{h:Hp}(ha:atI A I μ m vs os h):X m h:=by
 unfold j0i at hh
 unfold atI at ha
 cases hf:A.fuel with
 |false=>rw[hf]at hh ha;rw[ha.2];exact hh _ ha.1
 |true=>rw[hf]at hh ha;exact hh _ _ ha
theorem g0q{A:Ann}{I:O0a}{μ:E06}{m:Nat}{vs:List Value}{os:List (List (List Value))}{h:Hp}(hh:f0q A I μ m vs os h):∃ m',atI A I μ m' vs os h/\m'<m:=by
 unfold f0q at hh
 unfold atI
 cases hf:A.fuel with
 |false=>rw[hf]at hh;exact⟨_,⟨hh.1,rfl⟩,hh.2⟩
 |true=>rw[hf]at hh;exact hh
def d0o(A:Ann)(dyn sta:List (Nat×AV))(st0:St)(I:O0a)(μ:E06)(vs0:List Value)(m:Nat)(st:St)(h:Hp):Prop :=
 match Nat.beq st.n st0.n,U0b st0 st dyn with
 |true,true=>x0f st.fr sta=F0m sta/\M0a A st0 st 0 st0.bx st.bx/\N0a A 0 st0.ow st.ow /\
   g0k A st λvs os=>match e0q vs vs0 with
    |true=>b07 A.vars.length vs λ_ v2=>A05 A.boxes v2 st0.bx λ_=>B05 A.owns os st0.ow λ_=>f0q A I μ m vs os h
    |false=>False
 |_,_=>False
def m0l(body:(Ex->St->Hp->Prop)->St->Hp->Prop)(ds0:List Nat)(Q:Ex->St->Hp->Prop)(st:St)(h:Hp):Prop :=
 ∃(A:Ann) (I:O0a) (μ:E06),f0i A.nils st λst=>j0d A.nilsB st λst=>g0i A.pubs st h λst h=>g0k A st λvs0 os0=>i0i A I vs0 os0 h /\
  K0a ds0 λds=>x08 A st ds [] λdyn=>C05 A ds st st.fr λsta =>
   C09 vs0.length λvs=>D09 os0.length λos=>j0i A I μ vs os λm h' =>
    b07 A.vars.length vs λv1 v2=>A05 A.boxes v2 st.bx λbx=>B05 A.owns os st.ow λow =>
     body (λe st' h''=>match e with
      | .normal=>g0i A.pubs st' h'' λst' h''=>d0o A dyn sta st I μ vs m st' h''
      |e=>Q e st' h'') ⟨st.n,L0a A.vars v1 (dyn++sta),bx,ow⟩ h'
def e0o(b:Bool)(X Y:Prop):Prop:=(b=true->X)/\(b=false->Y)
def ev(P:Program):Code->(Ex->St->Hp->Prop)->St->Hp->Prop
 | .skip,Q,st,h=>Q .normal st h
 | .region _ ops false,Q,st,h=>match b0q P ops.toList with
  |true=>k03 st.n ops.toList=true/\evU P ops.toList 0 [] [] st h λst h=>Q .normal st h
  |false=>R0b P ops.toList 0 ⟨st,h,[],[]⟩ λrs=>Q .normal rs.st rs.h
 | .region _ ops true,Q,st,h=>((P.follows .mixedOrders=true/\Region.lexB .any ops=true) /\
   evQ P ops.toList 0 ⟨st,h,[],[]⟩ λrs=>Q .normal rs.st rs.h) ∨
   False ∨
   (match W0n ops.toList with
    |none=>(P.follows .mixedOrders=true/\s02 st.n ops.toList=true)/\e03 P st h ops.toList 0 [] [] [] λL X E=>evD (A9 L st ops.toList) ops.size P X E L st h λst h=>Q .normal st h
    |some o=>(P.follows .mixedOrders=true/\(s02 st.n (T00 ops.toList)&&S0b ops.toList 0)=true)/\e03 P st h (T00 ops.toList) 0 [] [] [] λL X E=>evD (A9 L st (T00 ops.toList)) (T00 ops.toList).length P X E L st h λst h=>r03 P o st h λst h=>Q .normal st h) ∨
   ((P.follows .mixedOrders=true/\k03 st.n ops.toList=true)/\evU P ops.toList 0 [] [] st h λst h=>Q .normal st h) ∨
   (∃ m,(P.follows .mixedOrders=true/\okZ P st.n m ops.toList=true)/\evT P (r03 P) m ops.toList st h λst h=>Q .normal st h)
 | .seq a b,Q,st,h=>ev P a (λe st h=>match e with
  | .normal=>ev P b Q st h
  |e=>Q e st h) st h
 | .cond c t e,Q,st,h=>match rdO st c with
  | .val (.bool b)=>e0o b (ev P t Q st h) (ev P e Q st h)
  |_=>False
 | .block id c,Q,st,h=>ev P c (λe st h=>match e with
  | .exit i=>match Nat.beq i id with
   |true=>Q .normal st h
   |false=>Q (.exit i) st h
  |e=>Q e st h) st h
 | .loop body,Q,st,h=>m0l (λQ=>ev P body Q) (b0f body []) Q st h
 | .exit id,Q,st,h=>Q (.exit id) st h
 | .ret,Q,st,h=>Q .ret st h
 |_,_,_,_=>False
def j0k(P:Program):List ResultVar->St->Hp->(List Value->St->Hp->Prop)->Prop
 | [],st,h,K=>K [] st h
 | .tmp t::r,st,h,K=>rfy (rdA st (Z2 st.fr t)) st h λv st h=>j0k P r st h λvs st h=>K (v::vs) st h
 | .cell t ty::r,st,h,K=>match rdA st (Z2 st.fr t)with
  | .box i off=>match nth st.bx i with
   |some (.live cs _)=>d04 P ty cs off λav=>rfy av st h λv st h=>j0k P r st h λvs st h=>K (v::vs) st h
   |_=>False
  |_=>False
def k0i:List Value->Value
 | [v]=>v
 |vs => .tuple vs.toArray
def E09:Nat->List Value->List (Nat×AV)
 |_,[]=>[]
 |i,v::r=>(i,.val v)::E09 (i+1) r
def s0r(P:Program)(fn:Func)(args:List Value)(h:Hp)(T:Value->Hp->Prop):Prop :=
 match fn.body with
 |some c=>match Nat.ble args.length fn.ntmps with
  |true=>ev P c (λe st h=>match e with
   | .exit _=>False
   |_=>j0k P fn.results.toList st h λvs _ h=>T (k0i vs) h) ⟨fn.ntmps,E09 0 args,[],[]⟩ h
  |false=>False
 |none=>False
end Go.H
