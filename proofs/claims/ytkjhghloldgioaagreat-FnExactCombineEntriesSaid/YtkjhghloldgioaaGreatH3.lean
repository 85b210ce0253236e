/- Plain laws over the model: what a function's code asks: regions with guards, regions that draw their order, branches and loops. -/
import Derived.Test.YtkjhghloldgioaaGreatH2
namespace Go.H
set_option linter.unusedVariables false
structure BE where
 j:Nat
 d:Nat
 e:Bool
 ch:List (Nat×Bool)
structure RS where
 st:St
 h:Hp
 gf:List (Nat×List (Nat×Bool)×AV)
 bs:List BE
def w0a:List (Nat×List (Nat×Bool)×AV)->Nat->Option (List (Nat×Bool)×AV)
 | [],_=>none
 |(k,x)::r,s=>match Nat.beq k s with
  |true=>some x
  |false=>w0a r s
def eqB(a b:Bool):Bool:=match a,b with
 |true,true=>true
 |false,false=>true
 |_,_=>false
def K0k:List (Nat×Bool)->List (Nat×Bool)->Bool
 | [],[]=>true
 |(j,w)::r,(j',w')::r'=>match Nat.beq j j',eqB w w' with
  |true,true=>K0k r r'
  |_,_=>false
 |_,_=>false
def M0e(a:List (Nat×Bool)):List (Nat×Bool)->Bool
 | []=>K0k a []
 |x::r=>match K0k a (x::r)with
  |true=>true
  |false=>M0e a r
def rdG(rs:RS)(ch:List (Nat×Bool)):Operand->AV
 | .tmp t=>match w0a rs.gf t with
  |some (ch2,av)=>match M0e ch2 ch with
   |true=>rdA rs.st av
   |false => .dead
  |none=>rdA rs.st (L3 rs.st.fr t)
 |x=>rdO rs.st x
def T00:List BE->Nat->Option BE
 | [],_=>none
 |b::r,j=>match Nat.beq b.j j with
  |true=>some b
  |false=>T00 r j
def w07:List BE->Nat->Option BE
 | [],_=>none
 |b::r,s=>match Nat.beq b.d s with
  |true=>some b
  |false=>w07 r s
def lit(w e:Bool):Bool:=match w with
 |true=>e
 |false => !e
def cB(bs:List BE):List (Nat×Bool)->Option Bool
 | []=>some true
 |(j,w)::r=>match T00 bs j with
  |some b=>match r with
   | []=>some (lit w b.e)
   |_=>match cB bs r with
    |some c=>some (lit w b.e&&c)
    |none=>none
  |none=>none
def S8(bs:List BE):Option (Nat×Bool)->Option (List (Nat×Bool))
 |none=>some []
 |some (j,w)=>match T00 bs j with
  |some b=>some ((j,w)::b.ch)
  |none=>none
def imp(ch:List (Nat×Bool))(c:Bool)(X:Prop):Prop:=match ch with
 | []=>X
 |_=>c=true->X
def N0e(rs:RS)(ch:List (Nat×Bool)):List Operand->Option (List (Nat×Value))
 | []=>some []
 | .tmp t::r=>match Q02 (rdG rs ch (.tmp t))with
  |some v=>match N0e rs ch r with
   |some vs=>some ((t,v)::vs)
   |none=>none
  |none=>none
 | .global _::_=>none
 |_::r=>N0e rs ch r
def O0m(rs:RS)(ch:List (Nat×Bool)):List Operand->St->Hp->(List (Nat×Value)->St->Hp->Prop)->Prop
 | [],st,h,K=>K [] st h
 | .tmp t::r,st,h,K=>rfy (rdA st (rdG rs ch (.tmp t))) st h λv st h=>O0m rs ch r st h λvs st h=>K ((t,v)::vs) st h
 | .global _::_,_,_,_=>False
 |_::r,st,h,K=>O0m rs ch r st h K
def B0d(P:Program)(o:Oper)(ch:List (Nat×Bool))(c:Bool)(rs:RS)(K:AV->Prop):Prop :=
 match s07 o.op,N0e rs ch o.op.operands.toList with
 |false,some vs=>match r05 (rho vs) o with
  |some (f,l)=>match okF P f with
   |true=>∃ v,imp ch c (Tr P f l.toArray rs.h λv' h'=>v'=v/\h'=rs.h)/\K (.val v)
   |false=>False
  |none=>match evP P (x06 (rho vs) o)with
   |some (.value v)=>K (.val v)
   |_=>False
 |false,none=>∃ r,imp ch c (O0m rs ch o.op.operands.toList rs.st rs.h λvs _ hf=>match r05 (rho vs) o with
  |some (f,l)=>match okF P f with
   |true=>Tr P f l.toArray hf λv h'=>v=r/\h'=hf
   |false=>False
  |none=>False)/\K (.val r)
 |_,_=>False
def evG(P:Program)(o:Oper)(ch:List (Nat×Bool))(c:Bool)(rs:RS)(K:AV->Prop):Prop :=
 match o.op with
 | .move x | .assign x=>match rdG rs ch x with
  | .dead=>False
  |a=>K a
 | .pick (.tmp s) a b=>match rdG rs ch (.tmp s),w07 rs.bs s with
  | .val (.bool e),some q=>match M0e q.ch ch with
   |true=>match rdG rs ((q.j,true)::q.ch) a,rdG rs ((q.j,false)::q.ch) b with
    | .val (.bool x),.val (.bool y)=>K (.val (.bool (cond e x y)))
    |_,_=>False
   |false=>False
  |_,_=>False
 | .fieldAddr t x k=>match rdG rs ch x,y0d P t k with
  | .box i off,some fo=>K (.box i (off+fo))
  | .hel s i sz k,some fo=>K (.hel s i sz (k+fo))
  | .oel i s j sz k,some fo=>K (.oel i s j sz (k+fo))
  |_,_=>False
 | .indexAddr t x i=>match rdG rs ch i with
  | .val (.int _ j)=>match H9 P t with
   |some e=>match s5 P e with
    |some sz=>match rdG rs ch x with
     | .val (.slice a n cp)=>imp ch c (InB (.slice a n cp) j)/\K (.hel (.slice a n cp) j sz 0)
     | .own i k=>match nth rs.st.ow i with
      |some ⟨_,.live _ sz' _ _ xs⟩=>match Nat.beq sz' sz with
       |true=>imp ch c (0<=j/\j<(xs.length:Int))/\K (.oel i k j sz 0)
       |false=>False
      |_=>False
     |_=>False
    |none=>False
   |none=>False
  |_=>False
 | .load t x=>match rdG rs ch x with
  | .box i off=>match nth rs.st.bx i with
   |some (.live cs _)=>n03 P t cs off K
   |_=>False
  | .hel s idx sz k=>∃ e,imp ch c (I6 rs.h s sz idx e)/\n03 P t (vals e) k K
  | .oel i _ idx sz k=>match nth rs.st.ow i with
   |some ⟨_,.live _ sz' _ _ xs⟩=>match Nat.beq sz' sz with
    |true=>∃ e,imp ch c (xs[idx.toNat]?=some e)/\n03 P t (vals e) k K
    |false=>False
   |_=>False
  |_=>False
 | .build t ps=>match P.underlying t,w9 P t with
  |some (.struct fs),some z=>match V03 P fs.toList with
   |true=>u05 P fs (rdG rs ch) ps.toList (vals z.cells.toList) λcs=>K (.agg cs)
   |false=>False
  |_,_=>False
 | .index t x i=>match rdG rs ch x,rdG rs ch i,P.underlying t with
  | .val (.string s),.val (.int _ j),some .string=>∃ e,imp ch c (0<=j/\s[j.toNat]?=some e)/\K (.val (.int .u8 e.toNat))
  |_,_,_=>False
 | .slice t x lo hi none=>match rdG rs ch x,P.underlying t with
  | .val (.string s),some .string=>match q03 0 (lo.map (rdG rs ch)),q03 s.size (hi.map (rdG rs ch))with
   |some l,some m=>imp ch c (0<=l/\l<=m/\m<=(s.size:Int))/\K (.val (.string (s.extract l.toNat m.toNat)))
   |_,_=>False
  | .val (.slice ad n cp),_=>match H9 P t with
   |some e=>match s5 P e with
    |some sz=>match q03 0 (lo.map (rdG rs ch)),q03 n (hi.map (rdG rs ch))with
     |some l,some m=>∃ v,imp ch c ((0<=l/\l<=m/\m<=(n:Int)/\n<=cp)/\O0g sz (.slice ad n cp) l.toNat m.toNat v)/\K (.val v)
     |_,_=>False
    |none=>False
   |none=>False
  |_,_=>False
 | .binOp .eql t x y yt=>match Q02 (rdG rs ch x),Q02 (rdG rs ch y)with
  |some (.agg xs),some (.agg ys)=>∃ b,imp ch c (v07 P o x y (.agg xs) (.agg ys) b)/\K (.val (.bool b))
  |some (.slice a n m),some (.slice none 0 0)=>∃ b,imp ch c (v07 P o x y (.slice a n m) (.slice none 0 0) b)/\K (.val (.bool b))
  |_,_=>B0d P o ch c rs K
 | .binOp .neq t x y yt=>match Q02 (rdG rs ch x),Q02 (rdG rs ch y)with
  |some (.agg xs),some (.agg ys)=>∃ b,imp ch c (v07 P o x y (.agg xs) (.agg ys) b)/\K (.val (.bool b))
  |_,_=>B0d P o ch c rs K
 | .binOp .add t x y yt=>match rdG rs ch x,rdG rs ch y with
  | .val (.string a),.val (.string b)=>imp ch c (a.size+b.size<=9223372036854775807)/\K (.val (.string (a++b)))
  |_,_=>B0d P o ch c rs K
 | .binOp .quo t x y yt=>match rdG rs ch x,rdG rs ch y with
  | .val (.int .i64 a),.val (.int .i64 b)=>imp ch c (b≠0)/\K (.val (.int .i64 (IntKind.i64.wrap (a.tdiv b))))
  |_,_=>B0d P o ch c rs K
 | .binOp .rem t x y yt=>match rdG rs ch x,rdG rs ch y with
  | .val (.int .i64 a),.val (.int .i64 b)=>imp ch c (b≠0)/\K (.val (.int .i64 (a.tmod b)))
  |_,_=>B0d P o ch c rs K
 | .call { callee := .builtin .len,args:=as,argTypes:=ts }=>match as.toList,ts.toList with
  | [x],[t]=>match rdG rs ch x with
   | .own i _=>match nth rs.st.ow i,H9 P t with
    |some ⟨_,.live _ _ _ _ xs⟩,some _=>K (.val (.int .i64 xs.length))
    |_,_=>False
   |_=>B0d P o ch c rs K
  |_,_=>False
 |_=>B0d P o ch c rs K
def v05(rs:RS)(d:Nat):Bool:=match w0a rs.gf d,w07 rs.bs d with
 |none,none=>false
 |_,_=>true
def O0e(i d:Nat)(ch:List (Nat×Bool))(av:AV)(bs:List BE):List BE:=match av with
 | .val (.bool e)=>⟨i,d,e,ch⟩::bs
 |_=>bs
def x0a(d:Option Tmp)(i:Nat)(ch:List (Nat×Bool))(av:AV)(rs:RS)(K:RS->Prop):Prop :=
 match d with
 |none=>K rs
 |some d=>match Nat.blt d rs.st.n,v05 rs d with
  |true,false=>match ch with
   | []=>K { rs with st := { rs.st with fr:=(d,av)::rs.st.fr },bs:=O0e i d ch av rs.bs }
   |_=>K { rs with st := { rs.st with fr:=(d,.dead)::rs.st.fr },gf:=(d,ch,av)::rs.gf,bs:=O0e i d ch av rs.bs }
  |_,_=>False
def Q0g:Op->Bool
 | .pick ..=>true
 |_=>false
def y09(P:Program):List Oper->Nat->RS->(RS->Prop)->Prop
 | [],_,rs,K=>K rs
 |o::r,i,rs,K=>match o.guard,Q0g o.op with
  |none,false=>O7 P o rs.st rs.h λav st h=>x0a o.dst i [] av { rs with st:=st,h:=h } λrs=>y09 P r (i+1) rs K
  |_,_=>match S8 rs.bs o.guard with
   |some ch=>match cB rs.bs ch with
    |some c=>evG P o ch c rs λav=>x0a o.dst i ch av rs λrs=>y09 P r (i+1) rs K
    |none=>False
   |none=>False
def evQ(P:Program):List Oper->Nat->RS->(RS->Prop)->Prop
 | [],_,rs,K=>K rs
 |o::r,i,rs,K=>match S8 rs.bs o.guard with
  |some ch=>match cB rs.bs ch with
   |some c=>evG P o ch c rs λav=>x0a o.dst i ch av rs λrs=>evQ P r (i+1) rs K
   |none=>False
  |none=>False
def Sub(h h':Hp):Prop:=∀ b o,h b=some o->h' b=some o
def L0k(v:Value)(K:Value->Prop):Prop:=match v with
 | .bool b=>K (.bool b)
 | .int k n=>K (.int k n)
 | .string s=>K (.string s)
 | .pointer a=>K (.pointer a)
 | .slice a n c=>K (.slice a n c)
 | .func f x y=>K (.func f x y)
 | .agg cs=>K (.agg cs)
 | .tuple vs=>K (.tuple vs)
 |v=>K v
theorem v0j(v:Value)(K:Value->Prop):L0k v K=K v:=by cases v<;>rfl
def a7{α:Type}:List α->(List α->Prop)->Prop
 | [],K=>K []
 |x::r,K=>a7 r λr=>K (x::r)
theorem H00{α:Type}:∀(l:List α) (K:List α->Prop),a7 l K=K l
 | [],K=>rfl
 |x::r,K=>by simp only[a7,H00 r]
def R02:Nat->(Nat->Prop)->Prop
 |0,K=>K 0
 |n+1,K=>R02 n λm=>K (m+1)
theorem w05:∀(n:Nat) (K:Nat->Prop),R02 n K=K n
 |0,K=>rfl
 |n+1,K=>by simp only[R02,w05 n]
def L9(av:AV)(K:AV->Prop):Prop:=match av with
 | .val v=>L0k v λv=>K (.val v)
 | .own i k=>K (.own i k)
 | .box i k=>K (.box i k)
 | .hel s i z k=>R02 z λz=>R02 k λk=>K (.hel s i z k)
 | .oel j s i z k=>R02 z λz=>R02 k λk=>K (.oel j s i z k)
 | .agg cs=>a7 cs λcs=>K (.agg cs)
 | .dead=>K .dead
theorem q01(av:AV)(K:AV->Prop):L9 av K=K av:=by
 cases av with
 |val v=>exact v0j v (λv=>K (.val v))
 |hel s i z k=>simp only[L9,w05]
 |oel j s i z k=>simp only[L9,w05]
 |agg cs=>simp only[L9,H00]
 |_=>rfl
inductive F6 where
 |pu (av:AV)
 |ef (F:Value->Hp->Prop)
def i4:List (Nat×F6)->Nat->Option F6
 | [],_=>none
 |(k,x)::r,s=>match Nat.beq k s with
  |true=>some x
  |false=>i4 r s
def P0e(P:Program)(t:TypeId)(cs:List a5)(off:Nat):Option AV :=
 match f0c P t with
 |some true=>match s5 P t with
  |some n=>match F04 ((cs.drop off).take n) n with
   |true=>some (.agg ((cs.drop off).take n))
   |false=>none
  |none=>none
 |some false=>match nth cs off with
  |some c=>some (ofCell c)
  |none=>none
 |none=>none
def G04(d:Option Tmp)(f:F6)(L:List (Nat×F6)):List (Nat×F6):=match d with
 |some d=>(d,f)::L
 |none=>L
def c7(i:Nat)(o:Oper):Bool:=o.after.toList.any λe=>Region.binds .any e&&Nat.beq e.on i
def I00(o:Oper)(t:Nat):List Oper->Nat->Bool
 | [],_=>true
 |x::r,i=>match x.dst with
  |some d=>match Nat.beq d t with
   |true=>c7 i o&&I00 o t r (i+1)
   |false=>I00 o t r (i+1)
  |none=>I00 o t r (i+1)
def x07(o:Oper)(ops:List Oper):List Operand->Bool
 | []=>true
 | .tmp t::r=>I00 o t ops 0&&x07 o ops r
 |_::r=>x07 o ops r
def x05(d:Nat):List Oper->Bool
 | []=>true
 |o::r=>match o.dst with
  |some d' => !Nat.beq d d'&&x05 d r
  |none=>x05 d r
def Q0e(n:Nat):List Oper->Bool
 | []=>true
 |o::r=>match o.dst with
  |some d=>Nat.blt d n&&x05 d r&&Q0e n r
  |none=>Q0e n r
def z09:List Oper->Nat->Bool
 | [],_=>true
 |o::r,j=>(o.after.toList.all λe => !Region.binds .any e || Nat.blt e.on j)&&z09 r (j+1)
def V0h(ops:List Oper):List Oper->Bool
 | []=>true
 |o::r=>x07 o ops o.op.operands.toList&&V0h ops r
def e01(n:Nat)(ops:List Oper):Bool:=Q0e n ops&&z09 ops 0&&V0h ops ops
def W0h:List a5->Bool
 | []=>true
 | .val _::r=>W0h r
 | .own _ _::_=>false
def C0d:AV->Bool
 | .val _=>true
 | .box _ _=>true
 | .own _ _=>true
 | .agg cs=>W0h cs
 |_=>false
def L03(L:List (Nat×F6))(st:St):Operand->AV
 | .tmp t=>match i4 L t with
  |some (.pu av)=>av
  |some (.ef _) => .dead
  |none=>L3 st.fr t
 | .const v => .val v
 |_ => .dead
def A09(L:List (Nat×F6))(st:St):List Operand->Option (List (Nat×Value))
 | []=>some []
 | .tmp t::r=>match L03 L st (.tmp t)with
  | .val v=>match A09 L st r with
   |some vs=>some ((t,v)::vs)
   |none=>none
  |_=>none
 | .global _::_=>none
 |_::r=>A09 L st r
def R0g(P:Program)(L:List (Nat×F6))(o:Oper)(st:St):Option AV:=match s07 o.op,A09 L st o.op.operands.toList with
 |false,some vs=>match r05 (rho vs) o with
  |some _=>none
  |none=>match evP P (x06 (rho vs) o)with
   |some (.value v)=>some (.val v)
   |_=>none
 |_,_=>none
def N0o:AV->Bool
 | .val (.int _ _)=>true
 |_=>false
def b0p:BinOp->Bool
 | .lss=>true
 | .leq=>true
 | .gtr=>true
 | .geq=>true
 | .eql=>true
 | .neq=>true
 | .add=>true
 | .sub=>true
 | .mul=>true
 |_=>false
def y06(P:Program)(L:List (Nat×F6))(o:Oper)(st:St):Option AV:=match o.op with
 | .move x=>match C0d (L03 L st x)with
  |true=>some (L03 L st x)
  |false=>none
 | .assign x=>match C0d (L03 L st x)with
  |true=>some (L03 L st x)
  |false=>none
 | .load t x=>match L03 L st x with
  | .box i off=>match nth st.bx i with
   |some (.live cs _)=>match P0e P t cs off with
    |some av=>match C0d av with
     |true=>some av
     |false=>none
    |none=>none
   |_=>none
  |_=>none
 | .fieldAddr t x k=>match L03 L st x,y0d P t k with
  | .box i off,some fo=>some (.box i (off+fo))
  |_,_=>none
 | .binOp op _ x y _=>match b0p op,N0o (L03 L st x),N0o (L03 L st y)with
  |true,true,true=>R0g P L o st
  |_,_,_=>none
 | .call { callee := .builtin .len,args:=as,argTypes:=_ }=>match as.toList with
  | [x]=>match L03 L st x with
   | .val (.slice _ _ _)=>R0g P L o st
   |_=>none
  |_=>none
 |_=>none
def r8(L:List (Nat×F6))(st:St):List Oper->List Nat
 | []=>[]
 |o::r=>match o.op with
  | .load _ x=>match L03 L st x with
   | .box i _=>i::r8 L st r
   |_=>r8 L st r
  |_=>r8 L st r
def z06(bx:List BSt):List Nat->List (Option BSt)
 | []=>[]
 |i::r=>nth bx i::z06 bx r
def y02(L:List (Nat×F6))(fr0:List (Nat×AV)):List Operand->List (Nat×AV)->(List (Nat×AV)->Prop)->Prop
 | [],acc,K=>K acc
 | .tmp t::r,acc,K=>match i4 L t with
  |some (.pu av)=>y02 L fr0 r ((t,av)::acc) K
  |some (.ef _)=>y02 L fr0 r ((t,.dead)::acc) K
  |none=>y02 L fr0 r ((t,L3 fr0 t)::acc) K
 |_::r,acc,K=>y02 L fr0 r acc K
def R0e:List (Nat×F6)->List (Nat×AV)->List (Nat×AV)
 | [],fr=>fr
 |(d,.pu av)::r,fr=>(d,av)::R0e r fr
 |(d,.ef _)::r,fr=>(d,.dead)::R0e r fr
def X0h(av:AV)(st:St)(h:Hp):AV->St->Hp->Prop:=λav' st' h'=>av'=av/\st'=st/\h'=h
def S0e(P:Program)(st:St)(h:Hp)(L:List (Nat×F6))(o:Oper)(av:AV):Prop :=
 match st with
 |⟨n,fr,bx,ow⟩=>∀ h',Sub h h'->y02 L fr o.op.operands.toList [] λfr=>O7 P o ⟨n,fr,bx,ow⟩ h' (X0h av ⟨n,fr,bx,ow⟩ h')
def S01(P:Program)(st:St)(h:Hp):List Oper->Nat->List (Nat×F6)->List (Nat×Oper)->List (Nat×Oper)->(List (Nat×F6)->List (Nat×Oper)->List (Nat×Oper)->Prop)->Prop
 | [],_,L,X,E,K=>K L X E
 |o::r,i,L,X,E,K=>match o.guard with
  |some _=>False
  |none=>match y06 P L o st with
   |some av=>L9 av λav=>S01 P st h r (i+1) (G04 o.dst (.pu av) L) X E K
   |none=>(∃ av,S0e P st h L o av/\L9 av λav=>S01 P st h r (i+1) (G04 o.dst (.pu av) L) (X ++ [(i,o)]) E K) ∨
     S01 P st h r (i+1) (G04 o.dst (.ef λ_ _=>True) L) X (E ++ [(i,o)]) K
def D0d(X:List (Nat×Oper)):Nat->Nat->Oper->Bool
 |0,i,q=>c7 i q
 |n+1,i,q=>c7 i q || X.any λy=>c7 y.1 q&&D0d X n i y.2
def y0a(X Y:List (Nat×Oper)):List (Nat×Oper)->Bool
 | []=>true
 |(_,q)::_=>X.all λx=>D0d Y 8 x.1 q
def S02:List (Nat×Oper)->Bool
 |(i,o)::(j,o')::r=>c7 i o'&&S02 ((j,o')::r)
 |_=>true
def T02:Nat->Nat->Oper->Bool
 |0,_,_=>true
 |k+1,i,o=>(Nat.beq k i || c7 k o)&&T02 k i o
def y05(d:Nat):List Operand->Bool
 | []=>false
 | .tmp t::r=>Nat.beq t d || y05 d r
 |_::r=>y05 d r
def z0a(d:Nat):List Oper->Bool
 | []=>false
 |o::r=>y05 d o.op.operands.toList || z0a d r
def I9:List Oper->List Oper
 | []=>[]
 |o::r=>match r with
  | []=>[]
  |_::_=>o::I9 r
def A0a:List Oper->Option Oper
 | []=>none
 |o::r=>match r with
  | []=>some o
  |_::_=>A0a r
def M0k(ops:List Oper):Option Oper:=match A0a ops with
 |some o=>match o.guard,o.dst with
  |none,some d=>match z0a d (I9 ops)&&T02 (I9 ops).length (I9 ops).length o with
   |true=>some o
   |false=>none
  |_,_=>none
 |none=>none
def k02(P:Program)(o:Oper)(st:St)(h:Hp)(K:St->Hp->Prop):Prop :=
 O7 P o st h λav st h=>x0a o.dst 0 [] av ⟨st,h,[],[]⟩ λrs=>K rs.st rs.h
def y07(N i:Nat)(o:Oper):List (Nat×Oper)->Bool
 | []=>T02 N i o
 |_::_=>false
def x0c(c:Nat)(b:Bool)(rd:List Nat)(bx bx':List BSt):Prop:=match b with
 |true=>True
 |false=>match c with
  |0=>z06 bx' rd=z06 bx rd
  |_+1=>bx'=bx
def E08:Nat->List Own->List Own->Hp->Hp->Prop
 |0,_,_,_,_=>True
 |_+1,ow,ow',h,h'=>ow'=ow/\Sub h h'
def evC(rd:List Nat)(N:Nat)(P:Program):Nat->List (Nat×Oper)->List (Nat×F6)->St->Hp->(St->Hp->Prop)->Prop
 |_,[],L,⟨n,fr,bx,ow⟩,h,K=>a7 (R0e L fr) λfr=>K ⟨n,fr,bx,ow⟩ h
 |c,(i,o)::r,L,⟨n,fr,bx,ow⟩,h,K=>y02 L fr o.op.operands.toList [] λfr1=>O7 P o ⟨n,fr1,bx,ow⟩ h λav st' h'=>match st' with
  |⟨_,_,bx',ow'⟩=>E08 c ow ow' h h'/\x0c c (y07 N i o r) rd bx bx'/\L9 av λav=>a7 bx' λbx'=>a7 ow' λow'=>evC rd N P (c-1) r (G04 o.dst (.pu av) L) ⟨n,fr,bx',ow'⟩ h' K
def P0m(f:Nat×Oper)(rd:List Nat)(N:Nat)(P:Program):Nat->List (Nat×Oper)->List (Nat×F6)->St->Hp->(St->Hp->Prop)->Prop
 |0,E,L,st,h,K=>evC rd N P 0 (f::E) L st h K
 |p+1,E,L,st,h,K=>evC rd N P 0 (f::E) L st h K/\match E with
  | []=>False
  |(i,o)::r=>match st with
   |⟨n,fr,bx,ow⟩=>y02 L fr o.op.operands.toList [] λfr1=>O7 P o ⟨n,fr1,bx,ow⟩ h λav st' h'=>match st' with
    |⟨_,_,bx',ow'⟩=>E08 0 ow ow' h h'/\x0c 0 (y07 N i o r) rd bx bx'/\L9 av λav=>a7 bx' λbx'=>a7 ow' λow'=>P0m f rd N P p r (G04 o.dst (.pu av) L) ⟨n,fr,bx',ow'⟩ h' K
def w0j(f:Nat×Oper):Nat->List (Nat×Oper)->Bool
 |_,[]=>false
 |0,(_,q)::_=>c7 f.1 q
 |p+1,_::r=>w0j f p r
def y0c:Nat->List (Nat×Oper)->Option ((Nat×Oper)×List (Nat×Oper))
 |_,[]=>none
 |0,x::r=>some (x,r)
 |k+1,x::r=>match y0c k r with
  |some (f,r')=>some (f,x::r')
  |none=>none
def noX:List (Nat×Oper)->Bool
 | []=>true
 |_::_=>false
def F08:List (Nat×Oper)->List (Nat×Oper)->List ((Nat×Oper)×List (Nat×Oper))
 |_,[]=>[]
 |A,x::B=>(x,A++B)::F08 (A ++ [x]) B
def E0d(x:Nat×Oper):List (Nat×Oper)->Bool
 | []=>true
 |y::r => !c7 y.1 x.2&&E0d x r
def S0g(f:(Nat×Oper)->List (Nat×Oper)->Prop):List ((Nat×Oper)×List (Nat×Oper))->Prop
 | []=>True
 |p::l=>match E0d p.1 p.2 with
  |true=>f p.1 p.2/\S0g f l
  |false=>S0g f l
def T0e(rd:List Nat)(N:Nat)(P:Program):Nat->List (Nat×Oper)->List (Nat×F6)->St->Hp->(St->Hp->Prop)->Prop
 |0,_,L,⟨n,fr,bx,ow⟩,h,K=>a7 (R0e L fr) λfr=>K ⟨n,fr,bx,ow⟩ h
 |m+1,E,L,⟨n,fr,bx,ow⟩,h,K=>S0g (λx r=>y02 L fr x.2.op.operands.toList [] λfr1=>O7 P x.2 ⟨n,fr1,bx,ow⟩ h λav st' h'=>match st' with
  |⟨_,_,bx',ow'⟩=>E08 0 ow ow' h h'/\x0c 0 (y07 N x.1 x.2 r) rd bx bx'/\L9 av λav=>a7 bx' λbx'=>a7 ow' λow'=>T0e rd N P m r (G04 x.2.dst (.pu av) L) ⟨n,fr,bx',ow'⟩ h' K) (F08 [] E)
def g0c:List (Nat×Oper)->Nat
 | []=>0
 |_::r=>g0c r+1
def evD(rd:List Nat)(N:Nat)(P:Program)(X E:List (Nat×Oper))(L:List (Nat×F6))(st:St)(h:Hp)(K:St->Hp->Prop):Prop :=
 (∃ c,(S02 E=true/\y0a X (X++E) (E.drop c)=true)/\evC rd N P c E L st h K) ∨
 (∃ k p,match y0c k E with
  |some (f,E')=>(noX X=true/\S02 E'=true/\w0j f p E'=true)/\P0m f rd N P p E' L st h K
  |none=>noX X=true/\T0e rd N P (g0c E) E L st h K)
abbrev FL:=List (Nat×List (Nat×Bool)×F6)
def N01:FL->Nat->Option (List (Nat×Bool)×F6)
 | [],_=>none
 |(k,x)::r,s=>match Nat.beq k s with
  |true=>some x
  |false=>N01 r s
def rdU(L:FL)(st:St)(ch:List (Nat×Bool)):Operand->AV
 | .tmp t=>match N01 L t with
  |some (ch2,.pu av)=>match M0e ch2 ch with
   |true=>rdA st av
   |false => .dead
  |some (_,.ef _) => .dead
  |none=>rdA st (L3 st.fr t)
 |x=>rdO st x
def A06(P:Program)(L:FL)(bs:List BE)(ch:List (Nat×Bool))(o:Oper)(st:St):Option AV:=match o.op with
 | .move x | .assign x=>match rdU L st ch x with
  | .dead=>none
  |a=>some a
 | .load t x=>match rdU L st ch x with
  | .box i off=>match nth st.bx i with
   |some (.live cs _)=>P0e P t cs off
   |_=>none
  |_=>none
 | .fieldAddr t x k=>match rdU L st ch x,y0d P t k with
  | .box i off,some fo=>some (.box i (off+fo))
  | .hel s i sz k,some fo=>some (.hel s i sz (k+fo))
  |_,_=>none
 | .pick (.tmp s) a b=>match rdU L st ch (.tmp s),w07 bs s with
  | .val (.bool e),some q=>match M0e q.ch ch with
   |true=>match rdU L st ((q.j,true)::q.ch) a,rdU L st ((q.j,false)::q.ch) b with
    | .val (.bool x),.val (.bool y)=>some (.val (.bool (cond e x y)))
    |_,_=>none
   |false=>none
  |_,_=>none
 |_=>none
def g05(L:FL)(st:St)(h:Hp)(ch:List (Nat×Bool)):List Operand->List (Nat×AV)->(List (Nat×AV)->Prop)->Prop
 | [],acc,K=>K acc
 | .tmp t::r,acc,K=>match N01 L t with
  |some (ch2,f)=>match M0e ch2 ch with
   |true=>match f with
    | .pu av=>g05 L st h ch r ((t,av)::acc) K
    | .ef F=>∀ v,F v h->g05 L st h ch r ((t,.val v)::acc) K
   |false=>False
  |none=>g05 L st h ch r ((t,L3 st.fr t)::acc) K
 |_::r,acc,K=>g05 L st h ch r acc K
def B0a(h:Hp):FL->List (Nat×AV)->(List (Nat×AV)->Prop)->Prop
 | [],fr,K=>K fr
 |(d,[],.pu av)::r,fr,K=>B0a h r ((d,av)::fr) K
 |(d,[],.ef F)::r,fr,K=>∀ v,F v h->B0a h r ((d,.val v)::fr) K
 |(d,_::_,_)::r,fr,K=>B0a h r ((d,.dead)::fr) K
def h0c(d:Option Tmp)(ch:List (Nat×Bool))(f:F6)(L:FL):FL:=match d with
 |some d=>(d,ch,f)::L
 |none=>L
def F0d(i:Nat)(d:Option Tmp)(ch:List (Nat×Bool))(av:AV)(bs:List BE):List BE:=match d with
 |some d=>match av with
  | .val (.bool e)=>⟨i,d,e,ch⟩::bs
  |_=>bs
 |none=>bs
def T0g(st st':St):Prop:=st'.n=st.n/\st'.fr=st.fr/\st'.bx=st.bx/\∃ t,st'.ow=st.ow++t
def N0k(st:St)(h:Hp)(F:Value->Hp->Prop):AV->St->Hp->Prop:=λav st' h'=>rfy av st' h' λv st'' h''=>T0g st st''/\Sub h h''/\F v h''
def O0k(P:Program)(t n:Nat)(st:St)(h:Hp)(K:AV->St->Hp->Prop):Prop :=
 match H9 P t with
 |some e=>match s5 P e,Nat.beq n 0 with
  |some (_+1),true=>∀ g,h g=none->K (.val (.slice (some ⟨g,0,none⟩) 0 0)) st (h.set g (.cells #[] e (0,0)))
  |_,_=>False
 |none=>False
def P0k(P:Program)(t:TypeId)(a b:Operand)(st:St)(h:Hp)(K:AV->St->Hp->Prop):Prop :=
 match H9 P t with
 |some e=>match s5 P e,U06 P e,w9 P e with
  |some (sz+1),some (by_+1),some z=>match F04 z.cells.toList (sz+1)with
   |true=>match rdO st a with
    | .val (.slice (some ⟨g,o,none⟩) 0 0)=>u0a st h (sz+1) (rdO st b) λys=>W03 ys.length (by_+1) /\
      ((ys = []->K (.val (.slice (some ⟨g,o,none⟩) 0 0)) st h)/\∀ v h',O1 h h' v e (sz+1) true ys->K (.val v) st h')
    |_=>False
   |false=>False
  |_,_,_=>False
 |none=>False
def U0e(P:Program)(o:Oper)(st:St)(h:Hp)(K:AV->St->Hp->Prop):Prop :=
 match o.op with
 | .buildSlice t n ps=>match ps.toList with
  | []=>O0k P t n st h K
  |_::_=>O7 P o st h K
 | .call { callee := .builtin .append,args:=as,argTypes:=ts }=>match as.toList,ts.toList with
  | [a,b],[t,t']=>match Nat.beq t t' with
   |true=>P0k P t a b st h K
   |false=>False
  |_,_=>False
 |_=>O7 P o st h K
def evU(P:Program)(l:List Oper):Nat->FL->List BE->St->Hp->(St->Hp->Prop)->Prop :=
  List.rec (motive:=λ_=>Nat->FL->List BE->St->Hp->(St->Hp->Prop)->Prop)
    (λ_ L _ st h K=>match st with
      |⟨n,fr,bx,ow⟩=>∀ h',Sub h h'->B0a h' L fr λfr=>K ⟨n,fr,bx,ow⟩ h')
    (λo _ ih i L bs st h K=>match st with
      |⟨n,fr,bx,ow⟩=>match S8 bs o.guard with
        |some ch=>match cB bs ch with
          |some c=>match A06 P L bs ch o ⟨n,fr,bx,ow⟩with
            |some av=>L9 av λav=>ih (i+1) (h0c o.dst ch (.pu av) L) (F0d i o.dst ch av bs) ⟨n,fr,bx,ow⟩ h K
            |none=>(∃ av,(∀ h',Sub h h'->imp ch c (g05 L ⟨n,fr,bx,ow⟩ h' ch o.op.operands.toList [] λfr=>O7 P o ⟨n,fr,bx,ow⟩ h' (X0h av ⟨n,fr,bx,ow⟩ h'))) /\
                  L9 av λav=>ih (i+1) (h0c o.dst ch (.pu av) L) (F0d i o.dst ch av bs) ⟨n,fr,bx,ow⟩ h K) ∨
                (∃ F:Value->Hp->Prop,(∀ v h1 h2,Sub h1 h2->F v h1->F v h2) /\
                  (∀ h',Sub h h'->imp ch c (g05 L ⟨n,fr,bx,ow⟩ h' ch o.op.operands.toList [] λfr=>U0e P o ⟨n,fr,bx,ow⟩ h' (N0k ⟨n,fr,bx,ow⟩ h' F))) /\
                  ih (i+1) (h0c o.dst ch (.ef F) L) bs ⟨n,fr,bx,ow⟩ h K)
          |none=>False
        |none=>False) l
def j0a:List Oper->Bool
 | []=>true
 |o::r=>(match o.guard with
  |some (j,_)=>c7 j o
  |none=>true)&&j0a r
def a02(n:Nat)(ops:List Oper):Bool:=e01 n ops&&j0a ops
def Q0m(P:Program):List Oper->Bool
 | []=>false
 |o::r=>(match o.guard,o.op with
  |some _,.call { callee := .value _,args:=_,argTypes:=_ }=>match P.underlying o.type with
   |some (.slice _)=>true
   |some (.struct _)=>true
   |some (.tuple _)=>true
   |_=>false
  |_,_=>false) || Q0m P r
def E02(o:Oper):Bool:=match o.op with
 | .alloc _=>true
 |_=>false
def d9(o:Oper):Oper:=match o.op with
 | .alloc _ => { o with op := .move (.const undef) }
 |_=>o
def w5:List Oper->List Oper
 | []=>[]
 |o::r=>d9 o::w5 r
def okA(P:Program)(all:List Oper):List Oper->Bool
 | []=>true
 |o::r=>(match o.op with
  | .alloc t=>(match o.guard,o.dst,w9 P t with
   |none,some d,some _ => !z0a d all
   |_,_,_=>false)
  |_=>true)&&okA P all r
def U0g(x:Nat):List Nat->Bool
 | []=>false
 |y::r=>Nat.beq x y || U0g x r
def R0m(ops:List Oper)(i:Nat):List Nat->Bool
 | []=>false
 |j::r=>(match nth ops j with
  |some o=>c7 i o
  |none=>false) || R0m ops i r
def z0c(ops:List Oper):Nat->List Nat->List Nat
 |0,acc=>acc
 |i+1,acc=>match R0m ops i acc with
  |true=>z0c ops i (i::acc)
  |false=>z0c ops i acc
def G08:Operand->List Nat
 | .tmp t=>[t]
 |_=>[]
def B06(o:Oper):Option (List Nat):=match o.guard with
 |some _=>none
 |none=>match o.op with
  | .extract x _=>some (G08 x)
  | .move x=>some (G08 x)
  | .assign x=>some (G08 x)
  | .pick c x y=>some (G08 c++(G08 x++G08 y))
  |_=>none
def C06(d:Nat):List Oper->Bool
 | []=>false
 |o::r=>(match o.dst with
  |some e=>Nat.beq e d
  |none=>false) || C06 d r
def U02(ml:List Nat)(t:Nat):List Oper->Nat->Bool
 | [],_=>true
 |o::r,i=>(match o.dst with
  |some e => !Nat.beq e t || U0g i ml
  |none=>true)&&U02 ml t r (i+1)
def X03(i d:Nat):List Oper->Bool
 | []=>true
 |o::r=>(!y05 d o.op.operands.toList || c7 i o)&&X03 i d r
def Y0h(pre tl:List Oper)(ml:List Nat):List Nat->Bool
 | []=>true
 |t::r=>(!C06 t tl&&U02 ml t pre 0)&&Y0h pre tl ml r
def Z0h(pre tl:List Oper)(ml:List Nat)(i:Nat)(o:Oper):Bool:=match B06 o,o.dst with
 |some ts,some d => !C06 d tl&&Y0h pre tl ml ts&&X03 i d tl
 |_,_=>false
def k0a(pre tl:List Oper)(ml:List Nat):List Oper->Nat->Bool
 | [],_=>true
 |o::r,i=>(U0g i ml || Z0h pre tl ml i o)&&k0a pre tl ml r (i+1)
def V0e:List Oper->Bool
 | []=>true
 |o::r => !s07 o.op&&V0e r
def Q0k:Nat->List Oper->Bool
 |_,[]=>true
 |k,o::r=>(match o.guard with
  |none=>true
  |some _=>false)&&(match r with
  | []=>true
  |o'::_=>c7 k o')&&Q0k (k+1) r
def O0o:List Oper->Bool
 | []=>true
 |_::_=>false
def okZ(P:Program)(n m:Nat)(ops:List Oper):Bool :=
 a02 n (w5 (ops.take m))&&okA P (ops.take m) (ops.take m)&&z09 ops 0&&Q0k m (ops.drop m)&&(O0o (ops.drop m) || (k0a (ops.take m) (ops.drop m) (z0c ops m [m]) (ops.take m) 0&&V0e (ops.drop m)))
abbrev d0o:=Oper->St->Hp->(St->Hp->Prop)->Prop
def doA(R:d0o)(l:List Oper):St->Hp->(St->Hp->Prop)->Prop :=
 List.rec (motive:=λ_=>St->Hp->(St->Hp->Prop)->Prop) (λst h K=>K st h) (λo _ ih st h K=>match E02 o with
  |true=>R o st h λst h=>ih st h K
  |false=>ih st h K) l
def doT(R:d0o)(l:List Oper):St->Hp->(St->Hp->Prop)->Prop :=
 List.rec (motive:=λ_=>St->Hp->(St->Hp->Prop)->Prop) (λst h K=>K st h) (λo _ ih st h K=>R o st h λst h=>ih st h K) l
def evT(P:Program)(R:d0o)(m:Nat)(ops:List Oper)(st:St)(h:Hp)(K:St->Hp->Prop):Prop :=
 evU P (w5 (ops.take m)) 0 [] [] st h λst h=>doA R (ops.take m) st h λst h=>doT R (ops.drop m) st h K
inductive Ex where
 |normal|ret
 |exit (i:Nat)
structure Ann where
 vars:List Nat
 boxes:List Nat
 owns:List Nat
 nils:List (Nat×Nat×Nat×Nat):=[]
 nilsB:List (Nat×Nat×Nat×Nat×Nat):=[]
 kept:List Nat:=[]
 fuel:Bool:=false
 pubs:List Nat:=[]
def W0e:List (Nat×Nat×Nat×Nat)->St->(St->Prop)->Prop
 | [],st,K=>K st
 |(s,e,sz,by_)::r,⟨n,fr,bx,ow⟩,K=>match rdA ⟨n,fr,bx,ow⟩ (L3 fr s),Nat.blt s n with
  | .val (.slice none 0 0),true=>M0g ow λk=>W0e r ⟨n,(s,.own k 0)::fr,bx,ow ++ [⟨0,.live e sz by_ false []⟩]⟩ K
  |_,_=>False
def C0a:List (Nat×Nat×Nat×Nat×Nat)->St->(St->Prop)->Prop
 | [],st,K=>K st
 |(i,k,e,sz,by_)::r,⟨n,fr,bx,ow⟩,K=>match nth bx i with
  |some (.live cs ty)=>match nth cs k with
   |some (.val (.slice none 0 0))=>M0g ow λj=>C0a r ⟨n,fr,n9 bx i (.live (n9 cs k (.own j 0)) ty),ow ++ [⟨0,.live e sz by_ false []⟩]⟩ K
   |_=>False
  |_=>False
def X0e:List Nat->St->Hp->(St->Hp->Prop)->Prop
 | [],st,h,K=>K st h
 |s::r,st,h,K=>rfy (rdA st (L3 st.fr s)) st h λv st h=>match st with
  |⟨n,fr,bx,ow⟩=>match Nat.blt s n with
   |true=>X0e r ⟨n,(s,.val v)::fr,bx,ow⟩ h K
   |false=>False
def t06(x:Nat):List Nat->Bool
 | []=>false
 |y::r=>match Nat.beq x y with
  |true=>true
  |false=>t06 x r
def e0o:List Oper->List Nat->List Nat
 | [],acc=>acc
 |o::r,acc=>match o.dst with
  |some d=>e0o r (d::acc)
  |none=>e0o r acc
def i0c:Code->List Nat->List Nat
 | .region _ ops _,acc=>e0o ops.toList acc
 | .seq a b,acc=>i0c a (i0c b acc)
 | .cond _ a b,acc=>i0c a (i0c b acc)
 | .block _ a,acc=>i0c a acc
 | .loop a,acc=>i0c a acc
 | .scope a,acc=>i0c a acc
 |_,acc=>acc
def H08:List Nat->(List Nat->Prop)->Prop
 | [],K=>K []
 |x::r,K=>H08 r λr=>K (x::r)
def S0m:List Nat->St->(List Value->Prop)->Prop
 | [],_,K=>K []
 |s::r,st,K=>match rdA st (L3 st.fr s)with
  | .val v=>S0m r st λvs=>K (v::vs)
  |_=>False
def Y0e:List a5->St->(List Value->Prop)->Prop
 | [],_,K=>K []
 | .val v::r,st,K=>Y0e r st λvs=>K (v::vs)
 | .own _ _::r,st,K=>Y0e r st K
def D0a:List Nat->St->(List Value->Prop)->Prop
 | [],_,K=>K []
 |i::r,st,K=>match nth st.bx i with
  |some (.live cs _)=>Y0e cs st λvs=>D0a r st λws=>K (vs++ws)
  |_=>False
def A0c:List Nat->St->(List (List (List Value))->Prop)->Prop
 | [],_,K=>K []
 |i::r,st,K=>match nth st.ow i with
  |some ⟨_,.live _ _ _ _ xs⟩=>A0c r st λos=>K (xs::os)
  |_=>False
def V0g(A:Ann)(st:St)(K:List Value->List (List (List Value))->Prop):Prop :=
 S0m A.vars st λvs=>D0a A.boxes st λws=>A0c A.owns st λos=>K (vs++ws) os
def b02:List a5->List Value->(List a5->List Value->Prop)->Prop
 | [],vs,K=>K [] vs
 | .val _::r,v::vs,K=>b02 r vs λcs rest=>K (.val v::cs) rest
 | .val _::_,[],_=>False
 | .own i k::r,vs,K=>b02 r vs λcs rest=>K (.own i k::cs) rest
def Y03:List Nat->List Value->List BSt->(List BSt->Prop)->Prop
 | [],_,bx,K=>K bx
 |i::r,vs,bx,K=>match nth bx i with
  |some (.live cs ty)=>b02 cs vs λcs rest=>Y03 r rest (n9 bx i (.live cs ty)) K
  |_=>False
def Z03:List Nat->List (List (List Value))->List Own->(List Own->Prop)->Prop
 | [],_,ow,K=>K ow
 |i::r,xs::os,ow,K=>match nth ow i with
  |some ⟨s,.live e sz by_ nn _⟩=>Z03 r os (n9 ow i ⟨s,.live e sz by_ nn xs⟩) K
  |_=>False
 |_::_,[],_,_=>False
def z05{α:Type}:Nat->List α->(List α->List α->Prop)->Prop
 |0,l,K=>K [] l
 |n+1,x::l,K=>z05 n l λa b=>K (x::a) b
 |_+1,[],_=>False
def D06(A:Ann)(st:St):List Nat->List (Nat×AV)->(List (Nat×AV)->Prop)->Prop
 | [],acc,K=>K acc
 |s::r,acc,K=>match t06 s A.vars with
  |true=>D06 A st r acc K
  |false=>match rdA st (L3 st.fr s)with
   | .own i k=>D06 A st r ((s,.own i k)::acc) K
   | .box i o=>D06 A st r ((s,.box i o)::acc) K
   |_=>D06 A st r ((s,.dead)::acc) K
def a0i:List a5->Bool
 | []=>true
 | .val _::r=>a0i r
 | .own _ _::_=>false
def a04(A:Ann)(ds:List Nat)(st:St):List (Nat×AV)->(List (Nat×AV)->Prop)->Prop
 | [],K=>K []
 |(s,av)::r,K=>match t06 s ds with
  |true=>a04 A ds st r K
  |false=>match rdA st av with
   | .own i k=>match t06 i A.owns,t06 i A.kept with
    |true,false=>a04 A ds st r λl=>K ((s,.dead)::l)
    |_,_=>a04 A ds st r λl=>K ((s,.own i k)::l)
   | .oel _ _ _ _ _=>a04 A ds st r λl=>K ((s,.dead)::l)
   | .agg cs=>match a0i cs with
    |true=>a04 A ds st r λl=>K ((s,.agg cs)::l)
    |false=>a04 A ds st r λl=>K ((s,.dead)::l)
   |a=>a04 A ds st r λl=>K ((s,a)::l)
def I08:List Nat->List Value->List (Nat×AV)->List (Nat×AV)
 |s::r,v::vs,acc=>I08 r vs ((s,.val v)::acc)
 |_,_,acc=>acc
def B09(head end_:St):List (Nat×AV)->Bool
 | []=>true
 |(s,av)::r=>match av with
  | .own i _=>match rdA end_ (L3 end_.fr s)with
   | .own j _=>match Nat.beq i j with
    |true=>B09 head end_ r
    |false=>false
   |_=>false
  | .box i o=>match rdA end_ (L3 end_.fr s)with
   | .box j p=>match Nat.beq i j,Nat.beq o p with
    |true,true=>B09 head end_ r
    |_,_=>false
   |_=>false
  |_=>B09 head end_ r
def W0g:AV->Bool
 | .dead=>true
 |_=>false
def x0j:List (Nat×AV)->List AV
 | []=>[]
 |(_,av)::r=>match W0g av with
  |true=>x0j r
  |false=>av::x0j r
def B0c(fr:List (Nat×AV)):List (Nat×AV)->List AV
 | []=>[]
 |(s,av)::r=>match W0g av with
  |true=>B0c fr r
  |false=>L3 fr s::B0c fr r
def b04(head end_:St):List a5->List a5->Bool
 | [],[]=>true
 | .val _::r,.val _::r'=>b04 head end_ r r'
 | .own i _::r,.own j k'::r'=>match Nat.beq i j,rdA end_ (.own j k')with
  |true,.own _ _=>b04 head end_ r r'
  |_,_=>false
 |_,_=>false
def z07(os:List Nat):List a5->Bool
 | []=>true
 | .val _::r=>z07 os r
 | .own i _::r=>match t06 i os with
  |true=>false
  |false=>z07 os r
def X0g(os:List Nat):BSt->Bool
 | .live cs _=>z07 os cs
 | .publ _=>true
def J08(A:Ann)(head end_:St):Nat->List BSt->List BSt->Prop
 |_,[],_=>True
 |i,b::r,b'::r'=>match t06 i A.boxes with
  |true=>match b,b' with
   | .live cs ty,.live cs' ty'=>match Nat.beq ty ty',b04 head end_ cs cs' with
    |true,true=>J08 A head end_ (i+1) r r'
    |_,_=>False
   |_,_=>False
  |false=>match X0g A.owns b with
   |true=>b'=b/\J08 A head end_ (i+1) r r'
   |false=>False
 |_,_::_,[]=>False
def leB(a b:Bool):Bool:=match a with
 |true=>b
 |false=>true
def K08(A:Ann):Nat->List Own->List Own->Prop
 |_,[],_=>True
 |i,b::r,b'::r'=>match t06 i A.owns with
  |true=>match b,b' with
   |⟨s,.live e sz by_ nn _⟩,⟨s',.live e' sz' by' nn' _⟩=>match Nat.beq e e',Nat.beq sz sz',Nat.beq by_ by',leB nn nn',leB (t06 i A.kept) (Nat.beq s s')with
    |true,true,true,true,true=>K08 A (i+1) r r'
    |_,_,_,_,_=>False
   |_,_=>False
  |false=>b'=b/\K08 A (i+1) r r'
 |_,_::_,[]=>False
def A07:Nat->(List Value->Prop)->Prop
 |0,K=>K []
 |n+1,K=>∀ v,A07 n λvs=>K (v::vs)
def B07:Nat->(List (List (List Value))->Prop)->Prop
 |0,K=>K []
 |n+1,K=>∀ xs,B07 n λos=>K (xs::os)
abbrev L08:=List Value->List (List (List Value))->Hp->Prop
abbrev h05:=List Value->List (List (List Value))->Nat
def T0m:List Value->List Value->Bool
 | [],[]=>true
 |_::r,_::r'=>T0m r r'
 |_,_=>false
def Z0e(A:Ann)(I:L08)(vs:List Value)(os:List (List (List Value)))(h:Hp):Prop:=match A.fuel with
 |false=>I vs os h
 |true=>∃ m:Nat,I (.int .i64 m::vs) os h
def a0f(A:Ann)(I:L08)(μ:h05)(vs:List Value)(os:List (List (List Value)))(X:Nat->Hp->Prop):Prop:=match A.fuel with
 |false=>∀ h',I vs os h'->X (μ vs os) h'
 |true=>∀(m:Nat) (h':Hp),I (.int .i64 m::vs) os h'->X m h'
def U0m(A:Ann)(I:L08)(μ:h05)(m:Nat)(vs:List Value)(os:List (List (List Value)))(h:Hp):Prop:=match A.fuel with
 |false=>I vs os h/\μ vs os<m
 |true=>∃ m':Nat,I (.int .i64 m'::vs) os h/\m'<m
def atI(A:Ann)(I:L08)(μ:h05)(m:Nat)(vs:List Value)(os:List (List (List Value)))(h:Hp):Prop:=match A.fuel with
 |false=>I vs os h/\m=μ vs os
 |true=>I (.int .i64 m::vs) os h
theorem R0k{A:Ann}{I:L08}{μ:h05}{vs:List Value}{os:List (List (List Value))}{h:Hp}(hh:Z0e A I vs os h):∃ m,atI A I μ m vs os h:=by
 unfold Z0e at hh
 unfold atI
 cases hf:A.fuel with
 |false=>rw[hf]at hh;exact⟨_,hh,rfl⟩
 |true=>rw[hf]at hh;exact hh
theorem S0k{A:Ann}{I:L08}{μ:h05}{vs:List Value}{os:List (List (List Value))}{X:Nat->Hp->Prop}(hh:a0f A I μ vs os X){m:Nat}{h:Hp}(ha:atI A I μ m vs os h):X m h:=by
 unfold a0f at hh
 unfold atI at ha
 cases hf:A.fuel with
 |false=>rw[hf]at hh ha;rw[ha.2];exact hh _ ha.1
 |true=>rw[hf]at hh ha;exact hh _ _ ha
theorem V0m{A:Ann}{I:L08}{μ:h05}{m:Nat}{vs:List Value}{os:List (List (List Value))}{h:Hp}(hh:U0m A I μ m vs os h):∃ m',atI A I μ m' vs os h/\m'<m:=by
 unfold U0m at hh
 unfold atI
 cases hf:A.fuel with
 |false=>rw[hf]at hh;exact⟨_,⟨hh.1,rfl⟩,hh.2⟩
 |true=>rw[hf]at hh;exact hh
def T0k(A:Ann)(dyn sta:List (Nat×AV))(st0:St)(I:L08)(μ:h05)(vs0:List Value)(m:Nat)(st:St)(h:Hp):Prop :=
 match Nat.beq st.n st0.n,B09 st0 st dyn with
 |true,true=>B0c st.fr sta=x0j sta/\J08 A st0 st 0 st0.bx st.bx/\K08 A 0 st0.ow st.ow /\
   V0g A st λvs os=>match T0m vs vs0 with
    |true=>z05 A.vars.length vs λ_ v2=>Y03 A.boxes v2 st0.bx λ_=>Z03 A.owns os st0.ow λ_=>U0m A I μ m vs os h
    |false=>False
 |_,_=>False
def b0i(body:(Ex->St->Hp->Prop)->St->Hp->Prop)(ds0:List Nat)(Q:Ex->St->Hp->Prop)(st:St)(h:Hp):Prop :=
 ∃(A:Ann) (I:L08) (μ:h05),W0e A.nils st λst=>C0a A.nilsB st λst=>X0e A.pubs st h λst h=>V0g A st λvs0 os0=>Z0e A I vs0 os0 h /\
  H08 ds0 λds=>D06 A st ds [] λdyn=>a04 A ds st st.fr λsta =>
   A07 vs0.length λvs=>B07 os0.length λos=>a0f A I μ vs os λm h' =>
    z05 A.vars.length vs λv1 v2=>Y03 A.boxes v2 st.bx λbx=>Z03 A.owns os st.ow λow =>
     body (λe st' h''=>match e with
      | .normal=>X0e A.pubs st' h'' λst' h''=>T0k A dyn sta st I μ vs m st' h''
      |e=>Q e st' h'') ⟨st.n,I08 A.vars v1 (dyn++sta),bx,ow⟩ h'
def U0k(b:Bool)(X Y:Prop):Prop:=(b=true->X)/\(b=false->Y)
def ev(P:Program):Code->(Ex->St->Hp->Prop)->St->Hp->Prop
 | .skip,Q,st,h=>Q .normal st h
 | .region _ ops false,Q,st,h=>match Q0m P ops.toList with
  |true=>a02 st.n ops.toList=true/\evU P ops.toList 0 [] [] st h λst h=>Q .normal st h
  |false=>y09 P ops.toList 0 ⟨st,h,[],[]⟩ λrs=>Q .normal rs.st rs.h
 | .region _ ops true,Q,st,h=>((P.follows .mixedOrders=true/\Region.lexB .any ops=true) /\
   evQ P ops.toList 0 ⟨st,h,[],[]⟩ λrs=>Q .normal rs.st rs.h) ∨
   False ∨
   (match M0k ops.toList with
    |none=>(P.follows .mixedOrders=true/\e01 st.n ops.toList=true)/\S01 P st h ops.toList 0 [] [] [] λL X E=>evD (r8 L st ops.toList) ops.size P X E L st h λst h=>Q .normal st h
    |some o=>(P.follows .mixedOrders=true/\(e01 st.n (I9 ops.toList)&&z09 ops.toList 0)=true)/\S01 P st h (I9 ops.toList) 0 [] [] [] λL X E=>evD (r8 L st (I9 ops.toList)) (I9 ops.toList).length P X E L st h λst h=>k02 P o st h λst h=>Q .normal st h) ∨
   ((P.follows .mixedOrders=true/\a02 st.n ops.toList=true)/\evU P ops.toList 0 [] [] st h λst h=>Q .normal st h) ∨
   (∃ m,(P.follows .mixedOrders=true/\okZ P st.n m ops.toList=true)/\evT P (k02 P) m ops.toList st h λst h=>Q .normal st h)
 | .seq a b,Q,st,h=>ev P a (λe st h=>match e with
  | .normal=>ev P b Q st h
  |e=>Q e st h) st h
 | .cond c t e,Q,st,h=>match rdO st c with
  | .val (.bool b)=>U0k b (ev P t Q st h) (ev P e Q st h)
  |_=>False
 | .block id c,Q,st,h=>ev P c (λe st h=>match e with
  | .exit i=>match Nat.beq i id with
   |true=>Q .normal st h
   |false=>Q (.exit i) st h
  |e=>Q e st h) st h
 | .loop body,Q,st,h=>b0i (λQ=>ev P body Q) (i0c body []) Q st h
 | .exit id,Q,st,h=>Q (.exit id) st h
 | .ret,Q,st,h=>Q .ret st h
 |_,_,_,_=>False
def Y0g(P:Program):List ResultVar->St->Hp->(List Value->St->Hp->Prop)->Prop
 | [],st,h,K=>K [] st h
 | .tmp t::r,st,h,K=>rfy (rdA st (L3 st.fr t)) st h λv st h=>Y0g P r st h λvs st h=>K (v::vs) st h
 | .cell t ty::r,st,h,K=>match rdA st (L3 st.fr t)with
  | .box i off=>match nth st.bx i with
   |some (.live cs _)=>n03 P ty cs off λav=>rfy av st h λv st h=>Y0g P r st h λvs st h=>K (v::vs) st h
   |_=>False
  |_=>False
def b0f:List Value->Value
 | [v]=>v
 |vs => .tuple vs.toArray
def C07:Nat->List Value->List (Nat×AV)
 |_,[]=>[]
 |i,v::r=>(i,.val v)::C07 (i+1) r
def f0o(P:Program)(fn:Func)(args:List Value)(h:Hp)(T:Value->Hp->Prop):Prop :=
 match fn.body with
 |some c=>match Nat.ble args.length fn.ntmps with
  |true=>ev P c (λe st h=>match e with
   | .exit _=>False
   |_=>Y0g P fn.results.toList st h λvs _ h=>T (b0f vs) h) ⟨fn.ntmps,C07 0 args,[],[]⟩ h
  |false=>False
 |none=>False
end Go.H
