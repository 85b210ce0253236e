/- Plain laws over the model: what a function's code asks: regions with guards, regions that draw their order, branches and loops. -/
import Derived.Test.YtkjhghloldgioaaGreatH2
namespace Go.H
set_option linter.unusedVariables false
structure BE where
 j:Nat
 d:Nat
 e:Bool
 ch:List (Nat×Bool)
structure RS where
 st:St
 h:Hp
 gf:List (Nat×List (Nat×Bool)×AV)
 bs:List BE
def Z09:List (Nat×List (Nat×Bool)×AV)->Nat->Option (List (Nat×Bool)×AV)
 | [],_=>none
 |(k,x)::r,s=>match Nat.beq k s with
  |true=>some x
  |false=>Z09 r s
def eqB(a b:Bool):Bool:=match a,b with
 |true,true=>true
 |false,false=>true
 |_,_=>false
def u0j:List (Nat×Bool)->List (Nat×Bool)->Bool
 | [],[]=>true
 |(j,w)::r,(j',w')::r'=>match Nat.beq j j',eqB w w' with
  |true,true=>u0j r r'
  |_,_=>false
 |_,_=>false
def j0e(a:List (Nat×Bool)):List (Nat×Bool)->Bool
 | []=>u0j a []
 |x::r=>match u0j a (x::r)with
  |true=>true
  |false=>j0e a r
def rdG(rs:RS)(ch:List (Nat×Bool)):Operand->AV
 | .tmp t=>match Z09 rs.gf t with
  |some (ch2,av)=>match j0e ch2 ch with
   |true=>rdA rs.st av
   |false => .dead
  |none=>rdA rs.st (O2 rs.st.fr t)
 |x=>rdO rs.st x
def k00:List BE->Nat->Option BE
 | [],_=>none
 |b::r,j=>match Nat.beq b.j j with
  |true=>some b
  |false=>k00 r j
def P06:List BE->Nat->Option BE
 | [],_=>none
 |b::r,s=>match Nat.beq b.d s with
  |true=>some b
  |false=>P06 r s
def lit(w e:Bool):Bool:=match w with
 |true=>e
 |false => !e
def cB(bs:List BE):List (Nat×Bool)->Option Bool
 | []=>some true
 |(j,w)::r=>match k00 bs j with
  |some b=>match r with
   | []=>some (lit w b.e)
   |_=>match cB bs r with
    |some c=>some (lit w b.e&&c)
    |none=>none
  |none=>none
def s8(bs:List BE):Option (Nat×Bool)->Option (List (Nat×Bool))
 |none=>some []
 |some (j,w)=>match k00 bs j with
  |some b=>some ((j,w)::b.ch)
  |none=>none
def imp(ch:List (Nat×Bool))(c:Bool)(X:Prop):Prop:=match ch with
 | []=>X
 |_=>c=true->X
def k0e(rs:RS)(ch:List (Nat×Bool)):List Operand->Option (List (Nat×Value))
 | []=>some []
 | .tmp t::r=>match l02 (rdG rs ch (.tmp t))with
  |some v=>match k0e rs ch r with
   |some vs=>some ((t,v)::vs)
   |none=>none
  |none=>none
 | .global _::_=>none
 |_::r=>k0e rs ch r
def g0l(rs:RS)(ch:List (Nat×Bool)):List Operand->St->Hp->(List (Nat×Value)->St->Hp->Prop)->Prop
 | [],st,h,K=>K [] st h
 | .tmp t::r,st,h,K=>rfy (rdA st (rdG rs ch (.tmp t))) st h λv st h=>g0l rs ch r st h λvs st h=>K ((t,v)::vs) st h
 | .global _::_,_,_,_=>False
 |_::r,st,h,K=>g0l rs ch r st h K
def j0d(P:Program)(o:Oper)(ch:List (Nat×Bool))(c:Bool)(rs:RS)(K:AV->Prop):Prop :=
 match Z08 o.op,k0e rs ch o.op.operands.toList with
 |false,some vs=>match U05 (rho vs) o with
  |some (f,l)=>match okF P f with
   |true=>∃ v,imp ch c (Tr P f l.toArray rs.h λv' h'=>v'=v/\h'=rs.h)/\K (.val v)
   |false=>False
  |none=>match evP P (h0e (rho vs) o)with
   |some (.value v)=>K (.val v)
   |_=>False
 |false,none=>∃ r,imp ch c (g0l rs ch o.op.operands.toList rs.st rs.h λvs _ hf=>match U05 (rho vs) o with
  |some (f,l)=>match okF P f with
   |true=>Tr P f l.toArray hf λv h'=>v=r/\h'=hf
   |false=>False
  |none=>False)/\K (.val r)
 |_,_=>False
def evG(P:Program)(o:Oper)(ch:List (Nat×Bool))(c:Bool)(rs:RS)(K:AV->Prop):Prop :=
 match o.op with
 | .move x | .assign x=>match rdG rs ch x with
  | .dead=>False
  |a=>K a
 | .pick (.tmp s) a b=>match rdG rs ch (.tmp s),P06 rs.bs s with
  | .val (.bool e),some q=>match j0e q.ch ch with
   |true=>match rdG rs ((q.j,true)::q.ch) a,rdG rs ((q.j,false)::q.ch) b with
    | .val (.bool x),.val (.bool y)=>K (.val (.bool (cond e x y)))
    |_,_=>False
   |false=>False
  |_,_=>False
 | .fieldAddr t x k=>match rdG rs ch x,g0d P t k with
  | .box i off,some fo=>K (.box i (off+fo))
  | .hel s i sz k,some fo=>K (.hel s i sz (k+fo))
  | .oel i s j sz k,some fo=>K (.oel i s j sz (k+fo))
  |_,_=>False
 | .indexAddr t x i=>match rdG rs ch i with
  | .val (.int _ j)=>match W8 P t with
   |some e=>match U4 P e with
    |some sz=>match rdG rs ch x with
     | .val (.slice a n cp)=>imp ch c (InB (.slice a n cp) j)/\K (.hel (.slice a n cp) j sz 0)
     | .own i k=>match nth rs.st.ow i with
      |some ⟨_,.live _ sz' _ _ xs⟩=>match Nat.beq sz' sz with
       |true=>imp ch c (0<=j/\j<(xs.length:Int))/\K (.oel i k j sz 0)
       |false=>False
      |_=>False
     |_=>False
    |none=>False
   |none=>False
  |_=>False
 | .load t x=>match rdG rs ch x with
  | .box i off=>match nth rs.st.bx i with
   |some (.live cs _)=>j02 P t cs off K
   |_=>False
  | .hel s idx sz k=>∃ e,imp ch c (h8 rs.h s sz idx e)/\j02 P t (vals e) k K
  | .oel i _ idx sz k=>match nth rs.st.ow i with
   |some ⟨_,.live _ sz' _ _ xs⟩=>match Nat.beq sz' sz with
    |true=>∃ e,imp ch c (xs[idx.toNat]?=some e)/\j02 P t (vals e) k K
    |false=>False
   |_=>False
  |_=>False
 | .build t ps=>match P.underlying t,j9 P t with
  |some (.struct fs),some z=>match t03 P fs.toList with
   |true=>M04 P fs (rdG rs ch) ps.toList (vals z.cells.toList) λcs=>K (.agg cs)
   |false=>False
  |_,_=>False
 | .index t x i=>match rdG rs ch x,rdG rs ch i,P.underlying t with
  | .val (.string s),.val (.int _ j),some .string=>∃ e,imp ch c (0<=j/\s[j.toNat]?=some e)/\K (.val (.int .u8 e.toNat))
  |_,_,_=>False
 | .slice t x lo hi none=>match rdG rs ch x,P.underlying t with
  | .val (.string s),some .string=>match O02 0 (lo.map (rdG rs ch)),O02 s.size (hi.map (rdG rs ch))with
   |some l,some m=>imp ch c (0<=l/\l<=m/\m<=(s.size:Int))/\K (.val (.string (s.extract l.toNat m.toNat)))
   |_,_=>False
  | .val (.slice ad n cp),_=>match W8 P t with
   |some e=>match U4 P e with
    |some sz=>match O02 0 (lo.map (rdG rs ch)),O02 n (hi.map (rdG rs ch))with
     |some l,some m=>∃ v,imp ch c ((0<=l/\l<=m/\m<=(n:Int)/\n<=cp)/\e0g sz (.slice ad n cp) l.toNat m.toNat v)/\K (.val v)
     |_,_=>False
    |none=>False
   |none=>False
  |_,_=>False
 | .binOp .eql t x y yt=>match l02 (rdG rs ch x),l02 (rdG rs ch y)with
  |some (.agg xs),some (.agg ys)=>∃ b,imp ch c (O06 P o x y (.agg xs) (.agg ys) b)/\K (.val (.bool b))
  |some (.slice a n m),some (.slice none 0 0)=>∃ b,imp ch c (O06 P o x y (.slice a n m) (.slice none 0 0) b)/\K (.val (.bool b))
  |_,_=>j0d P o ch c rs K
 | .binOp .neq t x y yt=>match l02 (rdG rs ch x),l02 (rdG rs ch y)with
  |some (.agg xs),some (.agg ys)=>∃ b,imp ch c (O06 P o x y (.agg xs) (.agg ys) b)/\K (.val (.bool b))
  |_,_=>j0d P o ch c rs K
 | .binOp .add t x y yt=>match rdG rs ch x,rdG rs ch y with
  | .val (.string a),.val (.string b)=>imp ch c (a.size+b.size<=9223372036854775807)/\K (.val (.string (a++b)))
  |_,_=>j0d P o ch c rs K
 | .binOp .quo t x y yt=>match rdG rs ch x,rdG rs ch y with
  | .val (.int .i64 a),.val (.int .i64 b)=>imp ch c (b≠0)/\K (.val (.int .i64 (IntKind.i64.wrap (a.tdiv b))))
  |_,_=>j0d P o ch c rs K
 | .binOp .rem t x y yt=>match rdG rs ch x,rdG rs ch y with
  | .val (.int .i64 a),.val (.int .i64 b)=>imp ch c (b≠0)/\K (.val (.int .i64 (a.tmod b)))
  |_,_=>j0d P o ch c rs K
 | .call { callee := .builtin .len,args:=as,argTypes:=ts }=>match as.toList,ts.toList with
  | [x],[t]=>match rdG rs ch x with
   | .own i _=>match nth rs.st.ow i,W8 P t with
    |some ⟨_,.live _ _ _ _ xs⟩,some _=>K (.val (.int .i64 xs.length))
    |_,_=>False
   |_=>j0d P o ch c rs K
  |_,_=>False
 |_=>j0d P o ch c rs K
def O04(rs:RS)(d:Nat):Bool:=match Z09 rs.gf d,P06 rs.bs d with
 |none,none=>false
 |_,_=>true
def l0e(i d:Nat)(ch:List (Nat×Bool))(av:AV)(bs:List BE):List BE:=match av with
 | .val (.bool e)=>⟨i,d,e,ch⟩::bs
 |_=>bs
def a0a(d:Option Tmp)(i:Nat)(ch:List (Nat×Bool))(av:AV)(rs:RS)(K:RS->Prop):Prop :=
 match d with
 |none=>K rs
 |some d=>match Nat.blt d rs.st.n,O04 rs d with
  |true,false=>match ch with
   | []=>K { rs with st := { rs.st with fr:=(d,av)::rs.st.fr },bs:=l0e i d ch av rs.bs }
   |_=>K { rs with st := { rs.st with fr:=(d,.dead)::rs.st.fr },gf:=(d,ch,av)::rs.gf,bs:=l0e i d ch av rs.bs }
  |_,_=>False
def g0g:Op->Bool
 | .pick ..=>true
 |_=>false
def a09(P:Program):List Oper->Nat->RS->(RS->Prop)->Prop
 | [],_,rs,K=>K rs
 |o::r,i,rs,K=>match o.guard,g0g o.op with
  |none,false=>a7 P o rs.st rs.h λav st h=>a0a o.dst i [] av { rs with st:=st,h:=h } λrs=>a09 P r (i+1) rs K
  |_,_=>match s8 rs.bs o.guard with
   |some ch=>match cB rs.bs ch with
    |some c=>evG P o ch c rs λav=>a0a o.dst i ch av rs λrs=>a09 P r (i+1) rs K
    |none=>False
   |none=>False
def evQ(P:Program):List Oper->Nat->RS->(RS->Prop)->Prop
 | [],_,rs,K=>K rs
 |o::r,i,rs,K=>match s8 rs.bs o.guard with
  |some ch=>match cB rs.bs ch with
   |some c=>evG P o ch c rs λav=>a0a o.dst i ch av rs λrs=>evQ P r (i+1) rs K
   |none=>False
  |none=>False
def Sub(h h':Hp):Prop:=∀ b o,h b=some o->h' b=some o
def v0j(v:Value)(K:Value->Prop):Prop:=match v with
 | .bool b=>K (.bool b)
 | .int k n=>K (.int k n)
 | .string s=>K (.string s)
 | .pointer a=>K (.pointer a)
 | .slice a n c=>K (.slice a n c)
 | .func f x y=>K (.func f x y)
 | .agg cs=>K (.agg cs)
 | .tuple vs=>K (.tuple vs)
 |v=>K v
theorem r0i(v:Value)(K:Value->Prop):v0j v K=K v:=by cases v<;>rfl
def M7{α:Type}:List α->(List α->Prop)->Prop
 | [],K=>K []
 |x::r,K=>M7 r λr=>K (x::r)
theorem a00{α:Type}:∀(l:List α) (K:List α->Prop),M7 l K=K l
 | [],K=>rfl
 |x::r,K=>by simp only[M7,a00 r]
def m02:Nat->(Nat->Prop)->Prop
 |0,K=>K 0
 |n+1,K=>m02 n λm=>K (m+1)
theorem P04:∀(n:Nat) (K:Nat->Prop),m02 n K=K n
 |0,K=>rfl
 |n+1,K=>by simp only[m02,P04 n]
def G9(av:AV)(K:AV->Prop):Prop:=match av with
 | .val v=>v0j v λv=>K (.val v)
 | .own i k=>K (.own i k)
 | .box i k=>K (.box i k)
 | .hel s i z k=>m02 z λz=>m02 k λk=>K (.hel s i z k)
 | .oel j s i z k=>m02 z λz=>m02 k λk=>K (.oel j s i z k)
 | .agg cs=>M7 cs λcs=>K (.agg cs)
 | .dead=>K .dead
theorem B00(av:AV)(K:AV->Prop):G9 av K=K av:=by
 cases av with
 |val v=>exact r0i v (λv=>K (.val v))
 |hel s i z k=>simp only[G9,P04]
 |oel j s i z k=>simp only[G9,P04]
 |agg cs=>simp only[G9,a00]
 |_=>rfl
inductive n5 where
 |pu (av:AV)
 |ef (F:Value->Hp->Prop)
def j3:List (Nat×n5)->Nat->Option n5
 | [],_=>none
 |(k,x)::r,s=>match Nat.beq k s with
  |true=>some x
  |false=>j3 r s
def rdS(L:List (Nat×n5))(st:St):Operand->AV
 | .tmp t=>match j3 L t with
  |some (.pu av)=>rdA st av
  |some (.ef _) => .dead
  |none=>rdA st (O2 st.fr t)
 |x=>rdO st x
def b0a(P:Program)(t:TypeId)(cs:List P4)(off:Nat):Option AV :=
 match f0d P t with
 |some true=>match U4 P t with
  |some n=>match E04 ((cs.drop off).take n) n with
   |true=>some (.agg ((cs.drop off).take n))
   |false=>none
  |none=>none
 |some false=>match nth cs off with
  |some c=>some (ofCell c)
  |none=>none
 |none=>none
def i0g(P:Program)(L:List (Nat×n5))(o:Oper)(st:St):Option AV:=match o.op with
 | .move x | .assign x=>match rdS L st x with
  | .dead=>none
  |a=>some a
 | .load t x=>match rdS L st x with
  | .box i off=>match nth st.bx i with
   |some (.live cs _)=>b0a P t cs off
   |_=>none
  |_=>none
 |_=>none
def c0a(L:List (Nat×n5))(st:St)(h:Hp):List Operand->List (Nat×AV)->(List (Nat×AV)->Prop)->Prop
 | [],acc,K=>K acc
 | .tmp t::r,acc,K=>match j3 L t with
  |some (.pu av)=>c0a L st h r ((t,av)::acc) K
  |some (.ef F)=>∀ v,F v h->c0a L st h r ((t,.val v)::acc) K
  |none=>c0a L st h r ((t,O2 st.fr t)::acc) K
 |_::r,acc,K=>c0a L st h r acc K
def Q04(d:Option Tmp)(f:n5)(L:List (Nat×n5)):List (Nat×n5):=match d with
 |some d=>(d,f)::L
 |none=>L
def V0m(st:St)(h:Hp)(F:Value->Hp->Prop):AV->St->Hp->Prop
 | .val v,st',h'=>st'=st/\Sub h h'/\F v h'
 |_,_,_=>False
def i8(i:Nat)(o:Oper):Bool:=o.after.toList.any λe=>Region.binds .any e&&Nat.beq e.on i
def b00(o:Oper)(t:Nat):List Oper->Nat->Bool
 | [],_=>true
 |x::r,i=>match x.dst with
  |some d=>match Nat.beq d t with
   |true=>i8 i o&&b00 o t r (i+1)
   |false=>b00 o t r (i+1)
  |none=>b00 o t r (i+1)
def Q06(o:Oper)(ops:List Oper):List Operand->Bool
 | []=>true
 | .tmp t::r=>b00 o t ops 0&&Q06 o ops r
 |_::r=>Q06 o ops r
def R04(d:Nat):List Oper->Bool
 | []=>true
 |o::r=>match o.dst with
  |some d' => !Nat.beq d d'&&R04 d r
  |none=>R04 d r
def m0e(n:Nat):List Oper->Bool
 | []=>true
 |o::r=>match o.dst with
  |some d=>Nat.blt d n&&R04 d r&&m0e n r
  |none=>m0e n r
def b09:List Oper->Nat->Bool
 | [],_=>true
 |o::r,j=>(o.after.toList.all λe => !Region.binds .any e || Nat.blt e.on j)&&b09 r (j+1)
def f0h(ops:List Oper):List Oper->Bool
 | []=>true
 |o::r=>Q06 o ops o.op.operands.toList&&f0h ops r
def u00(n:Nat)(ops:List Oper):Bool:=m0e n ops&&b09 ops 0&&f0h ops ops
def g0h:List P4->Bool
 | []=>true
 | .val _::r=>g0h r
 | .own _ _::_=>false
def k0d:AV->Bool
 | .val _=>true
 | .box _ _=>true
 | .own _ _=>true
 | .agg cs=>g0h cs
 |_=>false
def h03(L:List (Nat×n5))(st:St):Operand->AV
 | .tmp t=>match j3 L t with
  |some (.pu av)=>av
  |some (.ef _) => .dead
  |none=>O2 st.fr t
 | .const v => .val v
 |_ => .dead
def c09(L:List (Nat×n5))(st:St):List Operand->Option (List (Nat×Value))
 | []=>some []
 | .tmp t::r=>match h03 L st (.tmp t)with
  | .val v=>match c09 L st r with
   |some vs=>some ((t,v)::vs)
   |none=>none
  |_=>none
 | .global _::_=>none
 |_::r=>c09 L st r
def j0g(P:Program)(L:List (Nat×n5))(o:Oper)(st:St):Option AV:=match Z08 o.op,c09 L st o.op.operands.toList with
 |false,some vs=>match U05 (rho vs) o with
  |some _=>none
  |none=>match evP P (h0e (rho vs) o)with
   |some (.value v)=>some (.val v)
   |_=>none
 |_,_=>none
def W0m:AV->Bool
 | .val (.int _ _)=>true
 |_=>false
def j0n:BinOp->Bool
 | .lss=>true
 | .leq=>true
 | .gtr=>true
 | .geq=>true
 | .eql=>true
 | .neq=>true
 | .add=>true
 | .sub=>true
 | .mul=>true
 |_=>false
def V05(P:Program)(L:List (Nat×n5))(o:Oper)(st:St):Option AV:=match o.op with
 | .move x=>match k0d (h03 L st x)with
  |true=>some (h03 L st x)
  |false=>none
 | .assign x=>match k0d (h03 L st x)with
  |true=>some (h03 L st x)
  |false=>none
 | .load t x=>match h03 L st x with
  | .box i off=>match nth st.bx i with
   |some (.live cs _)=>match b0a P t cs off with
    |some av=>match k0d av with
     |true=>some av
     |false=>none
    |none=>none
   |_=>none
  |_=>none
 | .fieldAddr t x k=>match h03 L st x,g0d P t k with
  | .box i off,some fo=>some (.box i (off+fo))
  |_,_=>none
 | .binOp op _ x y _=>match j0n op,W0m (h03 L st x),W0m (h03 L st y)with
  |true,true,true=>j0g P L o st
  |_,_,_=>none
 | .call { callee := .builtin .len,args:=as,argTypes:=_ }=>match as.toList with
  | [x]=>match h03 L st x with
   | .val (.slice _ _ _)=>j0g P L o st
   |_=>none
  |_=>none
 |_=>none
def K8(L:List (Nat×n5))(st:St):List Oper->List Nat
 | []=>[]
 |o::r=>match o.op with
  | .load _ x=>match h03 L st x with
   | .box i _=>i::K8 L st r
   |_=>K8 L st r
  |_=>K8 L st r
def W05(bx:List BSt):List Nat->List (Option BSt)
 | []=>[]
 |i::r=>nth bx i::W05 bx r
def P02(L:List (Nat×n5))(fr0:List (Nat×AV)):List Operand->List (Nat×AV)->(List (Nat×AV)->Prop)->Prop
 | [],acc,K=>K acc
 | .tmp t::r,acc,K=>match j3 L t with
  |some (.pu av)=>P02 L fr0 r ((t,av)::acc) K
  |some (.ef _)=>P02 L fr0 r ((t,.dead)::acc) K
  |none=>P02 L fr0 r ((t,O2 fr0 t)::acc) K
 |_::r,acc,K=>P02 L fr0 r acc K
def k0g:List (Nat×n5)->List (Nat×AV)->List (Nat×AV)
 | [],fr=>fr
 |(d,.pu av)::r,fr=>(d,av)::k0g r fr
 |(d,.ef _)::r,fr=>(d,.dead)::k0g r fr
def h0h(av:AV)(st:St)(h:Hp):AV->St->Hp->Prop:=λav' st' h'=>av'=av/\st'=st/\h'=h
def n0e(P:Program)(st:St)(h:Hp)(L:List (Nat×n5))(o:Oper)(av:AV):Prop :=
 match st with
 |⟨n,fr,bx,ow⟩=>∀ h',Sub h h'->P02 L fr o.op.operands.toList [] λfr=>a7 P o ⟨n,fr,bx,ow⟩ h' (h0h av ⟨n,fr,bx,ow⟩ h')
def m01(P:Program)(st:St)(h:Hp):List Oper->Nat->List (Nat×n5)->List (Nat×Oper)->List (Nat×Oper)->(List (Nat×n5)->List (Nat×Oper)->List (Nat×Oper)->Prop)->Prop
 | [],_,L,X,E,K=>K L X E
 |o::r,i,L,X,E,K=>match o.guard with
  |some _=>False
  |none=>match V05 P L o st with
   |some av=>G9 av λav=>m01 P st h r (i+1) (Q04 o.dst (.pu av) L) X E K
   |none=>(∃ av,n0e P st h L o av/\G9 av λav=>m01 P st h r (i+1) (Q04 o.dst (.pu av) L) (X ++ [(i,o)]) E K) ∨
     m01 P st h r (i+1) (Q04 o.dst (.ef λ_ _=>True) L) X (E ++ [(i,o)]) K
def l0d(X:List (Nat×Oper)):Nat->Nat->Oper->Bool
 |0,i,q=>i8 i q
 |n+1,i,q=>i8 i q || X.any λy=>i8 y.1 q&&l0d X n i y.2
def d0a(X Y:List (Nat×Oper)):List (Nat×Oper)->Bool
 | []=>true
 |(_,q)::_=>X.all λx=>l0d Y 8 x.1 q
def n02:List (Nat×Oper)->Bool
 |(i,o)::(j,o')::r=>i8 i o'&&n02 ((j,o')::r)
 |_=>true
def o02:Nat->Nat->Oper->Bool
 |0,_,_=>true
 |k+1,i,o=>(Nat.beq k i || i8 k o)&&o02 k i o
def S04(d:Nat):List Operand->Bool
 | []=>false
 | .tmp t::r=>Nat.beq t d || S04 d r
 |_::r=>S04 d r
def e0a(d:Nat):List Oper->Bool
 | []=>false
 |o::r=>S04 d o.op.operands.toList || e0a d r
def Y8:List Oper->List Oper
 | []=>[]
 |o::r=>match r with
  | []=>[]
  |_::_=>o::Y8 r
def f0a:List Oper->Option Oper
 | []=>none
 |o::r=>match r with
  | []=>some o
  |_::_=>f0a r
def w0j(ops:List Oper):Option Oper:=match f0a ops with
 |some o=>match o.guard,o.dst with
  |none,some d=>match e0a d (Y8 ops)&&o02 (Y8 ops).length (Y8 ops).length o with
   |true=>some o
   |false=>none
  |_,_=>none
 |none=>none
def D01(P:Program)(o:Oper)(st:St)(h:Hp)(K:St->Hp->Prop):Prop :=
 a7 P o st h λav st h=>a0a o.dst 0 [] av ⟨st,h,[],[]⟩ λrs=>K rs.st rs.h
def g0a(N i:Nat)(o:Oper):List (Nat×Oper)->Bool
 | []=>o02 N i o
 |_::_=>false
def i0h(c:Nat)(b:Bool)(rd:List Nat)(bx bx':List BSt):Prop:=match b with
 |true=>True
 |false=>match c with
  |0=>W05 bx' rd=W05 bx rd
  |_+1=>bx'=bx
def m0d:Nat->List Own->List Own->Hp->Hp->Prop
 |0,_,_,_,_=>True
 |_+1,ow,ow',h,h'=>ow'=ow/\Sub h h'
def evC(rd:List Nat)(N:Nat)(P:Program):Nat->List (Nat×Oper)->List (Nat×n5)->St->Hp->(St->Hp->Prop)->Prop
 |_,[],L,⟨n,fr,bx,ow⟩,h,K=>M7 (k0g L fr) λfr=>K ⟨n,fr,bx,ow⟩ h
 |c,(i,o)::r,L,⟨n,fr,bx,ow⟩,h,K=>P02 L fr o.op.operands.toList [] λfr1=>a7 P o ⟨n,fr1,bx,ow⟩ h λav st' h'=>match st' with
  |⟨_,_,bx',ow'⟩=>m0d c ow ow' h h'/\i0h c (g0a N i o r) rd bx bx'/\G9 av λav=>M7 bx' λbx'=>M7 ow' λow'=>evC rd N P (c-1) r (Q04 o.dst (.pu av) L) ⟨n,fr,bx',ow'⟩ h' K
def h0l(f:Nat×Oper)(rd:List Nat)(N:Nat)(P:Program):Nat->List (Nat×Oper)->List (Nat×n5)->St->Hp->(St->Hp->Prop)->Prop
 |0,E,L,st,h,K=>evC rd N P 0 (f::E) L st h K
 |p+1,E,L,st,h,K=>evC rd N P 0 (f::E) L st h K/\match E with
  | []=>False
  |(i,o)::r=>match st with
   |⟨n,fr,bx,ow⟩=>P02 L fr o.op.operands.toList [] λfr1=>a7 P o ⟨n,fr1,bx,ow⟩ h λav st' h'=>match st' with
    |⟨_,_,bx',ow'⟩=>m0d 0 ow ow' h h'/\i0h 0 (g0a N i o r) rd bx bx'/\G9 av λav=>M7 bx' λbx'=>M7 ow' λow'=>h0l f rd N P p r (Q04 o.dst (.pu av) L) ⟨n,fr,bx',ow'⟩ h' K
def s0i(f:Nat×Oper):Nat->List (Nat×Oper)->Bool
 |_,[]=>false
 |0,(_,q)::_=>i8 f.1 q
 |p+1,_::r=>s0i f p r
def X0b:Nat->List (Nat×Oper)->Option ((Nat×Oper)×List (Nat×Oper))
 |_,[]=>none
 |0,x::r=>some (x,r)
 |k+1,x::r=>match X0b k r with
  |some (f,r')=>some (f,x::r')
  |none=>none
def noX:List (Nat×Oper)->Bool
 | []=>true
 |_::_=>false
def evD(rd:List Nat)(N:Nat)(P:Program)(X E:List (Nat×Oper))(L:List (Nat×n5))(st:St)(h:Hp)(K:St->Hp->Prop):Prop :=
 (∃ c,(n02 E=true/\d0a X (X++E) (E.drop c)=true)/\evC rd N P c E L st h K) ∨
 (∃ k p,match X0b k E with
  |some (f,E')=>(noX X=true/\n02 E'=true/\s0i f p E'=true)/\h0l f rd N P p E' L st h K
  |none=>False)
abbrev FL:=List (Nat×List (Nat×Bool)×n5)
def h01:FL->Nat->Option (List (Nat×Bool)×n5)
 | [],_=>none
 |(k,x)::r,s=>match Nat.beq k s with
  |true=>some x
  |false=>h01 r s
def rdU(L:FL)(st:St)(ch:List (Nat×Bool)):Operand->AV
 | .tmp t=>match h01 L t with
  |some (ch2,.pu av)=>match j0e ch2 ch with
   |true=>rdA st av
   |false => .dead
  |some (_,.ef _) => .dead
  |none=>rdA st (O2 st.fr t)
 |x=>rdO st x
def X05(P:Program)(L:FL)(bs:List BE)(ch:List (Nat×Bool))(o:Oper)(st:St):Option AV:=match o.op with
 | .move x | .assign x=>match rdU L st ch x with
  | .dead=>none
  |a=>some a
 | .load t x=>match rdU L st ch x with
  | .box i off=>match nth st.bx i with
   |some (.live cs _)=>b0a P t cs off
   |_=>none
  |_=>none
 | .fieldAddr t x k=>match rdU L st ch x,g0d P t k with
  | .box i off,some fo=>some (.box i (off+fo))
  | .hel s i sz k,some fo=>some (.hel s i sz (k+fo))
  |_,_=>none
 | .pick (.tmp s) a b=>match rdU L st ch (.tmp s),P06 bs s with
  | .val (.bool e),some q=>match j0e q.ch ch with
   |true=>match rdU L st ((q.j,true)::q.ch) a,rdU L st ((q.j,false)::q.ch) b with
    | .val (.bool x),.val (.bool y)=>some (.val (.bool (cond e x y)))
    |_,_=>none
   |false=>none
  |_,_=>none
 |_=>none
def v04(L:FL)(st:St)(h:Hp)(ch:List (Nat×Bool)):List Operand->List (Nat×AV)->(List (Nat×AV)->Prop)->Prop
 | [],acc,K=>K acc
 | .tmp t::r,acc,K=>match h01 L t with
  |some (ch2,f)=>match j0e ch2 ch with
   |true=>match f with
    | .pu av=>v04 L st h ch r ((t,av)::acc) K
    | .ef F=>∀ v,F v h->v04 L st h ch r ((t,.val v)::acc) K
   |false=>False
  |none=>v04 L st h ch r ((t,O2 st.fr t)::acc) K
 |_::r,acc,K=>v04 L st h ch r acc K
def K0b(h:Hp):FL->List (Nat×AV)->(List (Nat×AV)->Prop)->Prop
 | [],fr,K=>K fr
 |(d,[],.pu av)::r,fr,K=>K0b h r ((d,av)::fr) K
 |(d,[],.ef F)::r,fr,K=>∀ v,F v h->K0b h r ((d,.val v)::fr) K
 |(d,_::_,_)::r,fr,K=>K0b h r ((d,.dead)::fr) K
def n0d(d:Option Tmp)(ch:List (Nat×Bool))(f:n5)(L:FL):FL:=match d with
 |some d=>(d,ch,f)::L
 |none=>L
def o0d(i:Nat)(d:Option Tmp)(ch:List (Nat×Bool))(av:AV)(bs:List BE):List BE:=match d with
 |some d=>match av with
  | .val (.bool e)=>⟨i,d,e,ch⟩::bs
  |_=>bs
 |none=>bs
def l0g(st st':St):Prop:=st'.n=st.n/\st'.fr=st.fr/\st'.bx=st.bx/\∃ t,st'.ow=st.ow++t
def x0j(st:St)(h:Hp)(F:Value->Hp->Prop):AV->St->Hp->Prop:=λav st' h'=>rfy av st' h' λv st'' h''=>l0g st st''/\Sub h h''/\F v h''
def y0j(P:Program)(t n:Nat)(st:St)(h:Hp)(K:AV->St->Hp->Prop):Prop :=
 match W8 P t with
 |some e=>match U4 P e,Nat.beq n 0 with
  |some (_+1),true=>∀ g,h g=none->K (.val (.slice (some ⟨g,0,none⟩) 0 0)) st (h.set g (.cells #[] e (0,0)))
  |_,_=>False
 |none=>False
def z0j(P:Program)(t:TypeId)(a b:Operand)(st:St)(h:Hp)(K:AV->St->Hp->Prop):Prop :=
 match W8 P t with
 |some e=>match U4 P e,m06 P e,j9 P e with
  |some (sz+1),some (by_+1),some z=>match E04 z.cells.toList (sz+1)with
   |true=>match rdO st a with
    | .val (.slice (some ⟨g,o,none⟩) 0 0)=>X09 st h (sz+1) (rdO st b) λys=>N04 ys.length (by_+1) /\
      ((ys = []->K (.val (.slice (some ⟨g,o,none⟩) 0 0)) st h)/\∀ v h',Q0 h h' v e (sz+1) true ys->K (.val v) st h')
    |_=>False
   |false=>False
  |_,_,_=>False
 |none=>False
def o0e(P:Program)(o:Oper)(st:St)(h:Hp)(K:AV->St->Hp->Prop):Prop :=
 match o.op with
 | .buildSlice t n ps=>match ps.toList with
  | []=>y0j P t n st h K
  |_::_=>a7 P o st h K
 | .call { callee := .builtin .append,args:=as,argTypes:=ts }=>match as.toList,ts.toList with
  | [a,b],[t,t']=>match Nat.beq t t' with
   |true=>z0j P t a b st h K
   |false=>False
  |_,_=>False
 |_=>a7 P o st h K
def evU(P:Program)(l:List Oper):Nat->FL->List BE->St->Hp->(St->Hp->Prop)->Prop :=
  List.rec (motive:=λ_=>Nat->FL->List BE->St->Hp->(St->Hp->Prop)->Prop)
    (λ_ L _ st h K=>match st with
      |⟨n,fr,bx,ow⟩=>∀ h',Sub h h'->K0b h' L fr λfr=>K ⟨n,fr,bx,ow⟩ h')
    (λo _ ih i L bs st h K=>match st with
      |⟨n,fr,bx,ow⟩=>match s8 bs o.guard with
        |some ch=>match cB bs ch with
          |some c=>match X05 P L bs ch o ⟨n,fr,bx,ow⟩with
            |some av=>G9 av λav=>ih (i+1) (n0d o.dst ch (.pu av) L) (o0d i o.dst ch av bs) ⟨n,fr,bx,ow⟩ h K
            |none=>(∃ av,(∀ h',Sub h h'->imp ch c (v04 L ⟨n,fr,bx,ow⟩ h' ch o.op.operands.toList [] λfr=>a7 P o ⟨n,fr,bx,ow⟩ h' (h0h av ⟨n,fr,bx,ow⟩ h'))) /\
                  G9 av λav=>ih (i+1) (n0d o.dst ch (.pu av) L) (o0d i o.dst ch av bs) ⟨n,fr,bx,ow⟩ h K) ∨
                (∃ F:Value->Hp->Prop,(∀ v h1 h2,Sub h1 h2->F v h1->F v h2) /\
                  (∀ h',Sub h h'->imp ch c (v04 L ⟨n,fr,bx,ow⟩ h' ch o.op.operands.toList [] λfr=>o0e P o ⟨n,fr,bx,ow⟩ h' (x0j ⟨n,fr,bx,ow⟩ h' F))) /\
                  ih (i+1) (n0d o.dst ch (.ef F) L) bs ⟨n,fr,bx,ow⟩ h K)
          |none=>False
        |none=>False) l
def G09:List Oper->Bool
 | []=>true
 |o::r=>(match o.guard with
  |some (j,_)=>i8 j o
  |none=>true)&&G09 r
def y01(n:Nat)(ops:List Oper):Bool:=u00 n ops&&G09 ops
def i0l(P:Program):List Oper->Bool
 | []=>false
 |o::r=>(match o.guard,o.op with
  |some _,.call { callee := .value _,args:=_,argTypes:=_ }=>match P.underlying o.type with
   |some (.slice _)=>true
   |some (.struct _)=>true
   |some (.tuple _)=>true
   |_=>false
  |_,_=>false) || i0l P r
def a02(o:Oper):Bool:=match o.op with
 | .alloc _=>true
 |_=>false
def F8(o:Oper):Oper:=match o.op with
 | .alloc _ => { o with op := .move (.const undef) }
 |_=>o
def N4:List Oper->List Oper
 | []=>[]
 |o::r=>F8 o::N4 r
def okA(P:Program)(all:List Oper):List Oper->Bool
 | []=>true
 |o::r=>(match o.op with
  | .alloc t=>(match o.guard,o.dst,j9 P t with
   |none,some d,some _ => !e0a d all
   |_,_,_=>false)
  |_=>true)&&okA P all r
def m0g(x:Nat):List Nat->Bool
 | []=>false
 |y::r=>Nat.beq x y || m0g x r
def j0l(ops:List Oper)(i:Nat):List Nat->Bool
 | []=>false
 |j::r=>(match nth ops j with
  |some o=>i8 i o
  |none=>false) || j0l ops i r
def Y0b(ops:List Oper):Nat->List Nat->List Nat
 |0,acc=>acc
 |i+1,acc=>match j0l ops i acc with
  |true=>Y0b ops i (i::acc)
  |false=>Y0b ops i acc
def U07:Operand->List Nat
 | .tmp t=>[t]
 |_=>[]
def Y05(o:Oper):Option (List Nat):=match o.guard with
 |some _=>none
 |none=>match o.op with
  | .extract x _=>some (U07 x)
  | .move x=>some (U07 x)
  | .assign x=>some (U07 x)
  | .pick c x y=>some (U07 c++(U07 x++U07 y))
  |_=>none
def Z05(d:Nat):List Oper->Bool
 | []=>false
 |o::r=>(match o.dst with
  |some e=>Nat.beq e d
  |none=>false) || Z05 d r
def p02(ml:List Nat)(t:Nat):List Oper->Nat->Bool
 | [],_=>true
 |o::r,i=>(match o.dst with
  |some e => !Nat.beq e t || m0g i ml
  |none=>true)&&p02 ml t r (i+1)
def v03(i d:Nat):List Oper->Bool
 | []=>true
 |o::r=>(!S04 d o.op.operands.toList || i8 i o)&&v03 i d r
def j0h(pre tl:List Oper)(ml:List Nat):List Nat->Bool
 | []=>true
 |t::r=>(!Z05 t tl&&p02 ml t pre 0)&&j0h pre tl ml r
def k0h(pre tl:List Oper)(ml:List Nat)(i:Nat)(o:Oper):Bool:=match Y05 o,o.dst with
 |some ts,some d => !Z05 d tl&&j0h pre tl ml ts&&v03 i d tl
 |_,_=>false
def H09(pre tl:List Oper)(ml:List Nat):List Oper->Nat->Bool
 | [],_=>true
 |o::r,i=>(m0g i ml || k0h pre tl ml i o)&&H09 pre tl ml r (i+1)
def p0e:List Oper->Bool
 | []=>true
 |o::r => !Z08 o.op&&p0e r
def A0j:Nat->List Oper->Bool
 |_,[]=>true
 |k,o::r=>(match o.guard with
  |none=>true
  |some _=>false)&&(match r with
  | []=>true
  |o'::_=>i8 k o')&&A0j (k+1) r
def X0m:List Oper->Bool
 | []=>true
 |_::_=>false
def okZ(P:Program)(n m:Nat)(ops:List Oper):Bool :=
 y01 n (N4 (ops.take m))&&okA P (ops.take m) (ops.take m)&&b09 ops 0&&A0j m (ops.drop m)&&(X0m (ops.drop m) || (H09 (ops.take m) (ops.drop m) (Y0b ops m [m]) (ops.take m) 0&&p0e (ops.drop m)))
abbrev q0m:=Oper->St->Hp->(St->Hp->Prop)->Prop
def doA(R:q0m)(l:List Oper):St->Hp->(St->Hp->Prop)->Prop :=
 List.rec (motive:=λ_=>St->Hp->(St->Hp->Prop)->Prop) (λst h K=>K st h) (λo _ ih st h K=>match a02 o with
  |true=>R o st h λst h=>ih st h K
  |false=>ih st h K) l
def doT(R:q0m)(l:List Oper):St->Hp->(St->Hp->Prop)->Prop :=
 List.rec (motive:=λ_=>St->Hp->(St->Hp->Prop)->Prop) (λst h K=>K st h) (λo _ ih st h K=>R o st h λst h=>ih st h K) l
def evT(P:Program)(R:q0m)(m:Nat)(ops:List Oper)(st:St)(h:Hp)(K:St->Hp->Prop):Prop :=
 evU P (N4 (ops.take m)) 0 [] [] st h λst h=>doA R (ops.take m) st h λst h=>doT R (ops.drop m) st h K
inductive Ex where
 |normal|ret
 |exit (i:Nat)
structure Ann where
 vars:List Nat
 boxes:List Nat
 owns:List Nat
 nils:List (Nat×Nat×Nat×Nat):=[]
 nilsB:List (Nat×Nat×Nat×Nat×Nat):=[]
 kept:List Nat:=[]
 fuel:Bool:=false
 pubs:List Nat:=[]
def q0e:List (Nat×Nat×Nat×Nat)->St->(St->Prop)->Prop
 | [],st,K=>K st
 |(s,e,sz,by_)::r,⟨n,fr,bx,ow⟩,K=>match rdA ⟨n,fr,bx,ow⟩ (O2 fr s),Nat.blt s n with
  | .val (.slice none 0 0),true=>b0g ow λk=>q0e r ⟨n,(s,.own k 0)::fr,bx,ow ++ [⟨0,.live e sz by_ false []⟩]⟩ K
  |_,_=>False
def h0a:List (Nat×Nat×Nat×Nat×Nat)->St->(St->Prop)->Prop
 | [],st,K=>K st
 |(i,k,e,sz,by_)::r,⟨n,fr,bx,ow⟩,K=>match nth bx i with
  |some (.live cs ty)=>match nth cs k with
   |some (.val (.slice none 0 0))=>b0g ow λj=>h0a r ⟨n,fr,J8 bx i (.live (J8 cs k (.own j 0)) ty),ow ++ [⟨0,.live e sz by_ false []⟩]⟩ K
   |_=>False
  |_=>False
def r0e:List Nat->St->Hp->(St->Hp->Prop)->Prop
 | [],st,h,K=>K st h
 |s::r,st,h,K=>rfy (rdA st (O2 st.fr s)) st h λv st h=>match st with
  |⟨n,fr,bx,ow⟩=>match Nat.blt s n with
   |true=>r0e r ⟨n,(s,.val v)::fr,bx,ow⟩ h K
   |false=>False
def P05(x:Nat):List Nat->Bool
 | []=>false
 |y::r=>match Nat.beq x y with
  |true=>true
  |false=>P05 x r
def r0m:List Oper->List Nat->List Nat
 | [],acc=>acc
 |o::r,acc=>match o.dst with
  |some d=>r0m r (d::acc)
  |none=>r0m r acc
def L0b:Code->List Nat->List Nat
 | .region _ ops _,acc=>r0m ops.toList acc
 | .seq a b,acc=>L0b a (L0b b acc)
 | .cond _ a b,acc=>L0b a (L0b b acc)
 | .block _ a,acc=>L0b a acc
 | .loop a,acc=>L0b a acc
 | .scope a,acc=>L0b a acc
 |_,acc=>acc
def V07:List Nat->(List Nat->Prop)->Prop
 | [],K=>K []
 |x::r,K=>V07 r λr=>K (x::r)
def k0l:List Nat->St->(List Value->Prop)->Prop
 | [],_,K=>K []
 |s::r,st,K=>match rdA st (O2 st.fr s)with
  | .val v=>k0l r st λvs=>K (v::vs)
  |_=>False
def s0e:List P4->St->(List Value->Prop)->Prop
 | [],_,K=>K []
 | .val v::r,st,K=>s0e r st λvs=>K (v::vs)
 | .own _ _::r,st,K=>s0e r st K
def i0a:List Nat->St->(List Value->Prop)->Prop
 | [],_,K=>K []
 |i::r,st,K=>match nth st.bx i with
  |some (.live cs _)=>s0e cs st λvs=>i0a r st λws=>K (vs++ws)
  |_=>False
def Z0b:List Nat->St->(List (List (List Value))->Prop)->Prop
 | [],_,K=>K []
 |i::r,st,K=>match nth st.ow i with
  |some ⟨_,.live _ _ _ _ xs⟩=>Z0b r st λos=>K (xs::os)
  |_=>False
def n0g(A:Ann)(st:St)(K:List Value->List (List (List Value))->Prop):Prop :=
 k0l A.vars st λvs=>i0a A.boxes st λws=>Z0b A.owns st λos=>K (vs++ws) os
def z01:List P4->List Value->(List P4->List Value->Prop)->Prop
 | [],vs,K=>K [] vs
 | .val _::r,v::vs,K=>z01 r vs λcs rest=>K (.val v::cs) rest
 | .val _::_,[],_=>False
 | .own i k::r,vs,K=>z01 r vs λcs rest=>K (.own i k::cs) rest
def w03:List Nat->List Value->List BSt->(List BSt->Prop)->Prop
 | [],_,bx,K=>K bx
 |i::r,vs,bx,K=>match nth bx i with
  |some (.live cs ty)=>z01 cs vs λcs rest=>w03 r rest (J8 bx i (.live cs ty)) K
  |_=>False
def x03:List Nat->List (List (List Value))->List Own->(List Own->Prop)->Prop
 | [],_,ow,K=>K ow
 |i::r,xs::os,ow,K=>match nth ow i with
  |some ⟨s,.live e sz by_ nn _⟩=>x03 r os (J8 ow i ⟨s,.live e sz by_ nn xs⟩) K
  |_=>False
 |_::_,[],_,_=>False
def T04{α:Type}:Nat->List α->(List α->List α->Prop)->Prop
 |0,l,K=>K [] l
 |n+1,x::l,K=>T04 n l λa b=>K (x::a) b
 |_+1,[],_=>False
def headD(A:Ann)(st:St):List Nat->List (Nat×AV)->(List (Nat×AV)->Prop)->Prop
 | [],acc,K=>K acc
 |s::r,acc,K=>match P05 s A.vars with
  |true=>headD A st r acc K
  |false=>match rdA st (O2 st.fr s)with
   | .own i k=>headD A st r ((s,.own i k)::acc) K
   | .box i o=>headD A st r ((s,.box i o)::acc) K
   |_=>headD A st r ((s,.dead)::acc) K
def l0h:List P4->Bool
 | []=>true
 | .val _::r=>l0h r
 | .own _ _::_=>false
def y03(A:Ann)(ds:List Nat)(st:St):List (Nat×AV)->(List (Nat×AV)->Prop)->Prop
 | [],K=>K []
 |(s,av)::r,K=>match P05 s ds with
  |true=>y03 A ds st r K
  |false=>match rdA st av with
   | .own i k=>match P05 i A.owns,P05 i A.kept with
    |true,false=>y03 A ds st r λl=>K ((s,.dead)::l)
    |_,_=>y03 A ds st r λl=>K ((s,.own i k)::l)
   | .oel _ _ _ _ _=>y03 A ds st r λl=>K ((s,.dead)::l)
   | .agg cs=>match l0h cs with
    |true=>y03 A ds st r λl=>K ((s,.agg cs)::l)
    |false=>y03 A ds st r λl=>K ((s,.dead)::l)
   |a=>y03 A ds st r λl=>K ((s,a)::l)
def W07:List Nat->List Value->List (Nat×AV)->List (Nat×AV)
 |s::r,v::vs,acc=>W07 r vs ((s,.val v)::acc)
 |_,_,acc=>acc
def d09(head end_:St):List (Nat×AV)->Bool
 | []=>true
 |(s,av)::r=>match av with
  | .own i _=>match rdA end_ (O2 end_.fr s)with
   | .own j _=>match Nat.beq i j with
    |true=>d09 head end_ r
    |false=>false
   |_=>false
  | .box i o=>match rdA end_ (O2 end_.fr s)with
   | .box j p=>match Nat.beq i j,Nat.beq o p with
    |true,true=>d09 head end_ r
    |_,_=>false
   |_=>false
  |_=>d09 head end_ r
def o0g:AV->Bool
 | .dead=>true
 |_=>false
def t0i:List (Nat×AV)->List AV
 | []=>[]
 |(_,av)::r=>match o0g av with
  |true=>t0i r
  |false=>av::t0i r
def a0c(fr:List (Nat×AV)):List (Nat×AV)->List AV
 | []=>[]
 |(s,av)::r=>match o0g av with
  |true=>a0c fr r
  |false=>O2 fr s::a0c fr r
def z03(head end_:St):List P4->List P4->Bool
 | [],[]=>true
 | .val _::r,.val _::r'=>z03 head end_ r r'
 | .own i _::r,.own j k'::r'=>match Nat.beq i j,rdA end_ (.own j k')with
  |true,.own _ _=>z03 head end_ r r'
  |_,_=>false
 |_,_=>false
def R06(os:List Nat):List P4->Bool
 | []=>true
 | .val _::r=>R06 os r
 | .own i _::r=>match P05 i os with
  |true=>false
  |false=>R06 os r
def p0g(os:List Nat):BSt->Bool
 | .live cs _=>R06 os cs
 | .publ _=>true
def X07(A:Ann)(head end_:St):Nat->List BSt->List BSt->Prop
 |_,[],_=>True
 |i,b::r,b'::r'=>match P05 i A.boxes with
  |true=>match b,b' with
   | .live cs ty,.live cs' ty'=>match Nat.beq ty ty',z03 head end_ cs cs' with
    |true,true=>X07 A head end_ (i+1) r r'
    |_,_=>False
   |_,_=>False
  |false=>match p0g A.owns b with
   |true=>b'=b/\X07 A head end_ (i+1) r r'
   |false=>False
 |_,_::_,[]=>False
def leB(a b:Bool):Bool:=match a with
 |true=>b
 |false=>true
def Y07(A:Ann):Nat->List Own->List Own->Prop
 |_,[],_=>True
 |i,b::r,b'::r'=>match P05 i A.owns with
  |true=>match b,b' with
   |⟨s,.live e sz by_ nn _⟩,⟨s',.live e' sz' by' nn' _⟩=>match Nat.beq e e',Nat.beq sz sz',Nat.beq by_ by',leB nn nn',leB (P05 i A.kept) (Nat.beq s s')with
    |true,true,true,true,true=>Y07 A (i+1) r r'
    |_,_,_,_,_=>False
   |_,_=>False
  |false=>b'=b/\Y07 A (i+1) r r'
 |_,_::_,[]=>False
def S06:Nat->(List Value->Prop)->Prop
 |0,K=>K []
 |n+1,K=>∀ v,S06 n λvs=>K (v::vs)
def T06:Nat->(List (List (List Value))->Prop)->Prop
 |0,K=>K []
 |n+1,K=>∀ xs,T06 n λos=>K (xs::os)
abbrev Z07:=List Value->List (List (List Value))->Hp->Prop
abbrev w04:=List Value->List (List (List Value))->Nat
def l0l:List Value->List Value->Bool
 | [],[]=>true
 |_::r,_::r'=>l0l r r'
 |_,_=>false
def t0e(A:Ann)(I:Z07)(vs:List Value)(os:List (List (List Value)))(h:Hp):Prop:=match A.fuel with
 |false=>I vs os h
 |true=>∃ m:Nat,I (.int .i64 m::vs) os h
def u0e(A:Ann)(I:Z07)(μ:w04)(vs:List Value)(os:List (List (List Value)))(X:Nat->Hp->Prop):Prop:=match A.fuel with
 |false=>∀ h',I vs os h'->X (μ vs os) h'
 |true=>∀(m:Nat) (h':Hp),I (.int .i64 m::vs) os h'->X m h'
def m0l(A:Ann)(I:Z07)(μ:w04)(m:Nat)(vs:List Value)(os:List (List (List Value)))(h:Hp):Prop:=match A.fuel with
 |false=>I vs os h/\μ vs os<m
 |true=>∃ m':Nat,I (.int .i64 m'::vs) os h/\m'<m
def atI(A:Ann)(I:Z07)(μ:w04)(m:Nat)(vs:List Value)(os:List (List (List Value)))(h:Hp):Prop:=match A.fuel with
 |false=>I vs os h/\m=μ vs os
 |true=>I (.int .i64 m::vs) os h
theorem B0j{A:Ann}{I:Z07}{μ:w04}{vs:List Value}{os:List (List (List Value))}{h:Hp}(hh:t0e A I vs os h):∃ m,atI A I μ m vs os h:=by
 unfold t0e at hh
 unfold atI
 cases hf:A.fuel with
 |false=>rw[hf]at hh;exact⟨_,hh,rfl⟩
 |true=>rw[hf]at hh;exact hh
theorem C0j{A:Ann}{I:Z07}{μ:w04}{vs:List Value}{os:List (List (List Value))}{X:Nat->Hp->Prop}(hh:u0e A I μ vs os X){m:Nat}{h:Hp}(ha:atI A I μ m vs os h):X m h:=by
 unfold u0e at hh
 unfold atI at ha
 cases hf:A.fuel with
 |false=>rw[hf]at hh ha;rw[ha.2];exact hh _ ha.1
 |true=>rw[hf]at hh ha;exact hh _ _ ha
theorem n0l{A:Ann}{I:Z07}{μ:w04}{m:Nat}{vs:List Value}{os:List (List (List Value))}{h:Hp}(hh:m0l A I μ m vs os h):∃ m',atI A I μ m' vs os h/\m'<m:=by
 unfold m0l at hh
 unfold atI
 cases hf:A.fuel with
 |false=>rw[hf]at hh;exact⟨_,⟨hh.1,rfl⟩,hh.2⟩
 |true=>rw[hf]at hh;exact hh
def D0j(A:Ann)(dyn sta:List (Nat×AV))(st0:St)(I:Z07)(μ:w04)(vs0:List Value)(m:Nat)(st:St)(h:Hp):Prop :=
 match Nat.beq st.n st0.n,d09 st0 st dyn with
 |true,true=>a0c st.fr sta=t0i sta/\X07 A st0 st 0 st0.bx st.bx/\Y07 A 0 st0.ow st.ow /\
   n0g A st λvs os=>match l0l vs vs0 with
    |true=>T04 A.vars.length vs λ_ v2=>w03 A.boxes v2 st0.bx λ_=>x03 A.owns os st0.ow λ_=>m0l A I μ m vs os h
    |false=>False
 |_,_=>False
def m0h(body:(Ex->St->Hp->Prop)->St->Hp->Prop)(ds0:List Nat)(Q:Ex->St->Hp->Prop)(st:St)(h:Hp):Prop :=
 ∃(A:Ann) (I:Z07) (μ:w04),q0e A.nils st λst=>h0a A.nilsB st λst=>r0e A.pubs st h λst h=>n0g A st λvs0 os0=>t0e A I vs0 os0 h /\
  V07 ds0 λds=>headD A st ds [] λdyn=>y03 A ds st st.fr λsta =>
   S06 vs0.length λvs=>T06 os0.length λos=>u0e A I μ vs os λm h' =>
    T04 A.vars.length vs λv1 v2=>w03 A.boxes v2 st.bx λbx=>x03 A.owns os st.ow λow =>
     body (λe st' h''=>match e with
      | .normal=>r0e A.pubs st' h'' λst' h''=>D0j A dyn sta st I μ vs m st' h''
      |e=>Q e st' h'') ⟨st.n,W07 A.vars v1 (dyn++sta),bx,ow⟩ h'
def E0j(b:Bool)(X Y:Prop):Prop:=(b=true->X)/\(b=false->Y)
def ev(P:Program):Code->(Ex->St->Hp->Prop)->St->Hp->Prop
 | .skip,Q,st,h=>Q .normal st h
 | .region _ ops false,Q,st,h=>match i0l P ops.toList with
  |true=>y01 st.n ops.toList=true/\evU P ops.toList 0 [] [] st h λst h=>Q .normal st h
  |false=>a09 P ops.toList 0 ⟨st,h,[],[]⟩ λrs=>Q .normal rs.st rs.h
 | .region _ ops true,Q,st,h=>((P.follows .mixedOrders=true/\Region.lexB .any ops=true) /\
   evQ P ops.toList 0 ⟨st,h,[],[]⟩ λrs=>Q .normal rs.st rs.h) ∨
   False ∨
   (match w0j ops.toList with
    |none=>(P.follows .mixedOrders=true/\u00 st.n ops.toList=true)/\m01 P st h ops.toList 0 [] [] [] λL X E=>evD (K8 L st ops.toList) ops.size P X E L st h λst h=>Q .normal st h
    |some o=>(P.follows .mixedOrders=true/\(u00 st.n (Y8 ops.toList)&&b09 ops.toList 0)=true)/\m01 P st h (Y8 ops.toList) 0 [] [] [] λL X E=>evD (K8 L st (Y8 ops.toList)) (Y8 ops.toList).length P X E L st h λst h=>D01 P o st h λst h=>Q .normal st h) ∨
   ((P.follows .mixedOrders=true/\y01 st.n ops.toList=true)/\evU P ops.toList 0 [] [] st h λst h=>Q .normal st h) ∨
   (∃ m,(P.follows .mixedOrders=true/\okZ P st.n m ops.toList=true)/\evT P (D01 P) m ops.toList st h λst h=>Q .normal st h)
 | .seq a b,Q,st,h=>ev P a (λe st h=>match e with
  | .normal=>ev P b Q st h
  |e=>Q e st h) st h
 | .cond c t e,Q,st,h=>match rdO st c with
  | .val (.bool b)=>E0j b (ev P t Q st h) (ev P e Q st h)
  |_=>False
 | .block id c,Q,st,h=>ev P c (λe st h=>match e with
  | .exit i=>match Nat.beq i id with
   |true=>Q .normal st h
   |false=>Q (.exit i) st h
  |e=>Q e st h) st h
 | .loop body,Q,st,h=>m0h (λQ=>ev P body Q) (L0b body []) Q st h
 | .exit id,Q,st,h=>Q (.exit id) st h
 | .ret,Q,st,h=>Q .ret st h
 |_,_,_,_=>False
def q0g(P:Program):List ResultVar->St->Hp->(List Value->St->Hp->Prop)->Prop
 | [],st,h,K=>K [] st h
 | .tmp t::r,st,h,K=>rfy (rdA st (O2 st.fr t)) st h λv st h=>q0g P r st h λvs st h=>K (v::vs) st h
 | .cell t ty::r,st,h,K=>match rdA st (O2 st.fr t)with
  | .box i off=>match nth st.bx i with
   |some (.live cs _)=>j02 P ty cs off λav=>rfy av st h λv st h=>q0g P r st h λvs st h=>K (v::vs) st h
   |_=>False
  |_=>False
def v0e:List Value->Value
 | [v]=>v
 |vs => .tuple vs.toArray
def U06:Nat->List Value->List (Nat×AV)
 |_,[]=>[]
 |i,v::r=>(i,.val v)::U06 (i+1) r
def s0m(P:Program)(fn:Func)(args:List Value)(h:Hp)(T:Value->Hp->Prop):Prop :=
 match fn.body with
 |some c=>match Nat.ble args.length fn.ntmps with
  |true=>ev P c (λe st h=>match e with
   | .exit _=>False
   |_=>q0g P fn.results.toList st h λvs _ h=>T (v0e vs) h) ⟨fn.ntmps,U06 0 args,[],[]⟩ h
  |false=>False
 |none=>False
end Go.H
