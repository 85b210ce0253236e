/- Plain laws over the model: what a function's code asks: regions with guards, regions that draw their order, branches and loops. -/
import Derived.Test.YtkjhghloldgioaaGreatH2
namespace Go.H
set_option linter.unusedVariables false
structure BE where
 j:Nat
 d:Nat
 e:Bool
 ch:List (Nat×Bool)
structure RS where
 st:St
 h:Hp
 gf:List (Nat×List (Nat×Bool)×AV)
 bs:List BE
def q0d:List (Nat×List (Nat×Bool)×AV)->Nat->Option (List (Nat×Bool)×AV)
 | [],_=>none
 |(k,x)::r,s=>match Nat.beq k s with
  |true=>some x
  |false=>q0d r s
def eqB(a b:Bool):Bool:=match a,b with
 |true,true=>true
 |false,false=>true
 |_,_=>false
def d0p:List (Nat×Bool)->List (Nat×Bool)->Bool
 | [],[]=>true
 |(j,w)::r,(a,c)::b=>match Nat.beq j a,eqB w c with
  |true,true=>d0p r b
  |_,_=>false
 |_,_=>false
def M0i(a:List (Nat×Bool)):List (Nat×Bool)->Bool
 | []=>d0p a []
 |x::r=>match d0p a (x::r)with
  |true=>true
  |false=>M0i a r
def rdG(rs:RS)(ch:List (Nat×Bool)):Operand->AV
 | .tmp t=>match q0d rs.gf t with
  |some (a,av)=>match M0i a ch with
   |true=>rdA rs.st av
   |false => .dead
  |none=>rdA rs.st (D3 rs.st.fr t)
 |x=>rdO rs.st x
def B02:List BE->Nat->Option BE
 | [],_=>none
 |b::r,j=>match Nat.beq b.j j with
  |true=>some b
  |false=>B02 r j
def S09:List BE->Nat->Option BE
 | [],_=>none
 |b::r,s=>match Nat.beq b.d s with
  |true=>some b
  |false=>S09 r s
def lit(w e:Bool):Bool:=match w with
 |true=>e
 |false => !e
def cB(bs:List BE):List (Nat×Bool)->Option Bool
 | []=>some true
 |(j,w)::r=>match B02 bs j with
  |some b=>match r with
   | []=>some (lit w b.e)
   |_=>match cB bs r with
    |some c=>some (lit w b.e&&c)
    |none=>none
  |none=>none
def p00(bs:List BE):Option (Nat×Bool)->Option (List (Nat×Bool))
 |none=>some []
 |some (j,w)=>match B02 bs j with
  |some b=>some ((j,w)::b.ch)
  |none=>none
def imp(ch:List (Nat×Bool))(c:Bool)(X:Prop):Prop:=match ch with
 | []=>X
 |_=>c=true->X
def N0i(rs:RS)(ch:List (Nat×Bool)):List Operand->Option (List (Nat×Value))
 | []=>some []
 | .tmp t::r=>match r04 (rdG rs ch (.tmp t))with
  |some v=>match N0i rs ch r with
   |some vs=>some ((t,v)::vs)
   |none=>none
  |none=>none
 | .global _::_=>none
 |_::r=>N0i rs ch r
def C0r(rs:RS)(ch:List (Nat×Bool)):List Operand->St->Hp->(List (Nat×Value)->St->Hp->Prop)->Prop
 | [],st,h,K=>K [] st h
 | .tmp t::r,st,h,K=>rfy (rdA st (rdG rs ch (.tmp t))) st h λv st h=>C0r rs ch r st h λvs st h=>K ((t,v)::vs) st h
 | .global _::_,_,_,_=>False
 |_::r,st,h,K=>C0r rs ch r st h K
def y0h(P:Program)(o:Oper)(ch:List (Nat×Bool))(c:Bool)(rs:RS)(K:AV->Prop):Prop :=
 match O09 o.op,N0i rs ch o.op.operands.toList with
 |false,some vs=>match l07 (rho vs) o with
  |some (f,l)=>match okF P f with
   |true=>∃ v,imp ch c (Tr P f l.toArray rs.h λb a=>b=v/\a=rs.h)/\K (.val v)
   |false=>False
  |none=>match evP P (J08 (rho vs) o)with
   |some (.value v)=>K (.val v)
   |_=>False
 |false,none=>∃ r,imp ch c (C0r rs ch o.op.operands.toList rs.st rs.h λvs _ hf=>match l07 (rho vs) o with
  |some (f,l)=>match okF P f with
   |true=>Tr P f l.toArray hf λv a=>v=r/\a=hf
   |false=>False
  |none=>False)/\K (.val r)
 |_,_=>False
def evG(P:Program)(o:Oper)(ch:List (Nat×Bool))(c:Bool)(rs:RS)(K:AV->Prop):Prop :=
 match o.op with
 | .move x | .assign x=>match rdG rs ch x with
  | .dead=>False
  |a=>K a
 | .pick (.tmp s) a b=>match rdG rs ch (.tmp s),S09 rs.bs s with
  | .val (.bool e),some q=>match M0i q.ch ch with
   |true=>match rdG rs ((q.j,true)::q.ch) a,rdG rs ((q.j,false)::q.ch) b with
    | .val (.bool x),.val (.bool y)=>K (.val (.bool (cond e x y)))
    |_,_=>False
   |false=>False
  |_,_=>False
 | .fieldAddr t x k=>match rdG rs ch x,v0h P t k with
  | .box i off,some f=>K (.box i (off+f))
  | .hel s i sz k,some f=>K (.hel s i sz (k+f))
  | .oel i s j sz k,some f=>K (.oel i s j sz (k+f))
  |_,_=>False
 | .indexAddr t x i=>match rdG rs ch i with
  | .val (.int _ j)=>match b01 P t with
   |some e=>match F5 P e with
    |some sz=>match rdG rs ch x with
     | .val (.slice a n d)=>imp ch c (InB (.slice a n d) j)/\K (.hel (.slice a n d) j sz 0)
     | .own i k=>match nth rs.st.ow i with
      |some ⟨_,.live _ g _ _ xs⟩=>match Nat.beq g sz with
       |true=>imp ch c (0<=j/\j<(xs.length:Int))/\K (.oel i k j sz 0)
       |false=>False
      |_=>False
     |_=>False
    |none=>False
   |none=>False
  |_=>False
 | .load t x=>match rdG rs ch x with
  | .box i off=>match nth rs.st.bx i with
   |some (.live cs _)=>p04 P t cs off K
   |_=>False
  | .hel s idx sz k=>∃ e,imp ch c (D01 rs.h s sz idx e)/\p04 P t (vals e) k K
  | .oel i _ idx sz k=>match nth rs.st.ow i with
   |some ⟨_,.live _ g _ _ xs⟩=>match Nat.beq g sz with
    |true=>∃ e,imp ch c (xs[idx.toNat]?=some e)/\p04 P t (vals e) k K
    |false=>False
   |_=>False
  |_=>False
 | .build t ps=>match P.underlying t,N00 P t with
  |some (.struct u),some z=>match H05 P u.toList with
   |true=>o07 P u (rdG rs ch) ps.toList (vals z.cells.toList) λcs=>K (.agg cs)
   |false=>False
  |_,_=>False
 | .index t x i=>match rdG rs ch x,rdG rs ch i,P.underlying t with
  | .val (.string s),.val (.int _ j),some .string=>∃ e,imp ch c (0<=j/\s[j.toNat]?=some e)/\K (.val (.int .u8 e.toNat))
  |_,_,_=>False
 | .slice t x lo hi none=>match rdG rs ch x,P.underlying t with
  | .val (.string s),some .string=>match d05 0 (lo.map (rdG rs ch)),d05 s.size (hi.map (rdG rs ch))with
   |some l,some m=>imp ch c (0<=l/\l<=m/\m<=(s.size:Int))/\K (.val (.string (s.extract l.toNat m.toNat)))
   |_,_=>False
  | .val (.slice w n d),_=>match b01 P t with
   |some e=>match F5 P e with
    |some sz=>match d05 0 (lo.map (rdG rs ch)),d05 n (hi.map (rdG rs ch))with
     |some l,some m=>∃ v,imp ch c ((0<=l/\l<=m/\m<=(n:Int)/\n<=d)/\g0l sz (.slice w n d) l.toNat m.toNat v)/\K (.val v)
     |_,_=>False
    |none=>False
   |none=>False
  |_,_=>False
 | .binOp .eql t x y yt=>match r04 (rdG rs ch x),r04 (rdG rs ch y)with
  |some (.agg xs),some (.agg p)=>∃ b,imp ch c (R09 P o x y (.agg xs) (.agg p) b)/\K (.val (.bool b))
  |some (.slice a n m),some (.slice none 0 0)=>∃ b,imp ch c (R09 P o x y (.slice a n m) (.slice none 0 0) b)/\K (.val (.bool b))
  |_,_=>y0h P o ch c rs K
 | .binOp .neq t x y yt=>match r04 (rdG rs ch x),r04 (rdG rs ch y)with
  |some (.agg xs),some (.agg p)=>∃ b,imp ch c (R09 P o x y (.agg xs) (.agg p) b)/\K (.val (.bool b))
  |_,_=>y0h P o ch c rs K
 | .binOp .add t x y yt=>match rdG rs ch x,rdG rs ch y with
  | .val (.string a),.val (.string b)=>imp ch c (a.size+b.size<=9223372036854775807)/\K (.val (.string (a++b)))
  |_,_=>y0h P o ch c rs K
 | .binOp .quo t x y yt=>match rdG rs ch x,rdG rs ch y with
  | .val (.int .i64 a),.val (.int .i64 b)=>imp ch c (b≠0)/\K (.val (.int .i64 (IntKind.i64.wrap (a.tdiv b))))
  |_,_=>y0h P o ch c rs K
 | .binOp .rem t x y yt=>match rdG rs ch x,rdG rs ch y with
  | .val (.int .i64 a),.val (.int .i64 b)=>imp ch c (b≠0)/\K (.val (.int .i64 (a.tmod b)))
  |_,_=>y0h P o ch c rs K
 | .call { callee := .builtin .len,args:=as,argTypes:=A }=>match as.toList,A.toList with
  | [x],[t]=>match rdG rs ch x with
   | .own i _=>match nth rs.st.ow i,b01 P t with
    |some ⟨_,.live _ _ _ _ xs⟩,some _=>K (.val (.int .i64 xs.length))
    |_,_=>False
   |_=>y0h P o ch c rs K
  |_,_=>False
 |_=>y0h P o ch c rs K
def q07(rs:RS)(d:Nat):Bool:=match q0d rs.gf d,S09 rs.bs d with
 |none,none=>false
 |_,_=>true
def O0i(i d:Nat)(ch:List (Nat×Bool))(av:AV)(bs:List BE):List BE:=match av with
 | .val (.bool e)=>⟨i,d,e,ch⟩::bs
 |_=>bs
def r0d(d:Option Tmp)(i:Nat)(ch:List (Nat×Bool))(av:AV)(rs:RS)(K:RS->Prop):Prop :=
 match d with
 |none=>K rs
 |some d=>match Nat.blt d rs.st.n,q07 rs d with
  |true,false=>match ch with
   | []=>K { rs with st := { rs.st with fr:=(d,av)::rs.st.fr },bs:=O0i i d ch av rs.bs }
   |_=>K { rs with st := { rs.st with fr:=(d,.dead)::rs.st.fr },gf:=(d,ch,av)::rs.gf,bs:=O0i i d ch av rs.bs }
  |_,_=>False
def i0l:Op->Bool
 | .pick ..=>true
 |_=>false
def r0c(P:Program):List Oper->Nat->RS->(RS->Prop)->Prop
 | [],_,rs,K=>K rs
 |o::r,i,rs,K=>match o.guard,i0l o.op with
  |none,false=>c8 P o rs.st rs.h λav st h=>r0d o.dst i [] av { rs with st:=st,h:=h } λrs=>r0c P r (i+1) rs K
  |_,_=>match p00 rs.bs o.guard with
   |some ch=>match cB rs.bs ch with
    |some c=>evG P o ch c rs λav=>r0d o.dst i ch av rs λrs=>r0c P r (i+1) rs K
    |none=>False
   |none=>False
def evQ(P:Program):List Oper->Nat->RS->(RS->Prop)->Prop
 | [],_,rs,K=>K rs
 |o::r,i,rs,K=>match p00 rs.bs o.guard with
  |some ch=>match cB rs.bs ch with
   |some c=>evG P o ch c rs λav=>r0d o.dst i ch av rs λrs=>evQ P r (i+1) rs K
   |none=>False
  |none=>False
def Sub(h a:Hp):Prop:=∀ b o,h b=some o->a b=some o
def e0p(v:Value)(K:Value->Prop):Prop:=match v with
 | .bool b=>K (.bool b)
 | .int k n=>K (.int k n)
 | .string s=>K (.string s)
 | .pointer a=>K (.pointer a)
 | .slice a n c=>K (.slice a n c)
 | .func f x y=>K (.func f x y)
 | .agg cs=>K (.agg cs)
 | .tuple vs=>K (.tuple vs)
 |v=>K v
theorem N0n(v:Value)(K:Value->Prop):e0p v K=K v:=by cases v<;>rfl
def d8{a:Type}:List a->(List a->Prop)->Prop
 | [],K=>K []
 |x::r,K=>d8 r λr=>K (x::r)
theorem Y01{a:Type}:∀(l:List a) (K:List a->Prop),d8 l K=K l
 | [],K=>rfl
 |x::r,K=>by simp only[d8,Y01 r]
def t04:Nat->(Nat->Prop)->Prop
 |0,K=>K 0
 |n+1,K=>t04 n λm=>K (m+1)
theorem r07:∀(n:Nat) (K:Nat->Prop),t04 n K=K n
 |0,K=>rfl
 |n+1,K=>by simp only[t04,r07 n]
def d01(av:AV)(K:AV->Prop):Prop:=match av with
 | .val v=>e0p v λv=>K (.val v)
 | .own i k=>K (.own i k)
 | .box i k=>K (.box i k)
 | .hel s i z k=>t04 z λz=>t04 k λk=>K (.hel s i z k)
 | .oel j s i z k=>t04 z λz=>t04 k λk=>K (.oel j s i z k)
 | .agg cs=>d8 cs λcs=>K (.agg cs)
 | .dead=>K .dead
theorem C02(av:AV)(K:AV->Prop):d01 av K=K av:=by
 cases av with
 |val v=>exact N0n v (λv=>K (.val v))
 |hel s i z k=>simp only[d01,r07]
 |oel j s i z k=>simp only[d01,r07]
 |agg cs=>simp only[d01,Y01]
 |_=>rfl
inductive W5 where
 |pu (av:AV)
 |ef (F:Value->Hp->Prop)
def P3:List (Nat×W5)->Nat->Option W5
 | [],_=>none
 |(k,x)::r,s=>match Nat.beq k s with
  |true=>some x
  |false=>P3 r s
def rdS(L:List (Nat×W5))(st:St):Operand->AV
 | .tmp t=>match P3 L t with
  |some (.pu av)=>rdA st av
  |some (.ef _) => .dead
  |none=>rdA st (D3 st.fr t)
 |x=>rdO st x
def s0d(P:Program)(t:TypeId)(cs:List E5)(off:Nat):Option AV :=
 match m0d P t with
 |some true=>match F5 P t with
  |some n=>match n06 ((cs.drop off).take n) n with
   |true=>some (.agg ((cs.drop off).take n))
   |false=>none
  |none=>none
 |some false=>match nth cs off with
  |some c=>some (ofCell c)
  |none=>none
 |none=>none
def j0l(P:Program)(L:List (Nat×W5))(o:Oper)(st:St):Option AV:=match o.op with
 | .move x | .assign x=>match rdS L st x with
  | .dead=>none
  |a=>some a
 | .load t x=>match rdS L st x with
  | .box i off=>match nth st.bx i with
   |some (.live cs _)=>s0d P t cs off
   |_=>none
  |_=>none
 |_=>none
def t0d(L:List (Nat×W5))(st:St)(h:Hp):List Operand->List (Nat×AV)->(List (Nat×AV)->Prop)->Prop
 | [],acc,K=>K acc
 | .tmp t::r,acc,K=>match P3 L t with
  |some (.pu av)=>t0d L st h r ((t,av)::acc) K
  |some (.ef F)=>∀ v,F v h->t0d L st h r ((t,.val v)::acc) K
  |none=>t0d L st h r ((t,D3 st.fr t)::acc) K
 |_::r,acc,K=>t0d L st h r acc K
def o06(d:Option Tmp)(f:W5)(L:List (Nat×W5)):List (Nat×W5):=match d with
 |some d=>(d,f)::L
 |none=>L
def M0t(st:St)(h:Hp)(F:Value->Hp->Prop):AV->St->Hp->Prop
 | .val v,st',a=>st'=st/\Sub h a/\F v a
 |_,_,_=>False
def i8(i:Nat)(o:Oper):Bool:=o.after.toList.any λe=>Region.binds .any e&&Nat.beq e.on i
def Z01(o:Oper)(t:Nat):List Oper->Nat->Bool
 | [],_=>true
 |x::r,i=>match x.dst with
  |some d=>match Nat.beq d t with
   |true=>i8 i o&&Z01 o t r (i+1)
   |false=>Z01 o t r (i+1)
  |none=>Z01 o t r (i+1)
def T09(o:Oper)(ops:List Oper):List Operand->Bool
 | []=>true
 | .tmp t::r=>Z01 o t ops 0&&T09 o ops r
 |_::r=>T09 o ops r
def s07(d:Nat):List Oper->Bool
 | []=>true
 |o::r=>match o.dst with
  |some a => !Nat.beq d a&&s07 d r
  |none=>s07 d r
def P0i(n:Nat):List Oper->Bool
 | []=>true
 |o::r=>match o.dst with
  |some d=>Nat.blt d n&&s07 d r&&P0i n r
  |none=>P0i n r
def s0c:List Oper->Nat->Bool
 | [],_=>true
 |o::r,j=>(o.after.toList.all λe => !Region.binds .any e || Nat.blt e.on j)&&s0c r (j+1)
def k0m(ops:List Oper):List Oper->Bool
 | []=>true
 |o::r=>T09 o ops o.op.operands.toList&&k0m ops r
def r02(n:Nat)(ops:List Oper):Bool:=P0i n ops&&s0c ops 0&&k0m ops ops
def l0m:List E5->Bool
 | []=>true
 | .val _::r=>l0m r
 | .own _ _::_=>false
def z0h:AV->Bool
 | .val _=>true
 | .box _ _=>true
 | .own _ _=>true
 | .agg cs=>l0m cs
 |_=>false
def w05(L:List (Nat×W5))(st:St):Operand->AV
 | .tmp t=>match P3 L t with
  |some (.pu av)=>av
  |some (.ef _) => .dead
  |none=>D3 st.fr t
 | .const v => .val v
 |_ => .dead
def t0c(L:List (Nat×W5))(st:St):List Operand->Option (List (Nat×Value))
 | []=>some []
 | .tmp t::r=>match w05 L st (.tmp t)with
  | .val v=>match t0c L st r with
   |some vs=>some ((t,v)::vs)
   |none=>none
  |_=>none
 | .global _::_=>none
 |_::r=>t0c L st r
def k0l(P:Program)(L:List (Nat×W5))(o:Oper)(st:St):Option AV:=match O09 o.op,t0c L st o.op.operands.toList with
 |false,some vs=>match l07 (rho vs) o with
  |some _=>none
  |none=>match evP P (J08 (rho vs) o)with
   |some (.value v)=>some (.val v)
   |_=>none
 |_,_=>none
def N0t:AV->Bool
 | .val (.int _ _)=>true
 |_=>false
def b0u:BinOp->Bool
 | .lss=>true
 | .leq=>true
 | .gtr=>true
 | .geq=>true
 | .eql=>true
 | .neq=>true
 | .add=>true
 | .sub=>true
 | .mul=>true
 |_=>false
def K08(P:Program)(L:List (Nat×W5))(o:Oper)(st:St):Option AV:=match o.op with
 | .move x=>match z0h (w05 L st x)with
  |true=>some (w05 L st x)
  |false=>none
 | .assign x=>match z0h (w05 L st x)with
  |true=>some (w05 L st x)
  |false=>none
 | .load t x=>match w05 L st x with
  | .box i off=>match nth st.bx i with
   |some (.live cs _)=>match s0d P t cs off with
    |some av=>match z0h av with
     |true=>some av
     |false=>none
    |none=>none
   |_=>none
  |_=>none
 | .fieldAddr t x k=>match w05 L st x,v0h P t k with
  | .box i off,some a=>some (.box i (off+a))
  |_,_=>none
 | .binOp op _ x y _=>match b0u op,N0t (w05 L st x),N0t (w05 L st y)with
  |true,true,true=>k0l P L o st
  |_,_,_=>none
 | .call { callee := .builtin .len,args:=as,argTypes:=_ }=>match as.toList with
  | [x]=>match w05 L st x with
   | .val (.slice _ _ _)=>k0l P L o st
   |_=>none
  |_=>none
 |_=>none
def H9(L:List (Nat×W5))(st:St):List Oper->List Nat
 | []=>[]
 |o::r=>match o.op with
  | .load _ x=>match w05 L st x with
   | .box i _=>i::H9 L st r
   |_=>H9 L st r
  |_=>H9 L st r
def L08(bx:List BSt):List Nat->List (Option BSt)
 | []=>[]
 |i::r=>nth bx i::L08 bx r
def Q03(L:List (Nat×W5))(a:List (Nat×AV)):List Operand->List (Nat×AV)->(List (Nat×AV)->Prop)->Prop
 | [],acc,K=>K acc
 | .tmp t::r,acc,K=>match P3 L t with
  |some (.pu av)=>Q03 L a r ((t,av)::acc) K
  |some (.ef _)=>Q03 L a r ((t,.dead)::acc) K
  |none=>Q03 L a r ((t,D3 a t)::acc) K
 |_::r,acc,K=>Q03 L a r acc K
def Q0i:List (Nat×W5)->List (Nat×AV)->List (Nat×AV)
 | [],fr=>fr
 |(d,.pu av)::r,fr=>(d,av)::Q0i r fr
 |(d,.ef _)::r,fr=>(d,.dead)::Q0i r fr
def m0m(av:AV)(st:St)(h:Hp):AV->St->Hp->Prop:=λa st' b=>a=av/\st'=st/\b=h
def R0i(P:Program)(st:St)(h:Hp)(L:List (Nat×W5))(o:Oper)(av:AV):Prop :=
 match st with
 |⟨n,fr,bx,ow⟩=>∀ a,Sub h a->Q03 L fr o.op.operands.toList [] λfr=>c8 P o ⟨n,fr,bx,ow⟩ a (m0m av ⟨n,fr,bx,ow⟩ a)
def m03(P:Program)(st:St)(h:Hp):List Oper->Nat->List (Nat×W5)->List (Nat×Oper)->List (Nat×Oper)->(List (Nat×W5)->List (Nat×Oper)->List (Nat×Oper)->Prop)->Prop
 | [],_,L,X,E,K=>K L X E
 |o::r,i,L,X,E,K=>match o.guard with
  |some _=>False
  |none=>match K08 P L o st with
   |some av=>d01 av λav=>m03 P st h r (i+1) (o06 o.dst (.pu av) L) X E K
   |none=>(∃ av,R0i P st h L o av/\d01 av λav=>m03 P st h r (i+1) (o06 o.dst (.pu av) L) (X ++ [(i,o)]) E K) ∨
     m03 P st h r (i+1) (o06 o.dst (.ef λ_ _=>True) L) X (E ++ [(i,o)]) K
def A0h(X:List (Nat×Oper)):Nat->Nat->Oper->Bool
 |0,i,q=>i8 i q
 |n+1,i,q=>i8 i q || X.any λy=>i8 y.1 q&&A0h X n i y.2
def u0d(X Y:List (Nat×Oper)):List (Nat×Oper)->Bool
 | []=>true
 |(_,q)::_=>X.all λx=>A0h Y 8 x.1 q
def u04:List (Nat×Oper)->Bool
 |(i,o)::(j,a)::r=>i8 i a&&u04 ((j,a)::r)
 |_=>true
def v04:Nat->Nat->Oper->Bool
 |0,_,_=>true
 |k+1,i,o=>(Nat.beq k i || i8 k o)&&v04 k i o
def t07(d:Nat):List Operand->Bool
 | []=>false
 | .tmp t::r=>Nat.beq t d || t07 d r
 |_::r=>t07 d r
def v0d(d:Nat):List Oper->Bool
 | []=>false
 |o::r=>t07 d o.op.operands.toList || v0d d r
def c01:List Oper->List Oper
 | []=>[]
 |o::r=>match r with
  | []=>[]
  |_::_=>o::c01 r
def w0d:List Oper->Option Oper
 | []=>none
 |o::r=>match r with
  | []=>some o
  |_::_=>w0d r
def f0p(ops:List Oper):Option Oper:=match w0d ops with
 |some o=>match o.guard,o.dst with
  |none,some d=>match v0d d (c01 ops)&&v04 (c01 ops).length (c01 ops).length o with
   |true=>some o
   |false=>none
  |_,_=>none
 |none=>none
def A03(P:Program)(o:Oper)(st:St)(h:Hp)(K:St->Hp->Prop):Prop :=
 c8 P o st h λav st h=>r0d o.dst 0 [] av ⟨st,h,[],[]⟩ λrs=>K rs.st rs.h
def U09(N i:Nat)(o:Oper):List (Nat×Oper)->Bool
 | []=>v04 N i o
 |_::_=>false
def d0g(c:Nat)(b:Bool)(rd:List Nat)(bx a:List BSt):Prop:=match b with
 |true=>True
 |false=>match c with
  |0=>L08 a rd=L08 bx rd
  |_+1=>a=bx
def j0b:Nat->List Own->List Own->Hp->Hp->Prop
 |0,_,_,_,_=>True
 |_+1,ow,b,h,a=>b=ow/\Sub h a
def evC(rd:List Nat)(N:Nat)(P:Program):Nat->List (Nat×Oper)->List (Nat×W5)->St->Hp->(St->Hp->Prop)->Prop
 |_,[],L,⟨n,fr,bx,ow⟩,h,K=>d8 (Q0i L fr) λfr=>K ⟨n,fr,bx,ow⟩ h
 |c,(i,o)::r,L,⟨n,fr,bx,ow⟩,h,K=>Q03 L fr o.op.operands.toList [] λe=>c8 P o ⟨n,e,bx,ow⟩ h λav st' d=>match st' with
  |⟨_,_,a,b⟩=>j0b c ow b h d/\d0g c (U09 N i o r) rd bx a/\d01 av λav=>d8 a λa=>d8 b λb=>evC rd N P (c-1) r (o06 o.dst (.pu av) L) ⟨n,fr,a,b⟩ d K
def D0r(f:Nat×Oper)(rd:List Nat)(N:Nat)(P:Program):Nat->List (Nat×Oper)->List (Nat×W5)->St->Hp->(St->Hp->Prop)->Prop
 |0,E,L,st,h,K=>evC rd N P 0 (f::E) L st h K
 |p+1,E,L,st,h,K=>evC rd N P 0 (f::E) L st h K/\match E with
  | []=>False
  |(i,o)::r=>match st with
   |⟨n,fr,bx,ow⟩=>Q03 L fr o.op.operands.toList [] λd=>c8 P o ⟨n,d,bx,ow⟩ h λav st' c=>match st' with
    |⟨_,_,a,b⟩=>j0b 0 ow b h c/\d0g 0 (U09 N i o r) rd bx a/\d01 av λav=>d8 a λa=>d8 b λb=>D0r f rd N P p r (o06 o.dst (.pu av) L) ⟨n,fr,a,b⟩ c K
def O0n(f:Nat×Oper):Nat->List (Nat×Oper)->Bool
 |_,[]=>false
 |0,(_,q)::_=>i8 f.1 q
 |p+1,_::r=>O0n f p r
def e0g:Nat->List (Nat×Oper)->Option ((Nat×Oper)×List (Nat×Oper))
 |_,[]=>none
 |0,x::r=>some (x,r)
 |k+1,x::r=>match e0g k r with
  |some (f,a)=>some (f,x::a)
  |none=>none
def noX:List (Nat×Oper)->Bool
 | []=>true
 |_::_=>false
def k0b:List (Nat×Oper)->List (Nat×Oper)->List ((Nat×Oper)×List (Nat×Oper))
 |_,[]=>[]
 |A,x::B=>(x,A++B)::k0b (A ++ [x]) B
def B0h(x:Nat×Oper):List (Nat×Oper)->Bool
 | []=>true
 |y::r => !i8 y.1 x.2&&B0h x r
def J05(f:(Nat×Oper)->List (Nat×Oper)->Prop):List ((Nat×Oper)×List (Nat×Oper))->Prop
 | []=>True
 |p::l=>match B0h p.1 p.2 with
  |true=>f p.1 p.2/\J05 f l
  |false=>J05 f l
def S0i(rd:List Nat)(N:Nat)(P:Program):Nat->List (Nat×Oper)->List (Nat×W5)->St->Hp->(St->Hp->Prop)->Prop
 |0,_,L,⟨n,fr,bx,ow⟩,h,K=>d8 (Q0i L fr) λfr=>K ⟨n,fr,bx,ow⟩ h
 |m+1,E,L,⟨n,fr,bx,ow⟩,h,K=>J05 (λx r=>Q03 L fr x.2.op.operands.toList [] λd=>c8 P x.2 ⟨n,d,bx,ow⟩ h λav st' c=>match st' with
  |⟨_,_,a,b⟩=>j0b 0 ow b h c/\d0g 0 (U09 N x.1 x.2 r) rd bx a/\d01 av λav=>d8 a λa=>d8 b λb=>S0i rd N P m r (o06 x.2.dst (.pu av) L) ⟨n,fr,a,b⟩ c K) (k0b [] E)
def Q0f:List (Nat×Oper)->Nat
 | []=>0
 |_::r=>Q0f r+1
def evD(rd:List Nat)(N:Nat)(P:Program)(X E:List (Nat×Oper))(L:List (Nat×W5))(st:St)(h:Hp)(K:St->Hp->Prop):Prop :=
 (∃ c,(u04 E=true/\u0d X (X++E) (E.drop c)=true)/\evC rd N P c E L st h K) ∨
 (∃ k p,match e0g k E with
  |some (f,E')=>(noX X=true/\u04 E'=true/\O0n f p E'=true)/\D0r f rd N P p E' L st h K
  |none=>noX X=true/\S0i rd N P (Q0f E) E L st h K)
abbrev FL:=List (Nat×List (Nat×Bool)×W5)
def f03:FL->Nat->Option (List (Nat×Bool)×W5)
 | [],_=>none
 |(k,x)::r,s=>match Nat.beq k s with
  |true=>some x
  |false=>f03 r s
def rdU(L:FL)(st:St)(ch:List (Nat×Bool)):Operand->AV
 | .tmp t=>match f03 L t with
  |some (a,.pu av)=>match M0i a ch with
   |true=>rdA st av
   |false => .dead
  |some (_,.ef _) => .dead
  |none=>rdA st (D3 st.fr t)
 |x=>rdO st x
def M08(P:Program)(L:FL)(bs:List BE)(ch:List (Nat×Bool))(o:Oper)(st:St):Option AV:=match o.op with
 | .move x | .assign x=>match rdU L st ch x with
  | .dead=>none
  |a=>some a
 | .load t x=>match rdU L st ch x with
  | .box i off=>match nth st.bx i with
   |some (.live cs _)=>s0d P t cs off
   |_=>none
  |_=>none
 | .fieldAddr t x k=>match rdU L st ch x,v0h P t k with
  | .box i off,some c=>some (.box i (off+c))
  | .hel s i sz k,some c=>some (.hel s i sz (k+c))
  |_,_=>none
 | .pick (.tmp s) a b=>match rdU L st ch (.tmp s),S09 bs s with
  | .val (.bool e),some q=>match M0i q.ch ch with
   |true=>match rdU L st ((q.j,true)::q.ch) a,rdU L st ((q.j,false)::q.ch) b with
    | .val (.bool x),.val (.bool y)=>some (.val (.bool (cond e x y)))
    |_,_=>none
   |false=>none
  |_,_=>none
 |_=>none
def V06(L:FL)(st:St)(h:Hp)(ch:List (Nat×Bool)):List Operand->List (Nat×AV)->(List (Nat×AV)->Prop)->Prop
 | [],acc,K=>K acc
 | .tmp t::r,acc,K=>match f03 L t with
  |some (a,f)=>match M0i a ch with
   |true=>match f with
    | .pu av=>V06 L st h ch r ((t,av)::acc) K
    | .ef F=>∀ v,F v h->V06 L st h ch r ((t,.val v)::acc) K
   |false=>False
  |none=>V06 L st h ch r ((t,D3 st.fr t)::acc) K
 |_::r,acc,K=>V06 L st h ch r acc K
def M0c(h:Hp):FL->List (Nat×AV)->(List (Nat×AV)->Prop)->Prop
 | [],fr,K=>K fr
 |(d,[],.pu av)::r,fr,K=>M0c h r ((d,av)::fr) K
 |(d,[],.ef F)::r,fr,K=>∀ v,F v h->M0c h r ((d,.val v)::fr) K
 |(d,_::_,_)::r,fr,K=>M0c h r ((d,.dead)::fr) K
def x0d(d:Option Tmp)(ch:List (Nat×Bool))(f:W5)(L:FL):FL:=match d with
 |some d=>(d,ch,f)::L
 |none=>L
def C0h(i:Nat)(d:Option Tmp)(ch:List (Nat×Bool))(av:AV)(bs:List BE):List BE:=match d with
 |some d=>match av with
  | .val (.bool e)=>⟨i,d,e,ch⟩::bs
  |_=>bs
 |none=>bs
def l0l(st st':St):Prop:=st'.n=st.n/\st'.fr=st.fr/\st'.bx=st.bx/\∃ t,st'.ow=st.ow++t
def g0p(st:St)(h:Hp)(F:Value->Hp->Prop):AV->St->Hp->Prop:=λav st' b=>rfy av st' b λv c a=>l0l st c/\Sub h a/\F v a
def h0p(P:Program)(t n:Nat)(st:St)(h:Hp)(K:AV->St->Hp->Prop):Prop :=
 match b01 P t with
 |some e=>match F5 P e,Nat.beq n 0 with
  |some (_+1),true=>∀ g,h g=none->K (.val (.slice (some ⟨g,0,none⟩) 0 0)) st (h.set g (.cells #[] e (0,0)))
  |_,_=>False
 |none=>False
def i0p(P:Program)(t:TypeId)(a b:Operand)(st:St)(h:Hp)(K:AV->St->Hp->Prop):Prop :=
 match b01 P t with
 |some e=>match F5 P e,i09 P e,N00 P e with
  |some (sz+1),some (by_+1),some z=>match n06 z.cells.toList (sz+1)with
   |true=>match rdO st a with
    | .val (.slice (some ⟨g,o,none⟩) 0 0)=>o0d st h (sz+1) (rdO st b) λc=>p07 c.length (by_+1) /\
      ((c = []->K (.val (.slice (some ⟨g,o,none⟩) 0 0)) st h)/\∀ v d,G1 h d v e (sz+1) true c->K (.val v) st d)
    |_=>False
   |false=>False
  |_,_,_=>False
 |none=>False
def T0i(P:Program)(o:Oper)(st:St)(h:Hp)(K:AV->St->Hp->Prop):Prop :=
 match o.op with
 | .buildSlice t n ps=>match ps.toList with
  | []=>h0p P t n st h K
  |_::_=>c8 P o st h K
 | .call { callee := .builtin .append,args:=as,argTypes:=d }=>match as.toList,d.toList with
  | [a,b],[t,c]=>match Nat.beq t c with
   |true=>i0p P t a b st h K
   |false=>False
  |_,_=>False
 |_=>c8 P o st h K
def evU(P:Program)(l:List Oper):Nat->FL->List BE->St->Hp->(St->Hp->Prop)->Prop :=
  List.rec (motive:=λ_=>Nat->FL->List BE->St->Hp->(St->Hp->Prop)->Prop)
    (λ_ L _ st h K=>match st with
      |⟨n,fr,bx,ow⟩=>∀ a,Sub h a->M0c a L fr λfr=>K ⟨n,fr,bx,ow⟩ a)
    (λo _ b i L bs st h K=>match st with
      |⟨n,fr,bx,ow⟩=>match p00 bs o.guard with
        |some ch=>match cB bs ch with
          |some c=>match M08 P L bs ch o ⟨n,fr,bx,ow⟩with
            |some av=>d01 av λav=>b (i+1) (x0d o.dst ch (.pu av) L) (C0h i o.dst ch av bs) ⟨n,fr,bx,ow⟩ h K
            |none=>(∃ av,(∀ a,Sub h a->imp ch c (V06 L ⟨n,fr,bx,ow⟩ a ch o.op.operands.toList [] λfr=>c8 P o ⟨n,fr,bx,ow⟩ a (m0m av ⟨n,fr,bx,ow⟩ a))) /\
                  d01 av λav=>b (i+1) (x0d o.dst ch (.pu av) L) (C0h i o.dst ch av bs) ⟨n,fr,bx,ow⟩ h K) ∨
                (∃ F:Value->Hp->Prop,(∀ v d e,Sub d e->F v d->F v e) /\
                  (∀ a,Sub h a->imp ch c (V06 L ⟨n,fr,bx,ow⟩ a ch o.op.operands.toList [] λfr=>T0i P o ⟨n,fr,bx,ow⟩ a (g0p ⟨n,fr,bx,ow⟩ a F))) /\
                  b (i+1) (x0d o.dst ch (.ef F) L) bs ⟨n,fr,bx,ow⟩ h K)
          |none=>False
        |none=>False) l
def b0d:List Oper->Bool
 | []=>true
 |o::r=>(match o.guard with
  |some (j,_)=>i8 j o
  |none=>true)&&b0d r
def u03(n:Nat)(ops:List Oper):Bool:=r02 n ops&&b0d ops
def E0r(P:Program):List Oper->Bool
 | []=>false
 |o::r=>(match o.guard,o.op with
  |some _,.call { callee := .value _,args:=_,argTypes:=_ }=>match P.underlying o.type with
   |some (.slice _)=>true
   |some (.struct _)=>true
   |some (.tuple _)=>true
   |_=>false
  |_,_=>false) || E0r P r
def w04(o:Oper):Bool:=match o.op with
 | .alloc _=>true
 |_=>false
def Z9(o:Oper):Oper:=match o.op with
 | .alloc _ => { o with op := .move (.const undef) }
 |_=>o
def N5:List Oper->List Oper
 | []=>[]
 |o::r=>Z9 o::N5 r
def okA(P:Program)(all:List Oper):List Oper->Bool
 | []=>true
 |o::r=>(match o.op with
  | .alloc t=>(match o.guard,o.dst,N00 P t with
   |none,some d,some _ => !v0d d all
   |_,_,_=>false)
  |_=>true)&&okA P all r
def m0l(x:Nat):List Nat->Bool
 | []=>false
 |y::r=>Nat.beq x y || m0l x r
def F0r(ops:List Oper)(i:Nat):List Nat->Bool
 | []=>false
 |j::r=>(match nth ops j with
  |some o=>i8 i o
  |none=>false) || F0r ops i r
def f0g(ops:List Oper):Nat->List Nat->List Nat
 |0,acc=>acc
 |i+1,acc=>match F0r ops i acc with
  |true=>f0g ops i (i::acc)
  |false=>f0g ops i acc
def l0b:Operand->List Nat
 | .tmp t=>[t]
 |_=>[]
def N08(o:Oper):Option (List Nat):=match o.guard with
 |some _=>none
 |none=>match o.op with
  | .extract x _=>some (l0b x)
  | .move x=>some (l0b x)
  | .assign x=>some (l0b x)
  | .pick c x y=>some (l0b c++(l0b x++l0b y))
  |_=>none
def O08(d:Nat):List Oper->Bool
 | []=>false
 |o::r=>(match o.dst with
  |some e=>Nat.beq e d
  |none=>false) || O08 d r
def x04(a:List Nat)(t:Nat):List Oper->Nat->Bool
 | [],_=>true
 |o::r,i=>(match o.dst with
  |some e => !Nat.beq e t || m0l i a
  |none=>true)&&x04 a t r (i+1)
def K05(i d:Nat):List Oper->Bool
 | []=>true
 |o::r=>(!t07 d o.op.operands.toList || i8 i o)&&K05 i d r
def n0m(b c:List Oper)(a:List Nat):List Nat->Bool
 | []=>true
 |t::r=>(!O08 t c&&x04 a t b 0)&&n0m b c a r
def o0m(c a:List Oper)(b:List Nat)(i:Nat)(o:Oper):Bool:=match N08 o,o.dst with
 |some e,some d => !O08 d a&&n0m c a b e&&K05 i d a
 |_,_=>false
def c0d(b c:List Oper)(a:List Nat):List Oper->Nat->Bool
 | [],_=>true
 |o::r,i=>(m0l i a || o0m b c a i o)&&c0d b c a r (i+1)
def U0i:List Oper->Bool
 | []=>true
 |o::r => !O09 o.op&&U0i r
def j0p:Nat->List Oper->Bool
 |_,[]=>true
 |k,o::r=>(match o.guard with
  |none=>true
  |some _=>false)&&(match r with
  | []=>true
  |o'::_=>i8 k o')&&j0p (k+1) r
def O0t:List Oper->Bool
 | []=>true
 |_::_=>false
def okZ(P:Program)(n m:Nat)(ops:List Oper):Bool :=
 u03 n (N5 (ops.take m))&&okA P (ops.take m) (ops.take m)&&s0c ops 0&&j0p m (ops.drop m)&&(O0t (ops.drop m) || (c0d (ops.take m) (ops.drop m) (f0g ops m [m]) (ops.take m) 0&&U0i (ops.drop m)))
abbrev Z0s:=Oper->St->Hp->(St->Hp->Prop)->Prop
def doA(R:Z0s)(l:List Oper):St->Hp->(St->Hp->Prop)->Prop :=
 List.rec (motive:=λ_=>St->Hp->(St->Hp->Prop)->Prop) (λst h K=>K st h) (λo _ a st h K=>match w04 o with
  |true=>R o st h λst h=>a st h K
  |false=>a st h K) l
def doT(R:Z0s)(l:List Oper):St->Hp->(St->Hp->Prop)->Prop :=
 List.rec (motive:=λ_=>St->Hp->(St->Hp->Prop)->Prop) (λst h K=>K st h) (λo _ a st h K=>R o st h λst h=>a st h K) l
def evT(P:Program)(R:Z0s)(m:Nat)(ops:List Oper)(st:St)(h:Hp)(K:St->Hp->Prop):Prop :=
 evU P (N5 (ops.take m)) 0 [] [] st h λst h=>doA R (ops.take m) st h λst h=>doT R (ops.drop m) st h K
inductive Ex where
 |normal|ret
 |exit (i:Nat)
structure Ann where
 vars:List Nat
 boxes:List Nat
 owns:List Nat
 nils:List (Nat×Nat×Nat×Nat):=[]
 nilsB:List (Nat×Nat×Nat×Nat×Nat):=[]
 kept:List Nat:=[]
 fuel:Bool:=false
 pubs:List Nat:=[]
def V0i:List (Nat×Nat×Nat×Nat)->St->(St->Prop)->Prop
 | [],st,K=>K st
 |(s,e,sz,by_)::r,⟨n,fr,bx,ow⟩,K=>match rdA ⟨n,fr,bx,ow⟩ (D3 fr s),Nat.blt s n with
  | .val (.slice none 0 0),true=>e0l ow λk=>V0i r ⟨n,(s,.own k 0)::fr,bx,ow ++ [⟨0,.live e sz by_ false []⟩]⟩ K
  |_,_=>False
def y0d:List (Nat×Nat×Nat×Nat×Nat)->St->(St->Prop)->Prop
 | [],st,K=>K st
 |(i,k,e,sz,by_)::r,⟨n,fr,bx,ow⟩,K=>match nth bx i with
  |some (.live cs ty)=>match nth cs k with
   |some (.val (.slice none 0 0))=>e0l ow λj=>y0d r ⟨n,fr,G00 bx i (.live (G00 cs k (.own j 0)) ty),ow ++ [⟨0,.live e sz by_ false []⟩]⟩ K
   |_=>False
  |_=>False
def W0i:List Nat->St->Hp->(St->Hp->Prop)->Prop
 | [],st,h,K=>K st h
 |s::r,st,h,K=>rfy (rdA st (D3 st.fr s)) st h λv st h=>match st with
  |⟨n,fr,bx,ow⟩=>match Nat.blt s n with
   |true=>W0i r ⟨n,(s,.val v)::fr,bx,ow⟩ h K
   |false=>False
def F08(x:Nat):List Nat->Bool
 | []=>false
 |y::r=>match Nat.beq x y with
  |true=>true
  |false=>F08 x r
def a0t:List Oper->List Nat->List Nat
 | [],acc=>acc
 |o::r,acc=>match o.dst with
  |some d=>a0t r (d::acc)
  |none=>a0t r acc
def R0f:Code->List Nat->List Nat
 | .region _ ops _,acc=>a0t ops.toList acc
 | .seq a b,acc=>R0f a (R0f b acc)
 | .cond _ a b,acc=>R0f a (R0f b acc)
 | .block _ a,acc=>R0f a acc
 | .loop a,acc=>R0f a acc
 | .scope a,acc=>R0f a acc
 |_,acc=>acc
def m0b:List Nat->(List Nat->Prop)->Prop
 | [],K=>K []
 |x::r,K=>m0b r λr=>K (x::r)
def G0r:List Nat->St->(List Value->Prop)->Prop
 | [],_,K=>K []
 |s::r,st,K=>match rdA st (D3 st.fr s)with
  | .val v=>G0r r st λvs=>K (v::vs)
  |_=>False
def X0i:List E5->St->(List Value->Prop)->Prop
 | [],_,K=>K []
 | .val v::r,st,K=>X0i r st λvs=>K (v::vs)
 | .own _ _::r,st,K=>X0i r st K
def z0d:List Nat->St->(List Value->Prop)->Prop
 | [],_,K=>K []
 |i::r,st,K=>match nth st.bx i with
  |some (.live cs _)=>X0i cs st λvs=>z0d r st λa=>K (vs++a)
  |_=>False
def g0g:List Nat->St->(List (List (List Value))->Prop)->Prop
 | [],_,K=>K []
 |i::r,st,K=>match nth st.ow i with
  |some ⟨_,.live _ _ _ _ xs⟩=>g0g r st λos=>K (xs::os)
  |_=>False
def n0l(A:Ann)(st:St)(K:List Value->List (List (List Value))->Prop):Prop :=
 G0r A.vars st λvs=>z0d A.boxes st λa=>g0g A.owns st λos=>K (vs++a) os
def v03:List E5->List Value->(List E5->List Value->Prop)->Prop
 | [],vs,K=>K [] vs
 | .val _::r,v::vs,K=>v03 r vs λcs a=>K (.val v::cs) a
 | .val _::_,[],_=>False
 | .own i k::r,vs,K=>v03 r vs λcs a=>K (.own i k::cs) a
def L05:List Nat->List Value->List BSt->(List BSt->Prop)->Prop
 | [],_,bx,K=>K bx
 |i::r,vs,bx,K=>match nth bx i with
  |some (.live cs ty)=>v03 cs vs λcs a=>L05 r a (G00 bx i (.live cs ty)) K
  |_=>False
def M05:List Nat->List (List (List Value))->List Own->(List Own->Prop)->Prop
 | [],_,ow,K=>K ow
 |i::r,xs::os,ow,K=>match nth ow i with
  |some ⟨s,.live e sz by_ nn _⟩=>M05 r os (G00 ow i ⟨s,.live e sz by_ nn xs⟩) K
  |_=>False
 |_::_,[],_,_=>False
def u07{c:Type}:Nat->List c->(List c->List c->Prop)->Prop
 |0,l,K=>K [] l
 |n+1,x::l,K=>u07 n l λa b=>K (x::a) b
 |_+1,[],_=>False
def P08(A:Ann)(st:St):List Nat->List (Nat×AV)->(List (Nat×AV)->Prop)->Prop
 | [],acc,K=>K acc
 |s::r,acc,K=>match F08 s A.vars with
  |true=>P08 A st r acc K
  |false=>match rdA st (D3 st.fr s)with
   | .own i k=>P08 A st r ((s,.own i k)::acc) K
   | .box i o=>P08 A st r ((s,.box i o)::acc) K
   |_=>P08 A st r ((s,.dead)::acc) K
def p0m:List E5->Bool
 | []=>true
 | .val _::r=>p0m r
 | .own _ _::_=>false
def N05(A:Ann)(ds:List Nat)(st:St):List (Nat×AV)->(List (Nat×AV)->Prop)->Prop
 | [],K=>K []
 |(s,av)::r,K=>match F08 s ds with
  |true=>N05 A ds st r K
  |false=>match rdA st av with
   | .own i k=>match F08 i A.owns,F08 i A.kept with
    |true,false=>N05 A (s::ds) st r λl=>K ((s,.dead)::l)
    |_,_=>N05 A (s::ds) st r λl=>K ((s,.own i k)::l)
   | .oel _ _ _ _ _=>N05 A (s::ds) st r λl=>K ((s,.dead)::l)
   | .agg cs=>match p0m cs with
    |true=>N05 A (s::ds) st r λl=>K ((s,.agg cs)::l)
    |false=>N05 A (s::ds) st r λl=>K ((s,.dead)::l)
   |a=>N05 A (s::ds) st r λl=>K ((s,a)::l)
def n0b:List Nat->List Value->List (Nat×AV)->List (Nat×AV)
 |s::r,v::vs,acc=>n0b r vs ((s,.val v)::acc)
 |_,_,acc=>acc
def u0c(b a:St):List (Nat×AV)->Bool
 | []=>true
 |(s,av)::r=>match av with
  | .own i _=>match rdA a (D3 a.fr s)with
   | .own j _=>match Nat.beq i j with
    |true=>u0c b a r
    |false=>false
   |_=>false
  | .box i o=>match rdA a (D3 a.fr s)with
   | .box j p=>match Nat.beq i j,Nat.beq o p with
    |true,true=>u0c b a r
    |_,_=>false
   |_=>false
  |_=>u0c b a r
def o0l:AV->Bool
 | .dead=>true
 |_=>false
def P0n:List (Nat×AV)->List AV
 | []=>[]
 |(_,av)::r=>match o0l av with
  |true=>P0n r
  |false=>av::P0n r
def i0g(fr:List (Nat×AV)):List (Nat×AV)->List AV
 | []=>[]
 |(s,av)::r=>match o0l av with
  |true=>i0g fr r
  |false=>D3 fr s::i0g fr r
def O05(c a:St):List E5->List E5->Bool
 | [],[]=>true
 | .val _::r,.val _::b=>O05 c a r b
 | .own i _::r,.own j d::b=>match Nat.beq i j,rdA a (.own j d)with
  |true,.own _ _=>O05 c a r b
  |_,_=>false
 |_,_=>false
def V09(os:List Nat):List E5->Bool
 | []=>true
 | .val _::r=>V09 os r
 | .own i _::r=>match F08 i os with
  |true=>false
  |false=>V09 os r
def p0l(os:List Nat):BSt->Bool
 | .live cs _=>V09 os cs
 | .publ _=>true
def o0b(A:Ann)(c a:St):Nat->List BSt->List BSt->Prop
 |_,[],_=>True
 |i,b::r,d::e=>match F08 i A.boxes with
  |true=>match b,d with
   | .live cs ty,.live cs' f=>match Nat.beq ty f,O05 c a cs cs' with
    |true,true=>o0b A c a (i+1) r e
    |_,_=>False
   |_,_=>False
  |false=>match p0l A.owns b with
   |true=>d=b/\o0b A c a (i+1) r e
   |false=>False
 |_,_::_,[]=>False
def leB(a b:Bool):Bool:=match a with
 |true=>b
 |false=>true
def p0b(A:Ann):Nat->List Own->List Own->Prop
 |_,[],_=>True
 |i,b::r,a::c=>match F08 i A.owns with
  |true=>match b,a with
   |⟨s,.live e sz by_ nn _⟩,⟨s',.live f h d g _⟩=>match Nat.beq e f,Nat.beq sz h,Nat.beq by_ d,leB nn g,leB (F08 i A.kept) (Nat.beq s s')with
    |true,true,true,true,true=>p0b A (i+1) r c
    |_,_,_,_,_=>False
   |_,_=>False
  |false=>a=b/\p0b A (i+1) r c
 |_,_::_,[]=>False
def W09:Nat->(List Value->Prop)->Prop
 |0,K=>K []
 |n+1,K=>∀ v,W09 n λvs=>K (v::vs)
def X09:Nat->(List (List (List Value))->Prop)->Prop
 |0,K=>K []
 |n+1,K=>∀ xs,X09 n λos=>K (xs::os)
abbrev q0b:=List Value->List (List (List Value))->Hp->Prop
abbrev W06:=List Value->List (List (List Value))->Nat
def H0r:List Value->List Value->Bool
 | [],[]=>true
 |_::r,_::a=>H0r r a
 |_,_=>false
def Y0i(A:Ann)(I:q0b)(vs:List Value)(os:List (List (List Value)))(h:Hp):Prop:=match A.fuel with
 |false=>I vs os h
 |true=>∃ m:Nat,I (.int .i64 m::vs) os h
def Z0i(A:Ann)(b:q0b)(μ:W06)(vs:List Value)(os:List (List (List Value)))(X:Nat->Hp->Prop):Prop:=match A.fuel with
 |false=>∀ a,b vs os a->X (μ vs os) a
 |true=>∀(m:Nat) (a:Hp),b (.int .i64 m::vs) os a->X m a
def I0r(A:Ann)(a:q0b)(μ:W06)(m:Nat)(vs:List Value)(os:List (List (List Value)))(h:Hp):Prop:=match A.fuel with
 |false=>a vs os h/\μ vs os<m
 |true=>∃ b:Nat,a (.int .i64 b::vs) os h/\b<m
def atI(A:Ann)(I:q0b)(μ:W06)(m:Nat)(vs:List Value)(os:List (List (List Value)))(h:Hp):Prop:=match A.fuel with
 |false=>I vs os h/\m=μ vs os
 |true=>I (.int .i64 m::vs) os h
theorem k0p{A:Ann}{b:q0b}{μ:W06}{vs:List Value}{os:List (List (List Value))}{h:Hp}(a:Y0i A b vs os h):∃ m,atI A b μ m vs os h:=by
 unfold Y0i at a
 unfold atI
 cases hf:A.fuel with
 |false=>rw[hf]at a;exact⟨_,a,rfl⟩
 |true=>rw[hf]at a;exact a
theorem l0p{A:Ann}{c:q0b}{μ:W06}{vs:List Value}{os:List (List (List Value))}{X:Nat->Hp->Prop}(b:Z0i A c μ vs os X){m:Nat}{h:Hp}(a:atI A c μ m vs os h):X m h:=by
 unfold Z0i at b
 unfold atI at a
 cases hf:A.fuel with
 |false=>rw[hf]at b a;rw[a.2];exact b _ a.1
 |true=>rw[hf]at b a;exact b _ _ a
theorem J0r{A:Ann}{b:q0b}{μ:W06}{m:Nat}{vs:List Value}{os:List (List (List Value))}{h:Hp}(a:I0r A b μ m vs os h):∃ c,atI A b μ c vs os h/\c<m:=by
 unfold I0r at a
 unfold atI
 cases hf:A.fuel with
 |false=>rw[hf]at a;exact⟨_,⟨a.1,rfl⟩,a.2⟩
 |true=>rw[hf]at a;exact a
def m0p(A:Ann)(d b:List (Nat×AV))(a:St)(c:q0b)(μ:W06)(f:List Value)(m:Nat)(st:St)(h:Hp):Prop :=
 match Nat.beq st.n a.n,u0c a st d with
 |true,true=>i0g st.fr b=P0n b/\o0b A a st 0 a.bx st.bx/\p0b A 0 a.ow st.ow /\
   n0l A st λvs os=>match H0r vs f with
    |true=>u07 A.vars.length vs λ_ e=>L05 A.boxes e a.bx λ_=>M05 A.owns os a.ow λ_=>I0r A c μ m vs os h
    |false=>False
 |_,_=>False
def q0m(i:(Ex->St->Hp->Prop)->St->Hp->Prop)(j:List Nat)(Q:Ex->St->Hp->Prop)(st:St)(h:Hp):Prop :=
 ∃(A:Ann) (b:q0b) (μ:W06),V0i A.nils st λst=>y0d A.nilsB st λst=>W0i A.pubs st h λst h=>n0l A st λg d=>Y0i A b g d h /\
  m0b j λds=>P08 A st ds [] λc=>N05 A ds st st.fr λf =>
   W09 g.length λvs=>X09 d.length λos=>Z0i A b μ vs os λm k =>
    u07 A.vars.length vs λl o=>L05 A.boxes o st.bx λbx=>M05 A.owns os st.ow λow =>
     i (λe st' a=>match e with
      | .normal=>W0i A.pubs st' a λst' a=>m0p A c f st b μ vs m st' a
      |e=>Q e st' a) ⟨st.n,n0b A.vars l (c++f),bx,ow⟩ k
def n0p(b:Bool)(X Y:Prop):Prop:=(b=true->X)/\(b=false->Y)
def ev(P:Program):Code->(Ex->St->Hp->Prop)->St->Hp->Prop
 | .skip,Q,st,h=>Q .normal st h
 | .region _ ops false,Q,st,h=>match E0r P ops.toList with
  |true=>u03 st.n ops.toList=true/\evU P ops.toList 0 [] [] st h λst h=>Q .normal st h
  |false=>r0c P ops.toList 0 ⟨st,h,[],[]⟩ λrs=>Q .normal rs.st rs.h
 | .region _ ops true,Q,st,h=>((P.follows .mixedOrders=true/\Region.lexB .any ops=true) /\
   evQ P ops.toList 0 ⟨st,h,[],[]⟩ λrs=>Q .normal rs.st rs.h) ∨
   False ∨
   (match f0p ops.toList with
    |none=>(P.follows .mixedOrders=true/\r02 st.n ops.toList=true)/\m03 P st h ops.toList 0 [] [] [] λL X E=>evD (H9 L st ops.toList) ops.size P X E L st h λst h=>Q .normal st h
    |some o=>(P.follows .mixedOrders=true/\(r02 st.n (c01 ops.toList)&&s0c ops.toList 0)=true)/\m03 P st h (c01 ops.toList) 0 [] [] [] λL X E=>evD (H9 L st (c01 ops.toList)) (c01 ops.toList).length P X E L st h λst h=>A03 P o st h λst h=>Q .normal st h) ∨
   ((P.follows .mixedOrders=true/\u03 st.n ops.toList=true)/\evU P ops.toList 0 [] [] st h λst h=>Q .normal st h) ∨
   (∃ m,(P.follows .mixedOrders=true/\okZ P st.n m ops.toList=true)/\evT P (A03 P) m ops.toList st h λst h=>Q .normal st h)
 | .seq a b,Q,st,h=>ev P a (λe st h=>match e with
  | .normal=>ev P b Q st h
  |e=>Q e st h) st h
 | .cond c t e,Q,st,h=>match rdO st c with
  | .val (.bool b)=>n0p b (ev P t Q st h) (ev P e Q st h)
  |_=>False
 | .block id c,Q,st,h=>ev P c (λe st h=>match e with
  | .exit i=>match Nat.beq i id with
   |true=>Q .normal st h
   |false=>Q (.exit i) st h
  |e=>Q e st h) st h
 | .loop d,Q,st,h=>q0m (λQ=>ev P d Q) (R0f d []) Q st h
 | .exit id,Q,st,h=>Q (.exit id) st h
 | .ret,Q,st,h=>Q .ret st h
 |_,_,_,_=>False
def q0l(P:Program):List ResultVar->St->Hp->(List Value->St->Hp->Prop)->Prop
 | [],st,h,K=>K [] st h
 | .tmp t::r,st,h,K=>rfy (rdA st (D3 st.fr t)) st h λv st h=>q0l P r st h λvs st h=>K (v::vs) st h
 | .cell t ty::r,st,h,K=>match rdA st (D3 st.fr t)with
  | .box i off=>match nth st.bx i with
   |some (.live cs _)=>p04 P ty cs off λav=>rfy av st h λv st h=>q0l P r st h λvs st h=>K (v::vs) st h
   |_=>False
  |_=>False
def a0j:List Value->Value
 | [v]=>v
 |vs => .tuple vs.toArray
def Y09:Nat->List Value->List (Nat×AV)
 |_,[]=>[]
 |i,v::r=>(i,.val v)::Y09 (i+1) r
def b0t(P:Program)(fn:Func)(args:List Value)(h:Hp)(T:Value->Hp->Prop):Prop :=
 match fn.body with
 |some c=>match Nat.ble args.length fn.ntmps with
  |true=>ev P c (λe st h=>match e with
   | .exit _=>False
   |_=>q0l P fn.results.toList st h λvs _ h=>T (a0j vs) h) ⟨fn.ntmps,Y09 0 args,[],[]⟩ h
  |false=>False
 |none=>False
end Go.H
