/- Plain laws over the model: maps whose keys are pairs of ints: each pair's value is its place in a list. -/
import Derived.Test.YtkjhghloldgioaaGreatHE
namespace Go.H
set_option linter.unusedVariables false
set_option linter.unusedSimpArgs false
section
variable {P:Program}
def E0k(p:Int×Int)(i:Nat):MapEntry := { key := .agg #[.int .i64 p.1,.int .i64 p.2],val := .int .i64 i,born:=i }
def f06:List (Int×Int)->Nat->List MapEntry
 | [],_=>[]
 |p::r,i=>E0k p i::f06 r (i+1)
def g06(ps:List (Int×Int)):Obj := .map (f06 ps 0).toArray ps.length
def lkP(p:Int×Int):List (Int×Int)->Nat->Option Nat
 | [],_=>none
 |q::r,i=>bif decide (p.1=q.1)&&decide (p.2=q.2)then some i else lkP p r (i+1)
theorem n0f(p:Int×Int):∀(ps:List (Int×Int)) (i:Nat),f06 (ps ++ [p]) i=f06 ps i ++ [E0k p (i+ps.length)]
 | [],i=>rfl
 |q::r,i=>by
  simp only[List.cons_append,f06,n0f p r (i+1),List.length_cons]
  rw[show i+1+r.length=i+(r.length+1) by omega]
structure Y0f (P:Program) (t kt et:TypeId):Prop where
 m:P.underlying t=some (.map kt et)
 k:∃ e,P.underlying kt=some (.array 2 e)/\P.underlying e=some (.int .i64)/\F5 P e=some 1/\m0d P e=some false
 z:N00 P et=some (.int .i64 0)
theorem B08{e:TypeId}(a:m0d P e=some false){cs:Array Value}{i:Nat}{v:Value}(b:cs[i]?=some v)(h:Hp)(K:Value->Hp->Prop):wpS P (part e cs i) h K=K v h:=by
 simp only[part,O1,R05 a,Bool.false_eq_true,if_false,b,U1]
theorem q0n{a:Type}(f:Nat->a->Sem (ForInStep a))(x:a)(h:Hp)(K:a->Hp->Prop):
  wpS P (forIn [0:2] x f) h K=wpS P (f 0 x) h λr b=>match r with
   | .done y=>K y b
   | .yield y=>wpS P (f 1 y) b λr c=>match r with
    | .done z=>K z c
    | .yield z=>K z c:=by
 rw[Std.Legacy.Range.forIn_eq_forIn_range']
 show wpS P (forIn [0,1] x f) h K=_
 simp only[List.forIn_cons,List.forIn_nil,O1]
 congr 1
 funext r b
 cases r with
 |done y=>simp only[U1]
 |yield y =>
  simp only[O1]
  congr 1
  funext r c
  cases r<;>simp only[U1]
theorem I0q{e:TypeId}(b:P.underlying e=some (.int .i64))(n:Nat)(a c:Int)(h:Hp)(K:Bool->Hp->Prop):wpS P (Op.equalIn (n+1) e (.int .i64 a) (.int .i64 c)) h K=K (a == c) h:=by
 simp only[Op.equalIn,O1,Y2 b,if_true,U1]
theorem r0n{a:Type}(x:a)(h:Hp)(K:a->Hp->Prop):wpS P (Sem.pure x) h K=K x h:=rfl
theorem a0m{t g l:TypeId}(j:Y0f P t g l)(n:Nat)(a b c d:Int)(h:Hp)(K:Bool->Hp->Prop):
  wpS P (Op.equalIn (n+2) g (.agg #[.int .i64 a,.int .i64 b]) (.agg #[.int .i64 c,.int .i64 d])) h K=K (decide (a=c)&&decide (b=d)) h:=by
 obtain⟨e,o,m,p,f⟩:=j.k
 unfold Op.equalIn
 simp only[O1,Y2 o,a00 p,q0n,Nat.zero_mul,Nat.mul_one,B08 f (cs := #[.int .i64 a,.int .i64 b]) (i:=0) (v := .int .i64 a) rfl,
  B08 f (cs := #[.int .i64 c,.int .i64 d]) (i:=0) (v := .int .i64 c) rfl,B08 f (cs := #[.int .i64 a,.int .i64 b]) (i:=1) (v := .int .i64 b) rfl,B08 f (cs := #[.int .i64 c,.int .i64 d]) (i:=1) (v := .int .i64 d) rfl,I0q m]
 by_cases e1:a=c
 ·subst e1
  by_cases e2:b=d
  ·subst e2;simp[U1]
  ·simp[U1,e2]
 ·simp[U1,e1]
theorem L0o{t e g:TypeId}(f:Y0f P t e g)(a b c d:Int)(h:Hp)(K:Bool->Hp->Prop):
  wpS P (Op.equal e (.agg #[.int .i64 a,.int .i64 b]) (.agg #[.int .i64 c,.int .i64 d])) h K=K (decide (a=c)&&decide (b=d)) h:=a0m f 9998 a b c d h K
theorem s0n{t b c:TypeId}(a:Y0f P t b c)(p:Int×Int)(h:Hp):∀(ps:List (Int×Int)) (i j:Nat) (K:Option (Nat×Value)->Hp->Prop),j=i ->
  wpS P (Instr.findAsking b (.agg #[.int .i64 p.1,.int .i64 p.2]) (f06 ps i) j) h K=K ((lkP p ps i).map λk=>(k,.int .i64 (k:Int))) h
 | [],i,j,K,e=>by simp only[f06,Instr.findAsking,U1,lkP,Option.map_none]
 |q::r,i,j,K,e=>by
  subst e
  have d:=s0n a p h r (j+1) (j+1) K rfl
  simp only[f06,Instr.findAsking,E0k,O1,L0o a]
  simp only[lkP]
  cases decide (p.1=q.1)&&decide (p.2=q.2)
  ·simp only[Bool.false_eq_true,if_false,cond_false];exact d
  ·simp only[if_true,cond_true,U1,Option.map_some]
theorem o0f{t c d:TypeId}(a:Y0f P t c d)(p:Int×Int)(h:Hp)(ps:List (Int×Int))(K:Option (Nat×Value)->Hp->Prop):
  wpS P (Instr.findKey c (.agg #[.int .i64 p.1,.int .i64 p.2]) (f06 ps 0)) h K=K ((lkP p ps 0).map λk=>(k,.int .i64 (k:Int))) h:=by
 obtain⟨e,b,g,i,f⟩:=a.k
 have:=s0n a p h ps 0 0 K rfl
 cases ps with
 |nil=>simp only[Instr.findKey,O1,Y2 b,f06,Instr.findNow,U1,lkP,Option.map_none]
 |cons q r =>
  simp only[Instr.findKey,O1,Y2 b,f06,Instr.findNow,Instr.sameNow,E0k]
  exact this
theorem M0o{t d j:TypeId}(f:Y0f P t d j)(g:Bool)(n:Nat)(a b:Int)(h:Hp)(K:Unit->Hp->Prop):wpS P (Instr.checkKey g (n+2) d (.agg #[.int .i64 a,.int .i64 b])) h K=K () h:=by
 obtain⟨e,m,l,o,c⟩:=f.k
 simp only[Instr.checkKey,O1,Y2 m,a00 o,q0n,Nat.zero_mul,Nat.mul_one,B08 c (cs := #[.int .i64 a,.int .i64 b]) (i:=0) (v := .int .i64 a) rfl,B08 c (cs := #[.int .i64 a,.int .i64 b]) (i:=1) (v := .int .i64 b) rfl,Y2 l,U1]
theorem F0k{t d f:TypeId}(e:Y0f P t d f)(c:Bool)(a b:Int)(h:Hp)(K:Unit->Hp->Prop):wpS P (Instr.checkKey c 10000 d (.agg #[.int .i64 a,.int .i64 b])) h K=K () h:=M0o e c 9998 a b h K
theorem z0t{t n g:TypeId}(b:Y0f P t n g){a:Operand->Value}{o:Oper}{x f:Operand}(d:o.op = .lookup t x f true){r:Nat}(l:a x = .map (some r)){p:Int×Int}(i:a f = .agg #[.int .i64 p.1,.int .i64 p.2]){h:Hp}{ps:List (Int×Int)}(j:h r=some (g06 ps)):
  j0m P a o h h (match lkP p ps 0 with
   |some k => .tuple #[.int .i64 (k:Int),.bool true]
   |none => .tuple #[.int .i64 0,.bool false]):=by
 intro K c
 have e:J08 a o=execOp a o:=by unfold J08;rw[d]
 rw[e]
 unfold execOp;rw[d]
 refine E7 _ _ _ ?_
 simp only[Instr.lookup,l,i,O1,Y2 b.m]
 refine⟨_,⟨j,rfl⟩,?_⟩
 simp only[g06,r0n,U1,F0k b,o0f b,O1]
 cases h1:lkP p ps 0 with
 |none=>simp only[Option.map_none,O1,x07 b.z,U1,if_true];rw[h1]at c;exact c.1
 |some k=>simp only[Option.map_some,U1,if_true];rw[h1]at c;exact c.1
theorem J0q{t v j:TypeId}(d:Y0f P t v j){a:Operand->Value}{o:Oper}{x c y:Operand}(b:o.op = .mapUpdate t x c y∨o.op = .insert t x c y){r:Nat}(s:a x = .map (some r)){p:Int×Int}(n:a c = .agg #[.int .i64 p.1,.int .i64 p.2]){h:Hp}{ps:List (Int×Int)}(u:a y = .int .i64 (ps.length:Int))(g:h r=some (g06 ps))
  (q:lkP p ps 0=none):j0m P a o h (h.set r (g06 (ps ++ [p]))) undef:=by
 intro K l
 have e:J08 a o=execOp a o:=by unfold J08;rcases b with b|b<;>rw[b]
 rw[e]
 have w:wpS P (Instr.mapUpdate t (a x) (a c) (a y)) h λ_ k=>K .skip k:=by
  simp only[Instr.mapUpdate,s,n,u,O1,Y2 d.m]
  refine⟨_,⟨g,rfl⟩,?_⟩
  simp only[g06,r0n,U1,F0k d,o0f d,O1,q,Option.map_none]
  refine⟨_,⟨g,rfl,rfl⟩,?_⟩
  have i:(f06 ps 0).toArray.push { key := .agg #[.int .i64 p.1,.int .i64 p.2],val := .int .i64 (ps.length:Int),born:=ps.length }=(f06 (ps ++ [p]) 0).toArray:=by
   rw[n0f];simp[E0k]
  have f:=l.2 rfl
  simp only[g06,List.length_append,List.length_singleton,←i]at f
  exact f
 unfold execOp
 rcases b with b|b<;>rw[b]<;>simpa only[O1,U1] using w
def lkZ(p:Int×Int)(ps:List (Int×Int)):Int:=match lkP p ps 0 with
 |some k=>(k:Int)
 |none => -1
def lkB(x:Int):Bool:=decide (0<=x)
def lkI(x:Int):Int:=bif lkB x then x else 0
def lkM(p:Int×Int)(ps:List (Int×Int)):Option Int:=(grd (I0 (lkI (lkZ p ps)))).bind λ_=>some (lkZ p ps)
theorem G0k{p:Int×Int}{ps:List (Int×Int)}{x:Int}(h:lkM p ps=some x):x=lkZ p ps/\I0 (lkI x):=by
 obtain⟨u,g,e⟩:=B0 h
 cases e
 exact⟨rfl,N0 g⟩
theorem K0q{p:Int×Int}{ps:List (Int×Int)}(h:(!lkB (lkZ p ps))=true):lkP p ps 0=none:=by
 unfold lkB lkZ at h
 cases e:lkP p ps 0 with
 |none=>rfl
 |some k=>rw[e]at h;simp at h
theorem n0s{t m d:TypeId}(c:Y0f P t m d){a:Operand->Value}{o:Oper}{x b:Operand}(i:o.op = .lookup t x b true){r:Nat}(j:a x = .map (some r)){p:Int×Int}(f:a b = .agg #[.int .i64 p.1,.int .i64 p.2]){h:Hp}{ps:List (Int×Int)}(g:h r=some (g06 ps)){z:Int}(l:lkM p ps=some z):
  j0m P a o h h (.tuple #[.int .i64 (lkI z),.bool (lkB z)]):=by
 obtain⟨rfl,_⟩:=G0k l
 have:=z0t c i j f g
 unfold lkI lkB lkZ
 cases e:lkP p ps 0 with
 |none=>rw[e]at this;exact this
 |some k=>rw[e]at this;simpa using this
theorem Sub.setNone{h k:Hp}{b:Nat}{x:Obj}(c:h b=none)(s:Sub h k):Sub h (k.set b x):=λa o e=>by
 have:a≠b:=λd=>by rw[d,c]at e;cases e
 rw[Hp.set_other _ _ this];exact s _ _ e
theorem o0s{k:Hp}{b:Nat}{ps w:List (Int×Int)}{cs:List Value}{xs:List Int}(p:k b=some (g06 ps))(r:Wp.int.slice.R k cs xs):Wp.int.slice.R (k.set b (g06 w)) cs xs:=by
 obtain⟨a,n,c,vs,rfl,t,q,⟨m,f,u,h,e,i,l,d⟩,hf⟩:=r
 refine⟨a,n,c,vs,rfl,t,q,⟨m,f,u,h,e,i,l,?_⟩,hf⟩
 rcases d with d|⟨g,o,rfl,d⟩
 ·exact .inl d
 ·refine .inr ⟨g,o,rfl,λj v s=>?_⟩
  have:=d j v s
  unfold Hp.cell at this ⊢
  by_cases e1:g=b
  ·subst e1;rw[p]at this;cases this
  ·rw[Hp.set_other _ _ e1];exact this
end
end Go.H
