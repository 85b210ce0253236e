/- Plain laws over the model: maps whose keys are pairs of ints: each pair's value is its place in a list. -/
import Derived.Test.YtmgikbbmpnbbjaaGreatHE
namespace Go.H
set_option linter.unusedVariables false
set_option linter.unusedSimpArgs false
section
variable {P:Program}
def c0m(p:Int×Int)(i:Nat):MapEntry := { key := .agg #[.int .i64 p.1,.int .i64 p.2],val := .int .i64 i,born:=i }
def F07:List (Int×Int)->Nat->List MapEntry
 | [],_=>[]
 |p::r,i=>c0m p i::F07 r (i+1)
def G07(ps:List (Int×Int)):Obj := .map (F07 ps 0).toArray ps.length
def lkP(p:Int×Int):List (Int×Int)->Nat->Option Nat
 | [],_=>none
 |q::r,i=>bif decide (p.1=q.1)&&decide (p.2=q.2)then some i else lkP p r (i+1)
theorem G0g(p:Int×Int):∀(ps:List (Int×Int)) (i:Nat),F07 (ps ++ [p]) i=F07 ps i ++ [c0m p (i+ps.length)]
 | [],i=>rfl
 |q::r,i=>by
  simp only[List.cons_append,F07,G0g p r (i+1),List.length_cons]
  rw[show i+1+r.length=i+(r.length+1) by omega]
structure m0h (P:Program) (t kt et:TypeId):Prop where
 m:P.underlying t=some (.map kt et)
 k:∃ e,P.underlying kt=some (.array 2 e)/\P.underlying e=some (.int .i64)/\d6 P e=some 1/\N0e P e=some false
 z:Q01 P et=some (.int .i64 0)
theorem Q09{e:TypeId}(a:N0e P e=some false){cs:Array Value}{i:Nat}{v:Value}(b:cs[i]?=some v)(h:Hp)(K:Value->Hp->Prop):wpS P (part e cs i) h K=K v h:=by
 simp only[part,J2,l07 a,Bool.false_eq_true,if_false,b,O2]
theorem k0p{a:Type}(f:Nat->a->Sem (ForInStep a))(x:a)(h:Hp)(K:a->Hp->Prop):
  wpS P (forIn [0:2] x f) h K=wpS P (f 0 x) h λr h'=>match r with
   | .done y=>K y h'
   | .yield y=>wpS P (f 1 y) h' λr b=>match r with
    | .done z=>K z b
    | .yield z=>K z b:=by
 rw[Std.Legacy.Range.forIn_eq_forIn_range']
 show wpS P (forIn [0,1] x f) h K=_
 simp only[List.forIn_cons,List.forIn_nil,J2]
 congr 1
 funext r h'
 cases r with
 |done y=>simp only[O2]
 |yield y =>
  simp only[J2]
  congr 1
  funext r b
  cases r<;>simp only[O2]
theorem k0s{e:TypeId}(b:P.underlying e=some (.int .i64))(n:Nat)(a c:Int)(h:Hp)(K:Bool->Hp->Prop):wpS P (Op.equalIn (n+1) e (.int .i64 a) (.int .i64 c)) h K=K (a == c) h:=by
 simp only[Op.equalIn,J2,M3 b,if_true,O2]
theorem l0p{a:Type}(x:a)(h:Hp)(K:a->Hp->Prop):wpS P (Sem.pure x) h K=K x h:=rfl
theorem v0n{t g l:TypeId}(j:m0h P t g l)(n:Nat)(a b c d:Int)(h:Hp)(K:Bool->Hp->Prop):
  wpS P (Op.equalIn (n+2) g (.agg #[.int .i64 a,.int .i64 b]) (.agg #[.int .i64 c,.int .i64 d])) h K=K (decide (a=c)&&decide (b=d)) h:=by
 obtain⟨e,o,m,p,f⟩:=j.k
 unfold Op.equalIn
 simp only[J2,M3 o,P00 p,k0p,Nat.zero_mul,Nat.mul_one,Q09 f (cs := #[.int .i64 a,.int .i64 b]) (i:=0) (v := .int .i64 a) rfl,
  Q09 f (cs := #[.int .i64 c,.int .i64 d]) (i:=0) (v := .int .i64 c) rfl,Q09 f (cs := #[.int .i64 a,.int .i64 b]) (i:=1) (v := .int .i64 b) rfl,Q09 f (cs := #[.int .i64 c,.int .i64 d]) (i:=1) (v := .int .i64 d) rfl,k0s m]
 by_cases e1:a=c
 ·subst e1
  by_cases e2:b=d
  ·subst e2;simp[O2]
  ·simp[O2,e2]
 ·simp[O2,e1]
theorem w0q{t e g:TypeId}(f:m0h P t e g)(a b c d:Int)(h:Hp)(K:Bool->Hp->Prop):
  wpS P (Op.equal e (.agg #[.int .i64 a,.int .i64 b]) (.agg #[.int .i64 c,.int .i64 d])) h K=K (decide (a=c)&&decide (b=d)) h:=v0n f 9998 a b c d h K
theorem m0p{t b c:TypeId}(a:m0h P t b c)(p:Int×Int)(h:Hp):∀(ps:List (Int×Int)) (i j:Nat) (K:Option (Nat×Value)->Hp->Prop),j=i ->
  wpS P (Instr.findAsking b (.agg #[.int .i64 p.1,.int .i64 p.2]) (F07 ps i) j) h K=K ((lkP p ps i).map λk=>(k,.int .i64 (k:Int))) h
 | [],i,j,K,e=>by simp only[F07,Instr.findAsking,O2,lkP,Option.map_none]
 |q::r,i,j,K,e=>by
  subst e
  have d:=m0p a p h r (j+1) (j+1) K rfl
  simp only[F07,Instr.findAsking,c0m,J2,w0q a]
  simp only[lkP]
  cases decide (p.1=q.1)&&decide (p.2=q.2)
  ·simp only[Bool.false_eq_true,if_false,cond_false];exact d
  ·simp only[if_true,cond_true,O2,Option.map_some]
theorem H0g{t c d:TypeId}(a:m0h P t c d)(p:Int×Int)(h:Hp)(ps:List (Int×Int))(K:Option (Nat×Value)->Hp->Prop):
  wpS P (Instr.findKey c (.agg #[.int .i64 p.1,.int .i64 p.2]) (F07 ps 0)) h K=K ((lkP p ps 0).map λk=>(k,.int .i64 (k:Int))) h:=by
 obtain⟨e,b,g,i,f⟩:=a.k
 have:=m0p a p h ps 0 0 K rfl
 cases ps with
 |nil=>simp only[Instr.findKey,J2,M3 b,F07,Instr.findNow,O2,lkP,Option.map_none]
 |cons q r =>
  simp only[Instr.findKey,J2,M3 b,F07,Instr.findNow,Instr.sameNow,c0m]
  exact this
theorem x0q{t d j:TypeId}(f:m0h P t d j)(g:Bool)(n:Nat)(a b:Int)(h:Hp)(K:Unit->Hp->Prop):wpS P (Instr.checkKey g (n+2) d (.agg #[.int .i64 a,.int .i64 b])) h K=K () h:=by
 obtain⟨e,m,l,o,c⟩:=f.k
 simp only[Instr.checkKey,J2,M3 m,P00 o,k0p,Nat.zero_mul,Nat.mul_one,Q09 c (cs := #[.int .i64 a,.int .i64 b]) (i:=0) (v := .int .i64 a) rfl,Q09 c (cs := #[.int .i64 a,.int .i64 b]) (i:=1) (v := .int .i64 b) rfl,M3 l,O2]
theorem d0m{t d f:TypeId}(e:m0h P t d f)(c:Bool)(a b:Int)(h:Hp)(K:Unit->Hp->Prop):wpS P (Instr.checkKey c 10000 d (.agg #[.int .i64 a,.int .i64 b])) h K=K () h:=x0q e c 9998 a b h K
theorem I0u{t n g:TypeId}(b:m0h P t n g){a:Operand->Value}{o:Oper}{x f:Operand}(d:o.op = .lookup t x f true){r:Nat}(l:a x = .map (some r)){p:Int×Int}(i:a f = .agg #[.int .i64 p.1,.int .i64 p.2]){h:Hp}{ps:List (Int×Int)}(j:h r=some (G07 ps)):
  O0n P a o h h (match lkP p ps 0 with
   |some k => .tuple #[.int .i64 (k:Int),.bool true]
   |none => .tuple #[.int .i64 0,.bool false]):=by
 intro K c
 have e:c0a a o=execOp a o:=by unfold c0a;rw[d]
 rw[e]
 unfold execOp;rw[d]
 refine o8 _ _ _ ?_
 simp only[Instr.lookup,l,i,J2,M3 b.m]
 refine⟨_,⟨j,rfl⟩,?_⟩
 simp only[G07,l0p,O2,d0m b,H0g b,J2]
 cases h1:lkP p ps 0 with
 |none=>simp only[Option.map_none,J2,T08 b.z,O2,if_true];rw[h1]at c;exact c.1
 |some k=>simp only[Option.map_some,O2,if_true];rw[h1]at c;exact c.1
theorem l0s{t u j:TypeId}(d:m0h P t u j){a:Operand->Value}{o:Oper}{x c y:Operand}(b:o.op = .mapUpdate t x c y∨o.op = .insert t x c y){r:Nat}(q:a x = .map (some r)){p:Int×Int}(l:a c = .agg #[.int .i64 p.1,.int .i64 p.2]){h:Hp}{ps:List (Int×Int)}(s:a y = .int .i64 (ps.length:Int))(g:h r=some (G07 ps))
  (n:lkP p ps 0=none):O0n P a o h (h.set r (G07 (ps ++ [p]))) undef:=by
 intro K k
 have e:c0a a o=execOp a o:=by unfold c0a;rcases b with b|b<;>rw[b]
 rw[e]
 have v:wpS P (Instr.mapUpdate t (a x) (a c) (a y)) h λ_ h'=>K .skip h':=by
  simp only[Instr.mapUpdate,q,l,s,J2,M3 d.m]
  refine⟨_,⟨g,rfl⟩,?_⟩
  simp only[G07,l0p,O2,d0m d,H0g d,J2,n,Option.map_none]
  refine⟨_,⟨g,rfl,rfl⟩,?_⟩
  have i:(F07 ps 0).toArray.push { key := .agg #[.int .i64 p.1,.int .i64 p.2],val := .int .i64 (ps.length:Int),born:=ps.length }=(F07 (ps ++ [p]) 0).toArray:=by
   rw[G0g];simp[c0m]
  have f:=k.2 rfl
  simp only[G07,List.length_append,List.length_singleton,←i]at f
  exact f
 unfold execOp
 rcases b with b|b<;>rw[b]<;>simpa only[J2,O2] using v
def lkZ(p:Int×Int)(ps:List (Int×Int)):Int:=match lkP p ps 0 with
 |some k=>(k:Int)
 |none => -1
def lkB(x:Int):Bool:=decide (0<=x)
def lkI(x:Int):Int:=bif lkB x then x else 0
def lkM(p:Int×Int)(ps:List (Int×Int)):Option Int:=(grd (J0 (lkI (lkZ p ps)))).bind λ_=>some (lkZ p ps)
theorem e0m{p:Int×Int}{ps:List (Int×Int)}{x:Int}(h:lkM p ps=some x):x=lkZ p ps/\J0 (lkI x):=by
 obtain⟨u,g,e⟩:=D0 h
 cases e
 exact⟨rfl,O0 g⟩
theorem m0s{p:Int×Int}{ps:List (Int×Int)}(h:(!lkB (lkZ p ps))=true):lkP p ps 0=none:=by
 unfold lkB lkZ at h
 cases e:lkP p ps 0 with
 |none=>rfl
 |some k=>rw[e]at h;simp at h
theorem A0t{t m d:TypeId}(c:m0h P t m d){a:Operand->Value}{o:Oper}{x b:Operand}(i:o.op = .lookup t x b true){r:Nat}(j:a x = .map (some r)){p:Int×Int}(f:a b = .agg #[.int .i64 p.1,.int .i64 p.2]){h:Hp}{ps:List (Int×Int)}(g:h r=some (G07 ps)){z:Int}(l:lkM p ps=some z):
  O0n P a o h h (.tuple #[.int .i64 (lkI z),.bool (lkB z)]):=by
 obtain⟨rfl,_⟩:=e0m l
 have:=I0u c i j f g
 unfold lkI lkB lkZ
 cases e:lkP p ps 0 with
 |none=>rw[e]at this;exact this
 |some k=>rw[e]at this;simpa using this
theorem Sub.setNone{h k:Hp}{b:Nat}{x:Obj}(c:h b=none)(s:Sub h k):Sub h (k.set b x):=λa o e=>by
 have:a≠b:=λd=>by rw[d,c]at e;cases e
 rw[Hp.set_other _ _ this];exact s _ _ e
theorem B0t{k:Hp}{b:Nat}{ps w:List (Int×Int)}{cs:List Value}{xs:List Int}(p:k b=some (G07 ps))(r:Wp.int.slice.R k cs xs):Wp.int.slice.R (k.set b (G07 w)) cs xs:=by
 obtain⟨a,n,c,vs,rfl,t,q,⟨m,f,u,h,e,i,l,d⟩,hf⟩:=r
 refine⟨a,n,c,vs,rfl,t,q,⟨m,f,u,h,e,i,l,?_⟩,hf⟩
 rcases d with d|⟨g,o,rfl,d⟩
 ·exact .inl d
 ·refine .inr ⟨g,o,rfl,λj v s=>?_⟩
  have:=d j v s
  unfold Hp.cell at this ⊢
  by_cases e1:g=b
  ·subst e1;rw[p]at this;cases this
  ·rw[Hp.set_other _ _ e1];exact this
theorem w0n{h:Hp}{b o:Nat}{c:Array Value}{t:TypeId}{a:Nat×Nat}{v:Value}(d:h b=some (.cells c t a))(e:c[o]?=some v):Hp.cell h b o=some v:=by
 unfold Hp.cell
 rw[d]
 exact e
end
end Go.H
