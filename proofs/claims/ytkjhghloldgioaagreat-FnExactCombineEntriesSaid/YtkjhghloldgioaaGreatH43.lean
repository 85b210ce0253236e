/- Plain laws over the model: maps whose keys are pairs of ints: each pair's value is its place in a list. -/
import Derived.Test.YtkjhghloldgioaaGreatHE
namespace Go.H
set_option linter.unusedVariables false
set_option linter.unusedSimpArgs false
section
variable {P:Program}
def P0f(p:Int×Int)(i:Nat):MapEntry := { key := .agg #[.int .i64 p.1,.int .i64 p.2],val := .int .i64 i,born:=i }
def p04:List (Int×Int)->Nat->List MapEntry
 | [],_=>[]
 |p::r,i=>P0f p i::p04 r (i+1)
def q04(ps:List (Int×Int)):Obj := .map (p04 ps 0).toArray ps.length
def lkP(p:Int×Int):List (Int×Int)->Nat->Option Nat
 | [],_=>none
 |q::r,i=>bif decide (p.1=q.1)&&decide (p.2=q.2)then some i else lkP p r (i+1)
theorem m0b(p:Int×Int):∀(ps:List (Int×Int)) (i:Nat),p04 (ps ++ [p]) i=p04 ps i ++ [P0f p (i+ps.length)]
 | [],i=>rfl
 |q::r,i=>by
  simp only[List.cons_append,p04,m0b p r (i+1),List.length_cons]
  rw[show i+1+r.length=i+(r.length+1) by omega]
structure n0c (P:Program) (t kt et:TypeId):Prop where
 m:P.underlying t=some (.map kt et)
 k:∃ e,P.underlying kt=some (.array 2 e)/\P.underlying e=some (.int .i64)/\s5 P e=some 1/\f0c P e=some false
 z:w9 P et=some (.int .i64 0)
theorem m06{e:TypeId}(ha:f0c P e=some false){cs:Array Value}{i:Nat}{v:Value}(hv:cs[i]?=some v)(h:Hp)(K:Value->Hp->Prop):wpS P (part e cs i) h K=K v h:=by
 simp only[part,M1,e04 ha,Bool.false_eq_true,if_false,hv,Q1]
theorem y0i{β:Type}(f:Nat->β->Sem (ForInStep β))(x:β)(h:Hp)(K:β->Hp->Prop):
  wpS P (forIn [0:2] x f) h K=wpS P (f 0 x) h λr h'=>match r with
   | .done y=>K y h'
   | .yield y=>wpS P (f 1 y) h' λr h''=>match r with
    | .done z=>K z h''
    | .yield z=>K z h'':=by
 rw[Std.Legacy.Range.forIn_eq_forIn_range']
 show wpS P (forIn [0,1] x f) h K=_
 simp only[List.forIn_cons,List.forIn_nil,M1]
 congr 1
 funext r h'
 cases r with
 |done y=>simp only[Q1]
 |yield y =>
  simp only[M1]
  congr 1
  funext r h''
  cases r<;>simp only[Q1]
theorem x0l{e:TypeId}(he:P.underlying e=some (.int .i64))(n:Nat)(a c:Int)(h:Hp)(K:Bool->Hp->Prop):wpS P (Op.equalIn (n+1) e (.int .i64 a) (.int .i64 c)) h K=K (a == c) h:=by
 simp only[Op.equalIn,M1,I2 he,if_true,Q1]
theorem z0i{α:Type}(x:α)(h:Hp)(K:α->Hp->Prop):wpS P (Sem.pure x) h K=K x h:=rfl
theorem o0h{t kt et:TypeId}(T:n0c P t kt et)(n:Nat)(a b c d:Int)(h:Hp)(K:Bool->Hp->Prop):
  wpS P (Op.equalIn (n+2) kt (.agg #[.int .i64 a,.int .i64 b]) (.agg #[.int .i64 c,.int .i64 d])) h K=K (decide (a=c)&&decide (b=d)) h:=by
 obtain⟨e,hk,he,hs,ha⟩:=T.k
 unfold Op.equalIn
 simp only[M1,I2 hk,K8 hs,y0i,Nat.zero_mul,Nat.mul_one,m06 ha (cs := #[.int .i64 a,.int .i64 b]) (i:=0) (v := .int .i64 a) rfl,
  m06 ha (cs := #[.int .i64 c,.int .i64 d]) (i:=0) (v := .int .i64 c) rfl,m06 ha (cs := #[.int .i64 a,.int .i64 b]) (i:=1) (v := .int .i64 b) rfl,m06 ha (cs := #[.int .i64 c,.int .i64 d]) (i:=1) (v := .int .i64 d) rfl,x0l he]
 by_cases e1:a=c
 ·subst e1
  by_cases e2:b=d
  ·subst e2;simp[Q1]
  ·simp[Q1,e2]
 ·simp[Q1,e1]
theorem W0j{t kt et:TypeId}(T:n0c P t kt et)(a b c d:Int)(h:Hp)(K:Bool->Hp->Prop):
  wpS P (Op.equal kt (.agg #[.int .i64 a,.int .i64 b]) (.agg #[.int .i64 c,.int .i64 d])) h K=K (decide (a=c)&&decide (b=d)) h:=o0h T 9998 a b c d h K
theorem A0i{t kt et:TypeId}(T:n0c P t kt et)(p:Int×Int)(h:Hp):∀(ps:List (Int×Int)) (i j:Nat) (K:Option (Nat×Value)->Hp->Prop),j=i ->
  wpS P (Instr.findAsking kt (.agg #[.int .i64 p.1,.int .i64 p.2]) (p04 ps i) j) h K=K ((lkP p ps i).map λk=>(k,.int .i64 (k:Int))) h
 | [],i,j,K,e=>by simp only[p04,Instr.findAsking,Q1,lkP,Option.map_none]
 |q::r,i,j,K,e=>by
  subst e
  have ih:=A0i T p h r (j+1) (j+1) K rfl
  simp only[p04,Instr.findAsking,P0f,M1,W0j T]
  simp only[lkP]
  cases decide (p.1=q.1)&&decide (p.2=q.2)
  ·simp only[Bool.false_eq_true,if_false,cond_false];exact ih
  ·simp only[if_true,cond_true,Q1,Option.map_some]
theorem n0b{t kt et:TypeId}(T:n0c P t kt et)(p:Int×Int)(h:Hp)(ps:List (Int×Int))(K:Option (Nat×Value)->Hp->Prop):
  wpS P (Instr.findKey kt (.agg #[.int .i64 p.1,.int .i64 p.2]) (p04 ps 0)) h K=K ((lkP p ps 0).map λk=>(k,.int .i64 (k:Int))) h:=by
 obtain⟨e,hk,he,hs,ha⟩:=T.k
 have:=A0i T p h ps 0 0 K rfl
 cases ps with
 |nil=>simp only[Instr.findKey,M1,I2 hk,p04,Instr.findNow,Q1,lkP,Option.map_none]
 |cons q r =>
  simp only[Instr.findKey,M1,I2 hk,p04,Instr.findNow,Instr.sameNow,P0f]
  exact this
theorem X0j{t kt et:TypeId}(T:n0c P t kt et)(em:Bool)(n:Nat)(a b:Int)(h:Hp)(K:Unit->Hp->Prop):wpS P (Instr.checkKey em (n+2) kt (.agg #[.int .i64 a,.int .i64 b])) h K=K () h:=by
 obtain⟨e,hk,he,hs,ha⟩:=T.k
 simp only[Instr.checkKey,M1,I2 hk,K8 hs,y0i,Nat.zero_mul,Nat.mul_one,m06 ha (cs := #[.int .i64 a,.int .i64 b]) (i:=0) (v := .int .i64 a) rfl,m06 ha (cs := #[.int .i64 a,.int .i64 b]) (i:=1) (v := .int .i64 b) rfl,I2 he,Q1]
theorem Q0f{t kt et:TypeId}(T:n0c P t kt et)(em:Bool)(a b:Int)(h:Hp)(K:Unit->Hp->Prop):wpS P (Instr.checkKey em 10000 kt (.agg #[.int .i64 a,.int .i64 b])) h K=K () h:=X0j T em 9998 a b h K
theorem u0o{t kt et:TypeId}(T:n0c P t kt et){ρ:Operand->Value}{o:Oper}{x ix:Operand}(ho:o.op = .lookup t x ix true){r:Nat}(hx:ρ x = .map (some r)){p:Int×Int}(hi:ρ ix = .agg #[.int .i64 p.1,.int .i64 p.2]){h:Hp}{ps:List (Int×Int)}(hm:h r=some (q04 ps)):
  U0h P ρ o h h (match lkP p ps 0 with
   |some k => .tuple #[.int .i64 (k:Int),.bool true]
   |none => .tuple #[.int .i64 0,.bool false]):=by
 intro K hK
 have e:x06 ρ o=execOp ρ o:=by unfold x06;rw[ho]
 rw[e]
 unfold execOp;rw[ho]
 refine J6 _ _ _ ?_
 simp only[Instr.lookup,hx,hi,M1,I2 T.m]
 refine⟨_,⟨hm,rfl⟩,?_⟩
 simp only[q04,z0i,Q1,Q0f T,n0b T,M1]
 cases h1:lkP p ps 0 with
 |none=>simp only[Option.map_none,M1,C05 T.z,Q1,if_true];rw[h1]at hK;exact hK.1
 |some k=>simp only[Option.map_some,Q1,if_true];rw[h1]at hK;exact hK.1
theorem y0l{t kt et:TypeId}(T:n0c P t kt et){ρ:Operand->Value}{o:Oper}{x ix y:Operand}(ho:o.op = .mapUpdate t x ix y∨o.op = .insert t x ix y){r:Nat}(hx:ρ x = .map (some r)){p:Int×Int}(hi:ρ ix = .agg #[.int .i64 p.1,.int .i64 p.2]){h:Hp}{ps:List (Int×Int)}(hy:ρ y = .int .i64 (ps.length:Int))(hm:h r=some (q04 ps))
  (hn:lkP p ps 0=none):U0h P ρ o h (h.set r (q04 (ps ++ [p]))) undef:=by
 intro K hK
 have e:x06 ρ o=execOp ρ o:=by unfold x06;rcases ho with ho|ho<;>rw[ho]
 rw[e]
 have main:wpS P (Instr.mapUpdate t (ρ x) (ρ ix) (ρ y)) h λ_ h'=>K .skip h':=by
  simp only[Instr.mapUpdate,hx,hi,hy,M1,I2 T.m]
  refine⟨_,⟨hm,rfl⟩,?_⟩
  simp only[q04,z0i,Q1,Q0f T,n0b T,M1,hn,Option.map_none]
  refine⟨_,⟨hm,rfl,rfl⟩,?_⟩
  have e2:(p04 ps 0).toArray.push { key := .agg #[.int .i64 p.1,.int .i64 p.2],val := .int .i64 (ps.length:Int),born:=ps.length }=(p04 (ps ++ [p]) 0).toArray:=by
   rw[m0b];simp[P0f]
  have e3:=hK.2 rfl
  simp only[q04,List.length_append,List.length_singleton,←e2]at e3
  exact e3
 unfold execOp
 rcases ho with ho|ho<;>rw[ho]<;>simpa only[M1,Q1] using main
def lkZ(p:Int×Int)(ps:List (Int×Int)):Int:=match lkP p ps 0 with
 |some k=>(k:Int)
 |none => -1
def lkB(x:Int):Bool:=decide (0<=x)
def lkI(x:Int):Int:=bif lkB x then x else 0
def lkM(p:Int×Int)(ps:List (Int×Int)):Option Int:=(grd (O0 (lkI (lkZ p ps)))).bind λ_=>some (lkZ p ps)
theorem R0f{p:Int×Int}{ps:List (Int×Int)}{x:Int}(h:lkM p ps=some x):x=lkZ p ps/\O0 (lkI x):=by
 obtain⟨u,g,e⟩:=B0 h
 cases e
 exact⟨rfl,A2 g⟩
theorem z0l{p:Int×Int}{ps:List (Int×Int)}(h:(!lkB (lkZ p ps))=true):lkP p ps 0=none:=by
 unfold lkB lkZ at h
 cases e:lkP p ps 0 with
 |none=>rfl
 |some k=>rw[e]at h;simp at h
theorem o0n{t kt et:TypeId}(T:n0c P t kt et){ρ:Operand->Value}{o:Oper}{x ix:Operand}(ho:o.op = .lookup t x ix true){r:Nat}(hx:ρ x = .map (some r)){p:Int×Int}(hi:ρ ix = .agg #[.int .i64 p.1,.int .i64 p.2]){h:Hp}{ps:List (Int×Int)}(hm:h r=some (q04 ps)){z:Int}(hz:lkM p ps=some z):
  U0h P ρ o h h (.tuple #[.int .i64 (lkI z),.bool (lkB z)]):=by
 obtain⟨rfl,_⟩:=R0f hz
 have:=u0o T ho hx hi hm
 unfold lkI lkB lkZ
 cases e:lkP p ps 0 with
 |none=>rw[e]at this;exact this
 |some k=>rw[e]at this;simpa using this
theorem Sub.setNone{h k:Hp}{b:Nat}{x:Obj}(hb:h b=none)(s:Sub h k):Sub h (k.set b x):=λa o e=>by
 have:a≠b:=λhe=>by rw[he,hb]at e;cases e
 rw[Hp.set_other _ _ this];exact s _ _ e
theorem p0n{k:Hp}{b:Nat}{ps qs:List (Int×Int)}{cs:List Value}{xs:List Int}(hb:k b=some (q04 ps))(r:Wp.int.slice.R k cs xs):Wp.int.slice.R (k.set b (q04 qs)) cs xs:=by
 obtain⟨a,n,c,vs,rfl,hn,hc,⟨hall,a',n',c',e,h1,h2,h3⟩,hf⟩:=r
 refine⟨a,n,c,vs,rfl,hn,hc,⟨hall,a',n',c',e,h1,h2,?_⟩,hf⟩
 rcases h3 with h3|⟨g,o,rfl,h3⟩
 ·exact .inl h3
 ·refine .inr ⟨g,o,rfl,λj v hj=>?_⟩
  have:=h3 j v hj
  unfold Hp.cell at this ⊢
  by_cases e1:g=b
  ·subst e1;rw[hb]at this;cases this
  ·rw[Hp.set_other _ _ e1];exact this
theorem p0h{h:Hp}{b o:Nat}{c:Array Value}{t:TypeId}{fz:Nat×Nat}{v:Value}(hb:h b=some (.cells c t fz))(hv:c[o]?=some v):Hp.cell h b o=some v:=by
 unfold Hp.cell
 rw[hb]
 exact hv
end
end Go.H
