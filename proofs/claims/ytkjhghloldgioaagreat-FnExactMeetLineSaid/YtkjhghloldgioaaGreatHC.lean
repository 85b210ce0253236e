/- The library of the walks, part HC: plain laws over the model. -/
import Derived.Test.YtkjhghloldgioaaGreatHB
namespace Go.H.R
open Go.H
set_option linter.unusedVariables false
set_option linter.unusedSimpArgs false
def wpR(P:Program){b:Type}:Sem b->Hp->(b->Hp->Prop)->Prop
 | .pure a,h,K=>K a h
 | .load _ a k,h,K=>∃ v,(a.spot=none/\Hp.cell h a.block a.off=some v)/\wpR P (k v) h K
 | .program k,h,K=>wpR P (k P) h K
 | .mark _ k,h,K=>wpR P k h K
 |_,_,_=>False
theorem wpR_sound{P:Program}{e:Type}{K:e->Hp->Prop}(s:Sem e):∀(h:Hp) (w:World),Vis h w->wpR P s h K->∃ x,s.run P w = .ok x w/\K x h:=by
 induction s with
 |pure a=>exact λh w c b=>⟨a,rfl,b⟩
 |load m a k d =>
  rintro h w c ⟨v,⟨g,f⟩,b⟩
  grind[Sem.run,F05]
 |program k d=>exact λh w c b=>d _ _ _ c b
 |mark m k d=>exact λh w c b=>d _ _ c b
 |_=>exact λh w c b=>b.elim
theorem P6{P:Program}{e c:Type}(s:Sem e)(f:e->Sem c):∀(h:Hp) (K:c->Hp->Prop),wpR P (s >>= f) h K=wpR P s h (λx b=>wpR P (f x) b K):=by
 change ∀(h:Hp) (K:c->Hp->Prop),wpR P (s.bind f) h K=wpR P s h (λx b=>wpR P (f x) b K)
 induction s with
 |pure a=>intro h K;rfl
 |load m a k d=>grind[Sem.bind,wpR]
 |program k d=>grind[Sem.bind,wpR]
 |mark m k d=>grind[Sem.bind,wpR]
 |_=>intro h K;rfl
theorem I7{P:Program}{a:Type}(x:a)(h:Hp)(K:a->Hp->Prop):wpR P (pure x) h K=K x h:=rfl
section
variable {P:Program} {h0:Hp} {w0:World} {be:Nat->Nat} {oe:Nat->Value} {H:Hp} {st:St} {h:Hp} {a:Act} {w:World} {o:Oper}
theorem P00{t:TypeId}{d:TypeDesc}(a:P.underlying t=some d)(h:Hp)(K:TypeDesc->Hp->Prop):wpR P (underlying t) h K=K d h:=by
 simp_all[underlying,program,P6,wpR,I7]
theorem N0h{t:TypeId}{i:TypeInfo}(a:P.info? t=some i)(h:Hp)(K:TypeInfo->Hp->Prop):wpR P (typeInfo t) h K=K i h:=by
 grind[typeInfo,program,P6,wpR,I7]
theorem v06{t:TypeId}{n:Nat}(a:F5 P t=some n)(h:Hp)(K:Nat->Hp->Prop):wpR P (sizeOf t) h K=K n h:=by
 grind[F5,sizeOf,P6,N0h,I7]
theorem l0g{t:TypeId}{b:Bool}(a:m0d P t=some b)(h:Hp)(K:Bool->Hp->Prop):wpR P (isAgg t) h K=K b h:=by
 unfold m0d at a
 grind[isAgg,P6,P00,I7,absurd]
theorem h05{H:Hp}{b o:Nat}:∀(vs:List Value) (i:Nat) (acc:Array Value) (K:Array Value->Hp->Prop),(∀ j v,vs[j]?=some v->Hp.cell H b (o+i+j)=some v) ->
  K (acc++vs.toArray) H->wpR P (loadCellsFrom ⟨b,o,none⟩ i vs.length acc) H K
 | [],i,acc,K,_,c=>by grind[loadCellsFrom,I7]
 |v::vs,i,acc,K,a,c=>by
  have h0:=a 0 v (by simp)
  simp only[loadCellsFrom,List.length_cons,P6,load,wpR]
  have d:(⟨b,o,none⟩:Addr).add i=⟨b,o+i,none⟩:=by unfold Addr.add;split<;>simp_all
  rw[d]
  refine⟨v,⟨rfl,by simpa using h0⟩,h05 vs (i+1) (acc.push v) K ?_ ?_⟩
  ·intro j u e
   have:=a (j+1) u (by simpa using e)
   grind
  ·simpa using c
theorem load_row{t:TypeId}{cs:List E5}{vs:List Value}{off:Nat}{K:AV->Prop}{b o:Nat}(a:p04 P t cs off K)(g:D2 st oe cs vs)
  (q:∀ j v,vs[j]?=some v->Hp.cell H b (o+j)=some v):∃ av v,K av/\I2 st be oe av v/\∀ d:Value->Hp->Prop,d v H->wpR P (loadVar t ⟨b,o+off,none⟩) H d:=by
 unfold p04 at a
 split at a
 ·rename_i e
  split at a
  ·rename_i n f
   split at a
   ·rename_i m
    have p:=s02 _ _ m
    have h:=(g.drop off).take n
    refine⟨_,.agg ((vs.drop off).take n).toArray,a,⟨_,rfl,h⟩,λd l=>?_⟩
    have u:((vs.drop off).take n).length=n:=by rw[←h.length,p]
    simp only[loadVar,P6,l0g e,if_true,v06 f,loadCells]
    have:=h05 (P:=P) (H:=H) (b:=b) (o:=o+off) ((vs.drop off).take n) 0 #[] (λx k=>wpR P (pure (Value.agg x)) k d) (λj v s=>by
     grind) (by grind[I7])
    grind
   ·exact a.elim
  ·exact a.elim
 ·rename_i e
  split at a
  ·rename_i c f
   obtain⟨v,w,i⟩:=g.nth f
   refine⟨_,v,a,I2.ofCell i,λd l=>?_⟩
   simp only[loadVar,P6,l0g e,Bool.false_eq_true,if_false,load,wpR]
   grind
  ·exact a.elim
 ·exact a.elim
theorem E7{P:Program}(s:Sem Value)(H:Hp)(a:Next->Hp->Prop)(h:wpR P s H (λv H=>a (.value v) H)):wpR P (do pure (Next.value (←s))) H a:=by
 rw[P6];exact h
theorem exec_fieldAddr{t:TypeId}{x:Operand}{k d b off:Nat}(h:o.op = .fieldAddr t x k)(i:v0h P t k=some d)(l:a.eval x=ptr b off):
  ∀ c:Next->Hp->Prop,c (.value (ptr b (off+d))) H->wpR P (execOp a.eval o) H c:=by
 intro c e
 obtain⟨m,f,n,j,hf,g,rfl⟩:=j0g i
 unfold execOp;rw[h]
 refine E7 _ _ _ ?_
 simp only[Instr.fieldAt,P6,P00 j,hf,l,ptr,Instr.sureAddr,I7,fieldPlace,v06 g,Nat.add_one_ne_zero,if_false,x01]
 exact e
theorem exec_indexAddr{t e:TypeId}{x i:Operand}{k:IntKind}{j:Int}{sz b off n c:Nat}(m:o.op = .indexAddr t x i)(q:b01 P t=some e)(p:F5 P e=some sz)
  (u:a.eval x = .slice (some ⟨b,off,none⟩) n c) (h:a.eval i = .int k j) (f:0<=j) (g:j<(n:Int)) :
  ∀ d:Next->Hp->Prop,d (.value (ptr b (off+j.toNat*sz))) H->wpR P (execOp a.eval o) H d:=by
 intro d l
 have s:=y9 q
 unfold execOp;rw[m]
 refine E7 _ _ _ ?_
 simp only[Instr.indexAt,u,h,asIntOf,P6,I7,P00 s,f,g,and_self,if_true,v06 p,x01]
 exact l
theorem o08{x:Value}{k:IntKind}{i:Int}{y:Nat}{b:BoundsCode}(e:x = .int k i)(c:0<=i)(d:i<=(y:Int))(a:Nat->Hp->Prop):wpR P (Instr.sliceBound x y b) H a=a i.toNat H:=by
 subst e
 simp only[Instr.sliceBound,asIntOf,P6,I7,c,d,and_self,if_true]
theorem H0d{isS:Bool}{n c:Nat}{f b:Option Operand}{l m:Int}(i:D04 a 0 f l)(d:D04 a n b m)(h:0<=l)(s:l<=m)(t:m<=(n:Int))(u:n<=c)
  (g:Nat×Nat×Nat->Hp->Prop):wpR P (Instr.sliceBounds isS n c (f.map a.eval) (b.map a.eval) none) H g=g (l.toNat,m.toNat,c) H:=by
 have q:l<=(m.toNat:Int):=by omega
 cases f with
 |none =>
  have p:l=0:=i
  subst p
  cases b with
  |none =>
   have j:m=(n:Int):=d
   simp_all[Instr.sliceBounds,Option.map_none,P6,I7]
  |some y =>
   obtain⟨k,e⟩:=d
   simp only[Instr.sliceBounds,Option.map_none,Option.map_some,P6,I7,o08 e (by omega) (show m<=(c:Int) by omega)];rfl
 |some x =>
  obtain⟨k,o⟩:=i
  cases b with
  |none =>
   have j:m=(n:Int):=d
   subst j
   simp only[Instr.sliceBounds,Option.map_none,Option.map_some,P6,I7,o08 o h (show l<=((n:Nat):Int) by omega)];rfl
  |some y =>
   obtain⟨v,e⟩:=d
   simp only[Instr.sliceBounds,Option.map_some,P6,I7,o08 e (by omega) (show m<=(c:Int) by omega),o08 o h q]
theorem exec_cutStr{t:TypeId}{x:Operand}{e d:Option Operand}{b:ByteArray}{l m:Int}(n:o.op = .slice t x e d none)(p:P.underlying t=some .string)
  (q:a.eval x = .string b) (j:D04 a 0 e l) (k:D04 a b.size d m) (f:0<=l) (g:l<=m) (h:m<=(b.size:Int)) :
  ∀ c:Next->Hp->Prop,c (.value (.string (b.extract l.toNat m.toNat))) H->wpR P (execOp a.eval o) H c:=by
 intro c i
 unfold execOp;rw[n]
 refine E7 _ _ _ ?_
 simp only[Instr.sliceAt,P6,P00 p,Instr.slice,q,Option.map_none,Option.isSome_none,Bool.false_eq_true,if_false,I7]
 rw[H0d j k f g h (Nat.le_refl _)]
 exact i
theorem exec_index{t:TypeId}{x i:Operand}{b:ByteArray}{k:IntKind}{j:Int}{c:UInt8}(l:o.op = .index t x i)(m:P.underlying t=some .string)(n:a.eval x = .string b)(g:a.eval i = .int k j)
  (e:0<=j) (f:b[j.toNat]?=some c):∀ d:Next->Hp->Prop,d (.value (.int .u8 c.toNat)) H->wpR P (execOp a.eval o) H d:=by
 intro d h
 unfold execOp;rw[l]
 refine E7 _ _ _ ?_
 simp only[Instr.index,n,g,asIntOf,P6,I7,P00 m,e,if_true,f]
 exact h
theorem exec_cat{t j:TypeId}{x y:Operand}{b c:ByteArray}(g:o.op = .binOp .add t x y j)(h:a.eval x = .string b)(i:a.eval y = .string c)(k:b.size+c.size<=9223372036854775807):
  ∀ d:Next->Hp->Prop,d (.value (.string (b++c))) H->wpR P (execOp a.eval o) H d:=by
 intro d e
 unfold execOp;rw[g]
 refine E7 _ _ _ ?_
 have f : ¬ (((b.size+c.size:Nat):Int)>IntKind.i64.max):=by
  have:IntKind.i64.max=9223372036854775807:=by decide
  rw[this];omega
 simp only[h,i,eqGuard,P6,Bool.not_false,if_true,I7,binOp,Go.Op.stringOp,if_neg f]
 exact e
theorem exec_quo{t j:TypeId}{x y:Operand}{b c:Int}(g:o.op = .binOp .quo t x y j)(h:a.eval x = .int .i64 b)(i:a.eval y = .int .i64 c)(f:c≠0):
  ∀ d:Next->Hp->Prop,d (.value (.int .i64 (IntKind.i64.wrap (b.tdiv c)))) H->wpR P (execOp a.eval o) H d:=by
 intro d e
 unfold execOp;rw[g]
 refine E7 _ _ _ ?_
 simp only[h,i,eqGuard,P6,Bool.not_false,if_true,I7,binOp,Go.Op.intDiv,if_neg f,ne_eq,not_true_eq_false,if_false]
 exact e
theorem exec_rem{t j:TypeId}{x y:Operand}{b c:Int}(g:o.op = .binOp .rem t x y j)(h:a.eval x = .int .i64 b)(i:a.eval y = .int .i64 c)(f:c≠0):
  ∀ d:Next->Hp->Prop,d (.value (.int .i64 (b.tmod c))) H->wpR P (execOp a.eval o) H d:=by
 intro d e
 unfold execOp;rw[g]
 refine E7 _ _ _ ?_
 simp only[h,i,eqGuard,P6,Bool.not_false,if_true,I7,binOp,Go.Op.intDiv,if_neg f,ne_eq,not_true_eq_false,if_false]
 exact e
theorem exec_slice{t e sz:Nat}{x:Operand}{g f:Option Operand}{d:Option Addr}{n c:Nat}{l m:Int}(s:o.op = .slice t x g f none)(u:b01 P t=some e)(y:F5 P e=some sz)
  (v:a.eval x = .slice d n c) (k:D04 a 0 g l) (p:D04 a n f m) (h:0<=l) (i:l<=m) (j:m<=(n:Int)) (q:n<=c) :
  ∀ b:Next->Hp->Prop,b (.value (.slice (if c=l.toNat then d else d.map (·.add (l.toNat*sz))) (m.toNat-l.toNat) (c-l.toNat))) H->wpR P (execOp a.eval o) H b:=by
 intro b w
 unfold execOp;rw[s]
 refine E7 _ _ _ ?_
 simp only[Instr.sliceAt,P6,P00 (y9 u),Instr.slice,v,Option.map_none]
 rw[H0d k p h i j q]
 grind[v06,I7]
theorem exec_load{t:TypeId}{x:Operand}{b off:Nat}{v:Value}(d:o.op = .load t x)(g:a.eval x=ptr b off)
  (f:∀ c:Value->Hp->Prop,c v H->wpR P (loadVar t ⟨b,off,none⟩) H c):∀ c:Next->Hp->Prop,c (.value v) H->wpR P (execOp a.eval o) H c:=by
 intro c e
 unfold execOp;rw[d]
 refine E7 _ _ _ ?_
 grind[Instr.loadAt,ptr,Instr.sureAddr,P6,I7]
theorem run_of{v:Value}(e:∀ b:Next->Hp->Prop,b (.value v) H->wpR P (execOp a.eval o) H b)(w:World)(d:Vis H w):(execOp a.eval o).run P w = .ok (.value v) w:=by
 obtain⟨x,c,f⟩:=wpR_sound _ _ w d (e (λn _=>n = .value v) rfl)
 rw[c,f]
end
end Go.H.R
namespace Go.H
set_option linter.unusedVariables false
set_option linter.unusedSimpArgs false
section
variable {P:Program} {h0:Hp} {w0:World} {be:Nat->Nat} {oe:Nat->Value} {H:Hp} {rs:RS} {a:Act} {w:World} {o:Oper} {ops:Array Oper} {i:Nat}
theorem f0t{a b:Bool}(h:eqB a b=true):a=b:=by cases a<;>cases b<;>simp_all [eqB]
theorem O0h:∀(a b:List (Nat×Bool)),d0p a b=true->a=b
 | [],[],_=>rfl
 |(j,w)::r,(f,g)::e,h=>by
  simp only[d0p]at h
  split at h
  ·rename_i c d
   rw[Nat.eq_of_beq_eq_true c,f0t d,O0h r e h]
  ·cases h
 | [],_::_,h=>by cases h
 |_::_,[],h=>by cases h
theorem n03:∀ {bs:List BE} {j:Nat} {b:BE},B02 bs j=some b->b∈bs/\b.j=j
 | [],_,_,h=>by cases h
 |x::r,j,b,h=>by
  simp only[B02]at h
  split at h
  ·simp_all
  ·obtain⟨a,c⟩:=n03 h
   grind
theorem s0b:∀ {bs:List BE} {s:Nat} {b:BE},S09 bs s=some b->b∈bs/\b.d=s
 | [],_,_,h=>by cases h
 |x::r,j,b,h=>by
  simp only[S09]at h
  split at h
  ·simp_all
  ·obtain⟨a,c⟩:=s0b h
   grind
theorem I0d:∀ {bs:List BE} {s:Nat},S09 bs s=none->∀ b∈bs,b.d≠s
 | [],_,_,b,a=>by cases a
 |x::r,s,h,b,a=>by
  simp only[S09]at h
  split at h
  ·cases h
  ·rename_i c
   rcases List.mem_cons.1 a with rfl|a
   ·exact Nat.ne_of_beq_eq_false c
   ·exact I0d h b a
theorem a04(bs:List BE)(j:Nat)(w:Bool)(r:List (Nat×Bool)):cB bs ((j,w)::r)=match B02 bs j,cB bs r with
  |some b,some c=>some (lit w b.e&&c)
  |_,_=>none:=by
 grind[cB,B02,lit]
theorem K0r{bs:List BE}{x:Nat×Bool}{r:List (Nat×Bool)}(h:cB bs (x::r)=some true):cB bs r=some true:=by
 rw[a04]at h
 grind
theorem p08{bs:List BE}{p:List (Nat×Bool)}:∀ {q:List (Nat×Bool)},M0i p q=true->cB bs q=some true->cB bs p=some true
 | [],h,a=>by rw[O0h _ _ h];exact a
 |x::r,h,a=>by
  simp only[M0i]at h
  split at h
  ·grind[O0h]
  ·exact p08 h (K0r a)
theorem s0l{bs:List BE}{x:BE}(f:∀ y∈bs,y.j≠x.j):∀ {ch:List (Nat×Bool)} {c:Bool},cB bs ch=some c->cB (x::bs) ch=some c
 | [],c,h=>h
 |(j,w)::r,c,h=>by
  rw[a04]at h
  split at h
  ·rename_i b g d a
   have l:Nat.beq x.j j=false:=by
    obtain⟨i,k⟩:=n03 d
    grind[Nat.beq,absurd,Nat.eq_of_beq_eq_true]
   have e:B02 (x::bs) j=some b:=by grind[B02]
   rw[a04,e,s0l f a]
   exact h
  ·cases h
structure B07 (ops:Array Oper) (be:Nat->Nat) (oe:Nat->Value) (rs:RS) (a:Act) (i:Nat):Prop where
 lt:∀ x∈rs.bs,x.j<i/\∃ o,ops[x.j]?=some o/\o.dst=some x.d
 val:∀ x∈rs.bs,∃ c,cB rs.bs x.ch=some c/\a.tmps[x.d]?=some (if c=true then .bool x.e else undef)
 gf:∀ d ch av,q0d rs.gf d=some (ch,av)->∃ c,cB rs.bs ch=some c/\(c=true->I2 rs.st be oe av (a.tmps.getD d undef))
theorem B07.grow(r:B07 ops be oe rs a i){st:St}{h:Hp}{be':Nat->Nat}{oe':Nat->Value}(g:Q6 rs.st be oe st be' oe'):B07 ops be' oe' { rs with st:=st,h:=h } a i :=
 ⟨r.lt,r.val,λd ch av e=>let ⟨c,h1,h2⟩:=r.gf d ch av e;⟨c,h1,λb=>(h2 b).grow g⟩⟩
theorem V0n(r:B07 ops be oe rs a i){ch:List (Nat×Bool)}{c:Bool}(d:p00 rs.bs o.guard=some ch)(f:cB rs.bs ch=some c):Region.wanted o (yielded ops a.tmps)=c:=by
 unfold Region.wanted
 cases hg:o.guard with
 |none =>
  rw[hg]at d
  cases d
  cases f
  rfl
 |some p =>
  obtain⟨j,w⟩:=p
  rw[hg]at d
  simp only[p00]at d
  split at d
  ·rename_i b h
   cases d
   obtain⟨k,rfl⟩:=n03 h
   obtain⟨_,t,n,m⟩:=r.lt b k
   obtain⟨g,l,q⟩:=r.val b k
   rw[a04,h,l]at f
   simp only[Option.some.injEq]at f
   have s:yielded ops a.tmps b.j=if g=true then some b.e else none:=by
    unfold yielded
    simp only[n,m,oB,q]
    cases g<;>rfl
   simp only[s,←f]
   cases g<;>cases w<;>cases b.e<;>rfl
  ·cases d
theorem J0d(s:Sim P h0 w0 be oe H rs.st rs.h a w)(r:B07 ops be oe rs a i){ch:List (Nat×Bool)}(k:cB rs.bs ch=some true)(x:Operand):
  (∃ b,I2 rs.st be oe b (a.eval x)/\rdG rs ch x=rdA rs.st b):=by
 cases x with
 |tmp t =>
  simp only[rdG]
  split
  ·rename_i e av l
   split
   ·rename_i m
    obtain⟨c,d,j⟩:=r.gf t e av l
    rw[p08 m k]at d
    cases d
    exact⟨av,j rfl,rfl⟩
   ·exact⟨.dead,trivial,rfl⟩
  ·exact⟨_,s.fr t,rfl⟩
 |const v=>exact⟨.val v,rfl,rfl⟩
 |global g=>exact⟨.dead,trivial,rfl⟩
 |func f=>exact⟨.val _,rfl,rfl⟩
theorem E04(s:Sim P h0 w0 be oe H rs.st rs.h a w)(r:B07 ops be oe rs a i)(W:ops[i]?=some o){ch:List (Nat×Bool)}{c:Bool}{av:AV}{v:Value}{K:RS->Prop}
  (F:cB rs.bs ch=some c) (g:c=true->I2 rs.st be oe av v) (M:c=false->v=undef) (m:r0d o.dst i ch av rs K) :
  ∃ D,K D/\D.h=rs.h/\B07 ops be oe D (a.put o.dst v) (i+1)/\Sim P h0 w0 be oe H D.st D.h (a.put o.dst v) w:=by
 cases hd:o.dst with
 |none =>
  rw[hd]at m
  exact⟨rs,m,rfl,⟨λx p=>⟨Nat.lt_succ_of_lt (r.lt x p).1,(r.lt x p).2⟩,r.val,r.gf⟩,s⟩
 |some d =>
  rw[hd]at m
  simp only[r0d]at m
  split at m
  ·rename_i R Z
   have G:d<rs.st.n:=Nat.le_of_ble_eq_true R
   have aa:q0d rs.gf d=none/\S09 rs.bs d=none:=by
    grind[q07]
   have U:∀ t,t≠d->(a.put (some d) v).tmps[t]?=a.tmps[t]?:=λt S=>by
    simp[Act.put,Array.getElem?_setIfInBounds_ne (Ne.symm S)]
   have Q:(a.put (some d) v).tmps[d]?=some v:=by simp[Act.put,s.siz,G]
   have p:∀ y∈rs.bs,y.j≠i:=λy T e=>by have:=(r.lt y T).1;omega
   have z:(∀ x∈O0i i d ch av rs.bs,x.j<i+1/\∃ o,ops[x.j]?=some o/\o.dst=some x.d) /\
     (∀ x∈O0i i d ch av rs.bs,∃ c,cB (O0i i d ch av rs.bs) x.ch=some c/\(a.put (some d) v).tmps[x.d]?=some (if c=true then .bool x.e else undef)) /\
     (∀ f b,cB rs.bs f=some b->cB (O0i i d ch av rs.bs) f=some b):=by
    have X:∀ x∈rs.bs,x.j<i+1/\∃ o,ops[x.j]?=some o/\o.dst=some x.d:=λx p=>⟨Nat.lt_succ_of_lt (r.lt x p).1,(r.lt x p).2⟩
    have Y:∀ x∈rs.bs,∃ c,cB rs.bs x.ch=some c/\(a.put (some d) v).tmps[x.d]?=some (if c=true then .bool x.e else undef):=λx p=>by
     obtain⟨c,u,A⟩:=r.val x p
     grind[I0d]
    unfold O0i
    split
    ·rename_i e
     have J:∀ f b,cB rs.bs f=some b->cB (⟨i,d,e,ch⟩::rs.bs) f=some b:=λf b N=>s0l (x:=⟨i,d,e,ch⟩) p N
     refine⟨λx I=>?_,λx I=>?_,J⟩
     ·grind
     ·rcases List.mem_cons.1 I with rfl|I
      ·refine⟨c,J _ _ F,?_⟩
       rw[Q]
       cases c with
       |true=>rw[show v = .bool e from g rfl];rfl
       |false=>rw[M rfl];rfl
      grind
    grind
   have E:∀ k,Q6 rs.st be oe { rs.st with fr:=(d,k)::rs.st.fr } be oe:=λk=>⟨Nat.le_refl _,λ_ _=>rfl,λi s h=>⟨s,h,Nat.le_refl _,λ_=>rfl⟩⟩
   have L:∀ l f k,q0d rs.gf l=some (f,k)->∃ b,cB (O0i i d ch av rs.bs) f=some b/\(b=true->I2 rs.st be oe k ((a.put (some d) v).tmps.getD l undef)):=λl f k q=>by
    obtain⟨b,u,A⟩:=r.gf l f k q
    refine⟨b,z.2.2 _ _ u,λC=>?_⟩
    have V:l≠d:=λe=>by grind
    simp_all
   split at m
   ·
    cases F
    refine⟨_,m,rfl,⟨z.1,z.2.1,λl f k q=>?_⟩,s.put G (g rfl)⟩
    obtain⟨b,u,A⟩:=L l f k q
    exact⟨b,u,λC=>(A C).grow (E av)⟩
   ·refine⟨_,m,rfl,⟨z.1,z.2.1,λl f k q=>?_⟩,s.put G (show I2 rs.st be oe .dead v from trivial)⟩
    simp only[q0d]at q
    split at q
    ·rename_i O
     cases q
     have:=Nat.eq_of_beq_eq_true O
     subst this
     refine⟨c,z.2.2 _ _ F,λC=>(I2.grow (E .dead) ?_)⟩
     simp_all
    ·obtain⟨b,u,A⟩:=L l f k q
     exact⟨b,u,λC=>(A C).grow (E .dead)⟩
  ·exact m.elim
end
end Go.H
namespace Go.H
set_option linter.unusedVariables false
set_option linter.unusedSimpArgs false
section
variable {P:Program} {h0:Hp} {w0:World} {be:Nat->Nat} {oe:Nat->Value} {H:Hp} {rs:RS} {a:Act} {w:World} {o:Oper} {ops:Array Oper} {i:Nat}
theorem C07{bs:List BE}{ch:List (Nat×Bool)}{c:Bool}{X:Prop}(h:imp ch c X)(a:c=true):X:=by
 grind[imp]
def CW(H:Hp)(w:World):World->Prop:=λa=>V2 H w H a
theorem D07{v:Value}(c:∀ b,Vis H b->(execOp a.eval o).run P b = .ok (.value v) b):∀ b,CW H w b->o.quietAt P a (CW H w) b v:=λb m=>by
 unfold Oper.quietAt
 rw[c b m.vis]
 exact⟨rfl,rfl⟩
theorem Q02{v:Value}(e:∀ c:Next->Hp->Prop,c (.value v) H->R.wpR P (execOp a.eval o) H c):∀ b,CW H w b->o.quietAt P a (CW H w) b v :=
 D07 λb d=>R.run_of e b d
theorem V2.widen{hf:Hp}{w d:World}(c:Vis H w)(e:∀ b o,hf b=some o->H b=some o)(m:V2 hf w hf d):V2 H w H d:=by
 refine⟨m.os,m.tape,m.output,m.size,?_,?_,λb a => .inl a,m.fz,m.dn⟩
 ·intro b a g
  refine m.keep b a ?_
  cases hc:hf b with
  |none=>rfl
  |some o=>grind
 ·intro b o a
  cases hc:hf b with
  |some f =>
   have:=e b f hc
   rw[this]at a;cases a
   exact m.vis b _ hc
  |none=>rw[m.keep b (c.lt (by rw[a];simp)) hc];exact c b o a
theorem F04{ch:List (Nat×Bool)}(G:∀ x,I2 rs.st be oe (rdG rs ch x) (a.eval x)):∀(l:List Operand) {vs:List (Nat×Value)},N0i rs ch l=some vs ->
  (∀ p∈vs,p.2=a.eval (.tmp p.1))/\(∀ x∈l,(∃ t v,x = .tmp t/\(t,v)∈vs)∨(∀ g,rho g x=a.eval x))
 | [],vs,h=>by cases h;simp
 | .tmp t::r,vs,h=>by
  simp only[N0i]at h
  split at h
  ·rename_i v i
   split at h
   ·rename_i j e
    cases h
    obtain⟨c,d⟩:=F04 G r e
    grind[G7,List.mem_cons_self,mC]
   ·cases h
  ·cases h
 | .global _::r,vs,h=>by cases h
 | .const v::r,vs,h=>by
  obtain⟨c,d⟩:=F04 G r (vs:=vs) h
  exact⟨c,λx b=>by
   rcases List.mem_cons.1 b with rfl|b
   ·exact .inr λ_=>rfl
   ·exact d x b⟩
 | .func f::r,vs,h=>by
  obtain⟨c,d⟩:=F04 G r (vs:=vs) h
  exact⟨c,λx b=>by
   rcases List.mem_cons.1 b with rfl|b
   ·exact .inr λ_=>rfl
   ·exact d x b⟩
abbrev P0t(P:Program)(be:Nat->Nat)(oe:Nat->Value)(H:Hp)(rs:RS)(a:Act)(w:World)(o:Oper)(c:Bool)(K:AV->Prop):Prop :=
 ∃ av,K av/\(c=true->∃ v,I2 rs.st be oe av v/\∀ b,CW H w b->o.quietAt P a (CW H w) b v)
variable {ch:List (Nat×Bool)} {c:Bool} {K:AV->Prop}
theorem w06(G:∀ x,I2 rs.st be oe (rdG rs ch x) (a.eval x)):∀(l:List Operand) {st:St} {h:Hp} {K:List (Nat×Value)->St->Hp->Prop},Sim P h0 w0 be oe H st h a w->Q6 rs.st be oe st be oe->C0r rs ch l st h K ->
  ∃ vs st' m,K vs st' m/\Sim P h0 w0 be oe H st' m a w/\(∀ p∈vs,p.2=a.eval (.tmp p.1))/\(∀ x∈l,(∃ t v,x = .tmp t/\(t,v)∈vs)∨(∀ q,rho q x=a.eval x))
 | [],st,h,K,s,c,b=>⟨[],st,h,b,s,by simp,by simp⟩
 | .tmp t::r,st,h,K,s,c,b=>by
  obtain⟨y,u,n,s1,o⟩:=D02 s (s.rdA ((G (.tmp t)).grow c)) b
  obtain⟨vs,k,g,e,s2,i,j⟩:=w06 G r s1 (c.trans o) n
  grind
 | .const v::r,st,h,K,s,c,b=>by
  obtain⟨vs,k,g,e,s2,i,j⟩:=w06 G r s c b
  refine⟨vs,k,g,e,s2,i,λx d=>?_⟩
  rcases List.mem_cons.1 d with rfl|d
  ·exact .inr λ_=>rfl
  ·exact j x d
 | .func f::r,st,h,K,s,c,b=>by
  obtain⟨vs,k,g,e,s2,i,j⟩:=w06 G r s c b
  refine⟨vs,k,g,e,s2,i,λx d=>?_⟩
  rcases List.mem_cons.1 d with rfl|d
  ·exact .inr λ_=>rfl
  ·exact j x d
 | .global _::_,_,_,_,_,_,b=>b.elim
theorem M8(s:Sim P h0 w0 be oe H rs.st rs.h a w)(G:c=true->∀ x,I2 rs.st be oe (rdG rs ch x) (a.eval x))(d:y0h P o ch c rs K):P0t P be oe H rs a w o c K:=by
 unfold y0h at d
 split at d
 ·rename_i vs E C
  split at d
  ·rename_i f l n
   split at d
   ·rename_i y
    obtain⟨v,z,t⟩:=d
    refine⟨_,t,λg=>?_⟩
    obtain⟨k,p⟩:=F04 (G g) _ C
    rw[z04 k p]at n
    refine⟨v,rfl,λj m=>?_⟩
    unfold Oper.quietAt
    rw[i08 n y]
    refine⟨rfl,((C07 (bs:=rs.bs) z g).run j (λb o q=>m.vis b o (s.sub b o q))).mono ?_⟩
    rintro e L ⟨J,D,rfl,⟨rfl,rfl⟩,u⟩
    exact⟨rfl,V2.trans m (V2.widen m.vis s.sub u)⟩
   ·exact d.elim
  ·split at d
   ·rename_i v A
    refine⟨_,d,λg=>?_⟩
    obtain⟨k,p⟩:=F04 (G g) _ C
    rw[b0a,j08 E k p]at A
    exact⟨v,rfl,D07 λj _=>r0m _ A j⟩
   ·exact d.elim
 ·obtain⟨r,z,t⟩:=d
  refine⟨_,t,λg=>⟨r,rfl,λj m=>?_⟩⟩
  obtain⟨vs,M,k,i,s1,F,I⟩:=w06 (G g) _ s (Q6.refl _ _ _) (C07 (bs:=rs.bs) z g)
  rw[z04 F I]at i
  split at i
  ·rename_i f l n
   split at i
   ·rename_i y
    unfold Oper.quietAt
    rw[i08 n y]
    refine⟨rfl,(i.run j (λb o q=>m.vis b o (s1.sub b o q))).mono ?_⟩
    rintro e L ⟨J,D,rfl,⟨rfl,rfl⟩,u⟩
    exact⟨rfl,V2.trans m (V2.widen m.vis s1.sub u)⟩
   ·exact i.elim
  ·exact i.elim
 ·exact d.elim
theorem i05{d l:Int}{x:Option Operand}(G:∀ x,I2 rs.st be oe (rdG rs ch x) (a.eval x))(b:d05 d (x.map (rdG rs ch))=some l):D04 a d x l:=by
 cases x with
 |none=>simp only[Option.map_none,d05,Option.some.injEq]at b;exact b.symm
 |some y =>
  have g:=G y
  simp only[Option.map_some]at b
  cases hr:rdG rs ch y with
  |val v =>
   rw[hr]at b g
   cases v<;>simp only[d05,Option.some.injEq]at b<;>first|(subst b;exact⟨_,g⟩)|cases b
  |_=>rw[hr]at b;cases b
theorem t0p(s:Sim P h0 w0 be oe H rs.st rs.h a w){d:AV}{x:Value}(o:I2 rs.st be oe d x){cs:List E5}(b:o00 (rdA rs.st d)=some cs):D2 rs.st oe cs x.cells.toList:=by
 have g:=s.rdA o
 cases hr:rdA rs.st d with
 |val v =>
  rw[hr]at b g
  have f:x=v:=g
  rw[f]
  cases v<;>simp only[o00,Option.some.injEq]at b<;>first|(subst b;first|exact D2.vals _ _ _|exact⟨rfl,trivial⟩)|cases b
 |own i k =>
  rw[hr]at b g
  obtain⟨e,sz,by_,nn,xs,j⟩:=p06 hr
  simp only[o00,Option.some.injEq]at b
  subst b
  have l:x=oe i:=g.own_cur j
  obtain⟨y,n,c,m⟩:=B0d s j
  rw[l,m]
  rw[l,m]at g
  exact⟨g,trivial⟩
 |agg cs' =>
  rw[hr]at b g
  simp only[o00,Option.some.injEq]at b
  subst b
  obtain⟨vs,f,p⟩:=g
  rw[f]
  exact p
 |_=>rw[hr]at b;cases b
set_option maxHeartbeats 1000000 in
theorem W0n(s:Sim P h0 w0 be oe H rs.st rs.h a w)(r:B07 ops be oe rs a i)(aw:cB rs.bs ch=some c)(u:evG P o ch c rs K):P0t P be oe H rs a w o c K:=by
 have ad:c=true->∀ x,∃ M,I2 rs.st be oe M (a.eval x)/\rdG rs ch x=rdA rs.st M:=λh x=>by subst h;exact J0d s r aw x
 have G:c=true->∀ x,I2 rs.st be oe (rdG rs ch x) (a.eval x):=λh x=>by
  obtain⟨M,g,e⟩:=ad h x
  rw[e];exact s.rdA g
 have L:∀ {X:Prop},imp ch c X->c=true->X:=λh aw=>C07 (bs:=rs.bs) h aw
 have bH:∀ I,CW H w I->Vis H I:=λI m=>m.vis
 cases ho:o.op with
 |move x =>
  simp only[evG,ho]at u
  have D:K (rdG rs ch x):=by revert u;cases rdG rs ch x<;>intro u<;>first|exact u|exact u.elim
  refine⟨_,D,λh=>⟨_,G h x,D07 λI _=>?_⟩⟩
  unfold execOp;rw[ho];rfl
 |assign x =>
  simp only[evG,ho]at u
  have D:K (rdG rs ch x):=by revert u;cases rdG rs ch x<;>intro u<;>first|exact u|exact u.elim
  refine⟨_,D,λh=>⟨_,G h x,D07 λI _=>?_⟩⟩
  unfold execOp;rw[ho];rfl
 |pick ae x y =>
  cases ae with
  |tmp t =>
   simp only[evG,ho]at u
   split at u
   ·rename_i e q aM bk
    split at u
    ·rename_i bm
     split at u
     ·rename_i bx by_ A J
      refine⟨_,u,λh=>?_⟩
      have aS:=G h (.tmp t)
      rw[aM]at aS
      have bd:a.eval (.tmp t) = .bool e:=aS
      subst h
      obtain⟨Y,bl⟩:=s0b bk
      have aL:=p08 bm aw
      obtain⟨aQ,F,ak⟩:=r.val q Y
      rw[aL]at F
      cases F
      have bK:q.e=e:=by
       have:a.eval (.tmp t) = .bool q.e:=by
        simp only[Act.eval,←bl,Array.getD_eq_getD_getElem?,ak];rfl
       grind
      have W:∃ b,B02 rs.bs q.j=some b:=by
       have:∀(l:List BE),q∈l->∃ b,B02 l q.j=some b:=by
        intro l
        induction l with
        |nil=>intro h;cases h
        |cons z l bq =>
         grind[B02,absurd,Nat.ne_of_beq_eq_false]
       exact this _ Y
      obtain⟨b,V⟩:=W
      obtain⟨aU,bg⟩:=n03 V
      have aT:b.e=e/\cB rs.bs b.ch=some true:=by
       obtain⟨_,bP,aN,aO⟩:=r.lt b aU
       obtain⟨_,bQ,O,Q⟩:=r.lt q Y
       rw[bg,O]at aN
       cases aN
       rw[Q]at aO
       have bI:q.d=b.d:=by simpa using aO
       obtain⟨aQ,an,ao⟩:=r.val b aU
       grind[undef]
      refine⟨.bool (cond e bx by_),rfl,D07 λI _=>?_⟩
      unfold execOp;rw[ho]
      simp only[bd,Sem.run_bind,asBool,Sem.run_pure,Result.andThen_ok]
      cases e with
      |true =>
       have aH:cB rs.bs ((q.j,true)::q.ch)=some true:=by
        rw[a04,V,aL];simp[lit,aT.1]
       obtain⟨M,aq,ar⟩:=J0d s r aH x
       have aj:=s.rdA aq
       rw[←ar,A]at aj
       have aD:a.eval x = .bool bx:=aj
       simp[aD]
      |false =>
       have aH:cB rs.bs ((q.j,false)::q.ch)=some true:=by
        rw[a04,V,aL];simp[lit,aT.1]
       obtain⟨M,aq,ar⟩:=J0d s r aH y
       have aj:=s.rdA aq
       rw[←ar,J]at aj
       have aD:a.eval y = .bool by_:=aj
       simp[aD]
     ·exact u.elim
    ·exact u.elim
   ·exact u.elim
  |_=>simp only[evG,ho]at u;exact M8 s G u
 |fieldAddr t x k =>
  simp only[evG,ho]at u
  split at u
  ·rename_i j off ai E ab
   refine⟨_,u,λh=>?_⟩
   have g:=G h x
   rw[E]at g
   exact⟨ptr (be j) (off+ai),⟨g.1,rfl⟩,Q02 (R.exec_fieldAddr ho ab g.2)⟩
  ·rename_i sl j sz ap ai E ab
   refine⟨_,u,λh=>?_⟩
   have g:=G h x
   rw[E]at g
   obtain⟨b,aA,n,S,N,ah⟩:=g
   exact⟨ptr b (aA+(j.toNat*sz+ap)+ai),⟨b,aA,n,S,N,by simp[Nat.add_assoc]⟩,Q02 (R.exec_fieldAddr ho ab ah)⟩
  ·rename_i aW br j sz ap ai E ab
   refine⟨_,u,λh=>?_⟩
   have g:=G h x
   obtain⟨M,_,U⟩:=ad h x
   rw[E]at g
   obtain⟨aC,aB,aP,aY,a0,aa⟩:=D0h (U.symm.trans E)
   obtain⟨au,n,S,N,ah⟩:=g.oel_cur aa
   exact⟨ptr au (j.toNat*sz+ap+ai),⟨br,by simp[stamp,aa],Nat.le_refl _,λ_=>⟨au,n,S,N,by simp[Nat.add_assoc]⟩⟩,Q02 (R.exec_fieldAddr ho ab ah)⟩
  ·exact u.elim
 |indexAddr t x ay =>
  simp only[evG,ho]at u
  split at u
  ·rename_i bt j al
   split at u
   ·rename_i e ag
    split at u
    ·rename_i sz ax
     split at u
     ·rename_i a1 n S A
      refine⟨_,u.2,λh=>?_⟩
      obtain⟨b,off,aX,aQ,N,O,Q⟩:=L u.1 h
      cases N
      have C:=G h x
      rw[A]at C
      have gi:=G h ay
      rw[al]at gi
      exact⟨ptr b (off+j.toNat*sz),⟨b,off,n,S,rfl,by simp⟩,Q02 (R.exec_indexAddr ho ag ax C gi O Q)⟩
     ·rename_i aW ap A
      split at u
      ·rename_i aZ bb aB by_ nn xs Z
       split at u
       ·rename_i V
        refine⟨_,u.2,λh=>?_⟩
        obtain⟨O,Q⟩:=L u.1 h
        have:=Nat.eq_of_beq_eq_true V
        subst this
        have C:=G h x
        obtain⟨M,_,U⟩:=ad h x
        rw[A]at C
        have gi:=G h ay
        rw[al]at gi
        obtain⟨aC,bz,aP,aY,a0,aa⟩:=p06 (U.symm.trans A)
        have aV:=C.own_cur aa
        have af:=s.own aW _ _ _ _ _ _ Z
        rcases af.2 with⟨ac,bo,_⟩|⟨g,cap,cur,ac,_⟩
        ·grind
        ·rw[ac]at aV
         refine⟨ptr g (0+j.toNat*aB),⟨ap,by simp[stamp,aa],Nat.le_refl _,λ_=>⟨g,xs.length,cap,ac,by simp⟩⟩,Q02 (R.exec_indexAddr ho ag ax aV gi O Q)⟩
       ·exact u.elim
      ·exact u.elim
     ·exact u.elim
    ·exact u.elim
   ·exact u.elim
  ·exact u.elim
 |load t x =>
  simp only[evG,ho]at u
  split at u
  ·rename_i j off E
   split at u
   ·rename_i cs ty Z
    obtain⟨F,vs,ak,aE⟩:=s.box j cs ty Z
    obtain⟨av,v,an,ao,az⟩:=R.load_row (H:=H) (b:=be j) (o:=0) (be:=be) u ak (λj v W=>by simp[Hp.cell,aE,W])
    refine⟨av,an,λh=>⟨v,ao,Q02 ?_⟩⟩
    have g:=G h x
    rw[E]at g
    exact R.exec_load ho g.2 (by simpa using az)
   ·exact u.elim
  ·rename_i sl idx sz k E
   obtain⟨e,aJ,D⟩:=u
   cases c with
   |false =>
    grind[p04]
   |true =>
    have aG:=L aJ rfl
    have g:=G rfl x
    rw[E]at g
    obtain⟨b,aA,n,S,N,ah⟩:=g
    obtain⟨_,_,bD,bO,aX,bF,aR,bh⟩:=aG
    rw[N]at aR;cases aR
    obtain⟨av,v,an,ao,az⟩:=R.load_row (H:=H) (b:=b) (o:=aA+idx.toNat*sz) (be:=be) D (D2.vals rs.st oe e) (λj v W=>by
     have:=bh j v W
     unfold Hp.cell at this ⊢
     split at this
     ·rename_i bj;rw[s.sub _ _ bj];exact this
     ·cases this)
    grind[Q02,R.exec_load,Nat.add_assoc]
  ·rename_i j aZ idx sz k E
   split at u
   ·rename_i bR bb aB by_ nn xs Z
    split at u
    ·rename_i V
     have ax:=Nat.eq_of_beq_eq_true V
     subst ax
     obtain⟨e,aJ,D⟩:=u
     cases c with
     |false =>
      grind[p04]
     |true =>
      have aG:=L aJ rfl
      have g:=G rfl x
      obtain⟨M,_,U⟩:=ad rfl x
      rw[E]at g
      obtain⟨aC,bS,aP,aY,a0,aa⟩:=D0h (U.symm.trans E)
      obtain⟨au,n,S,N,ah⟩:=g.oel_cur aa
      have af:=s.own j _ _ _ _ _ _ Z
      obtain⟨av,v,an,ao,az⟩:=R.load_row (H:=H) (b:=au) (o:=idx.toNat*aB) (be:=be) D (D2.vals rs.st oe e) (λj v W =>
       af.cells N _ _ (C03 xs _ e (λx A=>(af.1 x A).1) aG j v W))
      grind[Q02,R.exec_load]
    ·exact u.elim
   ·exact u.elim
  ·exact u.elim
 |build t ps =>
  simp only[evG,ho]at u
  split at u
  ·rename_i bc z am bp
   split at u
   ·rename_i aF
    cases c with
    |false =>
     have:∀(l:List (Nat×Operand)) (cs:List E5) (K':List E5->Prop),o07 P bc (rdG rs ch) l cs K'->∃ cs,K' cs:=by
      intro l
      induction l with
      |nil=>intro cs K' h;exact⟨_,h⟩
      |cons p l bq =>
       grind[o07]
     grind
    |true =>
     obtain⟨av,v,an,ao,az⟩:=f0j (K':=K) s ho am bp aF (λx cs bJ=>by
      obtain⟨M,aq,ar⟩:=ad rfl x
      grind[t0p]) u
     grind[D07]
   ·exact u.elim
  ·exact u.elim
 |index t x ay =>
  simp only[evG,ho]at u
  split at u
  ·rename_i b bt j A al am
   obtain⟨e,F,D⟩:=u
   refine⟨_,D,λh=>?_⟩
   have C:=G h x
   rw[A]at C
   have gi:=G h ay
   rw[al]at gi
   obtain⟨O,Q⟩:=L F h
   exact⟨_,rfl,Q02 (R.exec_index ho am C gi O Q)⟩
  ·exact u.elim
 |slice t x bL al bu =>
  cases bu with
  |some m=>simp only[evG,ho]at u;exact M8 s G u
  |none =>
   simp only[evG,ho]at u
   split at u
   ·rename_i b A am
    split at u
    ·rename_i l m aK Y
     refine⟨_,u.2,λh=>?_⟩
     obtain⟨F,ak,aE⟩:=L u.1 h
     have C:=G h x
     rw[A]at C
     exact⟨_,rfl,Q02 (R.exec_cutStr ho am C (i05 (G h) aK) (i05 (G h) Y) F ak aE)⟩
    ·exact u.elim
   ·rename_i a1 n S A
    split at u
    ·rename_i e ag
     split at u
     ·rename_i sz aM
      split at u
      ·rename_i l m aK Y
       obtain⟨v,F,D⟩:=u
       refine⟨_,D,λh=>?_⟩
       obtain⟨⟨O,Q,a2,a3⟩,a4⟩:=L F h
       have C:=G h x
       rw[A]at C
       refine⟨v,rfl,?_⟩
       rw[a4 _ _ _ rfl]
       exact Q02 (R.exec_slice ho ag aM C (i05 (G h) aK) (i05 (G h) Y) O Q a2 a3)
      ·exact u.elim
     ·exact u.elim
    ·exact u.elim
   ·exact u.elim
 |binOp bv t x y bT =>
  cases bv with
  |add =>
   simp only[evG,ho]at u
   split at u
   ·rename_i b ae A J
    refine⟨_,u.2,λh=>?_⟩
    have C:=G h x
    rw[A]at C
    have T:=G h y
    rw[J]at T
    exact⟨_,rfl,Q02 (R.exec_cat ho C T (L u.1 h))⟩
   grind[M8]
  |quo =>
   simp only[evG,ho]at u
   split at u
   ·rename_i b ae A J
    refine⟨_,u.2,λh=>?_⟩
    have C:=G h x
    rw[A]at C
    have T:=G h y
    rw[J]at T
    exact⟨_,rfl,Q02 (R.exec_quo ho C T (L u.1 h))⟩
   ·exact M8 s G u
  |rem =>
   simp only[evG,ho]at u
   split at u
   ·rename_i b ae A J
    refine⟨_,u.2,λh=>?_⟩
    have C:=G h x
    rw[A]at C
    have T:=G h y
    rw[J]at T
    exact⟨_,rfl,Q02 (R.exec_rem ho C T (L u.1 h))⟩
   ·exact M8 s G u
  |eql =>
   simp only[evG,ho]at u
   split at u
   ·rename_i xs bB A J
    obtain⟨b,F,D⟩:=u
    exact⟨_,D,λh=>⟨.bool b,rfl,D07 λI _=>L F h _ (G7 A (G h x)) (G7 J (G h y)) I⟩⟩
   ·rename_i bC aX bM A J
    obtain⟨b,F,D⟩:=u
    exact⟨_,D,λh=>⟨.bool b,rfl,D07 λI _=>L F h _ (G7 A (G h x)) (G7 J (G h y)) I⟩⟩
   ·exact M8 s G u
  |neq =>
   simp only[evG,ho]at u
   split at u
   ·rename_i xs bB A J
    obtain⟨b,F,D⟩:=u
    exact⟨_,D,λh=>⟨.bool b,rfl,D07 λI _=>L F h _ (G7 A (G h x)) (G7 J (G h y)) I⟩⟩
   grind[M8]
  |_=>simp only[evG,ho]at u;exact M8 s G u
 |call ae =>
  obtain⟨ba,as,bA⟩:=ae
  cases ba with
  |builtin b =>
   cases b with
   |len =>
    simp only[evG,ho]at u
    split at u
    ·rename_i x t aF ab
     have bf:as = #[x]:=by apply Array.ext';simpa using aF
     have bn:bA = #[t]:=by apply Array.ext';simpa using ab
     split at u
     ·rename_i j k E
      split at u
      ·rename_i aZ e sz by_ nn xs aC Z ag
       refine⟨_,u,λh=>?_⟩
       have g:=G h x
       obtain⟨M,_,U⟩:=ad h x
       rw[E]at g
       obtain⟨N,bz,bE,bN,bU,bi⟩:=p06 (U.symm.trans E)
       have A:=g.own_cur bi
       have af:=s.own j _ _ _ _ _ _ Z
       rcases af.2 with⟨ac,bo,_⟩|⟨bG,cap,cur,ac,_⟩
       ·rw[ac]at A
        refine⟨.int .i64 xs.length,rfl,D07 λI _=>?_⟩
        grind[h0a]
       ·rw[ac]at A
        exact⟨.int .i64 xs.length,rfl,D07 λI _=>h0a ho bf bn ag A I⟩
      ·exact u.elim
     ·exact M8 s G u
    ·exact u.elim
   |_=>simp only[evG,ho]at u;exact M8 s G u
  |value f=>simp only[evG,ho]at u;exact M8 s G u
  |invoke r m=>simp only[evG,ho]at u;exact M8 s G u
 |_=>simp only[evG,ho]at u;exact M8 s G u
end
end Go.H
