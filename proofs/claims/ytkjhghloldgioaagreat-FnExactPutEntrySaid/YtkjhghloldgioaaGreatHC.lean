/- The library of the walks, part HC: plain laws over the model. -/
import Derived.Test.YtkjhghloldgioaaGreatHB
namespace Go.H.R
open Go.H
set_option linter.unusedVariables false
set_option linter.unusedSimpArgs false
def wpR(P:Program){b:Type}:Sem b->Hp->(b->Hp->Prop)->Prop
 | .pure a,h,K=>K a h
 | .load _ a k,h,K=>∃ v,(a.spot=none/\Hp.cell h a.block a.off=some v)/\wpR P (k v) h K
 | .program k,h,K=>wpR P (k P) h K
 | .mark _ k,h,K=>wpR P k h K
 |_,_,_=>False
theorem wpR_sound{P:Program}{f:Type}{K:f->Hp->Prop}(e:Sem f):∀(h:Hp) (w:World),Vis h w->wpR P e h K->∃ x,e.run P w = .ok x w/\K x h:=by
 induction e with
 |pure a=>exact λh w c b=>⟨a,rfl,b⟩
 |load m a k d =>
  rintro h w c ⟨v,⟨i,g⟩,b⟩
  grind[Sem.run,k01]
 |program k d=>exact λh w c b=>d _ _ _ c b
 |mark m k d=>exact λh w c b=>d _ _ c b
 |_=>exact λh w c b=>b.elim
theorem G4{P:Program}{g d:Type}(b:Sem g)(f:g->Sem d):∀(h:Hp) (K:d->Hp->Prop),wpR P (b >>= f) h K=wpR P b h (λx c=>wpR P (f x) c K):=by
 change ∀(h:Hp) (K:d->Hp->Prop),wpR P (b.bind f) h K=wpR P b h (λx c=>wpR P (f x) c K)
 induction b with
 |pure a=>intro h K;rfl
 |load m a k e=>grind[Sem.bind,wpR]
 |program k e=>grind[Sem.bind,wpR]
 |mark m k e=>grind[Sem.bind,wpR]
 |_=>intro h K;rfl
theorem c5{P:Program}{a:Type}(x:a)(h:Hp)(K:a->Hp->Prop):wpR P (pure x) h K=K x h:=rfl
section
variable {P:Program} {h0:Hp} {w0:World} {be:Nat->Nat} {oe:Nat->Value} {H:Hp} {st:St} {h:Hp} {a:Act} {w:World} {o:Oper}
theorem g7{t:TypeId}{d:TypeDesc}(a:P.underlying t=some d)(h:Hp)(K:TypeDesc->Hp->Prop):wpR P (underlying t) h K=K d h:=by
 simp_all[underlying,program,G4,wpR,c5]
theorem B09{t:TypeId}{i:TypeInfo}(a:P.info? t=some i)(h:Hp)(K:TypeInfo->Hp->Prop):wpR P (typeInfo t) h K=K i h:=by
 grind[typeInfo,program,G4,wpR,c5]
theorem Q01{t:TypeId}{n:Nat}(a:E4 P t=some n)(h:Hp)(K:Nat->Hp->Prop):wpR P (sizeOf t) h K=K n h:=by
 grind[E4,sizeOf,G4,B09,c5]
theorem y08{t:TypeId}{b:Bool}(a:h0a P t=some b)(h:Hp)(K:Bool->Hp->Prop):wpR P (isAgg t) h K=K b h:=by
 unfold h0a at a
 grind[isAgg,G4,g7,c5,absurd]
theorem P00{H:Hp}{b o:Nat}:∀(vs:List Value) (i:Nat) (acc:Array Value) (K:Array Value->Hp->Prop),(∀ j v,vs[j]?=some v->Hp.cell H b (o+i+j)=some v) ->
  K (acc++vs.toArray) H->wpR P (loadCellsFrom ⟨b,o,none⟩ i vs.length acc) H K
 | [],i,acc,K,_,c=>by grind[loadCellsFrom,c5]
 |v::vs,i,acc,K,a,c=>by
  have h0:=a 0 v (by simp)
  simp only[loadCellsFrom,List.length_cons,G4,load,wpR]
  have d:(⟨b,o,none⟩:Addr).add i=⟨b,o+i,none⟩:=by unfold Addr.add;split<;>simp_all
  rw[d]
  refine⟨v,⟨rfl,by simpa using h0⟩,P00 vs (i+1) (acc.push v) K ?_ ?_⟩
  ·intro j u e
   have:=a (j+1) u (by simpa using e)
   grind
  ·simpa using c
theorem load_row{t:TypeId}{cs:List i4}{vs:List Value}{off:Nat}{K:AV->Prop}{b o:Nat}(a:H00 P t cs off K)(g:Y0 st oe cs vs)
  (q:∀ j v,vs[j]?=some v->Hp.cell H b (o+j)=some v):∃ av v,K av/\J1 st be oe av v/\∀ d:Value->Hp->Prop,d v H->wpR P (loadVar t ⟨b,o+off,none⟩) H d:=by
 unfold H00 at a
 split at a
 ·rename_i e
  split at a
  ·rename_i n f
   split at a
   ·rename_i m
    have p:=Z8 _ _ m
    have h:=(g.drop off).take n
    refine⟨_,.agg ((vs.drop off).take n).toArray,a,⟨_,rfl,h⟩,λd l=>?_⟩
    have u:((vs.drop off).take n).length=n:=by rw[←h.length,p]
    simp only[loadVar,G4,y08 e,if_true,Q01 f,loadCells]
    have:=P00 (P:=P) (H:=H) (b:=b) (o:=o+off) ((vs.drop off).take n) 0 #[] (λx k=>wpR P (pure (Value.agg x)) k d) (λj v s=>by
     grind) (by grind[c5])
    grind
   ·exact a.elim
  ·exact a.elim
 ·rename_i e
  split at a
  ·rename_i c f
   obtain⟨v,w,i⟩:=g.nth f
   refine⟨_,v,a,J1.ofCell i,λd l=>?_⟩
   simp only[loadVar,G4,y08 e,Bool.false_eq_true,if_false,load,wpR]
   grind
  ·exact a.elim
 ·exact a.elim
theorem C5{P:Program}(b:Sem Value)(H:Hp)(a:Next->Hp->Prop)(h:wpR P b H (λv H=>a (.value v) H)):wpR P (do pure (Next.value (←b))) H a:=by
 rw[G4];exact h
theorem exec_fieldAddr{t:TypeId}{x:Operand}{k d b off:Nat}(h:o.op = .fieldAddr t x k)(i:k09 P t k=some d)(l:a.eval x=ptr b off):
  ∀ c:Next->Hp->Prop,c (.value (ptr b (off+d))) H->wpR P (execOp a.eval o) H c:=by
 intro c e
 obtain⟨m,f,n,j,hf,g,rfl⟩:=w08 i
 unfold execOp;rw[h]
 refine C5 _ _ _ ?_
 simp only[Instr.fieldAt,G4,g7 j,hf,l,ptr,Instr.sureAddr,c5,fieldPlace,Q01 g,Nat.add_one_ne_zero,if_false,o8]
 exact e
theorem exec_indexAddr{t e:TypeId}{x i:Operand}{k:IntKind}{j:Int}{sz b off n c:Nat}(m:o.op = .indexAddr t x i)(q:B7 P t=some e)(p:E4 P e=some sz)
  (u:a.eval x = .slice (some ⟨b,off,none⟩) n c) (h:a.eval i = .int k j) (f:0<=j) (g:j<(n:Int)) :
  ∀ d:Next->Hp->Prop,d (.value (ptr b (off+j.toNat*sz))) H->wpR P (execOp a.eval o) H d:=by
 intro d l
 have s:=l6 q
 unfold execOp;rw[m]
 refine C5 _ _ _ ?_
 simp only[Instr.indexAt,u,h,asIntOf,G4,c5,g7 s,f,g,and_self,if_true,Q01 p,o8]
 exact l
theorem h03{x:Value}{k:IntKind}{i:Int}{b:Nat}{c:BoundsCode}(f:x = .int k i)(d:0<=i)(e:i<=(b:Int))(a:Nat->Hp->Prop):wpR P (Instr.sliceBound x b c) H a=a i.toNat H:=by
 subst f
 simp only[Instr.sliceBound,asIntOf,G4,c5,d,e,and_self,if_true]
theorem c07{s:Bool}{n c:Nat}{f b:Option Operand}{l m:Int}(i:u00 a 0 f l)(d:u00 a n b m)(h:0<=l)(u:l<=m)(v:m<=(n:Int))(w:n<=c)
  (g:Nat×Nat×Nat->Hp->Prop):wpR P (Instr.sliceBounds s n c (f.map a.eval) (b.map a.eval) none) H g=g (l.toNat,m.toNat,c) H:=by
 have q:l<=(m.toNat:Int):=by omega
 cases f with
 |none =>
  have p:l=0:=i
  subst p
  cases b with
  |none =>
   have j:m=(n:Int):=d
   simp_all[Instr.sliceBounds,Option.map_none,G4,c5]
  |some t =>
   obtain⟨k,e⟩:=d
   simp only[Instr.sliceBounds,Option.map_none,Option.map_some,G4,c5,h03 e (by omega) (show m<=(c:Int) by omega)];rfl
 |some x =>
  obtain⟨k,o⟩:=i
  cases b with
  |none =>
   have j:m=(n:Int):=d
   subst j
   simp only[Instr.sliceBounds,Option.map_none,Option.map_some,G4,c5,h03 o h (show l<=((n:Nat):Int) by omega)];rfl
  |some t =>
   obtain⟨y,e⟩:=d
   simp only[Instr.sliceBounds,Option.map_some,G4,c5,h03 e (by omega) (show m<=(c:Int) by omega),h03 o h q]
theorem exec_cutStr{t:TypeId}{x:Operand}{e d:Option Operand}{b:ByteArray}{l m:Int}(n:o.op = .slice t x e d none)(p:P.underlying t=some .string)
  (q:a.eval x = .string b) (j:u00 a 0 e l) (k:u00 a b.size d m) (f:0<=l) (g:l<=m) (h:m<=(b.size:Int)) :
  ∀ c:Next->Hp->Prop,c (.value (.string (b.extract l.toNat m.toNat))) H->wpR P (execOp a.eval o) H c:=by
 intro c i
 unfold execOp;rw[n]
 refine C5 _ _ _ ?_
 simp only[Instr.sliceAt,G4,g7 p,Instr.slice,q,Option.map_none,Option.isSome_none,Bool.false_eq_true,if_false,c5]
 rw[c07 j k f g h (Nat.le_refl _)]
 exact i
theorem exec_index{t:TypeId}{x i:Operand}{b:ByteArray}{k:IntKind}{j:Int}{c:UInt8}(l:o.op = .index t x i)(m:P.underlying t=some .string)(n:a.eval x = .string b)(g:a.eval i = .int k j)
  (e:0<=j) (f:b[j.toNat]?=some c):∀ d:Next->Hp->Prop,d (.value (.int .u8 c.toNat)) H->wpR P (execOp a.eval o) H d:=by
 intro d h
 unfold execOp;rw[l]
 refine C5 _ _ _ ?_
 simp only[Instr.index,n,g,asIntOf,G4,c5,g7 m,e,if_true,f]
 exact h
theorem exec_cat{t k:TypeId}{x e:Operand}{b c:ByteArray}(h:o.op = .binOp .add t x e k)(i:a.eval x = .string b)(j:a.eval e = .string c)(l:b.size+c.size<=9223372036854775807):
  ∀ d:Next->Hp->Prop,d (.value (.string (b++c))) H->wpR P (execOp a.eval o) H d:=by
 intro d f
 unfold execOp;rw[h]
 refine C5 _ _ _ ?_
 have g : ¬ (((b.size+c.size:Nat):Int)>IntKind.i64.max):=by
  have:IntKind.i64.max=9223372036854775807:=by decide
  rw[this];omega
 simp only[i,j,eqGuard,G4,Bool.not_false,if_true,c5,binOp,Go.Op.stringOp,if_neg g]
 exact f
theorem exec_quo{t k:TypeId}{x e:Operand}{b c:Int}(h:o.op = .binOp .quo t x e k)(i:a.eval x = .int .i64 b)(j:a.eval e = .int .i64 c)(g:c≠0):
  ∀ d:Next->Hp->Prop,d (.value (.int .i64 (IntKind.i64.wrap (b.tdiv c)))) H->wpR P (execOp a.eval o) H d:=by
 intro d f
 unfold execOp;rw[h]
 refine C5 _ _ _ ?_
 simp only[i,j,eqGuard,G4,Bool.not_false,if_true,c5,binOp,Go.Op.intDiv,if_neg g,ne_eq,not_true_eq_false,if_false]
 exact f
theorem exec_rem{t k:TypeId}{x e:Operand}{b c:Int}(h:o.op = .binOp .rem t x e k)(i:a.eval x = .int .i64 b)(j:a.eval e = .int .i64 c)(g:c≠0):
  ∀ d:Next->Hp->Prop,d (.value (.int .i64 (b.tmod c))) H->wpR P (execOp a.eval o) H d:=by
 intro d f
 unfold execOp;rw[h]
 refine C5 _ _ _ ?_
 simp only[i,j,eqGuard,G4,Bool.not_false,if_true,c5,binOp,Go.Op.intDiv,if_neg g,ne_eq,not_true_eq_false,if_false]
 exact f
theorem exec_slice{t e sz:Nat}{x:Operand}{g f:Option Operand}{d:Option Addr}{n c:Nat}{l m:Int}(s:o.op = .slice t x g f none)(u:B7 P t=some e)(y:E4 P e=some sz)
  (v:a.eval x = .slice d n c) (k:u00 a 0 g l) (p:u00 a n f m) (h:0<=l) (i:l<=m) (j:m<=(n:Int)) (q:n<=c) :
  ∀ b:Next->Hp->Prop,b (.value (.slice (if c=l.toNat then d else d.map (·.add (l.toNat*sz))) (m.toNat-l.toNat) (c-l.toNat))) H->wpR P (execOp a.eval o) H b:=by
 intro b w
 unfold execOp;rw[s]
 refine C5 _ _ _ ?_
 simp only[Instr.sliceAt,G4,g7 (l6 u),Instr.slice,v,Option.map_none]
 rw[c07 k p h i j q]
 grind[Q01,c5]
theorem exec_load{t:TypeId}{x:Operand}{b off:Nat}{v:Value}(d:o.op = .load t x)(g:a.eval x=ptr b off)
  (f:∀ c:Value->Hp->Prop,c v H->wpR P (loadVar t ⟨b,off,none⟩) H c):∀ c:Next->Hp->Prop,c (.value v) H->wpR P (execOp a.eval o) H c:=by
 intro c e
 unfold execOp;rw[d]
 refine C5 _ _ _ ?_
 grind[Instr.loadAt,ptr,Instr.sureAddr,G4,c5]
theorem run_of{v:Value}(e:∀ b:Next->Hp->Prop,b (.value v) H->wpR P (execOp a.eval o) H b)(w:World)(d:Vis H w):(execOp a.eval o).run P w = .ok (.value v) w:=by
 obtain⟨x,c,f⟩:=wpR_sound _ _ w d (e (λn _=>n = .value v) rfl)
 rw[c,f]
end
end Go.H.R
namespace Go.H
set_option linter.unusedVariables false
set_option linter.unusedSimpArgs false
section
variable {P:Program} {h0:Hp} {w0:World} {be:Nat->Nat} {oe:Nat->Value} {H:Hp} {rs:RS} {a:Act} {w:World} {o:Oper} {ops:Array Oper} {i:Nat}
theorem N0h{a b:Bool}(h:eqB a b=true):a=b:=by cases a<;>cases b<;>simp_all [eqB]
theorem C09:∀(a b:List (Nat×Bool)),V0e a b=true->a=b
 | [],[],_=>rfl
 |(j,w)::r,(f,g)::e,h=>by
  simp only[V0e]at h
  split at h
  ·rename_i c d
   rw[Nat.eq_of_beq_eq_true c,N0h d,C09 r e h]
  ·cases h
 | [],_::_,h=>by cases h
 |_::_,[],h=>by cases h
theorem w9:∀ {bs:List BE} {j:Nat} {b:BE},N8 bs j=some b->b∈bs/\b.j=j
 | [],_,_,h=>by cases h
 |x::r,j,b,h=>by
  simp only[N8]at h
  split at h
  ·simp_all
  ·obtain⟨a,c⟩:=w9 h
   grind
theorem s05:∀ {bs:List BE} {a:Nat} {b:BE},k04 bs a=some b->b∈bs/\b.d=a
 | [],_,_,h=>by cases h
 |x::r,j,b,h=>by
  simp only[k04]at h
  split at h
  ·simp_all
  ·obtain⟨c,e⟩:=s05 h
   grind
theorem d07:∀ {bs:List BE} {c:Nat},k04 bs c=none->∀ b∈bs,b.d≠c
 | [],_,_,b,a=>by cases a
 |x::r,c,h,b,a=>by
  simp only[k04]at h
  split at h
  ·cases h
  ·rename_i e
   rcases List.mem_cons.1 a with rfl|a
   ·exact Nat.ne_of_beq_eq_false e
   ·exact d07 h b a
theorem e00(bs:List BE)(j:Nat)(w:Bool)(r:List (Nat×Bool)):cB bs ((j,w)::r)=match N8 bs j,cB bs r with
  |some b,some c=>some (lit w b.e&&c)
  |_,_=>none:=by
 grind[cB,N8,lit]
theorem F0g{bs:List BE}{x:Nat×Bool}{r:List (Nat×Bool)}(h:cB bs (x::r)=some true):cB bs r=some true:=by
 rw[e00]at h
 grind
theorem i03{bs:List BE}{p:List (Nat×Bool)}:∀ {q:List (Nat×Bool)},k0a p q=true->cB bs q=some true->cB bs p=some true
 | [],h,a=>by rw[C09 _ _ h];exact a
 |x::r,h,a=>by
  simp only[k0a]at h
  split at h
  ·grind[C09]
  ·exact i03 h (F0g a)
theorem W0b{bs:List BE}{x:BE}(f:∀ g∈bs,g.j≠x.j):∀ {ch:List (Nat×Bool)} {c:Bool},cB bs ch=some c->cB (x::bs) ch=some c
 | [],c,h=>h
 |(j,w)::r,c,h=>by
  rw[e00]at h
  split at h
  ·rename_i b i d a
   have m:Nat.beq x.j j=false:=by
    obtain⟨k,l⟩:=w9 d
    grind[Nat.beq,absurd,Nat.eq_of_beq_eq_true]
   have e:N8 (x::bs) j=some b:=by grind[N8]
   rw[e00,e,W0b f a]
   exact h
  ·cases h
structure F02 (ops:Array Oper) (be:Nat->Nat) (oe:Nat->Value) (rs:RS) (a:Act) (i:Nat):Prop where
 lt:∀ x∈rs.bs,x.j<i/\∃ o,ops[x.j]?=some o/\o.dst=some x.d
 val:∀ x∈rs.bs,∃ c,cB rs.bs x.ch=some c/\a.tmps[x.d]?=some (if c=true then .bool x.e else undef)
 gf:∀ d ch av,M06 rs.gf d=some (ch,av)->∃ c,cB rs.bs ch=some c/\(c=true->J1 rs.st be oe av (a.tmps.getD d undef))
theorem F02.grow(r:F02 ops be oe rs a i){st:St}{h:Hp}{be':Nat->Nat}{oe':Nat->Value}(g:U4 rs.st be oe st be' oe'):F02 ops be' oe' { rs with st:=st,h:=h } a i :=
 ⟨r.lt,r.val,λd ch av e=>let ⟨c,h1,h2⟩:=r.gf d ch av e;⟨c,h1,λb=>(h2 b).grow g⟩⟩
theorem a0e(r:F02 ops be oe rs a i){ch:List (Nat×Bool)}{c:Bool}(d:K6 rs.bs o.guard=some ch)(f:cB rs.bs ch=some c):Region.wanted o (yielded ops a.tmps)=c:=by
 unfold Region.wanted
 cases hg:o.guard with
 |none =>
  rw[hg]at d
  cases d
  cases f
  rfl
 |some p =>
  obtain⟨j,w⟩:=p
  rw[hg]at d
  simp only[K6]at d
  split at d
  ·rename_i b h
   cases d
   obtain⟨k,rfl⟩:=w9 h
   obtain⟨_,t,n,m⟩:=r.lt b k
   obtain⟨g,l,q⟩:=r.val b k
   rw[e00,h,l]at f
   simp only[Option.some.injEq]at f
   have s:yielded ops a.tmps b.j=if g=true then some b.e else none:=by
    unfold yielded
    simp only[n,m,oB,q]
    cases g<;>rfl
   simp only[s,←f]
   cases g<;>cases w<;>cases b.e<;>rfl
  ·cases d
theorem e07(n:Sim P h0 w0 be oe H rs.st rs.h a w)(r:F02 ops be oe rs a i){ch:List (Nat×Bool)}(k:cB rs.bs ch=some true)(x:Operand):
  (∃ b,J1 rs.st be oe b (a.eval x)/\rdG rs ch x=rdA rs.st b):=by
 cases x with
 |tmp t =>
  simp only[rdG]
  split
  ·rename_i e av l
   split
   ·rename_i m
    obtain⟨c,d,j⟩:=r.gf t e av l
    rw[i03 m k]at d
    cases d
    exact⟨av,j rfl,rfl⟩
   ·exact⟨.dead,trivial,rfl⟩
  ·exact⟨_,n.fr t,rfl⟩
 |const v=>exact⟨.val v,rfl,rfl⟩
 |global g=>exact⟨.dead,trivial,rfl⟩
 |func f=>exact⟨.val _,rfl,rfl⟩
theorem v00(y:Sim P h0 w0 be oe H rs.st rs.h a w)(r:F02 ops be oe rs a i)(V:ops[i]?=some o){ch:List (Nat×Bool)}{c:Bool}{av:AV}{v:Value}{K:RS->Prop}
  (D:cB rs.bs ch=some c) (g:c=true->J1 rs.st be oe av v) (L:c=false->v=undef) (m:N06 o.dst i ch av rs K) :
  ∃ B,K B/\B.h=rs.h/\F02 ops be oe B (a.put o.dst v) (i+1)/\Sim P h0 w0 be oe H B.st B.h (a.put o.dst v) w:=by
 cases hd:o.dst with
 |none =>
  rw[hd]at m
  exact⟨rs,m,rfl,⟨λx p=>⟨Nat.lt_succ_of_lt (r.lt x p).1,(r.lt x p).2⟩,r.val,r.gf⟩,y⟩
 |some d =>
  rw[hd]at m
  simp only[N06]at m
  split at m
  ·rename_i Q Y
   have E:d<rs.st.n:=Nat.le_of_ble_eq_true Q
   have Z:M06 rs.gf d=none/\k04 rs.bs d=none:=by
    grind[w02]
   have T:∀ t,t≠d->(a.put (some d) v).tmps[t]?=a.tmps[t]?:=λt R=>by
    simp[Act.put,Array.getElem?_setIfInBounds_ne (Ne.symm R)]
   have O:(a.put (some d) v).tmps[d]?=some v:=by simp[Act.put,y.siz,E]
   have p:∀ G∈rs.bs,G.j≠i:=λG S e=>by have:=(r.lt G S).1;omega
   have u:(∀ x∈m0a i d ch av rs.bs,x.j<i+1/\∃ o,ops[x.j]?=some o/\o.dst=some x.d) /\
     (∀ x∈m0a i d ch av rs.bs,∃ c,cB (m0a i d ch av rs.bs) x.ch=some c/\(a.put (some d) v).tmps[x.d]?=some (if c=true then .bool x.e else undef)) /\
     (∀ f b,cB rs.bs f=some b->cB (m0a i d ch av rs.bs) f=some b):=by
    have W:∀ x∈rs.bs,x.j<i+1/\∃ o,ops[x.j]?=some o/\o.dst=some x.d:=λx p=>⟨Nat.lt_succ_of_lt (r.lt x p).1,(r.lt x p).2⟩
    have X:∀ x∈rs.bs,∃ c,cB rs.bs x.ch=some c/\(a.put (some d) v).tmps[x.d]?=some (if c=true then .bool x.e else undef):=λx p=>by
     obtain⟨c,s,z⟩:=r.val x p
     grind[d07]
    unfold m0a
    split
    ·rename_i e
     have I:∀ f b,cB rs.bs f=some b->cB (⟨i,d,e,ch⟩::rs.bs) f=some b:=λf b M=>W0b (x:=⟨i,d,e,ch⟩) p M
     refine⟨λx F=>?_,λx F=>?_,I⟩
     ·grind
     ·rcases List.mem_cons.1 F with rfl|F
      ·refine⟨c,I _ _ D,?_⟩
       rw[O]
       cases c with
       |true=>rw[show v = .bool e from g rfl];rfl
       |false=>rw[L rfl];rfl
      grind
    grind
   have C:∀ k,U4 rs.st be oe { rs.st with fr:=(d,k)::rs.st.fr } be oe:=λk=>⟨Nat.le_refl _,λ_ _=>rfl,λi y h=>⟨y,h,Nat.le_refl _,λ_=>rfl⟩⟩
   have J:∀ l f k,M06 rs.gf l=some (f,k)->∃ b,cB (m0a i d ch av rs.bs) f=some b/\(b=true->J1 rs.st be oe k ((a.put (some d) v).tmps.getD l undef)):=λl f k q=>by
    obtain⟨b,s,z⟩:=r.gf l f k q
    refine⟨b,u.2.2 _ _ s,λA=>?_⟩
    have U:l≠d:=λe=>by grind
    simp_all
   split at m
   ·
    cases D
    refine⟨_,m,rfl,⟨u.1,u.2.1,λl f k q=>?_⟩,y.put E (g rfl)⟩
    obtain⟨b,s,z⟩:=J l f k q
    exact⟨b,s,λA=>(z A).grow (C av)⟩
   ·refine⟨_,m,rfl,⟨u.1,u.2.1,λl f k q=>?_⟩,y.put E (show J1 rs.st be oe .dead v from trivial)⟩
    simp only[M06]at q
    split at q
    ·rename_i N
     cases q
     have:=Nat.eq_of_beq_eq_true N
     subst this
     refine⟨c,u.2.2 _ _ D,λA=>(J1.grow (C .dead) ?_)⟩
     simp_all
    ·obtain⟨b,s,z⟩:=J l f k q
     exact⟨b,s,λA=>(z A).grow (C .dead)⟩
  ·exact m.elim
end
end Go.H
namespace Go.H
set_option linter.unusedVariables false
set_option linter.unusedSimpArgs false
section
variable {P:Program} {h0:Hp} {w0:World} {be:Nat->Nat} {oe:Nat->Value} {H:Hp} {rs:RS} {a:Act} {w:World} {o:Oper} {ops:Array Oper} {i:Nat}
theorem G02{bs:List BE}{ch:List (Nat×Bool)}{c:Bool}{X:Prop}(h:imp ch c X)(a:c=true):X:=by
 grind[imp]
def CW(H:Hp)(w:World):World->Prop:=λa=>L1 H w H a
theorem H02{v:Value}(c:∀ b,Vis H b->(execOp a.eval o).run P b = .ok (.value v) b):∀ b,CW H w b->o.quietAt P a (CW H w) b v:=λb m=>by
 unfold Oper.quietAt
 rw[c b m.vis]
 exact⟨rfl,rfl⟩
theorem a9{v:Value}(e:∀ c:Next->Hp->Prop,c (.value v) H->R.wpR P (execOp a.eval o) H c):∀ b,CW H w b->o.quietAt P a (CW H w) b v :=
 H02 λb d=>R.run_of e b d
theorem L1.widen{hf:Hp}{w d:World}(c:Vis H w)(e:∀ b o,hf b=some o->H b=some o)(m:L1 hf w hf d):L1 H w H d:=by
 refine⟨m.os,m.tape,m.output,m.size,?_,?_,λb a => .inl a,m.fz,m.dn⟩
 ·intro b a g
  refine m.keep b a ?_
  cases hc:hf b with
  |none=>rfl
  |some o=>grind
 ·intro b o a
  cases hc:hf b with
  |some f =>
   have:=e b f hc
   rw[this]at a;cases a
   exact m.vis b _ hc
  |none=>rw[m.keep b (c.lt (by rw[a];simp)) hc];exact c b o a
theorem w00{ch:List (Nat×Bool)}(G:∀ x,J1 rs.st be oe (rdG rs ch x) (a.eval x)):∀(l:List Operand) {vs:List (Nat×Value)},l0a rs ch l=some vs ->
  (∀ p∈vs,p.2=a.eval (.tmp p.1))/\(∀ x∈l,(∃ t v,x = .tmp t/\(t,v)∈vs)∨(∀ g,rho g x=a.eval x))
 | [],vs,h=>by cases h;simp
 | .tmp t::r,vs,h=>by
  simp only[l0a]at h
  split at h
  ·rename_i v i
   split at h
   ·rename_i j e
    cases h
    obtain⟨c,d⟩:=w00 G r e
    grind[a5,List.mem_cons_self,mC]
   ·cases h
  ·cases h
 | .global _::r,vs,h=>by cases h
 | .const v::r,vs,h=>by
  obtain⟨c,d⟩:=w00 G r (vs:=vs) h
  exact⟨c,λx b=>by
   rcases List.mem_cons.1 b with rfl|b
   ·exact .inr λ_=>rfl
   ·exact d x b⟩
 | .func f::r,vs,h=>by
  obtain⟨c,d⟩:=w00 G r (vs:=vs) h
  exact⟨c,λx b=>by
   rcases List.mem_cons.1 b with rfl|b
   ·exact .inr λ_=>rfl
   ·exact d x b⟩
abbrev p0i(P:Program)(be:Nat->Nat)(oe:Nat->Value)(H:Hp)(rs:RS)(a:Act)(w:World)(o:Oper)(c:Bool)(K:AV->Prop):Prop :=
 ∃ av,K av/\(c=true->∃ v,J1 rs.st be oe av v/\∀ b,CW H w b->o.quietAt P a (CW H w) b v)
variable {ch:List (Nat×Bool)} {c:Bool} {K:AV->Prop}
theorem R01(G:∀ x,J1 rs.st be oe (rdG rs ch x) (a.eval x)):∀(l:List Operand) {st:St} {h:Hp} {K:List (Nat×Value)->St->Hp->Prop},Sim P h0 w0 be oe H st h a w->U4 rs.st be oe st be oe->x0g rs ch l st h K ->
  ∃ vs st' n,K vs st' n/\Sim P h0 w0 be oe H st' n a w/\(∀ p∈vs,p.2=a.eval (.tmp p.1))/\(∀ x∈l,(∃ t v,x = .tmp t/\(t,v)∈vs)∨(∀ s,rho s x=a.eval x))
 | [],st,h,K,c,d,b=>⟨[],st,h,b,c,by simp,by simp⟩
 | .tmp t::r,st,h,K,c,d,b=>by
  obtain⟨y,u,o,s1,q⟩:=P8 c (c.rdA ((G (.tmp t)).grow d)) b
  obtain⟨vs,m,i,g,s2,j,k⟩:=R01 G r s1 (d.trans q) o
  grind
 | .const v::r,st,h,K,c,d,b=>by
  obtain⟨vs,m,i,g,s2,j,k⟩:=R01 G r c d b
  refine⟨vs,m,i,g,s2,j,λx e=>?_⟩
  rcases List.mem_cons.1 e with rfl|e
  ·exact .inr λ_=>rfl
  ·exact k x e
 | .func f::r,st,h,K,c,d,b=>by
  obtain⟨vs,m,i,g,s2,j,k⟩:=R01 G r c d b
  refine⟨vs,m,i,g,s2,j,λx e=>?_⟩
  rcases List.mem_cons.1 e with rfl|e
  ·exact .inr λ_=>rfl
  ·exact k x e
 | .global _::_,_,_,_,_,_,b=>b.elim
theorem T5(z:Sim P h0 w0 be oe H rs.st rs.h a w)(G:c=true->∀ x,J1 rs.st be oe (rdG rs ch x) (a.eval x))(d:n09 P o ch c rs K):p0i P be oe H rs a w o c K:=by
 unfold n09 at d
 split at d
 ·rename_i vs D B
  split at d
  ·rename_i f l n
   split at d
   ·rename_i u
    obtain⟨v,y,s⟩:=d
    refine⟨_,s,λg=>?_⟩
    obtain⟨k,p⟩:=w00 (G g) _ B
    rw[L01 k p]at n
    refine⟨v,rfl,λj m=>?_⟩
    unfold Oper.quietAt
    rw[c03 n u]
    refine⟨rfl,((G02 (bs:=rs.bs) y g).run j (λb o q=>m.vis b o (z.sub b o q))).mono ?_⟩
    rintro e J ⟨I,C,rfl,⟨rfl,rfl⟩,t⟩
    exact⟨rfl,L1.trans m (L1.widen m.vis z.sub t)⟩
   ·exact d.elim
  ·split at d
   ·rename_i v A
    refine⟨_,d,λg=>?_⟩
    obtain⟨k,p⟩:=w00 (G g) _ B
    rw[W06,q05 D k p]at A
    exact⟨v,rfl,H02 λj _=>N0c _ A j⟩
   ·exact d.elim
 ·obtain⟨r,y,s⟩:=d
  refine⟨_,s,λg=>⟨r,rfl,λj m=>?_⟩⟩
  obtain⟨vs,L,k,i,s1,E,F⟩:=R01 (G g) _ z (U4.refl _ _ _) (G02 (bs:=rs.bs) y g)
  rw[L01 E F]at i
  split at i
  ·rename_i f l n
   split at i
   ·rename_i u
    unfold Oper.quietAt
    rw[c03 n u]
    refine⟨rfl,(i.run j (λb o q=>m.vis b o (s1.sub b o q))).mono ?_⟩
    rintro e J ⟨I,C,rfl,⟨rfl,rfl⟩,t⟩
    exact⟨rfl,L1.trans m (L1.widen m.vis s1.sub t)⟩
   ·exact i.elim
  ·exact i.elim
 ·exact d.elim
theorem Q00{d l:Int}{x:Option Operand}(G:∀ x,J1 rs.st be oe (rdG rs ch x) (a.eval x))(b:K00 d (x.map (rdG rs ch))=some l):u00 a d x l:=by
 cases x with
 |none=>simp only[Option.map_none,K00,Option.some.injEq]at b;exact b.symm
 |some c =>
  have g:=G c
  simp only[Option.map_some]at b
  cases hr:rdG rs ch c with
  |val v =>
   rw[hr]at b g
   cases v<;>simp only[K00,Option.some.injEq]at b<;>first|(subst b;exact⟨_,g⟩)|cases b
  |_=>rw[hr]at b;cases b
theorem l0f(o:Sim P h0 w0 be oe H rs.st rs.h a w){d:AV}{x:Value}(p:J1 rs.st be oe d x){cs:List i4}(b:E7 (rdA rs.st d)=some cs):Y0 rs.st oe cs x.cells.toList:=by
 have g:=o.rdA p
 cases hr:rdA rs.st d with
 |val v =>
  rw[hr]at b g
  have f:x=v:=g
  rw[f]
  cases v<;>simp only[E7,Option.some.injEq]at b<;>first|(subst b;first|exact Y0.vals _ _ _|exact⟨rfl,trivial⟩)|cases b
 |own i k =>
  rw[hr]at b g
  obtain⟨e,sz,by_,nn,xs,j⟩:=J01 hr
  simp only[E7,Option.some.injEq]at b
  subst b
  have l:x=oe i:=g.own_cur j
  obtain⟨s,n,c,m⟩:=X06 o j
  rw[l,m]
  rw[l,m]at g
  exact⟨g,trivial⟩
 |agg cs' =>
  rw[hr]at b g
  simp only[E7,Option.some.injEq]at b
  subst b
  obtain⟨vs,f,q⟩:=g
  rw[f]
  exact q
 |_=>rw[hr]at b;cases b
set_option maxHeartbeats 1000000 in
theorem b0e(A:Sim P h0 w0 be oe H rs.st rs.h a w)(r:F02 ops be oe rs a i)(au:cB rs.bs ch=some c)(s:evG P o ch c rs K):p0i P be oe H rs a w o c K:=by
 have ac:c=true->∀ x,∃ J,J1 rs.st be oe J (a.eval x)/\rdG rs ch x=rdA rs.st J:=λh x=>by subst h;exact e07 A r au x
 have G:c=true->∀ x,J1 rs.st be oe (rdG rs ch x) (a.eval x):=λh x=>by
  obtain⟨J,g,e⟩:=ac h x
  rw[e];exact A.rdA g
 have I:∀ {X:Prop},imp ch c X->c=true->X:=λh au=>G02 (bs:=rs.bs) h au
 have bF:∀ E,CW H w E->Vis H E:=λE m=>m.vis
 cases ho:o.op with
 |move x =>
  simp only[evG,ho]at s
  have B:K (rdG rs ch x):=by revert s;cases rdG rs ch x<;>intro s<;>first|exact s|exact s.elim
  refine⟨_,B,λh=>⟨_,G h x,H02 λE _=>?_⟩⟩
  unfold execOp;rw[ho];rfl
 |assign x =>
  simp only[evG,ho]at s
  have B:K (rdG rs ch x):=by revert s;cases rdG rs ch x<;>intro s<;>first|exact s|exact s.elim
  refine⟨_,B,λh=>⟨_,G h x,H02 λE _=>?_⟩⟩
  unfold execOp;rw[ho];rfl
 |pick ad x O =>
  cases ad with
  |tmp t =>
   simp only[evG,ho]at s
   split at s
   ·rename_i e q aL bj
    split at s
    ·rename_i bl
     split at s
     ·rename_i bx by_ u F
      refine⟨_,s,λh=>?_⟩
      have aR:=G h (.tmp t)
      rw[aL]at aR
      have bc:a.eval (.tmp t) = .bool e:=aR
      subst h
      obtain⟨W,bk⟩:=s05 bj
      have aK:=i03 bl au
      obtain⟨aP,D,aj⟩:=r.val q W
      rw[aK]at D
      cases D
      have bI:q.e=e:=by
       have:a.eval (.tmp t) = .bool q.e:=by
        simp only[Act.eval,←bk,Array.getD_eq_getD_getElem?,aj];rfl
       grind
      have V:∃ b,N8 rs.bs q.j=some b:=by
       have:∀(l:List BE),q∈l->∃ b,N8 l q.j=some b:=by
        intro l
        induction l with
        |nil=>intro h;cases h
        |cons z l bp =>
         grind[N8,absurd,Nat.ne_of_beq_eq_false]
       exact this _ W
      obtain⟨b,U⟩:=V
      obtain⟨aT,bf⟩:=w9 U
      have aS:b.e=e/\cB rs.bs b.ch=some true:=by
       obtain⟨_,bN,aM,aN⟩:=r.lt b aT
       obtain⟨_,bO,M,N⟩:=r.lt q W
       rw[bf,M]at aM
       cases aM
       rw[N]at aN
       have bG:q.d=b.d:=by simpa using aN
       obtain⟨aP,am,an⟩:=r.val b aT
       grind[undef]
      refine⟨.bool (cond e bx by_),rfl,H02 λE _=>?_⟩
      unfold execOp;rw[ho]
      simp only[bc,Sem.run_bind,asBool,Sem.run_pure,Result.andThen_ok]
      cases e with
      |true =>
       have aG:cB rs.bs ((q.j,true)::q.ch)=some true:=by
        rw[e00,U,aK];simp[lit,aS.1]
       obtain⟨J,ap,aq⟩:=e07 A r aG x
       have ai:=A.rdA ap
       rw[←aq,u]at ai
       have aC:a.eval x = .bool bx:=ai
       simp[aC]
      |false =>
       have aG:cB rs.bs ((q.j,false)::q.ch)=some true:=by
        rw[e00,U,aK];simp[lit,aS.1]
       obtain⟨J,ap,aq⟩:=e07 A r aG O
       have ai:=A.rdA ap
       rw[←aq,F]at ai
       have aC:a.eval O = .bool by_:=ai
       simp[aC]
     ·exact s.elim
    ·exact s.elim
   ·exact s.elim
  |_=>simp only[evG,ho]at s;exact T5 A G s
 |fieldAddr t x k =>
  simp only[evG,ho]at s
  split at s
  ·rename_i j off ah C aa
   refine⟨_,s,λh=>?_⟩
   have g:=G h x
   rw[C]at g
   exact⟨ptr (be j) (off+ah),⟨g.1,rfl⟩,a9 (R.exec_fieldAddr ho aa g.2)⟩
  ·rename_i sl j sz ao ah C aa
   refine⟨_,s,λh=>?_⟩
   have g:=G h x
   rw[C]at g
   obtain⟨b,az,n,Q,L,ag⟩:=g
   exact⟨ptr b (az+(j.toNat*sz+ao)+ah),⟨b,az,n,Q,L,by simp[Nat.add_assoc]⟩,a9 (R.exec_fieldAddr ho aa ag)⟩
  ·rename_i aV bq j sz ao ah C aa
   refine⟨_,s,λh=>?_⟩
   have g:=G h x
   obtain⟨J,_,T⟩:=ac h x
   rw[C]at g
   obtain⟨aB,aA,aO,aX,aZ,Z⟩:=s09 (T.symm.trans C)
   obtain⟨ar,n,Q,L,ag⟩:=g.oel_cur Z
   exact⟨ptr ar (j.toNat*sz+ao+ah),⟨bq,by simp[stamp,Z],Nat.le_refl _,λ_=>⟨ar,n,Q,L,by simp[Nat.add_assoc]⟩⟩,a9 (R.exec_fieldAddr ho aa ag)⟩
  ·exact s.elim
 |indexAddr t x ax =>
  simp only[evG,ho]at s
  split at s
  ·rename_i br j ak
   split at s
   ·rename_i e af
    split at s
    ·rename_i sz aw
     split at s
     ·rename_i a0 n Q u
      refine⟨_,s.2,λh=>?_⟩
      obtain⟨b,off,aW,aP,L,M,N⟩:=I s.1 h
      cases L
      have y:=G h x
      rw[u]at y
      have gi:=G h ax
      rw[ak]at gi
      exact⟨ptr b (off+j.toNat*sz),⟨b,off,n,Q,rfl,by simp⟩,a9 (R.exec_indexAddr ho af aw y gi M N)⟩
     ·rename_i aV ao u
      split at s
      ·rename_i aY ba aA by_ nn xs Y
       split at s
       ·rename_i U
        refine⟨_,s.2,λh=>?_⟩
        obtain⟨M,N⟩:=I s.1 h
        have:=Nat.eq_of_beq_eq_true U
        subst this
        have y:=G h x
        obtain⟨J,_,T⟩:=ac h x
        rw[u]at y
        have gi:=G h ax
        rw[ak]at gi
        obtain⟨aB,bv,aO,aX,aZ,Z⟩:=J01 (T.symm.trans u)
        have aU:=y.own_cur Z
        have ae:=A.own aV _ _ _ _ _ _ Y
        rcases ae.2 with⟨ab,bn,_⟩|⟨g,cap,cur,ab,_⟩
        ·grind
        ·rw[ab]at aU
         refine⟨ptr g (0+j.toNat*aA),⟨ao,by simp[stamp,Z],Nat.le_refl _,λ_=>⟨g,xs.length,cap,ab,by simp⟩⟩,a9 (R.exec_indexAddr ho af aw aU gi M N)⟩
       ·exact s.elim
      ·exact s.elim
     ·exact s.elim
    ·exact s.elim
   ·exact s.elim
  ·exact s.elim
 |load t x =>
  simp only[evG,ho]at s
  split at s
  ·rename_i j off C
   split at s
   ·rename_i cs ty Y
    obtain⟨D,vs,aj,aD⟩:=A.box j cs ty Y
    obtain⟨av,v,am,an,ay⟩:=R.load_row (H:=H) (b:=be j) (o:=0) (be:=be) s aj (λj v V=>by simp[Hp.cell,aD,V])
    refine⟨av,am,λh=>⟨v,an,a9 ?_⟩⟩
    have g:=G h x
    rw[C]at g
    exact R.exec_load ho g.2 (by simpa using ay)
   ·exact s.elim
  ·rename_i sl idx sz k C
   obtain⟨e,aH,B⟩:=s
   cases c with
   |false =>
    grind[H00]
   |true =>
    have aF:=I aH rfl
    have g:=G rfl x
    rw[C]at g
    obtain⟨b,az,n,Q,L,ag⟩:=g
    obtain⟨_,_,bB,bM,aW,bD,aQ,bg⟩:=aF
    rw[L]at aQ;cases aQ
    obtain⟨av,v,am,an,ay⟩:=R.load_row (H:=H) (b:=b) (o:=az+idx.toNat*sz) (be:=be) B (Y0.vals rs.st oe e) (λj v V=>by
     have:=bg j v V
     unfold Hp.cell at this ⊢
     split at this
     ·rename_i bi;rw[A.sub _ _ bi];exact this
     ·cases this)
    grind[a9,R.exec_load,Nat.add_assoc]
  ·rename_i j aY idx sz k C
   split at s
   ·rename_i bQ ba aA by_ nn xs Y
    split at s
    ·rename_i U
     have aw:=Nat.eq_of_beq_eq_true U
     subst aw
     obtain⟨e,aH,B⟩:=s
     cases c with
     |false =>
      grind[H00]
     |true =>
      have aF:=I aH rfl
      have g:=G rfl x
      obtain⟨J,_,T⟩:=ac rfl x
      rw[C]at g
      obtain⟨aB,bR,aO,aX,aZ,Z⟩:=s09 (T.symm.trans C)
      obtain⟨ar,n,Q,L,ag⟩:=g.oel_cur Z
      have ae:=A.own j _ _ _ _ _ _ Y
      obtain⟨av,v,am,an,ay⟩:=R.load_row (H:=H) (b:=ar) (o:=idx.toNat*aA) (be:=be) B (Y0.vals rs.st oe e) (λj v V =>
       ae.cells L _ _ (N9 xs _ e (λx u=>(ae.1 x u).1) aF j v V))
      grind[a9,R.exec_load]
    ·exact s.elim
   ·exact s.elim
  ·exact s.elim
 |build t bP =>
  simp only[evG,ho]at s
  split at s
  ·rename_i bb z al bo
   split at s
   ·rename_i aE
    cases c with
    |false =>
     have:∀(l:List (Nat×Operand)) (cs:List i4) (K':List i4->Prop),v02 P bb (rdG rs ch) l cs K'->∃ cs,K' cs:=by
      intro l
      induction l with
      |nil=>intro cs K' h;exact⟨_,h⟩
      |cons p l bp =>
       grind[v02]
     grind
    |true =>
     obtain⟨av,v,am,an,ay⟩:=D0a (K':=K) A ho al bo aE (λx cs bH=>by
      obtain⟨J,ap,aq⟩:=ac rfl x
      grind[l0f]) s
     grind[H02]
   ·exact s.elim
  ·exact s.elim
 |index t x ax =>
  simp only[evG,ho]at s
  split at s
  ·rename_i b br j u ak al
   obtain⟨e,D,B⟩:=s
   refine⟨_,B,λh=>?_⟩
   have y:=G h x
   rw[u]at y
   have gi:=G h ax
   rw[ak]at gi
   obtain⟨M,N⟩:=I D h
   exact⟨_,rfl,a9 (R.exec_index ho al y gi M N)⟩
  ·exact s.elim
 |slice t x bJ ak bt =>
  cases bt with
  |some m=>simp only[evG,ho]at s;exact T5 A G s
  |none =>
   simp only[evG,ho]at s
   split at s
   ·rename_i b u al
    split at s
    ·rename_i l m aJ W
     refine⟨_,s.2,λh=>?_⟩
     obtain⟨D,aj,aD⟩:=I s.1 h
     have y:=G h x
     rw[u]at y
     exact⟨_,rfl,a9 (R.exec_cutStr ho al y (Q00 (G h) aJ) (Q00 (G h) W) D aj aD)⟩
    ·exact s.elim
   ·rename_i a0 n Q u
    split at s
    ·rename_i e af
     split at s
     ·rename_i sz aL
      split at s
      ·rename_i l m aJ W
       obtain⟨v,D,B⟩:=s
       refine⟨_,B,λh=>?_⟩
       obtain⟨⟨M,N,a1,a2⟩,a3⟩:=I D h
       have y:=G h x
       rw[u]at y
       refine⟨v,rfl,?_⟩
       rw[a3 _ _ _ rfl]
       exact a9 (R.exec_slice ho af aL y (Q00 (G h) aJ) (Q00 (G h) W) M N a1 a2)
      ·exact s.elim
     ·exact s.elim
    ·exact s.elim
   ·exact s.elim
 |binOp bu t x O bS =>
  cases bu with
  |add =>
   simp only[evG,ho]at s
   split at s
   ·rename_i b ad u F
    refine⟨_,s.2,λh=>?_⟩
    have y:=G h x
    rw[u]at y
    have S:=G h O
    rw[F]at S
    exact⟨_,rfl,a9 (R.exec_cat ho y S (I s.1 h))⟩
   grind[T5]
  |quo =>
   simp only[evG,ho]at s
   split at s
   ·rename_i b ad u F
    refine⟨_,s.2,λh=>?_⟩
    have y:=G h x
    rw[u]at y
    have S:=G h O
    rw[F]at S
    exact⟨_,rfl,a9 (R.exec_quo ho y S (I s.1 h))⟩
   ·exact T5 A G s
  |rem =>
   simp only[evG,ho]at s
   split at s
   ·rename_i b ad u F
    refine⟨_,s.2,λh=>?_⟩
    have y:=G h x
    rw[u]at y
    have S:=G h O
    rw[F]at S
    exact⟨_,rfl,a9 (R.exec_rem ho y S (I s.1 h))⟩
   ·exact T5 A G s
  |eql =>
   simp only[evG,ho]at s
   split at s
   ·rename_i xs bz u F
    obtain⟨b,D,B⟩:=s
    exact⟨_,B,λh=>⟨.bool b,rfl,H02 λE _=>I D h _ (a5 u (G h x)) (a5 F (G h O)) E⟩⟩
   ·rename_i bA aW bK u F
    obtain⟨b,D,B⟩:=s
    exact⟨_,B,λh=>⟨.bool b,rfl,H02 λE _=>I D h _ (a5 u (G h x)) (a5 F (G h O)) E⟩⟩
   ·exact T5 A G s
  |neq =>
   simp only[evG,ho]at s
   split at s
   ·rename_i xs bz u F
    obtain⟨b,D,B⟩:=s
    exact⟨_,B,λh=>⟨.bool b,rfl,H02 λE _=>I D h _ (a5 u (G h x)) (a5 F (G h O)) E⟩⟩
   grind[T5]
  |_=>simp only[evG,ho]at s;exact T5 A G s
 |call ad =>
  obtain⟨a4,as,bw⟩:=ad
  cases a4 with
  |builtin b =>
   cases b with
   |len =>
    simp only[evG,ho]at s
    split at s
    ·rename_i x t aE aa
     have bd:as = #[x]:=by apply Array.ext';simpa using aE
     have bm:bw = #[t]:=by apply Array.ext';simpa using aa
     split at s
     ·rename_i j k C
      split at s
      ·rename_i aY e sz by_ nn xs aB Y af
       refine⟨_,s,λh=>?_⟩
       have g:=G h x
       obtain⟨J,_,T⟩:=ac h x
       rw[C]at g
       obtain⟨L,bv,bC,bL,bT,bh⟩:=J01 (T.symm.trans C)
       have u:=g.own_cur bh
       have ae:=A.own j _ _ _ _ _ _ Y
       rcases ae.2 with⟨ab,bn,_⟩|⟨bE,cap,cur,ab,_⟩
       ·rw[ab]at u
        refine⟨.int .i64 xs.length,rfl,H02 λE _=>?_⟩
        grind[y04]
       ·rw[ab]at u
        exact⟨.int .i64 xs.length,rfl,H02 λE _=>y04 ho bd bm af u E⟩
      ·exact s.elim
     ·exact T5 A G s
    ·exact s.elim
   |_=>simp only[evG,ho]at s;exact T5 A G s
  |value f=>simp only[evG,ho]at s;exact T5 A G s
  |invoke r m=>simp only[evG,ho]at s;exact T5 A G s
 |_=>simp only[evG,ho]at s;exact T5 A G s
end
end Go.H
