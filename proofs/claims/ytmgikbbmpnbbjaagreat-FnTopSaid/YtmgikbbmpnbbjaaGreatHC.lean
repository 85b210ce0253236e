/- The library of the walks, part HC: plain laws over the model. -/
import Derived.Test.YtmgikbbmpnbbjaaGreatHB
namespace Go.H.R
open Go.H
set_option linter.unusedVariables false
set_option linter.unusedSimpArgs false
def wpR(P:Program){b:Type}:Sem b->Hp->(b->Hp->Prop)->Prop
 | .pure a,h,K=>K a h
 | .load _ a k,h,K=>∃ v,(a.spot=none/\Hp.cell h a.block a.off=some v)/\wpR P (k v) h K
 | .program k,h,K=>wpR P (k P) h K
 | .mark _ k,h,K=>wpR P k h K
 |_,_,_=>False
theorem wpR_sound{P:Program}{f:Type}{K:f->Hp->Prop}(e:Sem f):∀(h:Hp) (w:World),Vis h w->wpR P e h K->∃ x,e.run P w = .ok x w/\K x h:=by
 induction e with
 |pure a=>exact λh w c b=>⟨a,rfl,b⟩
 |load m a k d =>
  rintro h w c ⟨v,⟨i,g⟩,b⟩
  grind[Sem.run,D06]
 |program k d=>exact λh w c b=>d _ _ _ c b
 |mark m k d=>exact λh w c b=>d _ _ c b
 |_=>exact λh w c b=>b.elim
theorem P6{P:Program}{e c:Type}(b:Sem e)(f:e->Sem c):∀(h:Hp) (K:c->Hp->Prop),wpR P (b >>= f) h K=wpR P b h (λx h'=>wpR P (f x) h' K):=by
 change ∀(h:Hp) (K:c->Hp->Prop),wpR P (b.bind f) h K=wpR P b h (λx h'=>wpR P (f x) h' K)
 induction b with
 |pure a=>intro h K;rfl
 |load m a k d=>grind[Sem.bind,wpR]
 |program k d=>grind[Sem.bind,wpR]
 |mark m k d=>grind[Sem.bind,wpR]
 |_=>intro h K;rfl
theorem P7{P:Program}{a:Type}(x:a)(h:Hp)(K:a->Hp->Prop):wpR P (pure x) h K=K x h:=rfl
section
variable {P:Program} {h0:Hp} {w0:World} {be:Nat->Nat} {oe:Nat->Value} {H:Hp} {st:St} {h:Hp} {a:Act} {w:World} {o:Oper}
theorem Q00{t:TypeId}{d:TypeDesc}(a:P.underlying t=some d)(h:Hp)(K:TypeDesc->Hp->Prop):wpR P (underlying t) h K=K d h:=by
 simp_all[underlying,program,P6,wpR,P7]
theorem L0i{t:TypeId}{i:TypeInfo}(a:P.info? t=some i)(h:Hp)(K:TypeInfo->Hp->Prop):wpR P (typeInfo t) h K=K i h:=by
 grind[typeInfo,program,P6,wpR,P7]
theorem y07{t:TypeId}{n:Nat}(a:R5 P t=some n)(h:Hp)(K:Nat->Hp->Prop):wpR P (sizeOf t) h K=K n h:=by
 grind[R5,sizeOf,P6,L0i,P7]
theorem Y0g{t:TypeId}{b:Bool}(a:q0i P t=some b)(h:Hp)(K:Bool->Hp->Prop):wpR P (isAgg t) h K=K b h:=by
 unfold q0i at a
 grind[isAgg,P6,Q00,P7,absurd]
theorem a06{H:Hp}{b o:Nat}:∀(vs:List Value) (i:Nat) (acc:Array Value) (K:Array Value->Hp->Prop),(∀ j v,vs[j]?=some v->Hp.cell H b (o+i+j)=some v) ->
  K (acc++vs.toArray) H->wpR P (loadCellsFrom ⟨b,o,none⟩ i vs.length acc) H K
 | [],i,acc,K,_,c=>by grind[loadCellsFrom,P7]
 |v::vs,i,acc,K,a,c=>by
  have h0:=a 0 v (by simp)
  simp only[loadCellsFrom,List.length_cons,P6,load,wpR]
  have d:(⟨b,o,none⟩:Addr).add i=⟨b,o+i,none⟩:=by unfold Addr.add;split<;>simp_all
  rw[d]
  refine⟨v,⟨rfl,by simpa using h0⟩,a06 vs (i+1) (acc.push v) K ?_ ?_⟩
  ·intro j u e
   have:=a (j+1) u (by simpa using e)
   grind
  ·simpa using c
theorem load_row{t:TypeId}{cs:List F5}{vs:List Value}{off:Nat}{K:AV->Prop}{b o:Nat}(a:l05 P t cs off K)(g:Z1 st oe cs vs)
  (p:∀ j v,vs[j]?=some v->Hp.cell H b (o+j)=some v):∃ av v,K av/\D2 st be oe av v/\∀ d:Value->Hp->Prop,d v H->wpR P (loadVar t ⟨b,o+off,none⟩) H d:=by
 unfold l05 at a
 split at a
 ·rename_i e
  split at a
  ·rename_i n f
   split at a
   ·rename_i l
    have m:=X02 _ _ l
    have h:=(g.drop off).take n
    refine⟨_,.agg ((vs.drop off).take n).toArray,a,⟨_,rfl,h⟩,λd k=>?_⟩
    have s:((vs.drop off).take n).length=n:=by rw[←h.length,m]
    simp only[loadVar,P6,Y0g e,if_true,y07 f,loadCells]
    have:=a06 (P:=P) (H:=H) (b:=b) (o:=o+off) ((vs.drop off).take n) 0 #[] (λx h'=>wpR P (pure (Value.agg x)) h' d) (λj v q=>by
     grind) (by grind[P7])
    grind
   ·exact a.elim
  ·exact a.elim
 ·rename_i e
  split at a
  ·rename_i c f
   obtain⟨v,u,i⟩:=g.nth f
   refine⟨_,v,a,D2.ofCell i,λd k=>?_⟩
   simp only[loadVar,P6,Y0g e,Bool.false_eq_true,if_false,load,wpR]
   grind
  ·exact a.elim
 ·exact a.elim
theorem l8{P:Program}(b:Sem Value)(H:Hp)(a:Next->Hp->Prop)(h:wpR P b H (λv H=>a (.value v) H)):wpR P (do pure (Next.value (←b))) H a:=by
 rw[P6];exact h
theorem exec_fieldAddr{t:TypeId}{x:Operand}{k d b off:Nat}(h:o.op = .fieldAddr t x k)(i:r0i P t k=some d)(l:a.eval x=ptr b off):
  ∀ c:Next->Hp->Prop,c (.value (ptr b (off+d))) H->wpR P (execOp a.eval o) H c:=by
 intro c e
 obtain⟨m,f,n,j,hf,g,rfl⟩:=W0g i
 unfold execOp;rw[h]
 refine l8 _ _ _ ?_
 simp only[Instr.fieldAt,P6,Q00 j,hf,l,ptr,Instr.sureAddr,P7,fieldPlace,y07 g,Nat.add_one_ne_zero,if_false,S01]
 exact e
theorem exec_indexAddr{t e:TypeId}{x i:Operand}{k:IntKind}{j:Int}{sz b off n c:Nat}(m:o.op = .indexAddr t x i)(q:m01 P t=some e)(p:R5 P e=some sz)
  (u:a.eval x = .slice (some ⟨b,off,none⟩) n c) (h:a.eval i = .int k j) (f:0<=j) (g:j<(n:Int)) :
  ∀ d:Next->Hp->Prop,d (.value (ptr b (off+j.toNat*sz))) H->wpR P (execOp a.eval o) H d:=by
 intro d l
 have s:=J9 q
 unfold execOp;rw[m]
 refine l8 _ _ _ ?_
 simp only[Instr.indexAt,u,h,asIntOf,P6,P7,Q00 s,f,g,and_self,if_true,y07 p,S01]
 exact l
theorem o09{x:Value}{k:IntKind}{i:Int}{y:Nat}{b:BoundsCode}(e:x = .int k i)(c:0<=i)(d:i<=(y:Int))(a:Nat->Hp->Prop):wpR P (Instr.sliceBound x y b) H a=a i.toNat H:=by
 subst e
 simp only[Instr.sliceBound,asIntOf,P6,P7,c,d,and_self,if_true]
theorem E0e{isS:Bool}{n c:Nat}{f b:Option Operand}{l m:Int}(i:x05 a 0 f l)(d:x05 a n b m)(h:0<=l)(s:l<=m)(t:m<=(n:Int))(u:n<=c)
  (g:Nat×Nat×Nat->Hp->Prop):wpR P (Instr.sliceBounds isS n c (f.map a.eval) (b.map a.eval) none) H g=g (l.toNat,m.toNat,c) H:=by
 have q:l<=(m.toNat:Int):=by omega
 cases f with
 |none =>
  have p:l=0:=i
  subst p
  cases b with
  |none =>
   have j:m=(n:Int):=d
   simp_all[Instr.sliceBounds,Option.map_none,P6,P7]
  |some y =>
   obtain⟨k,e⟩:=d
   simp only[Instr.sliceBounds,Option.map_none,Option.map_some,P6,P7,o09 e (by omega) (show m<=(c:Int) by omega)];rfl
 |some x =>
  obtain⟨k,o⟩:=i
  cases b with
  |none =>
   have j:m=(n:Int):=d
   subst j
   simp only[Instr.sliceBounds,Option.map_none,Option.map_some,P6,P7,o09 o h (show l<=((n:Nat):Int) by omega)];rfl
  |some y =>
   obtain⟨v,e⟩:=d
   simp only[Instr.sliceBounds,Option.map_some,P6,P7,o09 e (by omega) (show m<=(c:Int) by omega),o09 o h q]
theorem exec_cutStr{t:TypeId}{x:Operand}{e d:Option Operand}{b:ByteArray}{l m:Int}(n:o.op = .slice t x e d none)(p:P.underlying t=some .string)
  (q:a.eval x = .string b) (j:x05 a 0 e l) (k:x05 a b.size d m) (f:0<=l) (g:l<=m) (h:m<=(b.size:Int)) :
  ∀ c:Next->Hp->Prop,c (.value (.string (b.extract l.toNat m.toNat))) H->wpR P (execOp a.eval o) H c:=by
 intro c i
 unfold execOp;rw[n]
 refine l8 _ _ _ ?_
 simp only[Instr.sliceAt,P6,Q00 p,Instr.slice,q,Option.map_none,Option.isSome_none,Bool.false_eq_true,if_false,P7]
 rw[E0e j k f g h (Nat.le_refl _)]
 exact i
theorem exec_index{t:TypeId}{x i:Operand}{b:ByteArray}{k:IntKind}{j:Int}{c:UInt8}(l:o.op = .index t x i)(m:P.underlying t=some .string)(n:a.eval x = .string b)(g:a.eval i = .int k j)
  (e:0<=j) (f:b[j.toNat]?=some c):∀ d:Next->Hp->Prop,d (.value (.int .u8 c.toNat)) H->wpR P (execOp a.eval o) H d:=by
 intro d h
 unfold execOp;rw[l]
 refine l8 _ _ _ ?_
 simp only[Instr.index,n,g,asIntOf,P6,P7,Q00 m,e,if_true,f]
 exact h
theorem exec_cat{t j:TypeId}{x y:Operand}{b c:ByteArray}(g:o.op = .binOp .add t x y j)(h:a.eval x = .string b)(i:a.eval y = .string c)(k:b.size+c.size<=9223372036854775807):
  ∀ d:Next->Hp->Prop,d (.value (.string (b++c))) H->wpR P (execOp a.eval o) H d:=by
 intro d e
 unfold execOp;rw[g]
 refine l8 _ _ _ ?_
 have f : ¬ (((b.size+c.size:Nat):Int)>IntKind.i64.max):=by
  have:IntKind.i64.max=9223372036854775807:=by decide
  rw[this];omega
 simp only[h,i,eqGuard,P6,Bool.not_false,if_true,P7,binOp,Go.Op.stringOp,if_neg f]
 exact e
theorem exec_quo{t j:TypeId}{x y:Operand}{b c:Int}(g:o.op = .binOp .quo t x y j)(h:a.eval x = .int .i64 b)(i:a.eval y = .int .i64 c)(f:c≠0):
  ∀ d:Next->Hp->Prop,d (.value (.int .i64 (IntKind.i64.wrap (b.tdiv c)))) H->wpR P (execOp a.eval o) H d:=by
 intro d e
 unfold execOp;rw[g]
 refine l8 _ _ _ ?_
 simp only[h,i,eqGuard,P6,Bool.not_false,if_true,P7,binOp,Go.Op.intDiv,if_neg f,ne_eq,not_true_eq_false,if_false]
 exact e
theorem exec_rem{t j:TypeId}{x y:Operand}{b c:Int}(g:o.op = .binOp .rem t x y j)(h:a.eval x = .int .i64 b)(i:a.eval y = .int .i64 c)(f:c≠0):
  ∀ d:Next->Hp->Prop,d (.value (.int .i64 (b.tmod c))) H->wpR P (execOp a.eval o) H d:=by
 intro d e
 unfold execOp;rw[g]
 refine l8 _ _ _ ?_
 simp only[h,i,eqGuard,P6,Bool.not_false,if_true,P7,binOp,Go.Op.intDiv,if_neg f,ne_eq,not_true_eq_false,if_false]
 exact e
theorem exec_slice{t e sz:Nat}{x:Operand}{g f:Option Operand}{d:Option Addr}{n c:Nat}{l m:Int}(s:o.op = .slice t x g f none)(u:m01 P t=some e)(y:R5 P e=some sz)
  (v:a.eval x = .slice d n c) (k:x05 a 0 g l) (p:x05 a n f m) (h:0<=l) (i:l<=m) (j:m<=(n:Int)) (q:n<=c) :
  ∀ b:Next->Hp->Prop,b (.value (.slice (if c=l.toNat then d else d.map (·.add (l.toNat*sz))) (m.toNat-l.toNat) (c-l.toNat))) H->wpR P (execOp a.eval o) H b:=by
 intro b w
 unfold execOp;rw[s]
 refine l8 _ _ _ ?_
 simp only[Instr.sliceAt,P6,Q00 (J9 u),Instr.slice,v,Option.map_none]
 rw[E0e k p h i j q]
 grind[y07,P7]
theorem exec_load{t:TypeId}{x:Operand}{b off:Nat}{v:Value}(d:o.op = .load t x)(g:a.eval x=ptr b off)
  (f:∀ c:Value->Hp->Prop,c v H->wpR P (loadVar t ⟨b,off,none⟩) H c):∀ c:Next->Hp->Prop,c (.value v) H->wpR P (execOp a.eval o) H c:=by
 intro c e
 unfold execOp;rw[d]
 refine l8 _ _ _ ?_
 grind[Instr.loadAt,ptr,Instr.sureAddr,P6,P7]
theorem run_of{v:Value}(e:∀ b:Next->Hp->Prop,b (.value v) H->wpR P (execOp a.eval o) H b)(w:World)(d:Vis H w):(execOp a.eval o).run P w = .ok (.value v) w:=by
 obtain⟨x,c,f⟩:=wpR_sound _ _ w d (e (λn _=>n = .value v) rfl)
 rw[c,f]
end
end Go.H.R
namespace Go.H
set_option linter.unusedVariables false
set_option linter.unusedSimpArgs false
section
variable {P:Program} {h0:Hp} {w0:World} {be:Nat->Nat} {oe:Nat->Value} {H:Hp} {rs:RS} {a:Act} {w:World} {o:Oper} {ops:Array Oper} {i:Nat}
theorem r0t{a b:Bool}(h:eqB a b=true):a=b:=by cases a<;>cases b<;>simp_all [eqB]
theorem M0i:∀(a b:List (Nat×Bool)),X0p a b=true->a=b
 | [],[],_=>rfl
 |(j,w)::r,(f,g)::e,h=>by
  simp only[X0p]at h
  split at h
  ·rename_i c d
   rw[Nat.eq_of_beq_eq_true c,r0t d,M0i r e h]
  ·cases h
 | [],_::_,h=>by cases h
 |_::_,[],h=>by cases h
theorem d04:∀ {bs:List BE} {j:Nat} {b:BE},k03 bs j=some b->b∈bs/\b.j=j
 | [],_,_,h=>by cases h
 |x::r,j,b,h=>by
  simp only[k03]at h
  split at h
  ·simp_all
  ·obtain⟨a,c⟩:=d04 h
   grind
theorem k0c:∀ {bs:List BE} {a:Nat} {b:BE},M0a bs a=some b->b∈bs/\b.d=a
 | [],_,_,h=>by cases h
 |x::r,j,b,h=>by
  simp only[M0a]at h
  split at h
  ·simp_all
  ·obtain⟨c,e⟩:=k0c h
   grind
theorem F0e:∀ {bs:List BE} {c:Nat},M0a bs c=none->∀ b∈bs,b.d≠c
 | [],_,_,b,a=>by cases a
 |x::r,c,h,b,a=>by
  simp only[M0a]at h
  split at h
  ·cases h
  ·rename_i e
   rcases List.mem_cons.1 a with rfl|a
   ·exact Nat.ne_of_beq_eq_false e
   ·exact F0e h b a
theorem Z04(bs:List BE)(j:Nat)(w:Bool)(r:List (Nat×Bool)):cB bs ((j,w)::r)=match k03 bs j,cB bs r with
  |some b,some c=>some (lit w b.e&&c)
  |_,_=>none:=by
 grind[cB,k03,lit]
theorem S0r{bs:List BE}{x:Nat×Bool}{r:List (Nat×Bool)}(h:cB bs (x::r)=some true):cB bs r=some true:=by
 rw[Z04]at h
 grind
theorem p09{bs:List BE}{p:List (Nat×Bool)}:∀ {q:List (Nat×Bool)},I0j p q=true->cB bs q=some true->cB bs p=some true
 | [],h,a=>by rw[M0i _ _ h];exact a
 |x::r,h,a=>by
  simp only[I0j]at h
  split at h
  ·grind[M0i]
  ·exact p09 h (S0r a)
theorem m0m{bs:List BE}{x:BE}(f:∀ y∈bs,y.j≠x.j):∀ {ch:List (Nat×Bool)} {c:Bool},cB bs ch=some c->cB (x::bs) ch=some c
 | [],c,h=>h
 |(j,w)::r,c,h=>by
  rw[Z04]at h
  split at h
  ·rename_i b g d a
   have l:Nat.beq x.j j=false:=by
    obtain⟨i,k⟩:=d04 d
    grind[Nat.beq,absurd,Nat.eq_of_beq_eq_true]
   have e:k03 (x::bs) j=some b:=by grind[k03]
   rw[Z04,e,m0m f a]
   exact h
  ·cases h
structure x08 (ops:Array Oper) (be:Nat->Nat) (oe:Nat->Value) (rs:RS) (a:Act) (i:Nat):Prop where
 lt:∀ x∈rs.bs,x.j<i/\∃ o,ops[x.j]?=some o/\o.dst=some x.d
 val:∀ x∈rs.bs,∃ c,cB rs.bs x.ch=some c/\a.tmps[x.d]?=some (if c=true then .bool x.e else undef)
 gf:∀ d ch av,o0e rs.gf d=some (ch,av)->∃ c,cB rs.bs ch=some c/\(c=true->D2 rs.st be oe av (a.tmps.getD d undef))
theorem x08.grow(r:x08 ops be oe rs a i){st:St}{h:Hp}{be':Nat->Nat}{oe':Nat->Value}(g:S6 rs.st be oe st be' oe'):x08 ops be' oe' { rs with st:=st,h:=h } a i :=
 ⟨r.lt,r.val,λd ch av e=>let ⟨c,h1,h2⟩:=r.gf d ch av e;⟨c,h1,λb=>(h2 b).grow g⟩⟩
theorem U0o(r:x08 ops be oe rs a i){ch:List (Nat×Bool)}{c:Bool}(d:s00 rs.bs o.guard=some ch)(f:cB rs.bs ch=some c):Region.wanted o (yielded ops a.tmps)=c:=by
 unfold Region.wanted
 cases hg:o.guard with
 |none =>
  rw[hg]at d
  cases d
  cases f
  rfl
 |some p =>
  obtain⟨j,w⟩:=p
  rw[hg]at d
  simp only[s00]at d
  split at d
  ·rename_i b h
   cases d
   obtain⟨k,rfl⟩:=d04 h
   obtain⟨_,t,n,m⟩:=r.lt b k
   obtain⟨g,l,q⟩:=r.val b k
   rw[Z04,h,l]at f
   simp only[Option.some.injEq]at f
   have s:yielded ops a.tmps b.j=if g=true then some b.e else none:=by
    unfold yielded
    simp only[n,m,oB,q]
    cases g<;>rfl
   simp only[s,←f]
   cases g<;>cases w<;>cases b.e<;>rfl
  ·cases d
theorem G0e(n:Sim P h0 w0 be oe H rs.st rs.h a w)(r:x08 ops be oe rs a i){ch:List (Nat×Bool)}(k:cB rs.bs ch=some true)(x:Operand):
  (∃ b,D2 rs.st be oe b (a.eval x)/\rdG rs ch x=rdA rs.st b):=by
 cases x with
 |tmp t =>
  simp only[rdG]
  split
  ·rename_i e av l
   split
   ·rename_i m
    obtain⟨c,d,j⟩:=r.gf t e av l
    rw[p09 m k]at d
    cases d
    exact⟨av,j rfl,rfl⟩
   ·exact⟨.dead,trivial,rfl⟩
  ·exact⟨_,n.fr t,rfl⟩
 |const v=>exact⟨.val v,rfl,rfl⟩
 |global g=>exact⟨.dead,trivial,rfl⟩
 |func f=>exact⟨.val _,rfl,rfl⟩
theorem y05(z:Sim P h0 w0 be oe H rs.st rs.h a w)(r:x08 ops be oe rs a i)(U:ops[i]?=some o){ch:List (Nat×Bool)}{c:Bool}{av:AV}{v:Value}{K:RS->Prop}
  (E:cB rs.bs ch=some c) (g:c=true->D2 rs.st be oe av v) (L:c=false->v=undef) (m:p0e o.dst i ch av rs K) :
  ∃ C,K C/\C.h=rs.h/\x08 ops be oe C (a.put o.dst v) (i+1)/\Sim P h0 w0 be oe H C.st C.h (a.put o.dst v) w:=by
 cases hd:o.dst with
 |none =>
  rw[hd]at m
  exact⟨rs,m,rfl,⟨λx p=>⟨Nat.lt_succ_of_lt (r.lt x p).1,(r.lt x p).2⟩,r.val,r.gf⟩,z⟩
 |some d =>
  rw[hd]at m
  simp only[p0e]at m
  split at m
  ·rename_i O X
   have F:d<rs.st.n:=Nat.le_of_ble_eq_true O
   have Y:o0e rs.gf d=none/\M0a rs.bs d=none:=by
    grind[l08]
   have S:∀ t,t≠d->(a.put (some d) v).tmps[t]?=a.tmps[t]?:=λt Q=>by
    simp[Act.put,Array.getElem?_setIfInBounds_ne (Ne.symm Q)]
   have N:(a.put (some d) v).tmps[d]?=some v:=by simp[Act.put,z.siz,F]
   have p:∀ y∈rs.bs,y.j≠i:=λy R e=>by have:=(r.lt y R).1;omega
   have u:(∀ x∈K0j i d ch av rs.bs,x.j<i+1/\∃ o,ops[x.j]?=some o/\o.dst=some x.d) /\
     (∀ x∈K0j i d ch av rs.bs,∃ c,cB (K0j i d ch av rs.bs) x.ch=some c/\(a.put (some d) v).tmps[x.d]?=some (if c=true then .bool x.e else undef)) /\
     (∀ f b,cB rs.bs f=some b->cB (K0j i d ch av rs.bs) f=some b):=by
    have V:∀ x∈rs.bs,x.j<i+1/\∃ o,ops[x.j]?=some o/\o.dst=some x.d:=λx p=>⟨Nat.lt_succ_of_lt (r.lt x p).1,(r.lt x p).2⟩
    have W:∀ x∈rs.bs,∃ c,cB rs.bs x.ch=some c/\(a.put (some d) v).tmps[x.d]?=some (if c=true then .bool x.e else undef):=λx p=>by
     obtain⟨c,s,A⟩:=r.val x p
     grind[F0e]
    unfold K0j
    split
    ·rename_i e
     have I:∀ f b,cB rs.bs f=some b->cB (⟨i,d,e,ch⟩::rs.bs) f=some b:=λf b h'=>m0m (x:=⟨i,d,e,ch⟩) p h'
     refine⟨λx G=>?_,λx G=>?_,I⟩
     ·grind
     ·rcases List.mem_cons.1 G with rfl|G
      ·refine⟨c,I _ _ E,?_⟩
       rw[N]
       cases c with
       |true=>rw[show v = .bool e from g rfl];rfl
       |false=>rw[L rfl];rfl
      grind
    grind
   have D:∀ k,S6 rs.st be oe { rs.st with fr:=(d,k)::rs.st.fr } be oe:=λk=>⟨Nat.le_refl _,λ_ _=>rfl,λi z h=>⟨z,h,Nat.le_refl _,λ_=>rfl⟩⟩
   have J:∀ l f k,o0e rs.gf l=some (f,k)->∃ b,cB (K0j i d ch av rs.bs) f=some b/\(b=true->D2 rs.st be oe k ((a.put (some d) v).tmps.getD l undef)):=λl f k q=>by
    obtain⟨b,s,A⟩:=r.gf l f k q
    refine⟨b,u.2.2 _ _ s,λB=>?_⟩
    have T:l≠d:=λe=>by grind
    simp_all
   split at m
   ·
    cases E
    refine⟨_,m,rfl,⟨u.1,u.2.1,λl f k q=>?_⟩,z.put F (g rfl)⟩
    obtain⟨b,s,A⟩:=J l f k q
    exact⟨b,s,λB=>(A B).grow (D av)⟩
   ·refine⟨_,m,rfl,⟨u.1,u.2.1,λl f k q=>?_⟩,z.put F (show D2 rs.st be oe .dead v from trivial)⟩
    simp only[o0e]at q
    split at q
    ·rename_i M
     cases q
     have:=Nat.eq_of_beq_eq_true M
     subst this
     refine⟨c,u.2.2 _ _ E,λB=>(D2.grow (D .dead) ?_)⟩
     simp_all
    ·obtain⟨b,s,A⟩:=J l f k q
     exact⟨b,s,λB=>(A B).grow (D .dead)⟩
  ·exact m.elim
end
section
variable {P:Program} {h0:Hp} {w0:World} {be:Nat->Nat} {oe:Nat->Value} {H:Hp} {rs:RS} {a:Act} {w:World} {o:Oper} {ops:Array Oper} {i:Nat}
theorem y08{bs:List BE}{ch:List (Nat×Bool)}{c:Bool}{X:Prop}(h:imp ch c X)(a:c=true):X:=by
 grind[imp]
def CW(H:Hp)(w:World):World->Prop:=λa=>T2 H w H a
theorem z08{v:Value}(c:∀ b,Vis H b->(execOp a.eval o).run P b = .ok (.value v) b):∀ b,CW H w b->o.quietAt P a (CW H w) b v:=λb m=>by
 unfold Oper.quietAt
 rw[c b m.vis]
 exact⟨rfl,rfl⟩
theorem B03{v:Value}(e:∀ c:Next->Hp->Prop,c (.value v) H->R.wpR P (execOp a.eval o) H c):∀ b,CW H w b->o.quietAt P a (CW H w) b v :=
 z08 λb d=>R.run_of e b d
theorem T2.widen{hf:Hp}{w d:World}(c:Vis H w)(e:∀ b o,hf b=some o->H b=some o)(m:T2 hf w hf d):T2 H w H d:=by
 refine⟨m.os,m.tape,m.output,m.size,?_,?_,λb a => .inl a,m.fz,m.dn⟩
 ·intro b a g
  refine m.keep b a ?_
  cases hc:hf b with
  |none=>rfl
  |some o=>grind
 ·intro b o a
  cases hc:hf b with
  |some f =>
   have:=e b f hc
   rw[this]at a;cases a
   exact m.vis b _ hc
  |none=>rw[m.keep b (c.lt (by rw[a];simp)) hc];exact c b o a
theorem z05{ch:List (Nat×Bool)}(G:∀ x,D2 rs.st be oe (rdG rs ch x) (a.eval x)):∀(l:List Operand) {vs:List (Nat×Value)},J0j rs ch l=some vs ->
  (∀ p∈vs,p.2=a.eval (.tmp p.1))/\(∀ x∈l,(∃ t v,x = .tmp t/\(t,v)∈vs)∨(∀ ws,rho ws x=a.eval x))
 | [],vs,h=>by cases h;simp
 | .tmp t::r,vs,h=>by
  simp only[J0j]at h
  split at h
  ·rename_i v g
   split at h
   ·rename_i i e
    cases h
    obtain⟨c,d⟩:=z05 G r e
    grind[N7,List.mem_cons_self,mC]
   ·cases h
  ·cases h
 | .global _::r,vs,h=>by cases h
 | .const v::r,vs,h=>by
  obtain⟨c,d⟩:=z05 G r (vs:=vs) h
  exact⟨c,λx b=>by
   rcases List.mem_cons.1 b with rfl|b
   ·exact .inr λ_=>rfl
   ·exact d x b⟩
 | .func f::r,vs,h=>by
  obtain⟨c,d⟩:=z05 G r (vs:=vs) h
  exact⟨c,λx b=>by
   rcases List.mem_cons.1 b with rfl|b
   ·exact .inr λ_=>rfl
   ·exact d x b⟩
abbrev i0u(P:Program)(be:Nat->Nat)(oe:Nat->Value)(H:Hp)(rs:RS)(a:Act)(w:World)(o:Oper)(c:Bool)(K:AV->Prop):Prop :=
 ∃ av,K av/\(c=true->∃ v,D2 rs.st be oe av v/\∀ b,CW H w b->o.quietAt P a (CW H w) b v)
variable {ch:List (Nat×Bool)} {c:Bool} {K:AV->Prop}
theorem z07(G:∀ x,D2 rs.st be oe (rdG rs ch x) (a.eval x)):∀(l:List Operand) {st:St} {h:Hp} {K:List (Nat×Value)->St->Hp->Prop},Sim P h0 w0 be oe H st h a w->S6 rs.st be oe st be oe->L0r rs ch l st h K ->
  ∃ vs st' h',K vs st' h'/\Sim P h0 w0 be oe H st' h' a w/\(∀ p∈vs,p.2=a.eval (.tmp p.1))/\(∀ x∈l,(∃ t v,x = .tmp t/\(t,v)∈vs)∨(∀ ws,rho ws x=a.eval x))
 | [],st,h,K,c,d,b=>⟨[],st,h,b,c,by simp,by simp⟩
 | .tmp t::r,st,h,K,c,d,b=>by
  obtain⟨s,q,n,s1,o⟩:=m03 c (c.rdA ((G (.tmp t)).grow d)) b
  obtain⟨vs,m,i,g,s2,j,k⟩:=z07 G r s1 (d.trans o) n
  grind
 | .const v::r,st,h,K,c,d,b=>by
  obtain⟨vs,m,i,g,s2,j,k⟩:=z07 G r c d b
  refine⟨vs,m,i,g,s2,j,λx e=>?_⟩
  rcases List.mem_cons.1 e with rfl|e
  ·exact .inr λ_=>rfl
  ·exact k x e
 | .func f::r,st,h,K,c,d,b=>by
  obtain⟨vs,m,i,g,s2,j,k⟩:=z07 G r c d b
  refine⟨vs,m,i,g,s2,j,λx e=>?_⟩
  rcases List.mem_cons.1 e with rfl|e
  ·exact .inr λ_=>rfl
  ·exact k x e
 | .global _::_,_,_,_,_,_,b=>b.elim
theorem T8(z:Sim P h0 w0 be oe H rs.st rs.h a w)(G:c=true->∀ x,D2 rs.st be oe (rdG rs ch x) (a.eval x))(d:v0i P o ch c rs K):i0u P be oe H rs a w o c K:=by
 unfold v0i at d
 split at d
 ·rename_i vs C B
  split at d
  ·rename_i f l n
   split at d
   ·rename_i u
    obtain⟨v,y,s⟩:=d
    refine⟨_,s,λg=>?_⟩
    obtain⟨k,p⟩:=z05 (G g) _ B
    rw[t05 k p]at n
    refine⟨v,rfl,λj m=>?_⟩
    unfold Oper.quietAt
    rw[h09 n u]
    refine⟨rfl,((y08 (bs:=rs.bs) y g).run j (λb o q=>m.vis b o (z.sub b o q))).mono ?_⟩
    rintro e I ⟨F,h',rfl,⟨rfl,rfl⟩,t⟩
    exact⟨rfl,T2.trans m (T2.widen m.vis z.sub t)⟩
   ·exact d.elim
  ·split at d
   ·rename_i v A
    refine⟨_,d,λg=>?_⟩
    obtain⟨k,p⟩:=z05 (G g) _ B
    rw[V0a,i09 C k p]at A
    exact⟨v,rfl,z08 λj _=>s0n _ A j⟩
   ·exact d.elim
 ·obtain⟨r,y,s⟩:=d
  refine⟨_,s,λg=>⟨r,rfl,λj m=>?_⟩⟩
  obtain⟨vs,J,k,i,s1,D,E⟩:=z07 (G g) _ z (S6.refl _ _ _) (y08 (bs:=rs.bs) y g)
  rw[t05 D E]at i
  split at i
  ·rename_i f l n
   split at i
   ·rename_i u
    unfold Oper.quietAt
    rw[h09 n u]
    refine⟨rfl,(i.run j (λb o q=>m.vis b o (s1.sub b o q))).mono ?_⟩
    rintro e I ⟨F,h',rfl,⟨rfl,rfl⟩,t⟩
    exact⟨rfl,T2.trans m (T2.widen m.vis s1.sub t)⟩
   ·exact i.elim
  ·exact i.elim
 ·exact d.elim
theorem b06{d l:Int}{x:Option Operand}(G:∀ x,D2 rs.st be oe (rdG rs ch x) (a.eval x))(b:W05 d (x.map (rdG rs ch))=some l):x05 a d x l:=by
 cases x with
 |none=>simp only[Option.map_none,W05,Option.some.injEq]at b;exact b.symm
 |some y =>
  have g:=G y
  simp only[Option.map_some]at b
  cases hr:rdG rs ch y with
  |val v =>
   rw[hr]at b g
   cases v<;>simp only[W05,Option.some.injEq]at b<;>first|(subst b;exact⟨_,g⟩)|cases b
  |_=>rw[hr]at b;cases b
theorem n0q(o:Sim P h0 w0 be oe H rs.st rs.h a w){d:AV}{x:Value}(p:D2 rs.st be oe d x){cs:List F5}(b:r00 (rdA rs.st d)=some cs):Z1 rs.st oe cs x.cells.toList:=by
 have g:=o.rdA p
 cases hr:rdA rs.st d with
 |val v =>
  rw[hr]at b g
  have f:x=v:=g
  rw[f]
  cases v<;>simp only[r00,Option.some.injEq]at b<;>first|(subst b;first|exact Z1.vals _ _ _|exact⟨rfl,trivial⟩)|cases b
 |own i k =>
  rw[hr]at b g
  obtain⟨e,sz,by_,nn,xs,j⟩:=s07 hr
  simp only[r00,Option.some.injEq]at b
  subst b
  have l:x=oe i:=g.own_cur j
  obtain⟨y,n,c,m⟩:=y0e o j
  rw[l,m]
  rw[l,m]at g
  exact⟨g,trivial⟩
 |agg cs' =>
  rw[hr]at b g
  simp only[r00,Option.some.injEq]at b
  subst b
  obtain⟨vs,f,q⟩:=g
  rw[f]
  exact q
 |_=>rw[hr]at b;cases b
set_option maxHeartbeats 1000000 in
theorem V0o(B:Sim P h0 w0 be oe H rs.st rs.h a w)(r:x08 ops be oe rs a i)(au:cB rs.bs ch=some c)(s:evG P o ch c rs K):i0u P be oe H rs a w o c K:=by
 have ac:c=true->∀ x,∃ L,D2 rs.st be oe L (a.eval x)/\rdG rs ch x=rdA rs.st L:=λh x=>by subst h;exact G0e B r au x
 have G:c=true->∀ x,D2 rs.st be oe (rdG rs ch x) (a.eval x):=λh x=>by
  obtain⟨L,g,e⟩:=ac h x
  rw[e];exact B.rdA g
 have J:∀ {X:Prop},imp ch c X->c=true->X:=λh au=>y08 (bs:=rs.bs) h au
 have bC:∀ F,CW H w F->Vis H F:=λF m=>m.vis
 cases ho:o.op with
 |move x =>
  simp only[evG,ho]at s
  have C:K (rdG rs ch x):=by revert s;cases rdG rs ch x<;>intro s<;>first|exact s|exact s.elim
  refine⟨_,C,λh=>⟨_,G h x,z08 λF _=>?_⟩⟩
  unfold execOp;rw[ho];rfl
 |assign x =>
  simp only[evG,ho]at s
  have C:K (rdG rs ch x):=by revert s;cases rdG rs ch x<;>intro s<;>first|exact s|exact s.elim
  refine⟨_,C,λh=>⟨_,G h x,z08 λF _=>?_⟩⟩
  unfold execOp;rw[ho];rfl
 |pick ad x y =>
  cases ad with
  |tmp t =>
   simp only[evG,ho]at s
   split at s
   ·rename_i e q aL bf
    split at s
    ·rename_i bh
     split at s
     ·rename_i bx by_ u I
      refine⟨_,s,λh=>?_⟩
      have aR:=G h (.tmp t)
      rw[aL]at aR
      have a8:a.eval (.tmp t) = .bool e:=aR
      subst h
      obtain⟨W,bg⟩:=k0c bf
      have aK:=p09 bh au
      obtain⟨aP,E,aj⟩:=r.val q W
      rw[aK]at E
      cases E
      have bF:q.e=e:=by
       have:a.eval (.tmp t) = .bool q.e:=by
        simp only[Act.eval,←bg,Array.getD_eq_getD_getElem?,aj];rfl
       grind
      have V:∃ b,k03 rs.bs q.j=some b:=by
       have:∀(l:List BE),q∈l->∃ b,k03 l q.j=some b:=by
        intro l
        induction l with
        |nil=>intro h;cases h
        |cons z l bl =>
         grind[k03,absurd,Nat.ne_of_beq_eq_false]
       exact this _ W
      obtain⟨b,U⟩:=V
      obtain⟨aU,ba⟩:=d04 U
      have aS:b.e=e/\cB rs.bs b.ch=some true:=by
       obtain⟨_,bK,aM,aN⟩:=r.lt b aU
       obtain⟨_,bL,N,O⟩:=r.lt q W
       rw[ba,N]at aM
       cases aM
       rw[O]at aN
       have bD:q.d=b.d:=by simpa using aN
       obtain⟨aP,am,an⟩:=r.val b aU
       grind[undef]
      refine⟨.bool (cond e bx by_),rfl,z08 λF _=>?_⟩
      unfold execOp;rw[ho]
      simp only[a8,Sem.run_bind,asBool,Sem.run_pure,Result.andThen_ok]
      cases e with
      |true =>
       have aG:cB rs.bs ((q.j,true)::q.ch)=some true:=by
        rw[Z04,U,aK];simp[lit,aS.1]
       obtain⟨L,ap,aq⟩:=G0e B r aG x
       have ai:=B.rdA ap
       rw[←aq,u]at ai
       have aC:a.eval x = .bool bx:=ai
       simp[aC]
      |false =>
       have aG:cB rs.bs ((q.j,false)::q.ch)=some true:=by
        rw[Z04,U,aK];simp[lit,aS.1]
       obtain⟨L,ap,aq⟩:=G0e B r aG y
       have ai:=B.rdA ap
       rw[←aq,I]at ai
       have aC:a.eval y = .bool by_:=ai
       simp[aC]
     ·exact s.elim
    ·exact s.elim
   ·exact s.elim
  |_=>simp only[evG,ho]at s;exact T8 B G s
 |fieldAddr t x k =>
  simp only[evG,ho]at s
  split at s
  ·rename_i j off ah D aa
   refine⟨_,s,λh=>?_⟩
   have g:=G h x
   rw[D]at g
   exact⟨ptr (be j) (off+ah),⟨g.1,rfl⟩,B03 (R.exec_fieldAddr ho aa g.2)⟩
  ·rename_i sl j sz ao ah D aa
   refine⟨_,s,λh=>?_⟩
   have g:=G h x
   rw[D]at g
   obtain⟨b,az,n,Q,M,ag⟩:=g
   exact⟨ptr b (az+(j.toNat*sz+ao)+ah),⟨b,az,n,Q,M,by simp[Nat.add_assoc]⟩,B03 (R.exec_fieldAddr ho aa ag)⟩
  ·rename_i aW bm j sz ao ah D aa
   refine⟨_,s,λh=>?_⟩
   have g:=G h x
   obtain⟨L,_,T⟩:=ac h x
   rw[D]at g
   obtain⟨aB,aA,aO,aY,a0,Z⟩:=B0i (T.symm.trans D)
   obtain⟨ar,n,Q,M,ag⟩:=g.oel_cur Z
   exact⟨ptr ar (j.toNat*sz+ao+ah),⟨bm,by simp[stamp,Z],Nat.le_refl _,λ_=>⟨ar,n,Q,M,by simp[Nat.add_assoc]⟩⟩,B03 (R.exec_fieldAddr ho aa ag)⟩
  ·exact s.elim
 |indexAddr t x ax =>
  simp only[evG,ho]at s
  split at s
  ·rename_i bn j ak
   split at s
   ·rename_i e af
    split at s
    ·rename_i sz aw
     split at s
     ·rename_i a1 n Q u
      refine⟨_,s.2,λh=>?_⟩
      obtain⟨b,off,aX,aP,M,N,O⟩:=J s.1 h
      cases M
      have A:=G h x
      rw[u]at A
      have gi:=G h ax
      rw[ak]at gi
      exact⟨ptr b (off+j.toNat*sz),⟨b,off,n,Q,rfl,by simp⟩,B03 (R.exec_indexAddr ho af aw A gi N O)⟩
     ·rename_i aW ao u
      split at s
      ·rename_i aZ a6 aA by_ nn xs Y
       split at s
       ·rename_i U
        refine⟨_,s.2,λh=>?_⟩
        obtain⟨N,O⟩:=J s.1 h
        have:=Nat.eq_of_beq_eq_true U
        subst this
        have A:=G h x
        obtain⟨L,_,T⟩:=ac h x
        rw[u]at A
        have gi:=G h ax
        rw[ak]at gi
        obtain⟨aB,bq,aO,aY,a0,Z⟩:=s07 (T.symm.trans u)
        have aV:=A.own_cur Z
        have ae:=B.own aW _ _ _ _ _ _ Y
        rcases ae.2 with⟨ab,bj,_⟩|⟨g,cap,cur,ab,_⟩
        ·grind
        ·rw[ab]at aV
         refine⟨ptr g (0+j.toNat*aA),⟨ao,by simp[stamp,Z],Nat.le_refl _,λ_=>⟨g,xs.length,cap,ab,by simp⟩⟩,B03 (R.exec_indexAddr ho af aw aV gi N O)⟩
       ·exact s.elim
      ·exact s.elim
     ·exact s.elim
    ·exact s.elim
   ·exact s.elim
  ·exact s.elim
 |load t x =>
  simp only[evG,ho]at s
  split at s
  ·rename_i j off D
   split at s
   ·rename_i cs ty Y
    obtain⟨E,vs,aj,aD⟩:=B.box j cs ty Y
    obtain⟨av,v,am,an,ay⟩:=R.load_row (H:=H) (b:=be j) (o:=0) (be:=be) s aj (λj v V=>by simp[Hp.cell,aD,V])
    refine⟨av,am,λh=>⟨v,an,B03 ?_⟩⟩
    have g:=G h x
    rw[D]at g
    exact R.exec_load ho g.2 (by simpa using ay)
   ·exact s.elim
  ·rename_i sl idx sz k D
   obtain⟨e,aH,C⟩:=s
   cases c with
   |false =>
    grind[l05]
   |true =>
    have aF:=J aH rfl
    have g:=G rfl x
    rw[D]at g
    obtain⟨b,az,n,Q,M,ag⟩:=g
    obtain⟨_,_,bv,bJ,aX,bA,aQ,bb⟩:=aF
    rw[M]at aQ;cases aQ
    obtain⟨av,v,am,an,ay⟩:=R.load_row (H:=H) (b:=b) (o:=az+idx.toNat*sz) (be:=be) C (Z1.vals rs.st oe e) (λj v V=>by
     have:=bb j v V
     unfold Hp.cell at this ⊢
     split at this
     ·rename_i bd;rw[B.sub _ _ bd];exact this
     ·cases this)
    grind[B03,R.exec_load,Nat.add_assoc]
  ·rename_i j aZ idx sz k D
   split at s
   ·rename_i bN a6 aA by_ nn xs Y
    split at s
    ·rename_i U
     have aw:=Nat.eq_of_beq_eq_true U
     subst aw
     obtain⟨e,aH,C⟩:=s
     cases c with
     |false =>
      grind[l05]
     |true =>
      have aF:=J aH rfl
      have g:=G rfl x
      obtain⟨L,_,T⟩:=ac rfl x
      rw[D]at g
      obtain⟨aB,bO,aO,aY,a0,Z⟩:=B0i (T.symm.trans D)
      obtain⟨ar,n,Q,M,ag⟩:=g.oel_cur Z
      have ae:=B.own j _ _ _ _ _ _ Y
      obtain⟨av,v,am,an,ay⟩:=R.load_row (H:=H) (b:=ar) (o:=idx.toNat*aA) (be:=be) C (Z1.vals rs.st oe e) (λj v V =>
       ae.cells M _ _ (x04 xs _ e (λx u=>(ae.1 x u).1) aF j v V))
      grind[B03,R.exec_load]
    ·exact s.elim
   ·exact s.elim
  ·exact s.elim
 |build t bM =>
  simp only[evG,ho]at s
  split at s
  ·rename_i a7 z al bk
   split at s
   ·rename_i aE
    cases c with
    |false =>
     have:∀(l:List (Nat×Operand)) (cs:List F5) (K':List F5->Prop),j08 P a7 (rdG rs ch) l cs K'->∃ cs,K' cs:=by
      intro l
      induction l with
      |nil=>intro cs K' h;exact⟨_,h⟩
      |cons p l bl =>
       grind[j08]
     grind
    |true =>
     obtain⟨av,v,am,an,ay⟩:=b0k (K':=K) B ho al bk aE (λx cs bE=>by
      obtain⟨L,ap,aq⟩:=ac rfl x
      grind[n0q]) s
     grind[z08]
   ·exact s.elim
  ·exact s.elim
 |index t x ax =>
  simp only[evG,ho]at s
  split at s
  ·rename_i b bn j u ak al
   obtain⟨e,E,C⟩:=s
   refine⟨_,C,λh=>?_⟩
   have A:=G h x
   rw[u]at A
   have gi:=G h ax
   rw[ak]at gi
   obtain⟨N,O⟩:=J E h
   exact⟨_,rfl,B03 (R.exec_index ho al A gi N O)⟩
  ·exact s.elim
 |slice t x bG ak bo =>
  cases bo with
  |some m=>simp only[evG,ho]at s;exact T8 B G s
  |none =>
   simp only[evG,ho]at s
   split at s
   ·rename_i b u al
    split at s
    ·rename_i l m aJ W
     refine⟨_,s.2,λh=>?_⟩
     obtain⟨E,aj,aD⟩:=J s.1 h
     have A:=G h x
     rw[u]at A
     exact⟨_,rfl,B03 (R.exec_cutStr ho al A (b06 (G h) aJ) (b06 (G h) W) E aj aD)⟩
    ·exact s.elim
   ·rename_i a1 n Q u
    split at s
    ·rename_i e af
     split at s
     ·rename_i sz aL
      split at s
      ·rename_i l m aJ W
       obtain⟨v,E,C⟩:=s
       refine⟨_,C,λh=>?_⟩
       obtain⟨⟨N,O,a2,a3⟩,a4⟩:=J E h
       have A:=G h x
       rw[u]at A
       refine⟨v,rfl,?_⟩
       rw[a4 _ _ _ rfl]
       exact B03 (R.exec_slice ho af aL A (b06 (G h) aJ) (b06 (G h) W) N O a2 a3)
      ·exact s.elim
     ·exact s.elim
    ·exact s.elim
   ·exact s.elim
 |binOp bp t x y bP =>
  cases bp with
  |add =>
   simp only[evG,ho]at s
   split at s
   ·rename_i b ad u I
    refine⟨_,s.2,λh=>?_⟩
    have A:=G h x
    rw[u]at A
    have S:=G h y
    rw[I]at S
    exact⟨_,rfl,B03 (R.exec_cat ho A S (J s.1 h))⟩
   grind[T8]
  |quo =>
   simp only[evG,ho]at s
   split at s
   ·rename_i b ad u I
    refine⟨_,s.2,λh=>?_⟩
    have A:=G h x
    rw[u]at A
    have S:=G h y
    rw[I]at S
    exact⟨_,rfl,B03 (R.exec_quo ho A S (J s.1 h))⟩
   ·exact T8 B G s
  |rem =>
   simp only[evG,ho]at s
   split at s
   ·rename_i b ad u I
    refine⟨_,s.2,λh=>?_⟩
    have A:=G h x
    rw[u]at A
    have S:=G h y
    rw[I]at S
    exact⟨_,rfl,B03 (R.exec_rem ho A S (J s.1 h))⟩
   ·exact T8 B G s
  |eql =>
   simp only[evG,ho]at s
   split at s
   ·rename_i xs bt u I
    obtain⟨b,E,C⟩:=s
    exact⟨_,C,λh=>⟨.bool b,rfl,z08 λF _=>J E h _ (N7 u (G h x)) (N7 I (G h y)) F⟩⟩
   ·rename_i bu aX bH u I
    obtain⟨b,E,C⟩:=s
    exact⟨_,C,λh=>⟨.bool b,rfl,z08 λF _=>J E h _ (N7 u (G h x)) (N7 I (G h y)) F⟩⟩
   ·exact T8 B G s
  |neq =>
   simp only[evG,ho]at s
   split at s
   ·rename_i xs bt u I
    obtain⟨b,E,C⟩:=s
    exact⟨_,C,λh=>⟨.bool b,rfl,z08 λF _=>J E h _ (N7 u (G h x)) (N7 I (G h y)) F⟩⟩
   grind[T8]
  |_=>simp only[evG,ho]at s;exact T8 B G s
 |call ad =>
  obtain⟨a5,as,br⟩:=ad
  cases a5 with
  |builtin b =>
   cases b with
   |len =>
    simp only[evG,ho]at s
    split at s
    ·rename_i x t aE aa
     have a9:as = #[x]:=by apply Array.ext';simpa using aE
     have bi:br = #[t]:=by apply Array.ext';simpa using aa
     split at s
     ·rename_i j k D
      split at s
      ·rename_i aZ e sz by_ nn xs aB Y af
       refine⟨_,s,λh=>?_⟩
       have g:=G h x
       obtain⟨L,_,T⟩:=ac h x
       rw[D]at g
       obtain⟨M,bq,bz,bI,bQ,bc⟩:=s07 (T.symm.trans D)
       have u:=g.own_cur bc
       have ae:=B.own j _ _ _ _ _ _ Y
       rcases ae.2 with⟨ab,bj,_⟩|⟨bB,cap,cur,ab,_⟩
       ·rw[ab]at u
        refine⟨.int .i64 xs.length,rfl,z08 λF _=>?_⟩
        grind[c0b]
       ·rw[ab]at u
        exact⟨.int .i64 xs.length,rfl,z08 λF _=>c0b ho a9 bi af u F⟩
      ·exact s.elim
     ·exact T8 B G s
    ·exact s.elim
   |_=>simp only[evG,ho]at s;exact T8 B G s
  |value f=>simp only[evG,ho]at s;exact T8 B G s
  |invoke r m=>simp only[evG,ho]at s;exact T8 B G s
 |_=>simp only[evG,ho]at s;exact T8 B G s
end
end Go.H
