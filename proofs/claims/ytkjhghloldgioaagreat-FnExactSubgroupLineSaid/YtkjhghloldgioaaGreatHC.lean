/- The library of the walks, part HC: plain laws over the model. -/
import Derived.Test.YtkjhghloldgioaaGreatHB
namespace Go.H.R
open Go.H
set_option linter.unusedVariables false
set_option linter.unusedSimpArgs false
def wpR(P:Program){α:Type}:Sem α->Hp->(α->Hp->Prop)->Prop
 | .pure a,h,K=>K a h
 | .load _ a k,h,K=>∃ v,(a.spot=none/\Hp.cell h a.block a.off=some v)/\wpR P (k v) h K
 | .program k,h,K=>wpR P (k P) h K
 | .mark _ k,h,K=>wpR P k h K
 |_,_,_=>False
theorem wpR_sound{P:Program}{α:Type}{K:α->Hp->Prop}(s:Sem α):∀(h:Hp) (w:World),Vis h w->wpR P s h K->∃ x,s.run P w = .ok x w/\K x h:=by
 induction s with
 |pure a=>exact λh w hv hk=>⟨a,rfl,hk⟩
 |load m a k ih =>
  rintro h w hv ⟨v,⟨hs,hc⟩,hk⟩
  obtain⟨x,hr,hx⟩:=ih v h w hv hk
  exact⟨x,by simp[Sem.run,u05 hv hs hc,hr],hx⟩
 |program k ih=>exact λh w hv hk=>ih _ _ _ hv hk
 |mark m k ih=>exact λh w hv hk=>ih _ _ hv hk
 |_=>exact λh w hv hk=>hk.elim
theorem S5{P:Program}{α β:Type}(s:Sem α)(f:α->Sem β):∀(h:Hp) (K:β->Hp->Prop),wpR P (s >>= f) h K=wpR P s h (λx h'=>wpR P (f x) h' K):=by
 change ∀(h:Hp) (K:β->Hp->Prop),wpR P (s.bind f) h K=wpR P s h (λx h'=>wpR P (f x) h' K)
 induction s with
 |pure a=>intro h K;rfl
 |load m a k ih=>intro h K;simp only[Sem.bind,wpR,ih]
 |program k ih=>intro h K;simp only[Sem.bind,wpR,ih]
 |mark m k ih=>intro h K;simp only[Sem.bind,wpR,ih]
 |_=>intro h K;rfl
theorem a7{P:Program}{α:Type}(x:α)(h:Hp)(K:α->Hp->Prop):wpR P (pure x) h K=K x h:=rfl
section
variable {P:Program} {h0:Hp} {w0:World} {be:Nat->Nat} {oe:Nat->Value} {H:Hp} {st:St} {h:Hp} {a:Act} {w:World} {o:Oper}
theorem J8{t:TypeId}{d:TypeDesc}(hu:P.underlying t=some d)(h:Hp)(K:TypeDesc->Hp->Prop):wpR P (underlying t) h K=K d h:=by
 simp only[underlying,program,S5,wpR,a7,hu]
theorem Z0g{t:TypeId}{i:TypeInfo}(hi:P.info? t=some i)(h:Hp)(K:TypeInfo->Hp->Prop):wpR P (typeInfo t) h K=K i h:=by
 simp only[typeInfo,program,S5,wpR,a7,hi]
theorem h06{t:TypeId}{n:Nat}(hs:E5 P t=some n)(h:Hp)(K:Nat->Hp->Prop):wpR P (sizeOf t) h K=K n h:=by
 unfold E5 at hs
 split at hs
 ·rename_i i hi
  simp only[sizeOf,S5,Z0g hi,a7]
  cases hs;rfl
 ·cases hs
theorem A0f{t:TypeId}{b:Bool}(ha:G0g P t=some b)(h:Hp)(K:Bool->Hp->Prop):wpR P (isAgg t) h K=K b h:=by
 unfold G0g at ha
 split at ha
 ·rename_i hu;cases ha;simp only[isAgg,S5,J8 hu,a7]
 ·rename_i hu;cases ha;simp only[isAgg,S5,J8 hu,a7]
 ·rename_i d h1 h2 hu
  cases ha
  simp only[isAgg,S5,J8 hu]
  cases d<;>first|rfl|exact absurd hu (h1 _)|exact absurd hu (h2 _ _)
 ·cases ha
theorem X04{H:Hp}{b o:Nat}:∀(vs:List Value) (i:Nat) (acc:Array Value) (K:Array Value->Hp->Prop),(∀ j v,vs[j]?=some v->Hp.cell H b (o+i+j)=some v) ->
  K (acc++vs.toArray) H->wpR P (loadCellsFrom ⟨b,o,none⟩ i vs.length acc) H K
 | [],i,acc,K,_,hk=>by simpa [loadCellsFrom,a7] using hk
 |v::vs,i,acc,K,hc,hk=>by
  have h0:=hc 0 v (by simp)
  simp only[loadCellsFrom,List.length_cons,S5,load,wpR]
  have hadd:(⟨b,o,none⟩:Addr).add i=⟨b,o+i,none⟩:=by unfold Addr.add;split<;>simp_all
  rw[hadd]
  refine⟨v,⟨rfl,by simpa using h0⟩,X04 vs (i+1) (acc.push v) K ?_ ?_⟩
  ·intro j u hj
   have:=hc (j+1) u (by simpa using hj)
   rw[show o+(i+1)+j=o+i+(j+1) from by omega]
   exact this
  ·simpa using hk
theorem load_row{t:TypeId}{cs:List l5}{vs:List Value}{off:Nat}{K:AV->Prop}{b o:Nat}(he:d04 P t cs off K)(g:U1 st oe cs vs)
  (hc:∀ j v,vs[j]?=some v->Hp.cell H b (o+j)=some v):∃ av v,K av/\C2 st be oe av v/\∀ Kn:Value->Hp->Prop,Kn v H->wpR P (loadVar t ⟨b,o+off,none⟩) H Kn:=by
 unfold d04 at he
 split at he
 ·rename_i ha
  split at he
  ·rename_i n hn
   split at he
   ·rename_i hl
    have hlen:=t02 _ _ hl
    have g':=(g.drop off).take n
    refine⟨_,.agg ((vs.drop off).take n).toArray,he,⟨_,rfl,g'⟩,λKn hk=>?_⟩
    have hlv:((vs.drop off).take n).length=n:=by rw[←g'.length,hlen]
    simp only[loadVar,S5,A0f ha,if_true,h06 hn,loadCells]
    have:=X04 (P:=P) (H:=H) (b:=b) (o:=o+off) ((vs.drop off).take n) 0 #[] (λx h'=>wpR P (pure (Value.agg x)) h' Kn) (λj v hj=>by
     rw[List.getElem?_take]at hj
     split at hj
     ·rw[List.getElem?_drop]at hj
      rw[show o+off+0+j=o+(off+j) from by omega]
      exact hc _ _ hj
     ·cases hj) (by simpa [a7] using hk)
    rw[hlv]at this
    exact this
   ·exact he.elim
  ·exact he.elim
 ·rename_i ha
  split at he
  ·rename_i c hn
   obtain⟨v,hv,gc⟩:=g.nth hn
   refine⟨_,v,he,C2.ofCell gc,λKn hk=>?_⟩
   simp only[loadVar,S5,A0f ha,Bool.false_eq_true,if_false,load,wpR]
   exact⟨v,⟨trivial,hc _ _ hv⟩,hk⟩
  ·exact he.elim
 ·exact he.elim
theorem E7{P:Program}(s:Sem Value)(H:Hp)(Kn:Next->Hp->Prop)(h:wpR P s H (λv H=>Kn (.value v) H)):wpR P (do pure (Next.value (←s))) H Kn:=by
 rw[S5];exact h
theorem exec_fieldAddr{t:TypeId}{x:Operand}{k fo b off:Nat}(ho:o.op = .fieldAddr t x k)(ht:H0g P t k=some fo)(hx:a.eval x=ptr b off):
  ∀ Kn:Next->Hp->Prop,Kn (.value (ptr b (off+fo))) H->wpR P (execOp a.eval o) H Kn:=by
 intro Kn hk
 obtain⟨fs,f,n,hu,hf,hn,rfl⟩:=y0f ht
 unfold execOp;rw[ho]
 refine E7 _ _ _ ?_
 simp only[Instr.fieldAt,S5,J8 hu,hf,hx,ptr,Instr.sureAddr,a7,fieldPlace,h06 hn,Nat.add_one_ne_zero,if_false,t01]
 exact hk
theorem exec_indexAddr{t e:TypeId}{x i:Operand}{k:IntKind}{j:Int}{sz b off n c:Nat}(ho:o.op = .indexAddr t x i)(ht:S00 P t=some e)(hs:E5 P e=some sz)
  (hx:a.eval x = .slice (some ⟨b,off,none⟩) n c) (hi:a.eval i = .int k j) (h1:0<=j) (h2:j<(n:Int)) :
  ∀ Kn:Next->Hp->Prop,Kn (.value (ptr b (off+j.toNat*sz))) H->wpR P (execOp a.eval o) H Kn:=by
 intro Kn hk
 have hu:=j9 ht
 unfold execOp;rw[ho]
 refine E7 _ _ _ ?_
 simp only[Instr.indexAt,hx,hi,asIntOf,S5,a7,J8 hu,h1,h2,and_self,if_true,h06 hs,t01]
 exact hk
theorem U07{x:Value}{k:IntKind}{i:Int}{y:Nat}{code:BoundsCode}(hx:x = .int k i)(h1:0<=i)(h2:i<=(y:Int))(Kn:Nat->Hp->Prop):wpR P (Instr.sliceBound x y code) H Kn=Kn i.toNat H:=by
 subst hx
 simp only[Instr.sliceBound,asIntOf,S5,a7,h1,h2,and_self,if_true]
theorem s0d{isS:Bool}{n c:Nat}{lo hi:Option Operand}{l m:Int}(hl:q04 a 0 lo l)(hm:q04 a n hi m)(h1:0<=l)(h2:l<=m)(h3:m<=(n:Int))(hnc:n<=c)
  (Kn:Nat×Nat×Nat->Hp->Prop):wpR P (Instr.sliceBounds isS n c (lo.map a.eval) (hi.map a.eval) none) H Kn=Kn (l.toNat,m.toNat,c) H:=by
 have hml:l<=(m.toNat:Int):=by omega
 cases lo with
 |none =>
  have hl0:l=0:=hl
  subst hl0
  cases hi with
  |none =>
   have hm0:m=(n:Int):=hm
   subst hm0
   simp only[Instr.sliceBounds,Option.map_none,S5,a7];rfl
  |some y =>
   obtain⟨k,hy⟩:=hm
   simp only[Instr.sliceBounds,Option.map_none,Option.map_some,S5,a7,U07 hy (by omega) (show m<=(c:Int) by omega)];rfl
 |some x =>
  obtain⟨k,hx⟩:=hl
  cases hi with
  |none =>
   have hm0:m=(n:Int):=hm
   subst hm0
   simp only[Instr.sliceBounds,Option.map_none,Option.map_some,S5,a7,U07 hx h1 (show l<=((n:Nat):Int) by omega)];rfl
  |some y =>
   obtain⟨k',hy⟩:=hm
   simp only[Instr.sliceBounds,Option.map_some,S5,a7,U07 hy (by omega) (show m<=(c:Int) by omega),U07 hx h1 hml]
theorem exec_cutStr{t:TypeId}{x:Operand}{lo hi:Option Operand}{b:ByteArray}{l m:Int}(ho:o.op = .slice t x lo hi none)(hu:P.underlying t=some .string)
  (hx:a.eval x = .string b) (hl:q04 a 0 lo l) (hm:q04 a b.size hi m) (h1:0<=l) (h2:l<=m) (h3:m<=(b.size:Int)) :
  ∀ Kn:Next->Hp->Prop,Kn (.value (.string (b.extract l.toNat m.toNat))) H->wpR P (execOp a.eval o) H Kn:=by
 intro Kn hk
 unfold execOp;rw[ho]
 refine E7 _ _ _ ?_
 simp only[Instr.sliceAt,S5,J8 hu,Instr.slice,hx,Option.map_none,Option.isSome_none,Bool.false_eq_true,if_false,a7]
 rw[s0d hl hm h1 h2 h3 (Nat.le_refl _)]
 exact hk
theorem exec_index{t:TypeId}{x i:Operand}{b:ByteArray}{k:IntKind}{j:Int}{c:UInt8}(ho:o.op = .index t x i)(hu:P.underlying t=some .string)(hx:a.eval x = .string b)(hi:a.eval i = .int k j)
  (h1:0<=j) (hc:b[j.toNat]?=some c):∀ Kn:Next->Hp->Prop,Kn (.value (.int .u8 c.toNat)) H->wpR P (execOp a.eval o) H Kn:=by
 intro Kn hk
 unfold execOp;rw[ho]
 refine E7 _ _ _ ?_
 simp only[Instr.index,hx,hi,asIntOf,S5,a7,J8 hu,h1,if_true,hc]
 exact hk
theorem exec_cat{t t':TypeId}{x y:Operand}{b c:ByteArray}(ho:o.op = .binOp .add t x y t')(hx:a.eval x = .string b)(hy:a.eval y = .string c)(hl:b.size+c.size<=9223372036854775807):
  ∀ Kn:Next->Hp->Prop,Kn (.value (.string (b++c))) H->wpR P (execOp a.eval o) H Kn:=by
 intro Kn hk
 unfold execOp;rw[ho]
 refine E7 _ _ _ ?_
 have hm : ¬ (((b.size+c.size:Nat):Int)>IntKind.i64.max):=by
  have:IntKind.i64.max=9223372036854775807:=by decide
  rw[this];omega
 simp only[hx,hy,eqGuard,S5,Bool.not_false,if_true,a7,binOp,Go.Op.stringOp,if_neg hm]
 exact hk
theorem exec_quo{t t':TypeId}{x y:Operand}{b c:Int}(ho:o.op = .binOp .quo t x y t')(hx:a.eval x = .int .i64 b)(hy:a.eval y = .int .i64 c)(hl:c≠0):
  ∀ Kn:Next->Hp->Prop,Kn (.value (.int .i64 (IntKind.i64.wrap (b.tdiv c)))) H->wpR P (execOp a.eval o) H Kn:=by
 intro Kn hk
 unfold execOp;rw[ho]
 refine E7 _ _ _ ?_
 simp only[hx,hy,eqGuard,S5,Bool.not_false,if_true,a7,binOp,Go.Op.intDiv,if_neg hl,ne_eq,not_true_eq_false,if_false]
 exact hk
theorem exec_rem{t t':TypeId}{x y:Operand}{b c:Int}(ho:o.op = .binOp .rem t x y t')(hx:a.eval x = .int .i64 b)(hy:a.eval y = .int .i64 c)(hl:c≠0):
  ∀ Kn:Next->Hp->Prop,Kn (.value (.int .i64 (b.tmod c))) H->wpR P (execOp a.eval o) H Kn:=by
 intro Kn hk
 unfold execOp;rw[ho]
 refine E7 _ _ _ ?_
 simp only[hx,hy,eqGuard,S5,Bool.not_false,if_true,a7,binOp,Go.Op.intDiv,if_neg hl,ne_eq,not_true_eq_false,if_false]
 exact hk
theorem exec_slice{t e sz:Nat}{x:Operand}{lo hi:Option Operand}{ad:Option Addr}{n c:Nat}{l m:Int}(ho:o.op = .slice t x lo hi none)(hte:S00 P t=some e)(hs:E5 P e=some sz)
  (hx:a.eval x = .slice ad n c) (hl:q04 a 0 lo l) (hm:q04 a n hi m) (h1:0<=l) (h2:l<=m) (h3:m<=(n:Int)) (hnc:n<=c) :
  ∀ Kn:Next->Hp->Prop,Kn (.value (.slice (if c=l.toNat then ad else ad.map (·.add (l.toNat*sz))) (m.toNat-l.toNat) (c-l.toNat))) H->wpR P (execOp a.eval o) H Kn:=by
 intro Kn hk
 unfold execOp;rw[ho]
 refine E7 _ _ _ ?_
 simp only[Instr.sliceAt,S5,J8 (j9 hte),Instr.slice,hx,Option.map_none]
 rw[s0d hl hm h1 h2 h3 hnc]
 simp only[h06 hs,a7]
 exact hk
theorem exec_load{t:TypeId}{x:Operand}{b off:Nat}{v:Value}(ho:o.op = .load t x)(hx:a.eval x=ptr b off)
  (hl:∀ Kn:Value->Hp->Prop,Kn v H->wpR P (loadVar t ⟨b,off,none⟩) H Kn):∀ Kn:Next->Hp->Prop,Kn (.value v) H->wpR P (execOp a.eval o) H Kn:=by
 intro Kn hk
 unfold execOp;rw[ho]
 refine E7 _ _ _ ?_
 rw[hx]
 simp only[Instr.loadAt,ptr,Instr.sureAddr,S5,a7]
 exact hl _ hk
theorem run_of{v:Value}(hw:∀ Kn:Next->Hp->Prop,Kn (.value v) H->wpR P (execOp a.eval o) H Kn)(w:World)(hv:Vis H w):(execOp a.eval o).run P w = .ok (.value v) w:=by
 obtain⟨x,hr,hx⟩:=wpR_sound _ _ w hv (hw (λn _=>n = .value v) rfl)
 rw[hr,hx]
end
end Go.H.R
namespace Go.H
set_option linter.unusedVariables false
set_option linter.unusedSimpArgs false
section
variable {P:Program} {h0:Hp} {w0:World} {be:Nat->Nat} {oe:Nat->Value} {H:Hp} {rs:RS} {a:Act} {w:World} {o:Oper} {ops:Array Oper} {i:Nat}
theorem w0r{a b:Bool}(h:eqB a b=true):a=b:=by cases a<;>cases b<;>simp_all [eqB]
theorem a0h:∀(a b:List (Nat×Bool)),U0n a b=true->a=b
 | [],[],_=>rfl
 |(j,w)::r,(j',w')::r',h=>by
  simp only[U0n]at h
  split at h
  ·rename_i h1 h2
   rw[Nat.eq_of_beq_eq_true h1,w0r h2,a0h r r' h]
  ·cases h
 | [],_::_,h=>by cases h
 |_::_,[],h=>by cases h
theorem f03:∀ {bs:List BE} {j:Nat} {b:BE},h02 bs j=some b->b∈bs/\b.j=j
 | [],_,_,h=>by cases h
 |x::r,j,b,h=>by
  simp only[h02]at h
  split at h
  ·rename_i hb
   cases h
   exact⟨mS,Nat.eq_of_beq_eq_true hb⟩
  ·obtain⟨h1,h2⟩:=f03 h
   exact⟨mC _ h1,h2⟩
theorem Q0a:∀ {bs:List BE} {s:Nat} {b:BE},y09 bs s=some b->b∈bs/\b.d=s
 | [],_,_,h=>by cases h
 |x::r,j,b,h=>by
  simp only[y09]at h
  split at h
  ·rename_i hb
   cases h
   exact⟨mS,Nat.eq_of_beq_eq_true hb⟩
  ·obtain⟨h1,h2⟩:=Q0a h
   exact⟨mC _ h1,h2⟩
theorem t0d:∀ {bs:List BE} {s:Nat},y09 bs s=none->∀ b∈bs,b.d≠s
 | [],_,_,b,hb=>by cases hb
 |x::r,s,h,b,hb=>by
  simp only[y09]at h
  split at h
  ·cases h
  ·rename_i hx
   rcases List.mem_cons.1 hb with rfl|hb
   ·exact Nat.ne_of_beq_eq_false hx
   ·exact t0d h b hb
theorem U03(bs:List BE)(j:Nat)(w:Bool)(r:List (Nat×Bool)):cB bs ((j,w)::r)=match h02 bs j,cB bs r with
  |some b,some c=>some (lit w b.e&&c)
  |_,_=>none:=by
 cases r with
 |nil =>
  simp only[cB]
  cases h02 bs j<;>simp
 |cons x r =>
  have:cB bs ((j,w)::x::r)=match h02 bs j with
    |some b=>(match cB bs (x::r)with
     |some c=>some (lit w b.e&&c)
     |none=>none)
    |none=>none:=rfl
  rw[this]
  generalize cB bs (x::r)=y
  cases h02 bs j<;>cases y<;>rfl
theorem h0q{bs:List BE}{x:Nat×Bool}{r:List (Nat×Bool)}(h:cB bs (x::r)=some true):cB bs r=some true:=by
 rw[U03]at h
 split at h
 ·rename_i b c _ hc
  simp only[Option.some.injEq,Bool.and_eq_true]at h
  rw[hc,h.2]
 ·cases h
theorem V07{bs:List BE}{p:List (Nat×Bool)}:∀ {q:List (Nat×Bool)},W0h p q=true->cB bs q=some true->cB bs p=some true
 | [],h,hq=>by rw[a0h _ _ h];exact hq
 |x::r,h,hq=>by
  simp only[W0h]at h
  split at h
  ·rename_i he;rw[a0h _ _ he];exact hq
  ·exact V07 h (h0q hq)
theorem l0k{bs:List BE}{x:BE}(hx:∀ y∈bs,y.j≠x.j):∀ {ch:List (Nat×Bool)} {c:Bool},cB bs ch=some c->cB (x::bs) ch=some c
 | [],c,h=>h
 |(j,w)::r,c,h=>by
  rw[U03]at h
  split at h
  ·rename_i b c' hl hc
   have hne:Nat.beq x.j j=false:=by
    obtain⟨h1,h2⟩:=f03 hl
    cases hb:Nat.beq x.j j with
    |false=>rfl
    |true=>exact absurd (h2.trans (Nat.eq_of_beq_eq_true hb).symm) (hx b h1)
   have hl':h02 (x::bs) j=some b:=by simp only[h02,hne];exact hl
   rw[U03,hl',l0k hx hc]
   exact h
  ·cases h
structure h07 (ops:Array Oper) (be:Nat->Nat) (oe:Nat->Value) (rs:RS) (a:Act) (i:Nat):Prop where
 lt:∀ x∈rs.bs,x.j<i/\∃ o,ops[x.j]?=some o/\o.dst=some x.d
 val:∀ x∈rs.bs,∃ c,cB rs.bs x.ch=some c/\a.tmps[x.d]?=some (if c=true then .bool x.e else undef)
 gf:∀ d ch av,b0d rs.gf d=some (ch,av)->∃ c,cB rs.bs ch=some c/\(c=true->C2 rs.st be oe av (a.tmps.getD d undef))
theorem h07.grow(r:h07 ops be oe rs a i){st:St}{h:Hp}{be':Nat->Nat}{oe':Nat->Value}(g:M6 rs.st be oe st be' oe'):h07 ops be' oe' { rs with st:=st,h:=h } a i :=
 ⟨r.lt,r.val,λd ch av hd=>let ⟨c,h1,h2⟩:=r.gf d ch av hd;⟨c,h1,λhc=>(h2 hc).grow g⟩⟩
theorem L0m(r:h07 ops be oe rs a i){ch:List (Nat×Bool)}{c:Bool}(hch:c00 rs.bs o.guard=some ch)(hc:cB rs.bs ch=some c):Region.wanted o (yielded ops a.tmps)=c:=by
 unfold Region.wanted
 cases hg:o.guard with
 |none =>
  rw[hg]at hch
  cases hch
  cases hc
  rfl
 |some p =>
  obtain⟨j,w⟩:=p
  rw[hg]at hch
  simp only[c00]at hch
  split at hch
  ·rename_i b hb
   cases hch
   obtain⟨hm,rfl⟩:=f03 hb
   obtain⟨_,o',ho,hd⟩:=r.lt b hm
   obtain⟨c',hc',hv⟩:=r.val b hm
   rw[U03,hb,hc']at hc
   simp only[Option.some.injEq]at hc
   have hy:yielded ops a.tmps b.j=if c'=true then some b.e else none:=by
    unfold yielded
    simp only[ho,hd,oB,hv]
    cases c'<;>rfl
   simp only[hy,←hc]
   cases c'<;>cases w<;>cases b.e<;>rfl
  ·cases hch
theorem u0d(s:Sim P h0 w0 be oe H rs.st rs.h a w)(r:h07 ops be oe rs a i){ch:List (Nat×Bool)}(hc:cB rs.bs ch=some true)(x:Operand):
  (∃ av0,C2 rs.st be oe av0 (a.eval x)/\rdG rs ch x=rdA rs.st av0):=by
 cases x with
 |tmp t =>
  simp only[rdG]
  split
  ·rename_i ch2 av hl
   split
   ·rename_i hs
    obtain⟨c,h1,h2⟩:=r.gf t ch2 av hl
    rw[V07 hs hc]at h1
    cases h1
    exact⟨av,h2 rfl,rfl⟩
   ·exact⟨.dead,trivial,rfl⟩
  ·exact⟨_,s.fr t,rfl⟩
 |const v=>exact⟨.val v,rfl,rfl⟩
 |global g=>exact⟨.dead,trivial,rfl⟩
 |func f=>exact⟨.val _,rfl,rfl⟩
theorem r04(s:Sim P h0 w0 be oe H rs.st rs.h a w)(r:h07 ops be oe rs a i)(ho:ops[i]?=some o){ch:List (Nat×Bool)}{c:Bool}{av:AV}{v:Value}{K:RS->Prop}
  (hc:cB rs.bs ch=some c) (g:c=true->C2 rs.st be oe av v) (gn:c=false->v=undef) (he:c0d o.dst i ch av rs K) :
  ∃ rs',K rs'/\rs'.h=rs.h/\h07 ops be oe rs' (a.put o.dst v) (i+1)/\Sim P h0 w0 be oe H rs'.st rs'.h (a.put o.dst v) w:=by
 cases hd:o.dst with
 |none =>
  rw[hd]at he
  exact⟨rs,he,rfl,⟨λx hx=>⟨Nat.lt_succ_of_lt (r.lt x hx).1,(r.lt x hx).2⟩,r.val,r.gf⟩,s⟩
 |some d =>
  rw[hd]at he
  simp only[c0d]at he
  split at he
  ·rename_i hlt hus
   have hd':d<rs.st.n:=Nat.le_of_ble_eq_true hlt
   have hus':b0d rs.gf d=none/\y09 rs.bs d=none:=by
    unfold X06 at hus
    split at hus
    ·rename_i h1 h2;exact⟨h1,h2⟩
    ·cases hus
   have hget:∀ t,t≠d->(a.put (some d) v).tmps[t]?=a.tmps[t]?:=λt ht=>by
    simp[Act.put,Array.getElem?_setIfInBounds_ne (Ne.symm ht)]
   have hgetd:(a.put (some d) v).tmps[d]?=some v:=by simp[Act.put,s.siz,hd']
   have hx:∀ y∈rs.bs,y.j≠i:=λy hy e=>by have:=(r.lt y hy).1;omega
   have hbs:(∀ x∈Y0h i d ch av rs.bs,x.j<i+1/\∃ o,ops[x.j]?=some o/\o.dst=some x.d) /\
     (∀ x∈Y0h i d ch av rs.bs,∃ c,cB (Y0h i d ch av rs.bs) x.ch=some c/\(a.put (some d) v).tmps[x.d]?=some (if c=true then .bool x.e else undef)) /\
     (∀ ch' c',cB rs.bs ch'=some c'->cB (Y0h i d ch av rs.bs) ch'=some c'):=by
    have hold1:∀ x∈rs.bs,x.j<i+1/\∃ o,ops[x.j]?=some o/\o.dst=some x.d:=λx hx=>⟨Nat.lt_succ_of_lt (r.lt x hx).1,(r.lt x hx).2⟩
    have hold2:∀ x∈rs.bs,∃ c,cB rs.bs x.ch=some c/\(a.put (some d) v).tmps[x.d]?=some (if c=true then .bool x.e else undef):=λx hx=>by
     obtain⟨c,h1,h2⟩:=r.val x hx
     exact⟨c,h1,by rw[hget _ (t0d hus'.2 x hx)];exact h2⟩
    unfold Y0h
    split
    ·rename_i e
     have hext:∀ ch' c',cB rs.bs ch'=some c'->cB (⟨i,d,e,ch⟩::rs.bs) ch'=some c':=λch' c' h'=>l0k (x:=⟨i,d,e,ch⟩) hx h'
     refine⟨λx hx'=>?_,λx hx'=>?_,hext⟩
     ·rcases List.mem_cons.1 hx' with rfl|hx'
      ·exact⟨nS _,o,ho,hd⟩
      ·exact hold1 x hx'
     ·rcases List.mem_cons.1 hx' with rfl|hx'
      ·refine⟨c,hext _ _ hc,?_⟩
       rw[hgetd]
       cases c with
       |true=>rw[show v = .bool e from g rfl];rfl
       |false=>rw[gn rfl];rfl
      ·obtain⟨c,h1,h2⟩:=hold2 x hx'
       exact⟨c,hext _ _ h1,h2⟩
    ·exact⟨hold1,hold2,λ_ _ h=>h⟩
   have gr:∀ av',M6 rs.st be oe { rs.st with fr:=(d,av')::rs.st.fr } be oe:=λav'=>⟨Nat.le_refl _,λ_ _=>rfl,λi s h=>⟨s,h,Nat.le_refl _,λ_=>rfl⟩⟩
   have hgf:∀ d' ch' av',b0d rs.gf d'=some (ch',av')->∃ c',cB (Y0h i d ch av rs.bs) ch'=some c'/\(c'=true->C2 rs.st be oe av' ((a.put (some d) v).tmps.getD d' undef)):=λd' ch' av' hl=>by
    obtain⟨c',h1,h2⟩:=r.gf d' ch' av' hl
    refine⟨c',hbs.2.2 _ _ h1,λhc'=>?_⟩
    have hne:d'≠d:=λe=>by rw[e,hus'.1]at hl;cases hl
    have:(a.put (some d) v).tmps.getD d' undef=a.tmps.getD d' undef:=by
     simp only[Array.getD_eq_getD_getElem?,hget d' hne]
    rw[this]
    exact h2 hc'
   split at he
   ·
    cases hc
    refine⟨_,he,rfl,⟨hbs.1,hbs.2.1,λd' ch' av' hl=>?_⟩,s.put hd' (g rfl)⟩
    obtain⟨c',h1,h2⟩:=hgf d' ch' av' hl
    exact⟨c',h1,λhc'=>(h2 hc').grow (gr av)⟩
   ·refine⟨_,he,rfl,⟨hbs.1,hbs.2.1,λd' ch' av' hl=>?_⟩,s.put hd' (show C2 rs.st be oe .dead v from trivial)⟩
    simp only[b0d]at hl
    split at hl
    ·rename_i hb
     cases hl
     have:=Nat.eq_of_beq_eq_true hb
     subst this
     refine⟨c,hbs.2.2 _ _ hc,λhc'=>(C2.grow (gr .dead) ?_)⟩
     have:(a.put (some d) v).tmps.getD d undef=v:=by simp only[Array.getD_eq_getD_getElem?,hgetd];rfl
     rw[this]
     exact g hc'
    ·obtain⟨c',h1,h2⟩:=hgf d' ch' av' hl
     exact⟨c',h1,λhc'=>(h2 hc').grow (gr .dead)⟩
  ·exact he.elim
end
end Go.H
namespace Go.H
set_option linter.unusedVariables false
set_option linter.unusedSimpArgs false
section
variable {P:Program} {h0:Hp} {w0:World} {be:Nat->Nat} {oe:Nat->Value} {H:Hp} {rs:RS} {a:Act} {w:World} {o:Oper} {ops:Array Oper} {i:Nat}
theorem i07{bs:List BE}{ch:List (Nat×Bool)}{c:Bool}{X:Prop}(h:imp ch c X)(hc:c=true):X:=by
 unfold imp at h
 split at h
 ·exact h
 ·exact h hc
def CW(H:Hp)(w:World):World->Prop:=λw'=>P2 H w H w'
theorem j07{v:Value}(hr:∀ w',Vis H w'->(execOp a.eval o).run P w' = .ok (.value v) w'):∀ w',CW H w w'->o.quietAt P a (CW H w) w' v:=λw' m=>by
 unfold Oper.quietAt
 rw[hr w' m.vis]
 exact⟨rfl,rfl⟩
theorem K02{v:Value}(hw:∀ Kn:Next->Hp->Prop,Kn (.value v) H->R.wpR P (execOp a.eval o) H Kn):∀ w',CW H w w'->o.quietAt P a (CW H w) w' v :=
 j07 λw' hv=>R.run_of hw w' hv
theorem P2.widen{hf:Hp}{w w':World}(hv:Vis H w)(hsub:∀ b o,hf b=some o->H b=some o)(m:P2 hf w hf w'):P2 H w H w':=by
 refine⟨m.os,m.tape,m.output,m.size,?_,?_,λb hb => .inl hb,m.fz,m.dn⟩
 ·intro b hb hn
  refine m.keep b hb ?_
  cases hc:hf b with
  |none=>rfl
  |some o=>rw[hsub b o hc]at hn;cases hn
 ·intro b o hb
  cases hc:hf b with
  |some o' =>
   have:=hsub b o' hc
   rw[this]at hb;cases hb
   exact m.vis b _ hc
  |none=>rw[m.keep b (hv.lt (by rw[hb];simp)) hc];exact hv b o hb
theorem s04{ch:List (Nat×Bool)}(G:∀ x,C2 rs.st be oe (rdG rs ch x) (a.eval x)):∀(l:List Operand) {vs:List (Nat×Value)},X0h rs ch l=some vs ->
  (∀ p∈vs,p.2=a.eval (.tmp p.1))/\(∀ x∈l,(∃ t v,x = .tmp t/\(t,v)∈vs)∨(∀ ws,rho ws x=a.eval x))
 | [],vs,h=>by cases h;simp
 | .tmp t::r,vs,h=>by
  simp only[X0h]at h
  split at h
  ·rename_i v hv
   split at h
   ·rename_i vs' hr
    cases h
    obtain⟨h1,h2⟩:=s04 G r hr
    have g:=i7 hv (G (.tmp t))
    refine⟨λp hp=>?_,λx hx=>?_⟩
    ·rcases List.mem_cons.1 hp with rfl|hp
     ·exact g.symm
     ·exact h1 p hp
    ·rcases List.mem_cons.1 hx with rfl|hx
     ·exact .inl ⟨t,v,rfl,mS⟩
     ·rcases h2 x hx with⟨t',v',rfl,hm⟩|hf
      ·exact .inl ⟨t',v',rfl,mC _ hm⟩
      ·exact .inr hf
   ·cases h
  ·cases h
 | .global _::r,vs,h=>by cases h
 | .const v::r,vs,h=>by
  obtain⟨h1,h2⟩:=s04 G r (vs:=vs) h
  exact⟨h1,λx hx=>by
   rcases List.mem_cons.1 hx with rfl|hx
   ·exact .inr λ_=>rfl
   ·exact h2 x hx⟩
 | .func f::r,vs,h=>by
  obtain⟨h1,h2⟩:=s04 G r (vs:=vs) h
  exact⟨h1,λx hx=>by
   rcases List.mem_cons.1 hx with rfl|hx
   ·exact .inr λ_=>rfl
   ·exact h2 x hx⟩
abbrev d0s(P:Program)(be:Nat->Nat)(oe:Nat->Value)(H:Hp)(rs:RS)(a:Act)(w:World)(o:Oper)(c:Bool)(K:AV->Prop):Prop :=
 ∃ av,K av/\(c=true->∃ v,C2 rs.st be oe av v/\∀ w',CW H w w'->o.quietAt P a (CW H w) w' v)
variable {ch:List (Nat×Bool)} {c:Bool} {K:AV->Prop}
theorem i06(G:∀ x,C2 rs.st be oe (rdG rs ch x) (a.eval x)):∀(l:List Operand) {st:St} {h:Hp} {K:List (Nat×Value)->St->Hp->Prop},Sim P h0 w0 be oe H st h a w->M6 rs.st be oe st be oe->Z0p rs ch l st h K ->
  ∃ vs st' h',K vs st' h'/\Sim P h0 w0 be oe H st' h' a w/\(∀ p∈vs,p.2=a.eval (.tmp p.1))/\(∀ x∈l,(∃ t v,x = .tmp t/\(t,v)∈vs)∨(∀ ws,rho ws x=a.eval x))
 | [],st,h,K,s,gr,he=>⟨[],st,h,he,s,by simp,by simp⟩
 | .tmp t::r,st,h,K,s,gr,he=>by
  obtain⟨st1,h1,e1,s1,g1⟩:=B02 s (s.rdA ((G (.tmp t)).grow gr)) he
  obtain⟨vs,st2,h2,e2,s2,k1,k2⟩:=i06 G r s1 (gr.trans g1) e1
  refine⟨_,st2,h2,e2,s2,?_,?_⟩
  ·intro p hp
   rcases List.mem_cons.1 hp with rfl|hp
   ·rfl
   ·exact k1 p hp
  ·intro x hx
   rcases List.mem_cons.1 hx with rfl|hx
   ·exact .inl ⟨t,_,rfl,mS⟩
   ·rcases k2 x hx with⟨t',v',rfl,hm⟩|hf
    ·exact .inl ⟨t',v',rfl,mC _ hm⟩
    ·exact .inr hf
 | .const v::r,st,h,K,s,gr,he=>by
  obtain⟨vs,st2,h2,e2,s2,k1,k2⟩:=i06 G r s gr he
  refine⟨vs,st2,h2,e2,s2,k1,λx hx=>?_⟩
  rcases List.mem_cons.1 hx with rfl|hx
  ·exact .inr λ_=>rfl
  ·exact k2 x hx
 | .func f::r,st,h,K,s,gr,he=>by
  obtain⟨vs,st2,h2,e2,s2,k1,k2⟩:=i06 G r s gr he
  refine⟨vs,st2,h2,e2,s2,k1,λx hx=>?_⟩
  rcases List.mem_cons.1 hx with rfl|hx
  ·exact .inr λ_=>rfl
  ·exact k2 x hx
 | .global _::_,_,_,_,_,_,he=>he.elim
theorem o8(s:Sim P h0 w0 be oe H rs.st rs.h a w)(G:c=true->∀ x,C2 rs.st be oe (rdG rs ch x) (a.eval x))(he:K0g P o ch c rs K):d0s P be oe H rs a w o c K:=by
 unfold K0g at he
 split at he
 ·rename_i vs hsel hvs
  split at he
  ·rename_i f l hcf
   split at he
   ·rename_i hok
    obtain⟨v,ht,hk⟩:=he
    refine⟨_,hk,λhc=>?_⟩
    obtain⟨h1,h2⟩:=s04 (G hc) _ hvs
    rw[m04 h1 h2]at hcf
    refine⟨v,rfl,λw' m=>?_⟩
    unfold Oper.quietAt
    rw[N07 hcf hok]
    refine⟨rfl,((i07 (bs:=rs.bs) ht hc).run w' (λb o hb=>m.vis b o (s.sub b o hb))).mono ?_⟩
    rintro e w'' ⟨v',h',rfl,⟨rfl,rfl⟩,hm⟩
    exact⟨rfl,P2.trans m (P2.widen m.vis s.sub hm)⟩
   ·exact he.elim
  ·split at he
   ·rename_i v hev
    refine⟨_,he,λhc=>?_⟩
    obtain⟨h1,h2⟩:=s04 (G hc) _ hvs
    rw[G09,O07 hsel h1 h2]at hev
    exact⟨v,rfl,j07 λw' _=>n0l _ hev w'⟩
   ·exact he.elim
 ·obtain⟨r,ht,hk⟩:=he
  refine⟨_,hk,λhc=>⟨r,rfl,λw' m=>?_⟩⟩
  obtain⟨vs,st1,h1,e1,s1,k1,k2⟩:=i06 (G hc) _ s (M6.refl _ _ _) (i07 (bs:=rs.bs) ht hc)
  rw[m04 k1 k2]at e1
  split at e1
  ·rename_i f l hcf
   split at e1
   ·rename_i hok
    unfold Oper.quietAt
    rw[N07 hcf hok]
    refine⟨rfl,(e1.run w' (λb o hb=>m.vis b o (s1.sub b o hb))).mono ?_⟩
    rintro e w'' ⟨v',h',rfl,⟨rfl,rfl⟩,hm⟩
    exact⟨rfl,P2.trans m (P2.widen m.vis s1.sub hm)⟩
   ·exact e1.elim
  ·exact e1.elim
 ·exact he.elim
theorem Y04{d l:Int}{x:Option Operand}(G:∀ x,C2 rs.st be oe (rdG rs ch x) (a.eval x))(he:T04 d (x.map (rdG rs ch))=some l):q04 a d x l:=by
 cases x with
 |none=>simp only[Option.map_none,T04,Option.some.injEq]at he;exact he.symm
 |some y =>
  have g:=G y
  simp only[Option.map_some]at he
  cases hr:rdG rs ch y with
  |val v =>
   rw[hr]at he g
   cases v<;>simp only[T04,Option.some.injEq]at he<;>first|(subst he;exact⟨_,g⟩)|cases he
  |_=>rw[hr]at he;cases he
theorem k0o(s:Sim P h0 w0 be oe H rs.st rs.h a w){av0:AV}{x:Value}(g0:C2 rs.st be oe av0 x){cs:List l5}(he:b00 (rdA rs.st av0)=some cs):U1 rs.st oe cs x.cells.toList:=by
 have g:=s.rdA g0
 cases hr:rdA rs.st av0 with
 |val v =>
  rw[hr]at he g
  have hv:x=v:=g
  rw[hv]
  cases v<;>simp only[b00,Option.some.injEq]at he<;>first|(subst he;first|exact U1.vals _ _ _|exact⟨rfl,trivial⟩)|cases he
 |own i k =>
  rw[hr]at he g
  obtain⟨e,sz,by_,nn,xs,hn⟩:=b06 hr
  simp only[b00,Option.some.injEq]at he
  subst he
  have hx:x=oe i:=g.own_cur hn
  obtain⟨y,n,c,hy⟩:=m0d s hn
  rw[hx,hy]
  rw[hx,hy]at g
  exact⟨g,trivial⟩
 |agg cs' =>
  rw[hr]at he g
  simp only[b00,Option.some.injEq]at he
  subst he
  obtain⟨vs,hv,gv⟩:=g
  rw[hv]
  exact gv
 |_=>rw[hr]at he;cases he
set_option maxHeartbeats 1000000 in
theorem M0m(s:Sim P h0 w0 be oe H rs.st rs.h a w)(r:h07 ops be oe rs a i)(hc:cB rs.bs ch=some c)(he:evG P o ch c rs K):d0s P be oe H rs a w o c K:=by
 have G0:c=true->∀ x,∃ av0,C2 rs.st be oe av0 (a.eval x)/\rdG rs ch x=rdA rs.st av0:=λh x=>by subst h;exact u0d s r hc x
 have G:c=true->∀ x,C2 rs.st be oe (rdG rs ch x) (a.eval x):=λh x=>by
  obtain⟨av0,g,e⟩:=G0 h x
  rw[e];exact s.rdA g
 have imps:∀ {X:Prop},imp ch c X->c=true->X:=λh hc=>i07 (bs:=rs.bs) h hc
 have hH:∀ w',CW H w w'->Vis H w':=λw' m=>m.vis
 cases ho:o.op with
 |move x =>
  simp only[evG,ho]at he
  have hk:K (rdG rs ch x):=by revert he;cases rdG rs ch x<;>intro he<;>first|exact he|exact he.elim
  refine⟨_,hk,λh=>⟨_,G h x,j07 λw' _=>?_⟩⟩
  unfold execOp;rw[ho];rfl
 |assign x =>
  simp only[evG,ho]at he
  have hk:K (rdG rs ch x):=by revert he;cases rdG rs ch x<;>intro he<;>first|exact he|exact he.elim
  refine⟨_,hk,λh=>⟨_,G h x,j07 λw' _=>?_⟩⟩
  unfold execOp;rw[ho];rfl
 |pick cc x y =>
  cases cc with
  |tmp t =>
   simp only[evG,ho]at he
   split at he
   ·rename_i e q hs hq
    split at he
    ·rename_i hsf
     split at he
     ·rename_i bx by_ hx hy
      refine⟨_,he,λh=>?_⟩
      have gt:=G h (.tmp t)
      rw[hs]at gt
      have gt':a.eval (.tmp t) = .bool e:=gt
      subst h
      obtain⟨hm,hqd⟩:=Q0a hq
      have hqc:=V07 hsf hc
      obtain⟨c',h1,h2⟩:=r.val q hm
      rw[hqc]at h1
      cases h1
      have hqe:q.e=e:=by
       have:a.eval (.tmp t) = .bool q.e:=by
        simp only[Act.eval,←hqd,Array.getD_eq_getD_getElem?,h2];rfl
       rw[gt']at this
       cases this;rfl
      have hj:∃ b,h02 rs.bs q.j=some b:=by
       have:∀(l:List BE),q∈l->∃ b,h02 l q.j=some b:=by
        intro l
        induction l with
        |nil=>intro h;cases h
        |cons z l ih =>
         intro h
         simp only[h02]
         split
         ·exact⟨_,rfl⟩
         ·rename_i hb
          rcases List.mem_cons.1 h with rfl|h
          ·exact absurd rfl (Nat.ne_of_beq_eq_false hb)
          ·exact ih h
       exact this _ hm
      obtain⟨b,hb⟩:=hj
      obtain⟨hbm,hbj⟩:=f03 hb
      have hbe:b.e=e/\cB rs.bs b.ch=some true:=by
       obtain⟨_,o1,a1,a2⟩:=r.lt b hbm
       obtain⟨_,o2,b1,b2⟩:=r.lt q hm
       rw[hbj,b1]at a1
       cases a1
       rw[b2]at a2
       have hbd:q.d=b.d:=by simpa using a2
       obtain⟨c',k1,k2⟩:=r.val b hbm
       rw[←hbd,h2]at k2
       cases c' with
       |true =>
        simp at k2
        exact⟨by rw[←k2,hqe],k1⟩
       |false=>simp[undef]at k2
      refine⟨.bool (cond e bx by_),rfl,j07 λw' _=>?_⟩
      unfold execOp;rw[ho]
      simp only[gt',Sem.run_bind,asBool,Sem.run_pure,Result.andThen_ok]
      cases e with
      |true =>
       have hch:cB rs.bs ((q.j,true)::q.ch)=some true:=by
        rw[U03,hb,hqc];simp[lit,hbe.1]
       obtain⟨av0,g1,g2⟩:=u0d s r hch x
       have g3:=s.rdA g1
       rw[←g2,hx]at g3
       have g4:a.eval x = .bool bx:=g3
       simp[g4]
      |false =>
       have hch:cB rs.bs ((q.j,false)::q.ch)=some true:=by
        rw[U03,hb,hqc];simp[lit,hbe.1]
       obtain⟨av0,g1,g2⟩:=u0d s r hch y
       have g3:=s.rdA g1
       rw[←g2,hy]at g3
       have g4:a.eval y = .bool by_:=g3
       simp[g4]
     ·exact he.elim
    ·exact he.elim
   ·exact he.elim
  |_=>simp only[evG,ho]at he;exact o8 s G he
 |fieldAddr t x k =>
  simp only[evG,ho]at he
  split at he
  ·rename_i j off fo hr ht
   refine⟨_,he,λh=>?_⟩
   have g:=G h x
   rw[hr]at g
   exact⟨ptr (be j) (off+fo),⟨g.1,rfl⟩,K02 (R.exec_fieldAddr ho ht g.2)⟩
  ·rename_i sl j sz kk fo hr ht
   refine⟨_,he,λh=>?_⟩
   have g:=G h x
   rw[hr]at g
   obtain⟨b,o',n,cp,e1,e2⟩:=g
   exact⟨ptr b (o'+(j.toNat*sz+kk)+fo),⟨b,o',n,cp,e1,by simp[Nat.add_assoc]⟩,K02 (R.exec_fieldAddr ho ht e2)⟩
  ·rename_i ii k0 j sz kk fo hr ht
   refine⟨_,he,λh=>?_⟩
   have g:=G h x
   obtain⟨av0,_,g0⟩:=G0 h x
   rw[hr]at g
   obtain⟨e',sz',by',nn',xs',hn'⟩:=P0g (g0.symm.trans hr)
   obtain⟨gg,n,cp,e1,e2⟩:=g.oel_cur hn'
   exact⟨ptr gg (j.toNat*sz+kk+fo),⟨k0,by simp[stamp,hn'],Nat.le_refl _,λ_=>⟨gg,n,cp,e1,by simp[Nat.add_assoc]⟩⟩,K02 (R.exec_fieldAddr ho ht e2)⟩
  ·exact he.elim
 |indexAddr t x ix =>
  simp only[evG,ho]at he
  split at he
  ·rename_i kd j hi
   split at he
   ·rename_i e hte
    split at he
    ·rename_i sz hsz
     split at he
     ·rename_i ad n cp hx
      refine⟨_,he.2,λh=>?_⟩
      obtain⟨b,off,n',c',e1,b1,b2⟩:=imps he.1 h
      cases e1
      have gx:=G h x
      rw[hx]at gx
      have gi:=G h ix
      rw[hi]at gi
      exact⟨ptr b (off+j.toNat*sz),⟨b,off,n,cp,rfl,by simp⟩,K02 (R.exec_indexAddr ho hte hsz gx gi b1 b2)⟩
     ·rename_i ii kk hx
      split at he
      ·rename_i s0 e0 sz' by_ nn xs hn
       split at he
       ·rename_i hb
        refine⟨_,he.2,λh=>?_⟩
        obtain⟨b1,b2⟩:=imps he.1 h
        have:=Nat.eq_of_beq_eq_true hb
        subst this
        have gx:=G h x
        obtain⟨av0,_,g0⟩:=G0 h x
        rw[hx]at gx
        have gi:=G h ix
        rw[hi]at gi
        obtain⟨e',sz1,by',nn',xs',hn'⟩:=b06 (g0.symm.trans hx)
        have hcur:=gx.own_cur hn'
        have hown:=s.own ii _ _ _ _ _ _ hn
        rcases hown.2 with⟨hv,hxs,_⟩|⟨g,cap,cur,hv,_⟩
        ·rw[hxs]at b2;simp at b2;omega
        ·rw[hv]at hcur
         refine⟨ptr g (0+j.toNat*sz'),⟨kk,by simp[stamp,hn'],Nat.le_refl _,λ_=>⟨g,xs.length,cap,hv,by simp⟩⟩,K02 (R.exec_indexAddr ho hte hsz hcur gi b1 b2)⟩
       ·exact he.elim
      ·exact he.elim
     ·exact he.elim
    ·exact he.elim
   ·exact he.elim
  ·exact he.elim
 |load t x =>
  simp only[evG,ho]at he
  split at he
  ·rename_i j off hr
   split at he
   ·rename_i cs ty hn
    obtain⟨h1,vs,h2,h3⟩:=s.box j cs ty hn
    obtain⟨av,v,k1,k2,k3⟩:=R.load_row (H:=H) (b:=be j) (o:=0) (be:=be) he h2 (λj v hj=>by simp[Hp.cell,h3,hj])
    refine⟨av,k1,λh=>⟨v,k2,K02 ?_⟩⟩
    have g:=G h x
    rw[hr]at g
    exact R.exec_load ho g.2 (by simpa using k3)
   ·exact he.elim
  ·rename_i sl idx sz k hr
   obtain⟨e,hel,hk⟩:=he
   cases c with
   |false =>
    have hk':∃ av,K av:=by
     unfold d04 at hk
     split at hk
     ·split at hk
      ·split at hk
       ·exact⟨_,hk⟩
       ·exact hk.elim
      ·exact hk.elim
     ·split at hk
      ·exact⟨_,hk⟩
      ·exact hk.elim
     ·exact hk.elim
    obtain⟨av,hk'⟩:=hk'
    exact⟨av,hk',λh=>by cases h⟩
   |true =>
    have hc':=imps hel rfl
    have g:=G rfl x
    rw[hr]at g
    obtain⟨b,o',n,cp,e1,e2⟩:=g
    obtain⟨_,_,b',o'',n',cp',e3,hcell⟩:=hc'
    rw[e1]at e3;cases e3
    obtain⟨av,v,k1,k2,k3⟩:=R.load_row (H:=H) (b:=b) (o:=o'+idx.toNat*sz) (be:=be) hk (U1.vals rs.st oe e) (λj v hj=>by
     have:=hcell j v hj
     unfold Hp.cell at this ⊢
     split at this
     ·rename_i ho';rw[s.sub _ _ ho'];exact this
     ·cases this)
    refine⟨av,k1,λh=>⟨v,k2,K02 (R.exec_load ho e2 ?_)⟩⟩
    simpa [Nat.add_assoc] using k3
  ·rename_i j s0 idx sz k hr
   split at he
   ·rename_i st1 e0 sz' by_ nn xs hn
    split at he
    ·rename_i hb
     have hsz:=Nat.eq_of_beq_eq_true hb
     subst hsz
     obtain⟨e,hel,hk⟩:=he
     cases c with
     |false =>
      have hk':∃ av,K av:=by
       unfold d04 at hk
       split at hk
       ·split at hk
        ·split at hk
         ·exact⟨_,hk⟩
         ·exact hk.elim
        ·exact hk.elim
       ·split at hk
        ·exact⟨_,hk⟩
        ·exact hk.elim
       ·exact hk.elim
      obtain⟨av,hk'⟩:=hk'
      exact⟨av,hk',λh=>by cases h⟩
     |true =>
      have hc':=imps hel rfl
      have g:=G rfl x
      obtain⟨av0,_,g0⟩:=G0 rfl x
      rw[hr]at g
      obtain⟨e',szz,by',nn',xs',hn'⟩:=P0g (g0.symm.trans hr)
      obtain⟨gg,n,cp,e1,e2⟩:=g.oel_cur hn'
      have hown:=s.own j _ _ _ _ _ _ hn
      obtain⟨av,v,k1,k2,k3⟩:=R.load_row (H:=H) (b:=gg) (o:=idx.toNat*sz') (be:=be) hk (U1.vals rs.st oe e) (λj v hj =>
       hown.cells e1 _ _ (t03 xs _ e (λx hx=>(hown.1 x hx).1) hc' j v hj))
      exact⟨av,k1,λh=>⟨v,k2,K02 (R.exec_load ho e2 k3)⟩⟩
    ·exact he.elim
   ·exact he.elim
  ·exact he.elim
 |build t ps =>
  simp only[evG,ho]at he
  split at he
  ·rename_i fs z hu hz
   split at he
   ·rename_i ha
    cases c with
    |false =>
     have:∀(l:List (Nat×Operand)) (cs:List l5) (K':List l5->Prop),V06 P fs (rdG rs ch) l cs K'->∃ cs,K' cs:=by
      intro l
      induction l with
      |nil=>intro cs K' h;exact⟨_,h⟩
      |cons p l ih =>
       obtain⟨i,x⟩:=p
       intro cs K' h
       simp only[V06]at h
       split at h
       ·split at h
        ·split at h
         ·exact ih _ _ h
         ·exact h.elim
        ·exact h.elim
       ·exact h.elim
     obtain⟨cs,hk⟩:=this _ _ _ he
     exact⟨_,hk,λh=>by cases h⟩
    |true =>
     obtain⟨av,v,k1,k2,k3⟩:=p0i (K':=K) s ho hu hz ha (λx cs hcs=>by
      obtain⟨av0,g1,g2⟩:=G0 rfl x
      rw[g2]at hcs
      exact k0o s g1 hcs) he
     exact⟨av,k1,λ_=>⟨v,k2,j07 λw' _=>k3 w'⟩⟩
   ·exact he.elim
  ·exact he.elim
 |index t x ix =>
  simp only[evG,ho]at he
  split at he
  ·rename_i b kd j hx hi hu
   obtain⟨e,h1,hk⟩:=he
   refine⟨_,hk,λh=>?_⟩
   have gx:=G h x
   rw[hx]at gx
   have gi:=G h ix
   rw[hi]at gi
   obtain⟨b1,b2⟩:=imps h1 h
   exact⟨_,rfl,K02 (R.exec_index ho hu gx gi b1 b2)⟩
  ·exact he.elim
 |slice t x lo hi mx =>
  cases mx with
  |some m=>simp only[evG,ho]at he;exact o8 s G he
  |none =>
   simp only[evG,ho]at he
   split at he
   ·rename_i b hx hu
    split at he
    ·rename_i l m hl hm
     refine⟨_,he.2,λh=>?_⟩
     obtain⟨h1,h2,h3⟩:=imps he.1 h
     have gx:=G h x
     rw[hx]at gx
     exact⟨_,rfl,K02 (R.exec_cutStr ho hu gx (Y04 (G h) hl) (Y04 (G h) hm) h1 h2 h3)⟩
    ·exact he.elim
   ·rename_i ad n cp hx
    split at he
    ·rename_i e hte
     split at he
     ·rename_i sz hs
      split at he
      ·rename_i l m hl hm
       obtain⟨v,h1,hk⟩:=he
       refine⟨_,hk,λh=>?_⟩
       obtain⟨⟨b1,b2,b3,b4⟩,b5⟩:=imps h1 h
       have gx:=G h x
       rw[hx]at gx
       refine⟨v,rfl,?_⟩
       rw[b5 _ _ _ rfl]
       exact K02 (R.exec_slice ho hte hs gx (Y04 (G h) hl) (Y04 (G h) hm) b1 b2 b3 b4)
      ·exact he.elim
     ·exact he.elim
    ·exact he.elim
   ·exact he.elim
 |binOp op t x y t' =>
  cases op with
  |add =>
   simp only[evG,ho]at he
   split at he
   ·rename_i b cc hx hy
    refine⟨_,he.2,λh=>?_⟩
    have gx:=G h x
    rw[hx]at gx
    have gy:=G h y
    rw[hy]at gy
    exact⟨_,rfl,K02 (R.exec_cat ho gx gy (imps he.1 h))⟩
   ·exact o8 s G he
  |quo =>
   simp only[evG,ho]at he
   split at he
   ·rename_i b cc hx hy
    refine⟨_,he.2,λh=>?_⟩
    have gx:=G h x
    rw[hx]at gx
    have gy:=G h y
    rw[hy]at gy
    exact⟨_,rfl,K02 (R.exec_quo ho gx gy (imps he.1 h))⟩
   ·exact o8 s G he
  |rem =>
   simp only[evG,ho]at he
   split at he
   ·rename_i b cc hx hy
    refine⟨_,he.2,λh=>?_⟩
    have gx:=G h x
    rw[hx]at gx
    have gy:=G h y
    rw[hy]at gy
    exact⟨_,rfl,K02 (R.exec_rem ho gx gy (imps he.1 h))⟩
   ·exact o8 s G he
  |eql =>
   simp only[evG,ho]at he
   split at he
   ·rename_i xs ys hx hy
    obtain⟨b,h1,hk⟩:=he
    exact⟨_,hk,λh=>⟨.bool b,rfl,j07 λw' _=>imps h1 h _ (i7 hx (G h x)) (i7 hy (G h y)) w'⟩⟩
   ·rename_i a' n' m' hx hy
    obtain⟨b,h1,hk⟩:=he
    exact⟨_,hk,λh=>⟨.bool b,rfl,j07 λw' _=>imps h1 h _ (i7 hx (G h x)) (i7 hy (G h y)) w'⟩⟩
   ·exact o8 s G he
  |neq =>
   simp only[evG,ho]at he
   split at he
   ·rename_i xs ys hx hy
    obtain⟨b,h1,hk⟩:=he
    exact⟨_,hk,λh=>⟨.bool b,rfl,j07 λw' _=>imps h1 h _ (i7 hx (G h x)) (i7 hy (G h y)) w'⟩⟩
   ·exact o8 s G he
  |_=>simp only[evG,ho]at he;exact o8 s G he
 |call cc =>
  obtain⟨cal,as,ts⟩:=cc
  cases cal with
  |builtin b =>
   cases b with
   |len =>
    simp only[evG,ho]at he
    split at he
    ·rename_i x t ha ht
     have ha':as = #[x]:=by apply Array.ext';simpa using ha
     have ht':ts = #[t]:=by apply Array.ext';simpa using ht
     split at he
     ·rename_i j k hr
      split at he
      ·rename_i s0 e sz by_ nn xs e' hn hte
       refine⟨_,he,λh=>?_⟩
       have g:=G h x
       obtain⟨av0,_,g0⟩:=G0 h x
       rw[hr]at g
       obtain⟨e1,sz1,by1,nn1,xs1,hn1⟩:=b06 (g0.symm.trans hr)
       have hx:=g.own_cur hn1
       have hown:=s.own j _ _ _ _ _ _ hn
       rcases hown.2 with⟨hv,hxs,_⟩|⟨g',cap,cur,hv,_⟩
       ·rw[hv]at hx
        refine⟨.int .i64 xs.length,rfl,j07 λw' _=>?_⟩
        rw[N09 ho ha' ht' hte hx w',hxs];rfl
       ·rw[hv]at hx
        exact⟨.int .i64 xs.length,rfl,j07 λw' _=>N09 ho ha' ht' hte hx w'⟩
      ·exact he.elim
     ·exact o8 s G he
    ·exact he.elim
   |_=>simp only[evG,ho]at he;exact o8 s G he
  |value f=>simp only[evG,ho]at he;exact o8 s G he
  |invoke r m=>simp only[evG,ho]at he;exact o8 s G he
 |_=>simp only[evG,ho]at he;exact o8 s G he
end
end Go.H
