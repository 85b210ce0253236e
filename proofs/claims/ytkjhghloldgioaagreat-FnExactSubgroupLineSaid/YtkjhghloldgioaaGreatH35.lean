/- Plain laws over the model: a row of the call's own, published, changes in place. -/
import Derived.Test.YtkjhghloldgioaaGreatHE
namespace Go.H
set_option linter.unusedVariables false
set_option linter.unusedSimpArgs false
section
variable {h h':Hp} {v:Value} {e sz:Nat} {vs:List (List Value)}
theorem U0.place(fr:U0 h h' v e sz true vs):∃ g cap cur,v = .slice (some ⟨g,0,none⟩) vs.length cap/\h g=none/\h'=h.set g (.cells cur e (0,0))/\vs.length<=cap/\cap<=maxLen/\cur.size=cap*sz/\cur.toList.take (vs.length*sz)=vs.flatten:=by
 rcases fr.2 with⟨_,_,h0,_⟩|h1
 ·cases h0
 ·exact h1
theorem U0.cut(fr:U0 h h' v e sz true vs){k:Nat}(hk:k<=vs.length):∃ g cap,v = .slice (some ⟨g,0,none⟩) vs.length cap/\U0 h h' (.slice (some ⟨g,0,none⟩) k cap) e sz true (vs.take k):=by
 obtain⟨g,cap,cur,rfl,h1,h2,h3,h4,h5,h6⟩:=fr.place
 have hl:(vs.take k).length=k:=by simp;omega
 have hfl:∀ l:List (List Value),(∀ x∈l,x.length=sz)->l.flatten.length=l.length*sz:=λl=>by
  induction l with
  |nil=>simp
  |cons a l ih=>intro ha;simp only[List.flatten_cons,List.length_append,List.length_cons,Nat.add_mul,Nat.one_mul,ih λx hx=>ha x (mC _ hx),ha a mS];omega
 refine⟨g,cap,rfl,λx hx=>fr.1 x (List.mem_of_mem_take hx),.inr ⟨g,cap,cur,by rw[hl],h1,h2,by omega,h4,h5,?_⟩⟩
 rw[hl]
 have e1:vs.flatten=(vs.take k).flatten++(vs.drop k).flatten:=by rw[←List.flatten_append,List.take_append_drop]
 have e2:=hfl (vs.take k) λx hx=>(fr.1 x (List.mem_of_mem_take hx)).1
 rw[hl]at e2
 have e3:k*sz<=vs.length*sz:=Nat.mul_le_mul_right _ hk
 have:=congrArg (List.take (k*sz)) h6
 rw[List.take_take,Nat.min_eq_left e3,e1,List.take_left' e2]at this
 exact this
end
section
variable {h h':Hp} {v:Value} {e sz:Nat} {vs:List (List Value)}
theorem U0.row(fr:U0 h h' v e sz true vs){i:Nat}{new:List Value}(hi:i<vs.length)(hl:new.length=sz)(h1:∀ v∈new,v.oneCell'=true):
  ∃ g cap cur,v = .slice (some ⟨g,0,none⟩) vs.length cap/\h' g=some (.cells cur e (0,0))/\i*sz+sz<=cur.size/\U0 h (h'.set g (.cells (U2 cur.toList (i*sz) new).toArray e (0,0))) v e sz true (vs.set i new):=by
 have hall:=fr.1
 obtain⟨g,cap,cur,rfl,hg,rfl,a1,a2,a3,a4⟩:=fr.place
 have hb:i*sz+sz<=cap*sz:=by
  have:=Nat.mul_le_mul_right sz (show i+1<=cap by omega)
  rwa [Nat.add_mul,Nat.one_mul]at this
 refine⟨g,cap,cur,rfl,Hp.set_same _ _ _,by omega,?_⟩
 rw[Hp.set_set]
 refine⟨λx hx=>?_,.inr ⟨g,cap,_,by simp,hg,rfl,by simpa using a1,a2,by simp[H8,a3],?_⟩⟩
 ·rcases List.mem_or_eq_of_mem_set hx with hx|rfl
  ·exact hall x hx
  ·exact⟨hl,h1⟩
 ·have hx:vs[i]?=some vs[i]:=List.getElem?_eq_getElem hi
  have hlen:vs[i].length=sz:=(hall _ (List.getElem_mem hi)).1
  have:=g07 new 0 vs i vs[i] (λx hx=>(hall x hx).1) hx (by omega)
  rw[f06 new vs[i] 0 (by omega)]at this
  simp only[List.take_zero,List.nil_append,Nat.zero_add,Nat.add_zero]at this
  rw[List.drop_eq_nil_of_le (by omega),List.append_nil]at this
  rw[List.length_set,this,W04,a4]
theorem U0.store1(fr:U0 h h' v e 1 true vs){i:Nat}{idx:Int}{u:Value}{off:Nat}{K:Hp->Prop}(hx:idx=(i:Int))(hi:i<vs.length)(h1:I02 u)(h1':u.oneCell'=true)(ho:off=i)
  (hk:∀ h'',U0 h h'' v e 1 true (vs.set i [u])->K h''):g04 h' v idx off u K:=by
 subst hx ho
 obtain⟨g,cap,cur,rfl,hg,a1,a2⟩:=fr.row (new:=[u]) hi rfl (λv hv=>by rw[List.mem_singleton.1 hv];exact h1')
 refine g04.mk (p:=off) (by omega) hg (by omega) (by omega) h1 (hk _ ?_)
 rw[Nat.mul_one]at a2
 have:(U2 cur.toList off [u]).toArray=cur.setIfInBounds off u:=by
  apply Array.toList_inj.1
  simp[U2]
 rw[this]at a2
 exact a2
theorem U0.storeN(fr:U0 h h' v e sz true vs){i:Nat}{idx:Int}{new:List Value}{off:Nat}{K:Hp->Prop}(hx:idx=(i:Int))(hi:i<vs.length)(hl:new.length=sz)(h1:∀ v∈new,v.oneCell'=true)(ho:off=i*sz)
  (hk:∀ h'',U0 h h'' v e sz true (vs.set i new)->K h''):x05 h' v idx off new K:=by
 subst hx ho
 obtain⟨g,cap,cur,rfl,hg,a1,a2⟩:=fr.row hi hl h1
 refine⟨g,0,_,cap,cur,e,⟨rfl,by omega,hg,by omega⟩,hk _ ?_⟩
 rw[G05,Nat.zero_add]
 exact a2
theorem U0.elem(fr:U0 h h' v e sz true vs)(hsz:0<sz){i:Nat}{x:List Value}(hx:vs[i]?=some x):InB v i/\d00 h' v sz i x:=by
 obtain⟨g,cap,cur,rfl,hg,rfl,a1,a2,a3,a4⟩:=fr.place
 obtain⟨hi,hx'⟩:=List.getElem?_eq_some_iff.1 hx
 have hall:∀ x∈vs,x.length=sz:=λx hx=>(fr.1 x hx).1
 have hl:x.length=sz:=by rw[←hx'];exact hall _ (List.getElem_mem hi)
 refine⟨⟨g,0,_,_,rfl,by omega,by omega⟩,hl,by omega,g,0,_,_,rfl,λj v hj=>?_⟩
 have h2:=t03 vs i x hall hx j v hj
 rw[←a4,List.getElem?_take]at h2
 split at h2
 ·simpa [Hp.cell,Hp.set_same,Nat.add_assoc] using h2
 ·cases h2
theorem U0.fill(fr:U0 h h' v e sz true vs){z:List Value}(hz:z.length=sz)(h1:∀ v∈z,v.oneCell'=true){k:Nat}(hk:k<=vs.length):
  ∃ g cap cur,v = .slice (some ⟨g,0,none⟩) vs.length cap/\h' g=some (.cells cur e (0,0))/\vs.length*sz<=cur.size /\
   U0 h (h'.set g (.cells (U2 cur.toList (k*sz) (List.replicate (vs.length-k) z).flatten).toArray e (0,0))) v e sz true (vs.take k++List.replicate (vs.length-k) z):=by
 have hall:=fr.1
 obtain⟨g,cap,cur,rfl,hg,rfl,a1,a2,a3,a4⟩:=fr.place
 have hb:vs.length*sz<=cap*sz:=Nat.mul_le_mul_right sz a1
 have hfl:(List.replicate (vs.length-k) z).flatten.length=(vs.length-k)*sz:=by simp[hz]
 have hks:k*sz+(vs.length-k)*sz=vs.length*sz:=by rw[←Nat.add_mul];congr 1;omega
 have hl:(vs.take k++List.replicate (vs.length-k) z).length=vs.length:=by simp;omega
 refine⟨g,cap,cur,rfl,Hp.set_same _ _ _,by omega,?_⟩
 rw[Hp.set_set]
 refine⟨λx hx=>?_,.inr ⟨g,cap,_,by rw[hl],hg,rfl,by omega,a2,by simp[H8,a3],?_⟩⟩
 ·rcases List.mem_append.1 hx with hx|hx
  ·exact hall x (List.mem_of_mem_take hx)
  ·rw[(List.mem_replicate.1 hx).2];exact⟨hz,h1⟩
 ·rw[hl,W04,a4,f06 _ _ _ (by rw[hfl,←a4];simp;omega)]
  rw[List.flatten_append,S07 vs k (λx hx=>(hall x hx).1),List.drop_eq_nil_of_le (by rw[hfl,←a4];simp;omega),List.append_nil]
theorem M0d(z:Array Value)(n:Nat):(Builtin.zeroCells z n).toList=(List.replicate n z.toList).flatten:=by
 unfold Builtin.zeroCells
 apply List.ext_getElem?
 intro j
 rcases Nat.eq_zero_or_pos z.size with h0|hp
 ·have:z = #[]:=Array.eq_empty_of_size_eq_zero h0
  subst this
  simp
 ·by_cases hj:j<n*z.size
  ·rw[p04 (sz:=z.size) z.toList (by simp) hp n j hj]
   have hm:=Nat.mod_lt j hp
   have e1:z[j % z.size]! = z[j % z.size]:=getElem!_pos z (j % z.size) hm
   simp[hj,e1,hm]
  ·rw[List.getElem?_eq_none (by simp;omega),List.getElem?_eq_none (by simp;omega)]
theorem d0n{P:Program}{t el ty:TypeId}{z:Value}{k:Nat}{c:Nat}{K:Value->Hp->Prop}{a:Option Addr}{m:Nat}(ht:S00 P t=some el)(hz:z00 P el=some z)(hzl:z.cells.size=sz)(h1:∀ v∈z.cells.toList,v.oneCell'=true)
  (fr:U0 h h' v e sz true vs) (hv:∀ g cap,v = .slice (some ⟨g,0,none⟩) vs.length cap->a=some ⟨g,k*sz,none⟩) (hk:k<=vs.length) (hm:m=vs.length-k)
  (hK:∀ h'',U0 h h'' v e sz true (vs.take k++List.replicate (vs.length-k) z.cells.toList)->K (.tuple #[]) h'') :
  wpS P (Builtin.clear_ #[t] ty #[.slice a m c]) h' K:=by
 obtain⟨g,cap,cur,hv',hg,a1,a2⟩:=fr.fill (z:=z.cells.toList) (by simpa using hzl) h1 hk
 have ha:=hv _ _ hv'
 subst ha hm
 unfold Builtin.clear_
 rcases Nat.eq_zero_or_pos (vs.length-k)with h0|hp
 ·rw[h0]at a2 ⊢
  simp only[List.getElem?_toArray,List.getElem?_cons_zero,G2,C4 (j9 ht),J2]
  refine hK _ ?_
  have:vs.take k=vs:=List.take_of_length_le (by omega)
  rw[h0,this]
  simpa using fr
 ·obtain⟨q,hq⟩:∃ q,vs.length-k=q+1:=⟨vs.length-k-1,by omega⟩
  rw[hq]
  simp only[List.getElem?_toArray,List.getElem?_cons_zero,G2,C4 (j9 ht),J2,J09 hz]
  have hfl:(List.replicate (vs.length-k) z.cells.toList).flatten.length=(vs.length-k)*sz:=by simp[hzl]
  have hks:k*sz+(vs.length-k)*sz=vs.length*sz:=by rw[←Nat.add_mul];congr 1;omega
  refine n04 (t:=e) _ cur.toList (k*sz) 0 _ _ (by simpa using hg) ?_ ?_ ?_
  ·rw[M0d,←hq,hfl];simpa using (by omega:k*sz+(vs.length-k)*sz<=cur.size)
  ·rw[M0d]
   intro v hv
   obtain⟨l,hl,hv⟩:=List.mem_flatten.1 hv
   rw[(List.mem_replicate.1 hl).2]at hv
   exact h1 v hv
  ·rw[M0d,←hq]
   exact hK _ (by simpa using a2)
end
theorem U0.outS{α:Type}{r:Rp α}{h h':Hp}{v:Value}{e:Nat}{vs:List (List Value)}{xs:List α}(f:U0 h h' v e r.sz true vs)(hr:F2 (r.R h) vs xs):
  ∃ g c,v = .slice (some ⟨g,0,none⟩) xs.length c/\Sl r h' (.slice (some ⟨g,0,none⟩) xs.length c) xs/\Sub h h'/\xs.length<=9223372036854775807:=by
 obtain⟨a,c,e1,h1,h2,h3⟩:=f.out hr
 obtain⟨g,cap,cur,e2,_⟩:=f.place
 rw[e1]at e2
 injection e2 with e3 e4 e5
 subst e3
 exact⟨g,_,e1,h1,h2,h3⟩
theorem F3.ofPlain{α:Type}{r:Wp α}{h:Hp}(hp:∀ cs x,r.R h cs x->r.W h cs x []):∀ {vs:List (List Value)} {xs:List α},F2 (r.R h) vs xs->F3 (r.W h) vs xs (xs.map λ_=>[])
 | [],[],_=>trivial
 |v::vs,x::xs,hf=>⟨hp _ _ hf.1,F3.ofPlain hp hf.2⟩
 | [],_::_,hf=>hf.elim
 |_::_,[],hf=>hf.elim
theorem K6.ofPlain{α:Type}{h:Hp}{xs:List α}:K6 h (xs.map λ_=>([]:List Nat)).flatten:=by rw[L0i];exact K6.nil h
theorem K6.perm{h:Hp}{Bs Bs':List (List Nat)}(f:K6 h Bs.flatten)(p:Bs'.Perm Bs):K6 h Bs'.flatten:=by
 have q:=p.flatten
 exact⟨q.nodup_iff.2 f.1,λb hb=>f.2 b (q.mem_iff.1 hb)⟩
theorem O0i{Bs Bs':List (List Nat)}(p:Bs'.Sublist Bs):Bs'.flatten.Sublist Bs.flatten:=by
 induction p with
 |slnil=>exact .slnil
 |cons a _ ih=>rw[List.flatten_cons];exact ih.trans (List.sublist_append_right _ _)
 |cons_cons a _ ih=>rw[List.flatten_cons,List.flatten_cons];exact(List.Sublist.refl a).append ih
theorem K6.sublist{h:Hp}{Bs Bs':List (List Nat)}(f:K6 h Bs.flatten)(p:Bs'.Sublist Bs):K6 h Bs'.flatten :=
 ⟨(O0i p).nodup f.1,λb hb=>f.2 b ((O0i p).subset hb)⟩
theorem V0q{α:Type}{xs:List α}{i:Int}{x:α}(h:gi xs i=some x):i.toNat<xs.length/\0<=i:=by
 unfold gi at h
 split at h
 ·rename_i h0;exact⟨(List.getElem?_eq_some_iff.1 h).1,h0⟩
 ·cases h
theorem ifP{α:Type}{c:Bool}[Decidable (c=true)]{a b r:α}(h:(if c=true then a else b)=r)(hc:c=true):a=r:=by rw[if_pos hc]at h;exact h
theorem ifN{α:Type}{c:Bool}[Decidable (c=true)]{a b r:α}(h:(if c=true then a else b)=r)(hc:c=false):b=r:=by rw[if_neg (u0s hc)]at h;exact h
theorem Sub.back{h h':Hp}(s:Sub h h'){g:Nat}(hn:h' g=none):h g=none:=by
 cases ho:h g with
 |none=>rfl
 |some o=>rw[s _ _ ho]at hn;cases hn
theorem New.zero{α:Type}{r:Wp α}{h0 k:Hp}{g:Nat}{e:TypeId}(hn:h0 g=none)(hk:k g=some (.cells #[] e (0,0)))(sb:Sub h0 k):New r.slice h0 k [.slice (some ⟨g,0,none⟩) 0 0] [] :=
 ⟨[g],⟨_,[],[g],[],rfl,⟨by simp,.inr ⟨g,0,0,#[],e,rfl,Nat.le_refl _,Nat.zero_le _,hk,rfl,by simp,by simp⟩⟩,trivial,by simp⟩,⟨by simp,by simpa using hn⟩,sb⟩
theorem New.appZ{α:Type}{r:Wp α}{h0 k:Hp}{g0:Nat}(hn:h0 g0=none)(hk:∃ e,k g0=some (.cells #[] e (0,0)))(sb:Sub h0 k){a:Option Addr}{n c:Nat}{xs:List α}(hx:r.slice.R k [.slice a n c] xs)
  (hp:∀ cs x,r.R k cs x->r.W k cs x []):∃ vs,SlE k r.sz (.slice a n c) vs/\vs.length=xs.length /\
   (vs = []->∃(g o c:Nat),(Value.slice (some ⟨g0,0,none⟩) 0 0) = .slice (some ⟨g,o,none⟩) xs.length c/\New r.slice h0 k [.slice (some ⟨g,o,none⟩) xs.length c] xs/\xs.length<=9223372036854775807) /\
   ∀(v:Value) (h':Hp) (e:TypeId),U0 k h' v e r.sz true vs->Sub k h'/\∃(g o c:Nat),v = .slice (some ⟨g,o,none⟩) xs.length c/\New r.slice h0 h' [.slice (some ⟨g,o,none⟩) xs.length c] xs/\xs.length<=9223372036854775807:=by
 obtain⟨vs,e,f⟩:=Sl.rows hx
 have ln:=F2.length f
 refine⟨vs,e,ln,λhz=>?_,λv h' e' hf=>?_⟩
 ·subst hz
  have:xs = []:=List.eq_nil_of_length_eq_zero (by rw[←ln];rfl)
  subst this
  obtain⟨e',hk⟩:=hk
  exact⟨g0,0,0,rfl,New.zero hn hk sb,Nat.zero_le _⟩
 ·obtain⟨g1,c1,rfl,r1,s1,l1⟩:=U0.outS (r:=r.toRp) hf f
  exact⟨s1,g1,0,c1,rfl,New.from (U0.newPlain hf f hp) sb,l1⟩
theorem ifB{α:Type}{c:Bool}[Decidable (c=true)]{a b r:α}{X Y:Prop}(h:(if c=true then a else b)=r)(hp:c=true->a=r->X)(hn:c=false->b=r->Y):(c=true->X)/\(c=false->Y) :=
 ⟨λhc=>hp hc (ifP h hc),λhc=>hn hc (ifN h hc)⟩
theorem ld{α β:Type}{r:Rp α}{h:Hp}{v:Value}{xs:List α}{i:Int}{k:α->Option β}{y:β}{K:List Value->Prop}(hM:(gi xs i).bind k=some y)(e:Sl r h v xs)(go:∀ x cs,r.R h cs x->k x=some y->K cs)(hsz:0<r.sz:=by decide):InB v i/\∃ cs,d00 h v r.sz i cs/\K cs:=by
 obtain⟨x,g,hM⟩:=l0 hM
 obtain⟨b,cs,e,q⟩:=Sl.getI e g hsz
 exact⟨b,cs,e,go x cs q hM⟩
theorem ldI{β:Type}{h:Hp}{v:Value}{xs:List Int}{i:Int}{k:Int->Option β}{y:β}{K:List Value->Prop}(hM:(gi xs i).bind k=some y)(e:Sl Wp.int.toRp h v xs)(go:∀ x,P0 x->k x=some y->K [.int .i64 x]):InB v i/\∃ cs,d00 h v 1 i cs/\K cs :=
 ld hM e λx cs q hM=>by obtain⟨rfl,q⟩:=q;exact go x q hM
theorem ldG{β:Type}{h:Hp}{v:Value}{xs:List Int}{c:Bool}{i:Int}{k:Int->Option β}{y:β}{K:List Value->Prop}(hM:(chk c (gi xs i) 0).bind k=some y)(e:Sl Wp.int.toRp h v xs)(go:∀ x,P0 x->k x=some y->K [.int .i64 x]):(c=true->InB v i)/\∃ cs,(c=true->d00 h v 1 i cs)/\K cs:=by
 obtain⟨x,g,hM⟩:=l0 hM
 obtain⟨cs,e,q⟩:=Sl.getG (r:=Wp.int.toRp) e g (by decide) (K0d h)
 obtain⟨rfl,q⟩:=q
 exact⟨λq=>(e q).1,_,λq=>(e q).2,go x q hM⟩
theorem trV{α β:Type}{P:Program}{f:FuncId}{args:Array Value}{h:Hp}{V:α->Value}{T:Value->Hp->Prop}{o:Option α}{k:α->Option β}{y:β}(hM:o.bind k=some y)(t:∀ x,o=some x->Tr P f args h λv h'=>v=V x/\h'=h)(go:∀ x,k x=some y->T (V x) h):Tr P f args h T:=by
 obtain⟨x,g,hM⟩:=l0 hM
 exact Tr.val (t x g) (go x hM)
theorem trM{α β:Type}{P:Program}{f:FuncId}{args:Array Value}{h:Hp}{F:α->Value->Hp->Prop}{T:Value->Hp->Prop}{o:Option α}{k:α->Option β}{y:β}(hM:o.bind k=some y)(t:∀ x,o=some x->Tr P f args h (F x))(go:∀ x,k x=some y->∀ v h',F x v h'->T v h'):Tr P f args h T:=by
 obtain⟨x,g,hM⟩:=l0 hM
 exact Tr.mono (t x g) (go x hM)
theorem trG{α β:Type}{P:Program}{f:FuncId}{args:Array Value}{h:Hp}{c:Bool}{d:α}{V:α->Value}{K:Value->Prop}{o:Option α}{k:α->Option β}{y:β}(hM:(chk c o d).bind k=some y)(t:c=true->∀ x,o=some x->Tr P f args h λv h'=>v=V x/\h'=h)(go:∀ x,k x=some y->K (V x)):∃ v,(c=true->Tr P f args h λw h'=>w=v/\h'=h)/\K v:=by
 obtain⟨x,g,hM⟩:=l0 hM
 exact⟨_,λq=>t q x (I7 g q),go x hM⟩
theorem D2{a b c:Prop}{I:Nat->Prop}{m:Nat}(k:Nat)(h:I k)(hm:k<m:=by exact nS _)(ha:a:=by exact rfl)(hb:b:=by repeat (first|exact trivial|refine aI rfl ?_))(hc:c:=by repeat (first|exact trivial|refine aI rfl ?_)):a/\b/\c/\∃ k,I k/\k<m :=
 ⟨ha,hb,hc,k,h,hm⟩
end Go.H
