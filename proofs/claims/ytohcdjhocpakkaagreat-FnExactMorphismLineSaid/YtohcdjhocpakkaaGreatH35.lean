/- Plain laws over the model: a row of the call's own, published, changes in place. -/
import Derived.Test.YtohcdjhocpakkaaGreatHE
namespace Go.H
set_option linter.unusedVariables false
set_option linter.unusedSimpArgs false
section
variable {h h':Hp} {v:Value} {e sz:Nat} {vs:List (List Value)}
theorem V0.place(fr:V0 h h' v e sz true vs):∃ g cap cur,v = .slice (some ⟨g,0,none⟩) vs.length cap/\h g=none/\h'=h.set g (.cells cur e (0,0))/\vs.length<=cap/\cap<=maxLen/\cur.size=cap*sz/\cur.toList.take (vs.length*sz)=vs.flatten:=by
 rcases fr.2 with⟨_,_,h0,_⟩|a
 ·cases h0
 ·exact a
theorem V0.cut(fr:V0 h h' v e sz true vs){k:Nat}(t:k<=vs.length):∃ g cap,v = .slice (some ⟨g,0,none⟩) vs.length cap/\V0 h h' (.slice (some ⟨g,0,none⟩) k cap) e sz true (vs.take k):=by
 obtain⟨g,cap,cur,rfl,m,n,w,o,p,q⟩:=fr.place
 have c:(vs.take k).length=k:=by simp;omega
 have s:∀ l:List (List Value),(∀ x∈l,x.length=sz)->l.flatten.length=l.length*sz:=λl=>by
  induction l with
  |nil=>simp
  |cons a l u=>intro f;simp only[List.flatten_cons,List.length_append,List.length_cons,Nat.add_mul,Nat.one_mul,u λx b=>f x (mC _ b),f a mS];omega
 refine⟨g,cap,rfl,λx b=>fr.1 x (List.mem_of_mem_take b),.inr ⟨g,cap,cur,by rw[c],m,n,by omega,o,p,?_⟩⟩
 rw[c]
 have i:vs.flatten=(vs.take k).flatten++(vs.drop k).flatten:=by rw[←List.flatten_append,List.take_append_drop]
 have d:=s (vs.take k) λx b=>(fr.1 x (List.mem_of_mem_take b)).1
 rw[c]at d
 have j:k*sz<=vs.length*sz:=Nat.mul_le_mul_right _ t
 have:=congrArg (List.take (k*sz)) q
 rw[List.take_take,Nat.min_eq_left j,i,List.take_left' d]at this
 exact this
end
section
variable {h h':Hp} {v:Value} {e sz:Nat} {vs:List (List Value)}
theorem V0.row(fr:V0 h h' v e sz true vs){i:Nat}{new:List Value}(c:i<vs.length)(n:new.length=sz)(l:∀ v∈new,v.oneCell'=true):
  ∃ g cap cur,v = .slice (some ⟨g,0,none⟩) vs.length cap/\h' g=some (.cells cur e (0,0))/\i*sz+sz<=cur.size/\V0 h (h'.set g (.cells (U2 cur.toList (i*sz) new).toArray e (0,0))) v e sz true (vs.set i new):=by
 have b:=fr.1
 obtain⟨g,cap,cur,rfl,m,rfl,d,f,j,k⟩:=fr.place
 have o:i*sz+sz<=cap*sz:=by
  have:=Nat.mul_le_mul_right sz (show i+1<=cap by omega)
  rwa [Nat.add_mul,Nat.one_mul]at this
 refine⟨g,cap,cur,rfl,Hp.set_same _ _ _,by omega,?_⟩
 rw[Hp.set_set]
 refine⟨λx a=>?_,.inr ⟨g,cap,_,by simp,m,rfl,by simpa using d,f,by simp[H8,j],?_⟩⟩
 ·rcases List.mem_or_eq_of_mem_set a with a|rfl
  ·exact b x a
  ·exact⟨n,l⟩
 ·have a:vs[i]?=some vs[i]:=List.getElem?_eq_getElem c
  have p:vs[i].length=sz:=(b _ (List.getElem_mem c)).1
  have:=G07 new 0 vs i vs[i] (λx a=>(b x a).1) a (by omega)
  rw[C06 new vs[i] 0 (by omega)]at this
  simp only[List.take_zero,List.nil_append,Nat.zero_add,Nat.add_zero]at this
  rw[List.drop_eq_nil_of_le (by omega),List.append_nil]at this
  rw[List.length_set,this,j05,k]
theorem V0.store1(fr:V0 h h' v e 1 true vs){i:Nat}{idx:Int}{u:Value}{off:Nat}{K:Hp->Prop}(m:idx=(i:Int))(j:i<vs.length)(c:T02 u)(d:u.oneCell'=true)(l:off=i)
  (k:∀ b,V0 h b v e 1 true (vs.set i [u])->K b):E6 h' v idx off u K:=by
 subst m l
 obtain⟨g,cap,cur,rfl,f,n,a⟩:=fr.row (new:=[u]) j rfl (λv hv=>by rw[List.mem_singleton.1 hv];exact d)
 refine E6.mk (p:=off) (by omega) f (by omega) (by omega) c (k _ ?_)
 rw[Nat.mul_one]at a
 have:(U2 cur.toList off [u]).toArray=cur.setIfInBounds off u:=by
  apply Array.toList_inj.1
  simp[U2]
 rw[this]at a
 exact a
theorem V0.storeN(fr:V0 h h' v e sz true vs){i:Nat}{idx:Int}{new:List Value}{off:Nat}{K:Hp->Prop}(m:idx=(i:Int))(f:i<vs.length)(k:new.length=sz)(c:∀ v∈new,v.oneCell'=true)(l:off=i*sz)
  (j:∀ a,V0 h a v e sz true (vs.set i new)->K a):r04 h' v idx off new K:=by
 subst m l
 obtain⟨g,cap,cur,rfl,d,n,b⟩:=fr.row f k c
 refine⟨g,0,_,cap,cur,e,⟨rfl,by omega,d,by omega⟩,j _ ?_⟩
 rw[s04,Nat.zero_add]
 exact b
theorem V0.elem(fr:V0 h h' v e sz true vs)(s:0<sz){i:Nat}{x:List Value}(b:vs[i]?=some x):InB v i/\N4 h' v sz i x:=by
 obtain⟨g,cap,cur,rfl,q,rfl,n,o,p,d⟩:=fr.place
 obtain⟨f,m⟩:=List.getElem?_eq_some_iff.1 b
 have c:∀ x∈vs,x.length=sz:=λx b=>(fr.1 x b).1
 have l:x.length=sz:=by rw[←m];exact c _ (List.getElem_mem f)
 refine⟨⟨g,0,_,_,rfl,by omega,by omega⟩,l,by omega,g,0,_,_,rfl,λj v k=>?_⟩
 have a:=J03 vs i x c b j v k
 rw[←d,List.getElem?_take]at a
 split at a
 ·simpa [Hp.cell,Hp.set_same,Nat.add_assoc] using a
 ·cases a
theorem V0.fill(fr:V0 h h' v e sz true vs){z:List Value}(i:z.length=sz)(n:∀ v∈z,v.oneCell'=true){k:Nat}(q:k<=vs.length):
  ∃ g cap cur,v = .slice (some ⟨g,0,none⟩) vs.length cap/\h' g=some (.cells cur e (0,0))/\vs.length*sz<=cur.size /\
   V0 h (h'.set g (.cells (U2 cur.toList (k*sz) (List.replicate (vs.length-k) z).flatten).toArray e (0,0))) v e sz true (vs.take k++List.replicate (vs.length-k) z):=by
 have c:=fr.1
 obtain⟨g,cap,cur,rfl,o,rfl,j,l,m,b⟩:=fr.place
 have p:vs.length*sz<=cap*sz:=Nat.mul_le_mul_right sz j
 have d:(List.replicate (vs.length-k) z).flatten.length=(vs.length-k)*sz:=by simp[i]
 have s:k*sz+(vs.length-k)*sz=vs.length*sz:=by rw[←Nat.add_mul];congr 1;omega
 have f:(vs.take k++List.replicate (vs.length-k) z).length=vs.length:=by simp;omega
 refine⟨g,cap,cur,rfl,Hp.set_same _ _ _,by omega,?_⟩
 rw[Hp.set_set]
 refine⟨λx a=>?_,.inr ⟨g,cap,_,by rw[f],o,rfl,by omega,l,by simp[H8,m],?_⟩⟩
 ·rcases List.mem_append.1 a with a|a
  ·exact c x (List.mem_of_mem_take a)
  ·rw[(List.mem_replicate.1 a).2];exact⟨i,n⟩
 ·rw[f,j05,b,C06 _ _ _ (by rw[d,←b];simp;omega)]
  rw[List.flatten_append,u08 vs k (λx a=>(c x a).1),List.drop_eq_nil_of_le (by rw[d,←b];simp;omega),List.append_nil]
theorem i0e(z:Array Value)(n:Nat):(Builtin.zeroCells z n).toList=(List.replicate n z.toList).flatten:=by
 unfold Builtin.zeroCells
 apply List.ext_getElem?
 intro j
 rcases Nat.eq_zero_or_pos z.size with h0|b
 ·have:z = #[]:=Array.eq_empty_of_size_eq_zero h0
  subst this
  simp
 ·by_cases hj:j<n*z.size
  ·rw[K04 (sz:=z.size) z.toList (by simp) b n j hj]
   have a:=Nat.mod_lt j b
   have c:z[j % z.size]! = z[j % z.size]:=getElem!_pos z (j % z.size) a
   simp[hj,c,a]
  ·rw[List.getElem?_eq_none (by simp;omega),List.getElem?_eq_none (by simp;omega)]
theorem J0n{P:Program}{t f ty:TypeId}{z:Value}{k:Nat}{c:Nat}{K:Value->Hp->Prop}{a:Option Addr}{m:Nat}(o:V00 P t=some f)(D:F00 P f=some z)(p:z.cells.size=sz)(j:∀ v∈z.cells.toList,v.oneCell'=true)
  (fr:V0 h h' v e sz true vs) (hv:∀ g cap,v = .slice (some ⟨g,0,none⟩) vs.length cap->a=some ⟨g,k*sz,none⟩) (x:k<=vs.length) (A:m=vs.length-k)
  (n:∀ i,V0 h i v e sz true (vs.take k++List.replicate (vs.length-k) z.cells.toList)->K (.tuple #[]) i) :
  wpS P (Builtin.clear_ #[t] ty #[.slice a m c]) h' K:=by
 obtain⟨g,cap,cur,C,w,E,d⟩:=fr.fill (z:=z.cells.toList) (by simpa using p) j x
 have s:=hv _ _ C
 subst s A
 unfold Builtin.clear_
 rcases Nat.eq_zero_or_pos (vs.length-k)with h0|G
 ·rw[h0]at d ⊢
  simp only[List.getElem?_toArray,List.getElem?_cons_zero,J2,K5 (g9 o),Q2]
  refine n _ ?_
  have:vs.take k=vs:=List.take_of_length_le (by omega)
  rw[h0,this]
  simpa using fr
 ·obtain⟨q,b⟩:∃ q,vs.length-k=q+1:=⟨vs.length-k-1,by omega⟩
  rw[b]
  simp only[List.getElem?_toArray,List.getElem?_cons_zero,J2,K5 (g9 o),Q2,i0a D]
  have u:(List.replicate (vs.length-k) z.cells.toList).flatten.length=(vs.length-k)*sz:=by simp[p]
  have F:k*sz+(vs.length-k)*sz=vs.length*sz:=by rw[←Nat.add_mul];congr 1;omega
  refine I04 (t:=e) _ cur.toList (k*sz) 0 _ _ (by simpa using w) ?_ ?_ ?_
  ·rw[i0e,←b,u];simpa using (by omega:k*sz+(vs.length-k)*sz<=cur.size)
  ·rw[i0e]
   intro v hv
   obtain⟨l,y,hv⟩:=List.mem_flatten.1 hv
   rw[(List.mem_replicate.1 y).2]at hv
   exact j v hv
  ·rw[i0e,←b]
   exact n _ (by simpa using d)
end
theorem V0.outS{j:Type}{r:Rp j}{h b:Hp}{v:Value}{e:Nat}{vs:List (List Value)}{xs:List j}(f:V0 h b v e r.sz true vs)(n:F2 (r.R h) vs xs):
  ∃ g c,v = .slice (some ⟨g,0,none⟩) xs.length c/\Sl r b (.slice (some ⟨g,0,none⟩) xs.length c) xs/\Sub h b/\xs.length<=9223372036854775807:=by
 obtain⟨a,c,d,k,l,m⟩:=f.out n
 obtain⟨g,cap,cur,i,_⟩:=f.place
 rw[d]at i
 injection i with e3 e4 e5
 subst e3
 exact⟨g,_,d,k,l,m⟩
theorem F3.ofPlain{b:Type}{r:Wp b}{h:Hp}(a:∀ cs x,r.R h cs x->r.W h cs x []):∀ {vs:List (List Value)} {xs:List b},F2 (r.R h) vs xs->F3 (r.W h) vs xs (xs.map λ_=>[])
 | [],[],_=>trivial
 |v::vs,x::xs,hf=>⟨a _ _ hf.1,F3.ofPlain a hf.2⟩
 | [],_::_,hf=>hf.elim
 |_::_,[],hf=>hf.elim
theorem c6.ofPlain{a:Type}{h:Hp}{xs:List a}:c6 h (xs.map λ_=>([]:List Nat)).flatten:=by rw[o0j];exact c6.nil h
theorem c6.perm{h:Hp}{Bs a:List (List Nat)}(f:c6 h Bs.flatten)(p:a.Perm Bs):c6 h a.flatten:=by
 have q:=p.flatten
 exact⟨q.nodup_iff.2 f.1,λb c=>f.2 b (q.mem_iff.1 c)⟩
theorem t0j{Bs c:List (List Nat)}(p:c.Sublist Bs):c.flatten.Sublist Bs.flatten:=by
 induction p with
 |slnil=>exact .slnil
 |cons a _ b=>rw[List.flatten_cons];exact b.trans (List.sublist_append_right _ _)
 |cons_cons a _ b=>rw[List.flatten_cons,List.flatten_cons];exact(List.Sublist.refl a).append b
theorem c6.sublist{h:Hp}{Bs a:List (List Nat)}(f:c6 h Bs.flatten)(p:a.Sublist Bs):c6 h a.flatten :=
 ⟨(t0j p).nodup f.1,λb c=>f.2 b ((t0j p).subset c)⟩
theorem a00{a:Type}{xs:List a}{i:Int}{x:a}(h:gi xs i=some x):i.toNat<xs.length/\0<=i:=by
 unfold gi at h
 split at h
 ·rename_i h0;exact⟨(List.getElem?_eq_some_iff.1 h).1,h0⟩
 ·cases h
theorem ifP{f:Type}{c:Bool}[Decidable (c=true)]{a b r:f}(h:(if c=true then a else b)=r)(d:c=true):a=r:=by rw[if_pos d]at h;exact h
theorem ifN{f:Type}{c:Bool}[Decidable (c=true)]{a b r:f}(h:(if c=true then a else b)=r)(d:c=false):b=r:=by rw[if_neg (D0t d)]at h;exact h
theorem Sub.back{h a:Hp}(s:Sub h a){g:Nat}(b:a g=none):h g=none:=by
 cases ho:h g with
 |none=>rfl
 |some o=>rw[s _ _ ho]at b;cases b
theorem New.zero{d:Type}{r:Wp d}{h0 k:Hp}{g:Nat}{e:TypeId}(b:h0 g=none)(a:k g=some (.cells #[] e (0,0)))(c:Sub h0 k):New r.slice h0 k [.slice (some ⟨g,0,none⟩) 0 0] [] :=
 ⟨[g],⟨_,[],[g],[],rfl,⟨by simp,.inr ⟨g,0,0,#[],e,rfl,Nat.le_refl _,Nat.zero_le _,a,rfl,by simp,by simp⟩⟩,trivial,by simp⟩,⟨by simp,by simpa using b⟩,c⟩
theorem New.appZ{l:Type}{r:Wp l}{h0 k:Hp}{b:Nat}(q:h0 b=none)(h:∃ e,k b=some (.cells #[] e (0,0)))(j:Sub h0 k){a:Option Addr}{n c:Nat}{xs:List l}(t:r.slice.R k [.slice a n c] xs)
  (s:∀ cs x,r.R k cs x->r.W k cs x []):∃ vs,SlE k r.sz (.slice a n c) vs/\vs.length=xs.length /\
   (vs = []->∃(g o c:Nat),(Value.slice (some ⟨b,0,none⟩) 0 0) = .slice (some ⟨g,o,none⟩) xs.length c/\New r.slice h0 k [.slice (some ⟨g,o,none⟩) xs.length c] xs/\xs.length<=9223372036854775807) /\
   ∀(v:Value) (d:Hp) (e:TypeId),V0 k d v e r.sz true vs->Sub k d/\∃(g o c:Nat),v = .slice (some ⟨g,o,none⟩) xs.length c/\New r.slice h0 d [.slice (some ⟨g,o,none⟩) xs.length c] xs/\xs.length<=9223372036854775807:=by
 obtain⟨vs,e,f⟩:=Sl.rows t
 have i:=F2.length f
 refine⟨vs,e,i,λu=>?_,λv d p hf=>?_⟩
 ·subst u
  have:xs = []:=List.eq_nil_of_length_eq_zero (by rw[←i];rfl)
  subst this
  obtain⟨p,h⟩:=h
  exact⟨b,0,0,rfl,New.zero q h j,Nat.zero_le _⟩
 ·obtain⟨g1,m,rfl,w,s1,l1⟩:=V0.outS (r:=r.toRp) hf f
  exact⟨s1,g1,0,m,rfl,New.from (V0.newPlain hf f s) j,l1⟩
theorem ifB{j:Type}{c:Bool}[Decidable (c=true)]{a b r:j}{X f:Prop}(h:(if c=true then a else b)=r)(i:c=true->a=r->X)(g:c=false->b=r->f):(c=true->X)/\(c=false->f) :=
 ⟨λd=>i d (ifP h d),λd=>g d (ifN h d)⟩
theorem ld{c f:Type}{r:Rp c}{h:Hp}{v:Value}{xs:List c}{i:Int}{k:c->Option f}{d:f}{K:List Value->Prop}(a:(gi xs i).bind k=some d)(e:Sl r h v xs)(j:∀ x cs,r.R h cs x->k x=some d->K cs)(l:0<r.sz:=by decide):InB v i/\∃ cs,N4 h v r.sz i cs/\K cs:=by
 obtain⟨x,g,a⟩:=B0 a
 obtain⟨b,cs,e,q⟩:=Sl.getI e g l
 exact⟨b,cs,e,j x cs q a⟩
theorem ldI{c:Type}{h:Hp}{v:Value}{xs:List Int}{i:Int}{k:Int->Option c}{b:c}{K:List Value->Prop}(a:(gi xs i).bind k=some b)(e:Sl Wp.int.toRp h v xs)(d:∀ x,K0 x->k x=some b->K [.int .i64 x]):InB v i/\∃ cs,N4 h v 1 i cs/\K cs :=
 ld a e λx cs q a=>by obtain⟨rfl,q⟩:=q;exact d x q a
theorem ldG{d:Type}{h:Hp}{v:Value}{xs:List Int}{c:Bool}{i:Int}{k:Int->Option d}{b:d}{K:List Value->Prop}(a:(chk c (gi xs i) 0).bind k=some b)(e:Sl Wp.int.toRp h v xs)(f:∀ x,K0 x->k x=some b->K [.int .i64 x]):(c=true->InB v i)/\∃ cs,(c=true->N4 h v 1 i cs)/\K cs:=by
 obtain⟨x,g,a⟩:=B0 a
 obtain⟨cs,e,q⟩:=Sl.getG (r:=Wp.int.toRp) e g (by decide) (h0e h)
 obtain⟨rfl,q⟩:=q
 exact⟨λq=>(e q).1,_,λq=>(e q).2,f x q a⟩
theorem trV{b j:Type}{P:Program}{f:FuncId}{args:Array Value}{h:Hp}{d:b->Value}{c:Value->Hp->Prop}{o:Option b}{k:b->Option j}{i:j}(a:o.bind k=some i)(t:∀ x,o=some x->Tr P f args h λv m=>v=d x/\m=h)(l:∀ x,k x=some i->c (d x) h):Tr P f args h c:=by
 obtain⟨x,g,a⟩:=B0 a
 exact Tr.val (t x g) (l x a)
theorem trM{b j:Type}{P:Program}{f:FuncId}{args:Array Value}{h:Hp}{F:b->Value->Hp->Prop}{c:Value->Hp->Prop}{o:Option b}{k:b->Option j}{i:j}(a:o.bind k=some i)(t:∀ x,o=some x->Tr P f args h (F x))(l:∀ x,k x=some i->∀ v d,F x v d->c v d):Tr P f args h c:=by
 obtain⟨x,g,a⟩:=B0 a
 exact Tr.mono (t x g) (l x a)
theorem trG{a m:Type}{P:Program}{f:FuncId}{args:Array Value}{h:Hp}{c:Bool}{d:a}{j:a->Value}{K:Value->Prop}{o:Option a}{k:a->Option m}{l:m}(i:(chk c o d).bind k=some l)(t:c=true->∀ x,o=some x->Tr P f args h λv b=>v=j x/\b=h)(n:∀ x,k x=some l->K (j x)):∃ v,(c=true->Tr P f args h λw b=>w=v/\b=h)/\K v:=by
 obtain⟨x,g,i⟩:=B0 i
 exact⟨_,λq=>t q x (Y02 g q),n x i⟩
theorem I2{a b c:Prop}{d:Nat->Prop}{m:Nat}(k:Nat)(h:d k)(j:k<m:=by exact nS _)(f:a:=by exact rfl)(g:b:=by repeat (first|exact trivial|refine aI rfl ?_))(i:c:=by repeat (first|exact trivial|refine aI rfl ?_)):a/\b/\c/\∃ k,d k/\k<m :=
 ⟨f,g,i,k,h,j⟩
end Go.H
