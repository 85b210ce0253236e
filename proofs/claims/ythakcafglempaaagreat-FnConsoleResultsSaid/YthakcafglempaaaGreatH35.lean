/- Plain laws over the model: a row of the call's own, published, changes in place. -/
import Derived.Test.YthakcafglempaaaGreatHE
namespace Go.H
set_option linter.all false
section
variable {h h':Hp} {v:Value} {e sz:Nat} {vs:LV}
theorem Y0.place(fr:Y0 h h' v e sz true vs):∃ g cap cur,v = .slice (some ⟨g,0,none⟩) vs.length cap/\h g=none/\h'=h.set g (.cells cur e (0,0))/\vs.length<=cap/\cap<=maxLen/\cur.size=cap*sz/\cur.toList.take (vs.length*sz)=vs.flatten:=by
 rcases fr.2 with⟨_,_,h0,_⟩|a;·cases h0
 exact a
theorem Y0.cut(fr:Y0 h h' v e sz true vs){k:Nat}(t:k<=vs.length):∃ g cap,v = .slice (some ⟨g,0,none⟩) vs.length cap/\Y0 h h' (.slice (some ⟨g,0,none⟩) k cap) e sz true (vs.take k):=by
 obtain⟨g,cap,cur,rfl,m,n,w,o,p,q⟩:=fr.place;have c:(vs.take k).length=k:=by simp;omega
 have s:∀ l:LV,(∀ x∈l,x.length=sz)->l.flatten.length=l.length*sz:=λl=>by
  induction l with
  |nil=>simp
  |cons a l u=>intro f;simp only[List.flatten_cons,List.length_append,List.length_cons,Nat.add_mul,Nat.one_mul,u λx b=>f x (mC _ b),f a mS];omega
 refine⟨g,cap,rfl,λx b=>fr.1 x (List.mem_of_mem_take b),.inr ⟨g,cap,cur,by rw[c],m,n,oM,o,p,?_⟩⟩;rw[c];have i:vs.flatten=(vs.take k).flatten++(vs.drop k).flatten:=by rw[←List.flatten_append,List.take_append_drop]
 have d:=s (vs.take k) λx b=>(fr.1 x (List.mem_of_mem_take b)).1;rw[c]at d;have j:k*sz<=vs.length*sz:=Nat.mul_le_mul_right _ t;have:=congrArg (List.take (k*sz)) q;rw[List.take_take,Nat.min_eq_left j,i,List.take_left' d]at this;exact this
end
section
variable {h h':Hp} {v:Value} {e sz:Nat} {vs:LV}
theorem Y0.row(fr:Y0 h h' v e sz true vs){i:Nat}{new:List Value}(c:i<vs.length)(n:new.length=sz)(l:∀ v∈new,v.oneCell'=true): ∃ g cap cur,v = .slice (some ⟨g,0,none⟩) vs.length cap/\h' g=some (.cells cur e (0,0))/\i*sz+sz<=cur.size/\Y0 h (h'.set g (.cells (M3 cur.toList (i*sz) new).toArray e (0,0))) v e sz true (vs.set i new):=by
 have b:=fr.1;obtain⟨g,cap,cur,rfl,m,rfl,d,f,j,k⟩:=fr.place;have o:i*sz+sz<=cap*sz:=by have:=Nat.mul_le_mul_right sz (show i+1<=cap by omega);rwa [Nat.add_mul,Nat.one_mul]at this
 refine⟨g,cap,cur,rfl,Hp.set_same _ _ _,oM,?_⟩;rw[Hp.set_set];refine⟨λx a=>?_,.inr ⟨g,cap,_,oS,m,rfl,by simpa using d,f,by simp[b01,j],?_⟩⟩
 ·rcases List.mem_or_eq_of_mem_set a with a|rfl;·exact b x a
  exact⟨n,l⟩
 have a:vs[i]?=some vs[i]:=List.getElem?_eq_getElem c;have p:vs[i].length=sz:=(b _ (List.getElem_mem c)).1;have:=D0b new 0 vs i vs[i] (λx a=>(b x a).1) a oM;rw[z0a new vs[i] 0 oM]at this;simp only[List.take_zero,List.nil_append,Nat.zero_add,Nat.add_zero]at this;rw[List.drop_eq_nil_of_le oM,List.append_nil]at this;rw[List.length_set,this,b09,k]
theorem Y0.store1(fr:Y0 h h' v e 1 true vs){i:Nat}{idx:Int}{u:Value}{off:Nat}{K:Hp->Prop}(n:idx=(i:Int))(j:i<vs.length)(c:T06 u)(d:u.oneCell'=true)(l:off=i) (k:∀ b,Y0 h b v e 1 true (vs.set i [u])->K b):r0b h' v idx off u K:=by
 subst n l;obtain⟨g,cap,cur,rfl,f,o,a⟩:=fr.row (new:=[u]) j rfl (λv m=>by rw[List.mem_singleton.1 m];exact d);refine r0b.mk (p:=off) oM f oM oM c (k _ ?_);rw[Nat.mul_one]at a;have:(M3 cur.toList off [u]).toArray=cur.setIfInBounds off u:=by apply Array.toList_inj.1;simp[M3]
 rw[this]at a;exact a
theorem Y0.storeN(fr:Y0 h h' v e sz true vs){i:Nat}{idx:Int}{new:List Value}{off:Nat}{K:Hp->Prop}(m:idx=(i:Int))(f:i<vs.length)(k:new.length=sz)(c:∀ v∈new,v.oneCell'=true)(l:off=i*sz) (j:∀ a,Y0 h a v e sz true (vs.set i new)->K a):I09 h' v idx off new K:=by subst m l;obtain⟨g,cap,cur,rfl,d,n,b⟩:=fr.row f k c;refine⟨g,0,_,cap,cur,e,⟨rfl,oM,d,oM⟩,j _ ?_⟩;rw[Q09,Nat.zero_add];exact b
theorem Y0.elem(fr:Y0 h h' v e sz true vs)(s:0<sz){i:Nat}{x:List Value}(b:vs[i]?=some x):InB v i/\T7 h' v sz i x:=by
 obtain⟨g,cap,cur,rfl,q,rfl,n,o,p,d⟩:=fr.place;obtain⟨f,m⟩:=List.getElem?_eq_some_iff.1 b;have c:∀ x∈vs,x.length=sz:=λx b=>(fr.1 x b).1;have l:x.length=sz:=by rw[←m];exact c _ (List.getElem_mem f)
 refine⟨⟨g,0,_,_,rfl,oM,oM⟩,l,oM,g,0,_,_,rfl,λj v k=>?_⟩;have a:=b07 vs i x c b j v k;rw[←d,List.getElem?_take]at a;split at a;·simpa [Hp.cell,Hp.set_same,Nat.add_assoc] using a
 cases a
theorem Y0.fill(fr:Y0 h h' v e sz true vs){z:List Value}(i:z.length=sz)(n:∀ v∈z,v.oneCell'=true){k:Nat}(q:k<=vs.length): ∃ g cap cur,v = .slice (some ⟨g,0,none⟩) vs.length cap/\h' g=some (.cells cur e (0,0))/\vs.length*sz<=cur.size /\ Y0 h (h'.set g (.cells (M3 cur.toList (k*sz) (List.replicate (vs.length-k) z).flatten).toArray e (0,0))) v e sz true (vs.take k++List.replicate (vs.length-k) z):=by
 have c:=fr.1;obtain⟨g,cap,cur,rfl,o,rfl,j,l,m,b⟩:=fr.place;have p:vs.length*sz<=cap*sz:=Nat.mul_le_mul_right sz j;have d:(List.replicate (vs.length-k) z).flatten.length=(vs.length-k)*sz:=by simp[i]
 have s:k*sz+(vs.length-k)*sz=vs.length*sz:=by rw[←Nat.add_mul];congr 1;omega
 have f:(vs.take k++List.replicate (vs.length-k) z).length=vs.length:=by simp;omega
 refine⟨g,cap,cur,rfl,Hp.set_same _ _ _,oM,?_⟩;rw[Hp.set_set];refine⟨λx a=>?_,.inr ⟨g,cap,_,by rw[f],o,rfl,oM,l,by simp[b01,m],?_⟩⟩
 ·rcases List.mem_append.1 a with a|a;·exact c x (List.mem_of_mem_take a)
  rw[(List.mem_replicate.1 a).2];exact⟨i,n⟩
 rw[f,b09,b,z0a _ _ _ (by rw[d,←b];simp;omega)];rw[List.flatten_append,J0c vs k (λx a=>(c x a).1),List.drop_eq_nil_of_le (by rw[d,←b];simp;omega),List.append_nil]
theorem j0j(z:Array Value)(n:Nat):(Builtin.zeroCells z n).toList=(List.replicate n z.toList).flatten:=by
 unfold Builtin.zeroCells;apply List.ext_getElem?;intro j;rcases Nat.eq_zero_or_pos z.size with h0|b;·have:z = #[]:=Array.eq_empty_of_size_eq_zero h0;subst this;simp
 by_cases hj:j<n*z.size;·rw[r08 (sz:=z.size) z.toList oS b n j hj];have a:=Nat.mod_lt j b;have c:z[j % z.size]! = z[j % z.size]:=getElem!_pos z (j % z.size) a;simp[hj,c,a]
 rw[List.getElem?_eq_none (by simp;omega),List.getElem?_eq_none (by simp;omega)]
theorem Y0t{P:Program}{t i ty:TypeId}{z:Value}{k:Nat}{c:Nat}{K:Value->Hp->Prop}{a:Option Addr}{m:Nat}(p:q03 P t=some i)(E:Q02 P i=some z)(s:z.cells.size=sz)(n:∀ v∈z.cells.toList,v.oneCell'=true) (fr:Y0 h h' v e sz true vs) (b:∀ g cap,v = .slice (some ⟨g,0,none⟩) vs.length cap->a=some ⟨g,k*sz,none⟩) (y:k<=vs.length) (C:m=vs.length-k) (o:∀ j,Y0 h j v e sz true (vs.take k++List.replicate (vs.length-k) z.cells.toList)->K (.tuple #[]) j) : wpS P (Builtin.clear_ #[t] ty #[.slice a m c]) h' K:=by
 obtain⟨g,cap,cur,D,x,F,f⟩:=fr.fill (z:=z.cells.toList) (by simpa using s) n y;have u:=b _ _ D;subst u C;unfold Builtin.clear_;rcases Nat.eq_zero_or_pos (vs.length-k)with h0|H;·rw[h0]at f ⊢;simp only[List.getElem?_toArray,List.getElem?_cons_zero,N2,r7 (z01 p),D3];refine o _ ?_;have:vs.take k=vs:=List.take_of_length_le oM;rw[h0,this];simpa using fr
 obtain⟨q,d⟩:∃ q,vs.length-k=q+1:=⟨vs.length-k-1,oM⟩;rw[d];simp only[List.getElem?_toArray,List.getElem?_cons_zero,N2,r7 (z01 p),D3,X0e E];have w:(List.replicate (vs.length-k) z.cells.toList).flatten.length=(vs.length-k)*sz:=by simp[s]
 have G:k*sz+(vs.length-k)*sz=vs.length*sz:=by rw[←Nat.add_mul];congr 1;omega
 refine p08 (t:=e) _ cur.toList (k*sz) 0 _ _ (by simpa using x) ?_ ?_ ?_;·rw[j0j,←d,w];simpa using (by omega:k*sz+(vs.length-k)*sz<=cur.size)
 ·rw[j0j];intro v b;obtain⟨l,A,b⟩:=List.mem_flatten.1 b;rw[(List.mem_replicate.1 A).2]at b;exact n v b
 rw[j0j,←d];exact o _ (by simpa using f)
end
theorem Y0.outS{i:Type}{r:Rp i}{h h':Hp}{v:Value}{e:Nat}{vs:LV}{xs:List i}(f:Y0 h h' v e r.sz true vs)(m:F2 (r.R h) vs xs): ∃ g c,v = .slice (some ⟨g,0,none⟩) xs.length c/\Sl r h' (.slice (some ⟨g,0,none⟩) xs.length c) xs/\Sub h h'/\xs.length<=9223372036854775807:=by obtain⟨a,c,b,j,k,l⟩:=f.out m;obtain⟨g,cap,cur,d,_⟩:=f.place;rw[b]at d;injection d with e3 e4 e5;subst e3;exact⟨g,_,b,j,k,l⟩
theorem F3.ofPlain{b:Type}{r:Wp b}{h:Hp}(a:∀ cs x,r.R h cs x->r.W h cs x []):∀ {vs:LV} {xs:List b},F2 (r.R h) vs xs->F3 (r.W h) vs xs (xs.map λ_=>[])
 | [],[],_=>trivial
 |v::vs,x::xs,hf=>⟨a _ _ hf.1,F3.ofPlain a hf.2⟩
 | [],_::_,hf=>hf.elim
 |_::_,[],hf=>hf.elim
theorem G4.ofPlain{a:Type}{h:Hp}{xs:List a}:G4 h (xs.map λ_=>([]:List Nat)).flatten:=by rw[U0o];exact G4.nil h
theorem G4.perm{h:Hp}{Bs a:List (List Nat)}(f:G4 h Bs.flatten)(p:a.Perm Bs):G4 h a.flatten:=by have q:=p.flatten;exact⟨q.nodup_iff.2 f.1,λb c=>f.2 b (q.mem_iff.1 c)⟩
theorem W0o{Bs c:List (List Nat)}(p:c.Sublist Bs):c.flatten.Sublist Bs.flatten:=by
 induction p with
 |slnil=>exact .slnil
 |cons a _ b=>rw[List.flatten_cons];exact b.trans (List.sublist_append_right _ _)
 |cons_cons a _ b=>rw[List.flatten_cons,List.flatten_cons];exact(List.Sublist.refl a).append b
theorem G4.sublist{h:Hp}{Bs a:List (List Nat)}(f:G4 h Bs.flatten)(p:a.Sublist Bs):G4 h a.flatten :=
 ⟨(W0o p).nodup f.1,λb c=>f.2 b ((W0o p).subset c)⟩
theorem m0y{a:Type}{xs:List a}{i:Int}{x:a}(h:gi xs i=some x):i.toNat<xs.length/\0<=i:=by
 unfold gi at h;split at h;·rename_i h0;exact⟨(List.getElem?_eq_some_iff.1 h).1,h0⟩
 cases h
def X0o(a b:ByteArray):Bool:=Go.Op.bytesLess a.toList b.toList
theorem ifP{e:Type}{c:Bool}[Decidable (c=true)]{a b r:e}(h:(if c=true then a else b)=r)(d:c=true):a=r:=by rw[if_pos d]at h;exact h
theorem ifN{e:Type}{c:Bool}[Decidable (c=true)]{a b r:e}(h:(if c=true then a else b)=r)(d:c=false):b=r:=by rw[if_neg (u0A d)]at h;exact h
theorem Sub.back{h h':Hp}(b:Sub h h'){g:Nat}(a:h' g=none):h g=none:=by
 cases ho:h g with
 |none=>rfl
 |some o=>rw[b _ _ ho]at a;cases a
theorem New.zero{d:Type}{r:Wp d}{h0 k:Hp}{g:Nat}{e:TypeId}(b:h0 g=none)(a:k g=some (.cells #[] e (0,0)))(c:Sub h0 k):New r.slice h0 k [.slice (some ⟨g,0,none⟩) 0 0] [] :=
 ⟨[g],⟨_,[],[g],[],rfl,⟨oS,.inr ⟨g,0,0,#[],e,rfl,Nat.le_refl _,Nat.zero_le _,a,rfl,oS,oS⟩⟩,trivial,oS⟩,⟨oS,by simpa using b⟩,c⟩
theorem ifB{j:Type}{c:Bool}[Decidable (c=true)]{a b r:j}{e f:Prop}(h:(if c=true then a else b)=r)(i:c=true->a=r->e)(g:c=false->b=r->f):(c=true->e)/\(c=false->f) :=
 ⟨λd=>i d (ifP h d),λd=>g d (ifN h d)⟩
theorem ld{c d:Type}{r:Rp c}{h:Hp}{v:Value}{xs:List c}{i:Int}{k:c->Option d}{y:d}{K:List Value->Prop}(a:(gi xs i).bind k=some y)(e:Sl r h v xs)(f:∀ x cs,r.R h cs x->k x=some y->K cs)(j:0<r.sz:=by decide):InB v i/\∃ cs,T7 h v r.sz i cs/\K cs:=by
 obtain⟨x,g,a⟩:=B0 a
 obtain⟨b,cs,e,q⟩:=Sl.getI e g j
 exact⟨b,cs,e,f x cs q a⟩
theorem ldI{b:Type}{h:Hp}{v:Value}{xs:List Int}{i:Int}{k:Int->Option b}{y:b}{K:List Value->Prop}(a:(gi xs i).bind k=some y)(e:Sl Wp.int.toRp h v xs)(c:∀ x,H0 x->k x=some y->K [.int .i64 x]):InB v i/\∃ cs,T7 h v 1 i cs/\K cs :=
 ld a e λx cs q a=>by obtain⟨rfl,q⟩:=q;exact c x q a
theorem ldG{b:Type}{h:Hp}{v:Value}{xs:List Int}{c:Bool}{i:Int}{k:Int->Option b}{y:b}{K:List Value->Prop}(a:(chk c (gi xs i) 0).bind k=some y)(e:Sl Wp.int.toRp h v xs)(d:∀ x,H0 x->k x=some y->K [.int .i64 x]):(c=true->InB v i)/\∃ cs,(c=true->T7 h v 1 i cs)/\K cs:=by obtain⟨x,g,a⟩:=B0 a;obtain⟨cs,e,q⟩:=Sl.getG (r:=Wp.int.toRp) e g oD (m0f h);obtain⟨rfl,q⟩:=q;exact⟨λq=>(e q).1,_,λq=>(e q).2,d x q a⟩
theorem trV{b e:Type}{P:Program}{f:FuncId}{args:Array Value}{h:Hp}{d:b->Value}{c:Value->Hp->Prop}{o:Option b}{k:b->Option e}{y:e}(a:o.bind k=some y)(t:∀ x,o=some x->Tr P f args h λv h'=>v=d x/\h'=h)(i:∀ x,k x=some y->c (d x) h):Tr P f args h c:=by obtain⟨x,g,a⟩:=B0 a;exact Tr.val (t x g) (i x a)
theorem trM{b e:Type}{P:Program}{f:FuncId}{args:Array Value}{h:Hp}{c:b->Value->Hp->Prop}{d:Value->Hp->Prop}{o:Option b}{k:b->Option e}{y:e}(a:o.bind k=some y)(t:∀ x,o=some x->Tr P f args h (c x))(i:∀ x,k x=some y->∀ v h',c x v h'->d v h'):Tr P f args h d:=by obtain⟨x,g,a⟩:=B0 a;exact Tr.mono (t x g) (i x a)
theorem trG{a i:Type}{P:Program}{f:FuncId}{args:Array Value}{h:Hp}{c:Bool}{d:a}{e:a->Value}{K:Value->Prop}{o:Option a}{k:a->Option i}{y:i}(b:(chk c o d).bind k=some y)(t:c=true->∀ x,o=some x->Tr P f args h λv h'=>v=e x/\h'=h)(j:∀ x,k x=some y->K (e x)):∃ v,(c=true->Tr P f args h λw h'=>w=v/\h'=h)/\K v:=by obtain⟨x,g,b⟩:=B0 b;exact⟨_,λq=>t q x (N7 g q),j x b⟩
theorem P1{a b c:Prop}{d:Nat->Prop}{m:Nat}(k:Nat)(h:d k)(i:k<m:=by exact nS _)(e:a:=by exact rfl)(f:b:=by repeat (first|exact trivial|refine aI rfl ?_))(g:c:=by repeat (first|exact trivial|refine aI rfl ?_)):a/\b/\c/\∃ k,d k/\k<m :=
 ⟨e,f,g,k,h,i⟩
end Go.H
