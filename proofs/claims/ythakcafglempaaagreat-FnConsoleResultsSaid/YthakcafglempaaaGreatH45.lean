/- Plain laws over the model: a call beside a block that it is not told of; a variable behind a pointer that calls change. -/
import Derived.Test.YthakcafglempaaaGreatH35
namespace Go.H
set_option linter.all false
theorem Hp.set_comm(h:Hp){a b:Nat}(x y:Obj)(c:a≠b):(h.set a x).set b y=(h.set b y).set a x:=by
 funext k;unfold Hp.set;by_cases c1:k=b
 ·rw[if_pos c1];by_cases c2:k=a;·exact absurd (c2.symm.trans c1) c
  rw[if_neg c2,if_pos c1]
 rw[if_neg c1];by_cases c2:k=a;·rw[if_pos c2,if_pos c2]
 rw[if_neg c2,if_neg c2,if_neg c1]
theorem T2.beside{h h':Hp}{w j:World}{k:Nat}{o:Obj}(f:h k=none)(i:Vis (h.set k o) w)(m:T2 h w h' j):h' k=none/\T2 (h.set k o) w (h'.set k o) j:=by
 have g:k<w.heap.size:=i.lt (b:=k) (by rw[Hp.set_same];simp);refine⟨m.none_of g f,m.os,m.tape,m.output,m.size,λb a l=>?_,λb x d=>?_,λb a=>?_,m.fz,m.dn⟩
 ·refine m.keep b a ?_;by_cases c:b=k;·rw[c];exact f
  rwa [Hp.set_other h o c]at l
 ·by_cases c:b=k;·subst c;rw[Hp.set_same]at d;cases d;rw[m.keep b g f];exact i b _ (Hp.set_same h b _)
  rw[Hp.set_other h' o c]at d;exact m.vis b x d
 by_cases c:b=k;·subst c;left;rw[Hp.set_same];simp
 rw[Hp.set_other h' o c]at a;rcases m.fresh b a with e|e;·left;rw[Hp.set_other h o c];exact e
 exact .inr e
theorem Vis.less{h:Hp}{w:World}{k:Nat}{o:Obj}(c:h k=none)(d:Vis (h.set k o) w):Vis h w:=λb x a=>d b x (by rw[Hp.set_other h o λe=>by subst e;rw[c]at a;cases a];exact a)
theorem Tr.beside{P:Program}{f:FuncId}{args:Array Value}{h:Hp}{k:Nat}{o:Obj}{a K:Value->Hp->Prop}(c:h k=none)(t:Tr P f args h a)(g:∀ v h',a v h'->h' k=none->K v (h'.set k o)):Tr P f args (h.set k o) K :=
 ⟨λw d=>(t.run w (Vis.less c d)).mono λe m ⟨v,h',i,l,j⟩ =>
  have b:=T2.beside c d j
  ⟨v,h'.set k o,i,g v h' l b.1,b.2⟩⟩
theorem Y0.beside{h h':Hp}{k:Nat}{o:Obj}{v:Value}{e:TypeId}{sz:Nat}{nn:Bool}{xs:LV}(n:h k=none)(f:Y0 (h.set k o) h' v e sz nn xs):∃ j,Y0 h j v e sz nn xs/\j k=none/\h'=j.set k o:=by
 obtain⟨m,f2⟩:=f;rcases f2 with⟨b,a,d,i⟩|⟨g,cap,cur,b,a,d,i⟩;·exact⟨h,⟨m,.inl ⟨b,a,d,rfl⟩⟩,n,i⟩
 have l:g≠k:=λc=>by rw[c,Hp.set_same]at a;cases a
 rw[Hp.set_other h o l]at a;refine⟨h.set g (.cells cur e (0,0)),⟨m,.inr ⟨g,cap,cur,b,a,rfl,i⟩⟩,by rw[Hp.set_other _ _ l.symm];exact n,?_⟩;rw[d,Hp.set_comm h o _ l.symm]
theorem f0o.beside{h h':Hp}{k sz g of n c:Nat}{o:Obj}{v:Value}{xs t:LV}(s:h k=none)(r:H0q h sz (.slice (some ⟨g,of,none⟩) n c) xs)(a:f0o (h.set k o) h' sz g v t):∃ j,f0o h j sz g v t/\j k=none/\h'=j.set k o:=by
 obtain⟨u,i,J,I,C,m,d,p⟩:=a;have G:g≠k:=λe=>by obtain⟨_,f,_,_,cur,ty,E,_,_,_,q,_⟩:=r;cases E;rw[e,s]at q;cases q
 have l:i≠k:=by
  rcases d with d|d;·rw[d];exact G
  exact λe=>by rw[e,Hp.set_same]at d;cases d
 have H:h' k=some o:=by rw[p k l.symm,Hp.set_same]
 refine⟨λb=>if b=k then none else h' b,⟨?_,i,J,I,C,m,?_,λb F=>?_⟩,if_pos rfl,?_⟩
 ·obtain⟨L,f,K,D,cur,ty,e,w,x,y,z,A⟩:=u;have:f=i:=by rw[m]at e;cases e;rfl
  refine⟨L,f,K,D,cur,ty,e,w,x,y,?_,A⟩;show(if f=k then none else h' f)=_;rw[if_neg (by rw[this];exact l)];exact z
 ·rcases d with d|d;·exact .inl d
  right;rwa [Hp.set_other h o l]at d
 ·show(if b=k then none else h' b)=_;by_cases cb:b=k;·rw[if_pos cb,cb,s]
  rw[if_neg cb,p b F,Hp.set_other h o cb]
 funext b;unfold Hp.set;by_cases cb:b=k;·rw[if_pos cb,cb,H]
 rw[if_neg cb];exact(if_neg cb).symm
theorem D0t.beside{h h':Hp}{k sz:Nat}{o:Obj}{v:Value}{m:LV}(z:h k=none)(a:D0t (h.set k o) h' sz v m):∃ g,D0t h g sz v m/\g k=none/\h'=g.set k o:=by
 obtain⟨n,f,D,C,w,j,d,l⟩:=a;have i:f≠k:=λe=>by rw[e,Hp.set_same]at d;cases d
 have A:h' k=some o:=by rw[l k i.symm,Hp.set_same]
 refine⟨λb=>if b=k then none else h' b,⟨?_,f,D,C,w,j,?_,λb y=>?_⟩,if_pos rfl,?_⟩
 ·obtain⟨F,c,E,x,cur,ty,e,p,q,s,t,u⟩:=n;have:c=f:=by rw[j]at e;cases e;rfl
  refine⟨F,c,E,x,cur,ty,e,p,q,s,?_,u⟩;show(if c=k then none else h' c)=_;rw[if_neg (by rw[this];exact i)];exact t
 ·rwa [Hp.set_other h o i]at d
 ·show(if b=k then none else h' b)=_;by_cases cb:b=k;·rw[if_pos cb,cb,z]
  rw[if_neg cb,l b y,Hp.set_other h o cb]
 funext b;unfold Hp.set;by_cases cb:b=k;·rw[if_pos cb,cb,A]
 rw[if_neg cb];exact(if_neg cb).symm
def T0z(b:Value)(q:Int×Int)(ty:TypeId):Obj := .cells #[b,.int .i64 q.1,.int .i64 q.2] ty (0,0)
structure I0d (h:Hp) (k:Nat) (b:Value) (bs:List Int) (q:Int×Int):Prop where
 no:h k=none
 rd:Sl Rp.u8 h b bs
 pl:0<=q.1/\q.1<=(bs.length:Int)
 nm:H0 q.2
def Wp.u8:Wp Int := .plain .u8 λ_ _ _ _ h=>h
theorem I0d.back{h h':Hp}{k:Nat}{b:Value}{bs:List Int}{q a:Int×Int}(c:I0d h k b bs q)(d:I0d h' k b bs a):I0d h k b bs a:=⟨c.no,c.rd,d.pl,d.nm⟩
theorem I0d.mono{h h':Hp}{k:Nat}{b:Value}{bs:List Int}{q:Int×Int}(c:I0d h k b bs q)(d:Sub h h')(a:h' k=none):I0d h' k b bs q:=⟨a,c.rd.mono d,c.pl,c.nm⟩
theorem I0d.grow{h d:Hp}{k:Nat}{b:Value}{bs:List Int}{q:Int×Int}{ty:TypeId}(c:I0d h k b bs q)(i:Sub (h.set k (T0z b q ty)) d):∃ f,d=f.set k (T0z b q ty)/\Sub h f/\I0d f k b bs q:=by
 have j:Sub h λx=>if x=k then none else d x:=λx o g=>by
  have a:x≠k:=λe=>by rw[e,c.no]at g;cases g
  show(if x=k then none else d x)=some o;rw[if_neg a];exact i x o (by rw[Hp.set_other h _ a];exact g)
 refine⟨λx=>if x=k then none else d x,funext λx=>?_,j,if_pos rfl,c.rd.mono j,c.pl,c.nm⟩;by_cases a:x=k;·subst a;rw[i x _ (Hp.set_same _ _ _),Hp.set_same]
 rw[Hp.set_other _ _ a,if_neg a]
end Go.H
