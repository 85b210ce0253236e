/- A slice of fresh rows of ints, written in place one int at a time. -/
import Derived.Test.YtkjhghloldgioaaGreatHE
namespace Go.H
set_option linter.unusedVariables false
def Mat(hb h:Hp)(w:List (List Value))(M:List (List Int)):Prop:=∃ Bs,F3 (Wp.int.slice.W h) w M Bs/\K6 hb Bs.flatten/\Sub hb h
theorem Mat.sub{hb h:Hp}{w:List (List Value)}{M:List (List Int)}(m:Mat hb h w M):Sub hb h:=let ⟨_,_,_,s⟩:=m;s
theorem Mat.f2{hb h:Hp}{w:List (List Value)}{M:List (List Int)}(m:Mat hb h w M):F2 (Wp.int.slice.R h) w M:=let ⟨_,f,_,_⟩:=m;F3.f2 (λ_ _ _ h=>Wp.int.slice.toR h) f
theorem Mat.up{hb h h':Hp}{w:List (List Value)}{M:List (List Int)}(m:Mat hb h w M)(s:Sub h h'):Mat hb h' w M :=
 let ⟨Bs,f,fr,sb⟩:=m;⟨Bs,J0d f s,fr,sb.trans s⟩
theorem Mat.weak{hb hc h:Hp}{w:List (List Value)}{M:List (List Int)}(m:Mat hc h w M)(s:Sub hb hc):Mat hb h w M:=by
 obtain⟨Bs,f,fr,sb⟩:=m
 refine⟨Bs,f,⟨fr.1,λb hb'=>?_⟩,s.trans sb⟩
 cases e:hb b with
 |none=>rfl
 |some x=>have:=fr.2 b hb';rw[s _ _ e]at this;cases this
theorem Mat.nil(h:Hp)(n:Nat):Mat h h (List.replicate n [.slice none 0 0]) (List.replicate n []):=by
 refine⟨List.replicate n [],?_,?_,Sub.refl _⟩
 ·induction n with
  |zero=>exact trivial
  |succ n ih=>exact⟨⟨.slice none 0 0,[],[],[],rfl,⟨by simp,.inl ⟨rfl,rfl,rfl⟩⟩,trivial,rfl⟩,ih⟩
 ·have:(List.replicate n ([]:List Nat)).flatten = []:=by induction n<;>simp_all [List.replicate_succ]
  rw[this];exact K6.nil _
theorem Mat.row{hb h h':Hp}{w:List (List Value)}{M:List (List Int)}(m:Mat hb h w M){cs:List Value}{row:List Int}(nw:New Wp.int.slice h h' cs row)(i:Nat):Mat hb h' (w.set i cs) (M.set i row):=by
 obtain⟨Bs,f,fr,sb⟩:=m
 obtain⟨B,wB,⟨bn,bf⟩,s⟩:=nw
 obtain⟨n1,n2⟩:=e0b bn Bs i fr.1 (λb hb hm=>y04 f b hm (bf b hb))
 refine⟨Bs.set i B,F3.set wB i (J0d f s),⟨n1,λb hb'=>?_⟩,sb.trans s⟩
 rcases n2 b hb' with h1|h1
 ·exact fr.2 b h1
 ·cases e:hb b with
  |none=>rfl
  |some x=>have:=bf b h1;rw[sb _ _ e]at this;cases this
theorem F3.putW{α:Type}{r:Wp α}{h h':Hp}{a:List Value}{x':α}{B:List Nat}{b:Nat}(hb:b∈B)(hf:∀ y,y≠b->h' y=h y)(hw:r.W h' a x' B):
  ∀ {as:List (List Value)} {xs:List α} {Bs:List (List Nat)} (i:Nat),F3 (r.W h) as xs Bs->Bs.flatten.Nodup->as[i]?=some a->Bs[i]?=some B->F3 (r.W h') as (xs.set i x') Bs
 | [],[],[],_,_,_,e,_=>by simp at e
 |_::_,_::_,B1::Bs,0,f,nd,e1,e2=>by
  simp at e1 e2
  subst e1 e2
  rw[List.flatten_cons,List.nodup_append]at nd
  exact⟨hw,z04 f.2 λy hy=>hf y λe=>nd.2.2 b hb y hy e.symm⟩
 |_::_,_::_,B1::Bs,i+1,f,nd,e1,e2=>by
  simp at e1 e2
  rw[List.flatten_cons,List.nodup_append]at nd
  exact⟨r.frame f.1 λy hy=>hf y λe=>nd.2.2 y hy b (List.mem_flatten.2 ⟨B,List.mem_of_getElem? e2,hb⟩) e,F3.putW hb hf hw i f.2 nd.2.1 e1 e2⟩
 | [],_::_,_,_,f,_,_,_=>f.elim
 |_::_,[],_,_,f,_,_,_=>f.elim
 | [],[],_::_,_,f,_,_,_=>f.elim
 |_::_,_::_,[],_,f,_,_,_=>f.elim
theorem E0g{B:List Nat}:∀ {Bs:List (List Nat)},Bs.flatten.Nodup->B∈Bs->B.Nodup
 |_::_,nd,hm=>by
  rw[List.flatten_cons,List.nodup_append]at nd
  rcases List.mem_cons.1 hm with rfl|hm
  ·exact nd.1
  ·exact E0g nd.2.1 hm
theorem Mat.put{hb h:Hp}{w:List (List Value)}{M:List (List Int)}(m:Mat hb h w M){u i:Int}{row:List Int}{y v:Int}{a:Option Addr}{n c:Nat}(gu:gi M u=some row)(ew:w[u.toNat]?=some [.slice a n c])(gy:gi row i=some y)(hv:P0 v)
  {off:Nat} (ho:off=i.toNat*1+0) {K:Hp->Prop} (hk:∀ h',Mat hb h' w (M.set u.toNat (row.set i.toNat v))->K h'):g04 h (.slice a n c) i off (.int .i64 v) K:=by
 obtain⟨Bs,f,fr,sb⟩:=m
 obtain⟨_,gu⟩:=W07 gu
 obtain⟨h0,gy⟩:=W07 gy
 obtain⟨cs,B,g1,g2,g3⟩:=f.get gu
 rw[ew]at g1;cases g1
 have hBm:=List.mem_of_getElem? g2
 obtain⟨hib,cs,Bi,b,of,cur,ty,rfl,ea,wi,hg,hsz,hbB,hnb,hsub,hnd,_,put⟩:=Wp.at (r:=Wp.int) g3 (E0g fr.1 hBm) gy (by decide)
 obtain⟨⟨rfl,hi64⟩,rfl⟩:=wi
 subst ho
 have hbn:hb b=none:=fr.2 b (List.mem_flatten.2 ⟨B,hBm,hbB⟩)
 refine g04.mk (p:=of+(i.toNat*1+0)) h0 hg (hsz 0 (by decide)) rfl (by simp[I02]) (hk _ ⟨Bs,?_,fr,?_⟩)
 ·exact F3.putW hbB (λy hy=>Hp.set_other _ _ hy) (put 0 (.int .i64 v) v (by decide) λh' _=>⟨⟨rfl,hv⟩,rfl⟩) _ f fr.1 ew g2
 ·intro b1 x hx
  have:b1≠b:=λe=>by rw[e,hbn]at hx;cases hx
  rw[Hp.set_other _ _ this]
  exact sb _ _ hx
theorem Mat.base{hb h h':Hp}{w:List (List Value)}{M:List (List Int)}(m:Mat hb h w M){α:Type}{r:Wp α}{cs:List Value}{x:α}(nw:New r h h' cs x):∃ hc,Sub hb hc/\Mat hc h' w M/\r.R hc cs x:=by
 obtain⟨Bs,f,fr,sb⟩:=m
 obtain⟨B,wB,⟨bn,bf⟩,s⟩:=nw
 refine⟨λa=>if a∈Bs.flatten then none else h' a,λa o e=>?_,⟨Bs,J0d f s,⟨fr.1,λb hb'=>by simp only;rw[if_pos hb']⟩,λa o e=>?_⟩,r.toR (r.frame wB λb hb'=>?_)⟩
 ·have:a ∉ Bs.flatten:=λhm=>by rw[fr.2 a hm]at e;cases e
  simp only;rw[if_neg this];exact s _ _ (sb _ _ e)
 ·simp only at e
  split at e
  ·cases e
  ·exact e
 ·have:b ∉ Bs.flatten:=λhm=>y04 f b hm (bf b hb')
  exact if_neg this
end Go.H
