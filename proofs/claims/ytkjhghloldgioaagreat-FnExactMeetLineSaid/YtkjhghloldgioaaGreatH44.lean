/- A slice of fresh rows of ints, written in place one int at a time. -/
import Derived.Test.YtkjhghloldgioaaGreatHE
namespace Go.H
set_option linter.unusedVariables false
def Mat(a h:Hp)(w:List (List Value))(b:List (List Int)):Prop:=∃ Bs,F3 (Wp.int.slice.W h) w b Bs/\K7 a Bs.flatten/\Sub a h
theorem Mat.sub{a h:Hp}{w:List (List Value)}{b:List (List Int)}(m:Mat a h w b):Sub a h:=let ⟨_,_,_,s⟩:=m;s
theorem Mat.f2{b h:Hp}{w:List (List Value)}{a:List (List Int)}(m:Mat b h w a):F2 (Wp.int.slice.R h) w a:=let ⟨_,f,_,_⟩:=m;F3.f2 (λ_ _ _ h=>Wp.int.slice.toR h) f
theorem Mat.up{c h b:Hp}{w:List (List Value)}{a:List (List Int)}(m:Mat c h w a)(s:Sub h b):Mat c b w a :=
 let ⟨Bs,f,fr,sb⟩:=m;⟨Bs,Y0d f s,fr,sb.trans s⟩
theorem Mat.weak{a d h:Hp}{w:List (List Value)}{c:List (List Int)}(m:Mat d h w c)(s:Sub a d):Mat a h w c:=by
 obtain⟨Bs,f,fr,i⟩:=m
 refine⟨Bs,f,⟨fr.1,λb g=>?_⟩,s.trans i⟩
 cases e:a b with
 |none=>rfl
 |some x=>have:=fr.2 b g;rw[s _ _ e]at this;cases this
theorem Mat.nil(h:Hp)(n:Nat):Mat h h (List.replicate n [.slice none 0 0]) (List.replicate n []):=by
 refine⟨List.replicate n [],?_,?_,Sub.refl _⟩
 ·induction n with
  |zero=>exact trivial
  |succ n a=>exact⟨⟨.slice none 0 0,[],[],[],rfl,⟨by simp,.inl ⟨rfl,rfl,rfl⟩⟩,trivial,rfl⟩,a⟩
 ·have:(List.replicate n ([]:List Nat)).flatten = []:=by induction n<;>simp_all [List.replicate_succ]
  rw[this];exact K7.nil _
theorem Mat.row{a h j:Hp}{w:List (List Value)}{d:List (List Int)}(m:Mat a h w d){cs:List Value}{row:List Int}(t:New Wp.int.slice h j cs row)(i:Nat):Mat a j (w.set i cs) (d.set i row):=by
 obtain⟨Bs,f,fr,k⟩:=m
 obtain⟨B,u,⟨l,g⟩,s⟩:=t
 obtain⟨p,q⟩:=G0b l Bs i fr.1 (λb a o=>K04 f b o (g b a))
 refine⟨Bs.set i B,F3.set u i (Y0d f s),⟨p,λb n=>?_⟩,k.trans s⟩
 rcases q b n with c|c
 ·exact fr.2 b c
 ·cases e:a b with
  |none=>rfl
  |some x=>have:=g b c;rw[k _ _ e]at this;cases this
theorem F3.putW{m:Type}{r:Wp m}{h j:Hp}{a:List Value}{o:m}{B:List Nat}{b:Nat}(k:b∈B)(hf:∀ y,y≠b->j y=h y)(n:r.W j a o B):
  ∀ {as:List (List Value)} {xs:List m} {Bs:List (List Nat)} (i:Nat),F3 (r.W h) as xs Bs->Bs.flatten.Nodup->as[i]?=some a->Bs[i]?=some B->F3 (r.W j) as (xs.set i o) Bs
 | [],[],[],_,_,_,e,_=>by simp at e
 |_::_,_::_,B1::Bs,0,f,d,g,c=>by
  simp at g c
  subst g c
  rw[List.flatten_cons,List.nodup_append]at d
  exact⟨n,L04 f.2 λy l=>hf y λe=>d.2.2 b k y l e.symm⟩
 |_::_,_::_,B1::Bs,i+1,f,d,g,c=>by
  simp at g c
  rw[List.flatten_cons,List.nodup_append]at d
  exact⟨r.frame f.1 λy l=>hf y λe=>d.2.2 y l b (List.mem_flatten.2 ⟨B,List.mem_of_getElem? c,k⟩) e,F3.putW k hf n i f.2 d.2.1 g c⟩
 | [],_::_,_,_,f,_,_,_=>f.elim
 |_::_,[],_,_,f,_,_,_=>f.elim
 | [],[],_::_,_,f,_,_,_=>f.elim
 |_::_,_::_,[],_,f,_,_,_=>f.elim
theorem r0h{B:List Nat}:∀ {Bs:List (List Nat)},Bs.flatten.Nodup->B∈Bs->B.Nodup
 |_::_,b,a=>by
  rw[List.flatten_cons,List.nodup_append]at b
  rcases List.mem_cons.1 a with rfl|a
  ·exact b.1
  ·exact r0h b.2.1 a
theorem Mat.put{l h:Hp}{w:List (List Value)}{d:List (List Int)}(m:Mat l h w d){u i:Int}{row:List Int}{y v:Int}{a:Option Addr}{n c:Nat}(g:gi d u=some row)(q:w[u.toNat]?=some [.slice a n c])(j:gi row i=some y)(J:I0 v)
  {off:Nat} (H:off=i.toNat*1+0) {K:Hp->Prop} (G:∀ k,Mat l k w (d.set u.toNat (row.set i.toNat v))->K k):s04 h (.slice a n c) i off (.int .i64 v) K:=by
 obtain⟨Bs,f,fr,M⟩:=m
 obtain⟨_,g⟩:=s0a g
 obtain⟨h0,j⟩:=s0a j
 obtain⟨cs,B,s,t,D⟩:=f.get g
 rw[q]at s;cases s
 have z:=List.mem_of_getElem? t
 obtain⟨R,cs,O,b,of,cur,ty,rfl,P,N,F,I,A,S,U,T,_,put⟩:=Wp.at (r:=Wp.int) D (r0h fr.1 z) j (by decide)
 obtain⟨⟨rfl,Q⟩,rfl⟩:=N
 subst H
 have E:l b=none:=fr.2 b (List.mem_flatten.2 ⟨B,z,A⟩)
 refine s04.mk (p:=of+(i.toNat*1+0)) h0 F (I 0 (by decide)) rfl (by simp[N02]) (G _ ⟨Bs,?_,fr,?_⟩)
 ·exact F3.putW A (λy L=>Hp.set_other _ _ L) (put 0 (.int .i64 v) v (by decide) λk _=>⟨⟨rfl,J⟩,rfl⟩) _ f fr.1 q t
 ·intro C x o
  have:C≠b:=λe=>by rw[e,E]at o;cases o
  rw[Hp.set_other _ _ this]
  exact M _ _ o
theorem Mat.base{k h c:Hp}{w:List (List Value)}{j:List (List Int)}(m:Mat k h w j){l:Type}{r:Wp l}{cs:List Value}{x:l}(p:New r h c cs x):∃ g,Sub k g/\Mat g c w j/\r.R g cs x:=by
 obtain⟨Bs,f,fr,q⟩:=m
 obtain⟨B,t,⟨u,n⟩,s⟩:=p
 refine⟨λa=>if a∈Bs.flatten then none else c a,λa o e=>?_,⟨Bs,Y0d f s,⟨fr.1,λb d=>by simp only;rw[if_pos d]⟩,λa o e=>?_⟩,r.toR (r.frame t λb d=>?_)⟩
 ·have:a ∉ Bs.flatten:=λi=>by rw[fr.2 a i]at e;cases e
  simp only;rw[if_neg this];exact s _ _ (q _ _ e)
 ·simp only at e
  split at e
  ·cases e
  ·exact e
 ·have:b ∉ Bs.flatten:=λi=>K04 f b i (n b d)
  exact if_neg this
end Go.H
