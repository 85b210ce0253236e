/- Texts of the claim, joined: Plain laws: a word written in a basis and others. -/
import Derived.Test.YtcakocbgbelmeaaGreatPart24
import Derived.Test.YtcakocbgbelmeaaGreatPart18
import Derived.Test.YtcakocbgbelmeaaGreatPart23
namespace Go.Proofs.YtcakocbgbelmeaaGreat
open Go.H
set_option linter.unusedVariables false
set_option linter.unusedSimpArgs false
def exO(bs:List (List Int))(k:Int):Option (List Int):=if 0<k∧k≤(bs.length:Int)then some (bs.getD (k.toNat-1) [])else if k<0 ∧ -(bs.length:Int)≤k then some (inv (bs.getD ((-k).toNat-1) []))else none
def exP(bs:List (List Int))(k:Int):List Int:=(exO bs k).getD []
def K0a(bs:List (List Int))(l:List Int):List Int:=(E02 [] ((l.take 200).flatMap (exP bs))).reverse
def BOk(bs:List (List Int)):Prop:=(∀ w∈bs,(∀ x∈w,j4 x)∧w.length≤1000)∧bs.length≤1000
theorem l06{bs:List (List Int)}{k:Nat}(h:k<bs.length):bs.getD k []∈bs:=by
 rw[List.getD_eq_getElem?_getD,List.getElem?_eq_getElem h];exact List.getElem_mem h
theorem U0p{bs:List (List Int)}(h:BOk bs){k:Int}{w:List Int}(e:exO bs k=some w):w.length≤1000∧∀ x∈w,M0 x:=by
 unfold exO at e
 split at e
 ·rename_i c
  have hm:=l06 (bs:=bs) (k:=k.toNat-1) (by omega)
  simp only[Option.some.injEq]at e
  rw[←e]
  exact⟨(h.1 _ hm).2,fun x hx=>((h.1 _ hm).1 x hx).1⟩
 ·split at e
  ·rename_i c
   have hm:=l06 (bs:=bs) (k:=(-k).toNat-1) (by omega)
   simp only[Option.some.injEq]at e
   rw[←e]
   exact⟨by rw[o04];exact(h.1 _ hm).2,fun x hx=>(V0h (h.1 _ hm).1 x hx).1⟩
  ·cases e
theorem h0m{bs:List (List Int)}(h:BOk bs)(k:Int):(exP bs k).length≤1000∧∀ x∈exP bs k,M0 x:=by
 unfold exP
 cases e:exO bs k with
 |none=>exact⟨by simp,fun x hx=>by cases hx⟩
 |some w=>exact U0p h e
theorem q0d{bs:List (List Int)}{k:Nat}(h:k<bs.length):gi bs (k:Int)=some (bs.getD k []):=by
 refine j2 ?_
 rw[List.getD_eq_getElem?_getD,List.getElem?_eq_getElem h];rfl
theorem N9{bs:List (List Int)}(h:BOk bs):∀ l:List Int,(l.flatMap (exP bs)).length≤1000*l.length∧∀ x∈l.flatMap (exP bs),M0 x
 | []=>⟨by simp,fun x hx=>by cases hx⟩
 |k::r=>by
  have h1:=h0m h k
  have h2:=N9 h r
  rw[List.flatMap_cons]
  refine⟨by rw[List.length_append,List.length_cons];omega,fun x hx=>?_⟩
  rcases List.mem_append.1 hx with hx|hx
  ·exact h1.2 x hx
  ·exact h2.2 x hx
theorem j0p{bs:List (List Int)}(h:BOk bs)(l:List Int):∀(d k fuel:Nat) (acc:List Int),k+d=(l.take 200).length→d<fuel→acc.length≤1000*k →
  l5 l bs fuel (k:Int) acc=some (acc++((l.take 200).drop k).flatMap (exP bs))
 |d,k,0,acc,hd,hf,ha=>by omega
 |0,k,fuel+1,acc,hd,hf,ha=>by
  rw[List.length_take]at hd
  have e:(bif(decide ((k:Int)<((l.length:Nat):Int)))then(decide ((k:Int)<200))else false)=false:=by
   by_cases c:(k:Int)<((l.length:Nat):Int)
   ·rw[decide_eq_true c,cond_true];exact decide_eq_false (by omega)
   ·rw[decide_eq_false c,cond_false]
  rw[l5.eq_2,e,if_neg (by simp),List.drop_eq_nil_of_le (by rw[List.length_take];omega)];simp
 |d+1,k,fuel+1,acc,hd,hf,ha=>by
  have hkt:k<(l.take 200).length:=by omega
  rw[List.length_take]at hd
  have hk:k<l.length:=by omega
  have hb:=h.2
  have hx:=p5 hk
  have hdr:(l.take 200).drop k=l[k]::(l.take 200).drop (k+1):=J1 (by rw[List.getElem?_take,if_pos (by omega)];exact hx)
  generalize l[k]=x at hx hdr
  have hxl:=h0m h x
  have ih:=fun acc' q=>j0p h l d (k+1) fuel acc' (by rw[List.length_take];omega) (by omega) q
  have e:(bif(decide ((k:Int)<((l.length:Nat):Int)))then(decide ((k:Int)<200))else false)=true:=by
   rw[decide_eq_true (by omega),cond_true];exact decide_eq_true (by omega)
  rw[l5.eq_2,e,if_pos rfl,hdr,List.flatMap_cons]
  simp only[j2 hx,oB,V1 (show k<1000 by omega) (show(1000:Nat)≤9223372036854775807 by omega)]
  unfold exP exO
  by_cases c1:0<x
  ·rw[decide_eq_true (show x>0 from c1)]
   simp only[C1,oB,cond_true]
   by_cases c2:x≤(bs.length:Int)
   ·have hm:=l06 (bs:=bs) (k:=x.toNat-1) (by omega)
    have hml:=(h.1 _ hm).2
    have hg:gi bs (IntKind.i64.wrap (x-1))=some (bs.getD (x.toNat-1) []):=by
     rw[w64 (by omega) (by omega),show x-1=((x.toNat-1:Nat):Int) by omega];exact q0d (by omega)
    rw[if_pos (by simpa using c2),if_pos ⟨c1,c2⟩,hg,oB,D0 (by omega),oB,ih _ (by rw[List.length_append];omega)]
    simp only[Option.getD_some,List.append_assoc]
    rfl
   ·rw[if_neg (by simpa using c2),decide_eq_false (show ¬ x<0 by omega)]
    simp only[H1,oB,cond_false]
    rw[if_neg (by simp),if_neg (fun q=>c2 q.2),if_neg (fun q=>by omega),ih _ (by omega)]
    simp only[Option.getD_none,List.nil_append]
    rfl
  ·rw[decide_eq_false (show ¬ x>0 from c1)]
   simp only[H1,oB,cond_false]
   rw[if_neg (by simp),if_neg (fun q=>c1 q.1)]
   by_cases c3:x<0
   ·rw[decide_eq_true c3]
    simp only[C1,oB,cond_true]
    rw[w64 (x:=0-((bs.length:Nat):Int)) (by omega) (by omega)]
    by_cases c2 : -(bs.length:Int)≤x
    ·have hm:=l06 (bs:=bs) (k:=(-x).toNat-1) (by omega)
     have hml:=(h.1 _ hm).2
     have hg:gi bs (IntKind.i64.wrap ((IntKind.i64.wrap (0-x))-1))=some (bs.getD ((-x).toNat-1) []):=by
      rw[w64 (x:=0-x) (by omega) (by omega),w64 (by omega) (by omega),show 0-x-1=(((-x).toNat-1:Nat):Int) by omega];exact q0d (by omega)
     rw[if_pos (by simp only[decide_eq_true_eq];omega),if_pos ⟨c3,c2⟩,hg,oB,f02 _ (by omega),oB,D0 (by rw[o04];omega),oB,ih _ (by rw[List.length_append,o04];omega)]
     simp only[Option.getD_some,List.append_assoc]
     rfl
    ·rw[if_neg (by simp only[decide_eq_true_eq];omega),if_neg (fun q=>c2 q.2),ih _ (by omega)]
     simp only[Option.getD_none,List.nil_append]
     rfl
   ·rw[decide_eq_false c3]
    simp only[H1,oB,cond_false]
    rw[if_neg (by simp),if_neg (fun q=>c3 q.1),ih _ (by omega)]
    simp only[Option.getD_none,List.nil_append]
    rfl
theorem l0n{bs:List (List Int)}(h:BOk bs)(l:List Int):j01 bs l=some (K0a bs l):=by
 have hL:=j0p h l (l.take 200).length 0 S0 [] (by omega) (Y0 (by rw[List.length_take];omega)) (by simp)
 rw[show((0:Nat):Int)=0 from rfl,List.drop_zero,List.nil_append]at hL
 have hfl:=N9 h (l.take 200)
 have hlt:(l.take 200).length≤200:=by rw[List.length_take];omega
 unfold j01 K0a
 rw[hL,oB,m02 _ (fun x hx=>hfl.2 x hx) (by omega)]
 rfl
theorem O0g:∀(ws:List (List Int)) (s:List Int),R0k s ws=E02 s ws.flatten
 | [],s=>rfl
 |w::r,s=>by rw[R0k,O0g r,List.flatten_cons,M0e]
theorem T04(bs:List (List Int)):∀ l:List Int,(l.filterMap (exO bs)).flatten=l.flatMap (exP bs)
 | []=>rfl
 |k::r=>by
  rw[List.flatMap_cons,←T04 bs r,List.filterMap_cons]
  unfold exP
  cases exO bs k with
  |none=>rfl
  |some w=>rfl
theorem P0g:∀ ws:List (List Int),K0j ws=ws.flatten.length
 | []=>rfl
 |w::r=>by rw[K0j,P0g r,List.flatten_cons,List.length_append]
theorem k0p{bs:List (List Int)}(h:BOk bs)(l:List Int)(hl:l.length≤200):∀(d k fuel:Nat) (acc:List (List Int)),k+d=l.length→d<fuel→acc.length≤k →
  n5 l bs fuel (k:Int) acc=some (acc++(l.drop k).filterMap (exO bs))
 |d,k,0,acc,hd,hf,ha=>by omega
 |0,k,fuel+1,acc,hd,hf,ha=>by
  rw[n5.eq_2,if_neg (by simp only[decide_eq_true_eq];omega),E1 (by omega)];simp
 |d+1,k,fuel+1,acc,hd,hf,ha=>by
  have hk:k<l.length:=by omega
  have hb:=h.2
  have hx:=p5 hk
  have hdr:=J1 hx
  generalize l[k]=x at hx hdr
  have ih:=fun acc' q=>k0p h l hl d (k+1) fuel acc' (by omega) (by omega) q
  rw[n5.eq_2,if_pos (by simp only[decide_eq_true_eq];omega),hdr,List.filterMap_cons]
  simp only[j2 hx,oB,V1 (show k<1000 by omega) (show(1000:Nat)≤9223372036854775807 by omega),q02,w64 (x:=0-((bs.length:Nat):Int)) (by omega) (by omega)]
  unfold exO
  by_cases c1:0<x∧x≤(bs.length:Int)
  ·have hm:=l06 (bs:=bs) (k:=x.toNat-1) (by omega)
   have hg:gi bs (IntKind.i64.wrap (x-1))=some (bs.getD (x.toNat-1) []):=by
    rw[w64 (by omega) (by omega),show x-1=((x.toNat-1:Nat):Int) by omega];exact q0d (by omega)
   rw[if_pos (show inR 1 ((bs.length:Nat):Int) x=true by simp only[inR,Bool.and_eq_true,decide_eq_true_eq];omega),if_pos c1,hg,oB,D0 (by simp;omega),oB,ih _ (by simp;omega)]
   simp only[List.append_assoc]
   rfl
  ·rw[if_neg (show ¬ inR 1 ((bs.length:Nat):Int) x=true by simp only[inR,Bool.and_eq_true,decide_eq_true_eq];omega),if_neg c1]
   by_cases c2:x<0 ∧ -(bs.length:Int)≤x
   ·have hm:=l06 (bs:=bs) (k:=(-x).toNat-1) (by omega)
    have hml:=(h.1 _ hm).2
    have hg:gi bs (IntKind.i64.wrap ((IntKind.i64.wrap (0-x))-1))=some (bs.getD ((-x).toNat-1) []):=by
     rw[w64 (x:=0-x) (by omega) (by omega),w64 (by omega) (by omega),show 0-x-1=(((-x).toNat-1:Nat):Int) by omega];exact q0d (by omega)
    rw[if_pos (show inR (0-((bs.length:Nat):Int)) (-1) x=true by simp only[inR,Bool.and_eq_true,decide_eq_true_eq];omega),if_pos c2,hg,oB,u03 _ (by omega),oB,D0 (by simp;omega),oB,ih _ (by simp;omega)]
    simp only[List.append_assoc]
    rfl
   ·rw[if_neg (show ¬ inR (0-((bs.length:Nat):Int)) (-1) x=true by simp only[inR,Bool.and_eq_true,decide_eq_true_eq];omega),if_neg c2,ih _ (by omega)]
    rfl
theorem m0n{bs:List (List Int)}(h:BOk bs)(l:List Int):k01 bs l=some (K0a bs l):=by
 have hlt:(l.take 200).length≤200:=by rw[List.length_take];omega
 have hL:=k0p h (l.take 200) hlt (l.take 200).length 0 S0 [] (by omega) (Y0 (by omega)) (by simp)
 rw[show((0:Nat):Int)=0 from rfl,List.drop_zero,List.nil_append]at hL
 have hfl:=N9 h (l.take 200)
 have hc:Y04 l 0 (if 200<((l.length:Nat):Int)then 200 else((l.length:Nat):Int))=some (l.take 200):=by
  by_cases c:200<((l.length:Nat):Int)
  ·rw[if_pos c];exact M07 (k:=200) (by omega)
  ·rw[if_neg c,M07 (Nat.le_refl _),List.take_of_length_le (Nat.le_refl _),List.take_of_length_le (by omega)]
 have hfm:((l.take 200).filterMap (exO bs)).length≤200:=Nat.le_trans (List.length_filterMap_le _ _) hlt
 unfold k01 K0a
 rw[hc,oB,hL,oB,E05 _ (by omega) (by rw[P0g,T04];omega),O0g,T04]
 rfl
theorem Q0g{g:j0}(h:g.2.2.length≤120)(v:Int):(t05 g v).1.2.2.length≤120:=by
 unfold t05
 cases hf:K0 g with
 |false=>simpa using h
 |true =>
  cases hv:inR 0 (g.2.1-1) v with
  |false=>simpa using h
  |true =>
   simp only[Bool.and_self,cond_true]
   exact(P0j (e0n hf (by simp only[inR,Bool.and_eq_true,decide_eq_true_eq]at hv;omega))).1
theorem I0c(g:j0)(w:List Int):(e00 g w).1.2.2.length≤120:=by
 unfold e00
 cases hc:N1 g with
 |false=>simp
 |true =>
  have hg:=P3 (P4 hc)
  have hl:=(P0j hc).1
  cases I2 g.1 w with
  |false=>simp
  |true =>
   simp only[Bool.and_self,cond_true]
   cases decide ((C2 g 0 w).2<w.length)with
   |false=>simp only[cond_false];exact Q0g hl _
   |true =>
    simp only[cond_true]
    cases (M2 g).2 with
    |false=>simp
    |true =>
     simp only[cond_true]
     have hp:=Q07 (a04 hg) (C2 g 0 w).1 (w.drop (C2 g 0 w).2) g.2.1
     cases (I4 (M2 g).1 (C2 g 0 w).1 (w.drop (C2 g 0 w).2) g.2.1).2 with
     |false=>simp
     |true=>simp only[cond_true];exact Q0g hp _
def W07(k r:Int)(ws:List (List Int))(w pf:List Int)(g:j0)(n:Int):Bool :=
 bif R5 r ws&&(I2 r w&&(decide (g.1=r)&&N1 g))then
  (if k=1 then U03 g ws&&eqW (K0a (w02 g) pf) w
  else if k=2 then(ws.all fun v=>j00 g v) && !(j00 g w)
  else if k=3 then U03 g ws&&j00 g w
  else if k=4 then(e00 g (inv w)).2&&U03 (e00 g (inv w)).1 ws
  else if k=5 then U03 g ws&&(decide (V03 g=((ws.length:Nat):Int))&&decide (n=((ws.length:Nat):Int)))
  else if k=6 then U03 g ws&&(decide (w03 g=n)&&decide (n>0))
  else false)
 else false
def p04(c:S00):Bool:=W07 c.1 c.2.1 c.2.2.1 c.2.2.2.1 c.2.2.2.2.1 c.2.2.2.2.2.1 c.2.2.2.2.2.2
theorem i0m{bs:List (List Int)}(h:BOk bs)(l:List Int):(K0a bs l).length≤200000:=by
 have h1:=N9 h (l.take 200)
 have h2:=j06 ((l.take 200).flatMap (exP bs)) []
 unfold K0a
 rw[List.length_reverse]
 rw[List.length_take]at h1
 simp only[List.length_nil]at h2
 omega
theorem R0g{g:j0}(hc:N1 g=true):BOk (w02 g):=by
 have h:=i0p hc
 exact⟨fun w hw=>⟨(h.1 w hw).1,by have:=(h.1 w hw).2;omega⟩,by have:=h.2;omega⟩
theorem Y0h(k r:Int)(ws:List (List Int))(w pf:List Int)(g:j0)(n:Int)(hl:ws.length≤140737488355328)(hs:P7 ws)(hw:w.length≤140737488355328)(hg:g.2.2.length≤140737488355328):
  r00 (k,r,ws,w,pf,g,n)=some (W07 k r ws w pf g n):=by
 have h1:=E07 r ws hl hs
 have h2:=m04 r w hw
 have h3:=N02 g hg
 have h4:=J0g g hg ws hl hs
 have h6:=Y0k g hg (inv w) (by rw[o04];exact hw)
 have h7:=J0g (e00 g (inv w)).1 (by have:=I0c g (inv w);omega) ws hl hs
 have h8:=a0f g hg
 have h9:=b09 g hg
 unfold W07
 obtain⟨a,b,c⟩:=g
 unfold r00
 simp only[h1,oB]
 cases hA:R5 r ws with
 |false=>simp only[Bool.not_false,Bool.not_true,H1,oB,cond_true,if_true,Bool.false_and,cond_false]
 |true =>
  simp only[Bool.not_true,Bool.not_false,C1,h2,oB,cond_false]
  cases hW:I2 r w with
  |false=>simp only[Bool.not_false,Bool.not_true,H1,oB,cond_true,if_true,Bool.false_and,Bool.and_false,cond_false]
  |true =>
   simp only[Bool.not_true,cond_false]
   by_cases hr:a=r
   ·subst hr
    simp only[decide_true,Bool.not_true,Bool.not_false,C1,h3,oB,cond_false]
    cases hc:N1 (a,b,c)with
    |false=>simp only[Bool.not_false,if_true,Bool.and_false,cond_false]
    |true =>
     obtain⟨hr1,hn1,hww⟩:=i06 hA
     have hb:=R0g hc
     have g1:=g0p hc
     have g2:=l0n hb pf
     have g3:=m06 (a:=K0a (w02 (a,b,c)) pf) (b:=w) (by have:=i0m hb pf;omega)
     have g4:=W0k hc ws hww (by omega)
     have g5:=T07 hc hW
     have h5:=f02 w (by have:=(C03 hW).1;omega)
     simp only[Bool.not_true,Bool.false_eq_true,if_false,Bool.and_self,cond_true]
     by_cases k1:k=1
     ·rw[if_pos (decide_eq_true k1),if_pos k1,h4,oB]
      cases U03 (a,b,c) ws<;>simp[C1,H1,g1,g2,g3]
     rw[if_neg (by simpa using k1),if_neg k1]
     by_cases k2:k=2
     ·rw[if_pos (decide_eq_true k2),if_pos k2,g4,oB]
      cases (ws.all fun v=>j00 (a,b,c) v)<;>simp[C1,H1,g5]
     rw[if_neg (by simpa using k2),if_neg k2]
     by_cases k3:k=3
     ·rw[if_pos (decide_eq_true k3),if_pos k3,h4,oB]
      cases U03 (a,b,c) ws<;>simp[C1,H1,g5]
     rw[if_neg (by simpa using k3),if_neg k3]
     by_cases k4:k=4
     ·rw[if_pos (decide_eq_true k4),if_pos k4,h5,oB,h6,oB]
      generalize e00 (a,b,c) (inv w)=q at *
      obtain⟨⟨x,y,z⟩,ok⟩:=q
      cases ok<;>simp[C1,H1,h7]
     rw[if_neg (by simpa using k4),if_neg k4]
     by_cases k5:k=5
     ·rw[if_pos (decide_eq_true k5),if_pos k5,h4,oB]
      cases U03 (a,b,c) ws with
      |false =>
       simp only[H1,oB,cond_false,Bool.false_and]
       rw[D0 (show M0 0 from⟨by omega,by omega⟩)];rfl
      |true =>
       simp only[C1,h8.1,oB,cond_true,Bool.true_and]
       rw[D0 h8.2,oB]
       cases decide (V03 (a,b,c)=((ws.length:Nat):Int))<;>rfl
     rw[if_neg (by simpa using k5),if_neg k5]
     by_cases k6:k=6
     ·rw[if_pos (decide_eq_true k6),if_pos k6,h4,oB]
      cases U03 (a,b,c) ws with
      |false =>
       simp only[H1,oB,cond_false,Bool.false_and]
       rw[D0 (show M0 0 from⟨by omega,by omega⟩)];rfl
      |true =>
       simp only[C1,h9.1,oB,cond_true,Bool.true_and]
       rw[D0 h9.2,oB]
       cases decide (w03 (a,b,c)=n)<;>rfl
     rw[if_neg (by simpa using k6),if_neg k6]
   ·simp only[decide_eq_false hr,Bool.not_false,Bool.not_true,H1,oB,cond_true,if_true,Bool.false_and,Bool.and_false,cond_false]
theorem Z0h(k r:Int)(ws:List (List Int))(w pf:List Int)(g:j0)(n:Int)(hl:ws.length≤140737488355328)(hs:P7 ws)(hw:w.length≤140737488355328)(hg:g.2.2.length≤140737488355328):
  t00 (k,r,ws,w,pf,g,n)=some (W07 k r ws w pf g n):=by
 have h1:=F07 r ws hl hs
 have h2:=n04 r w hw
 have h3:=l00 g hg
 have h4:=K0g g hg ws hl hs
 have h6:=Z0k g hg (inv w) (by rw[o04];exact hw)
 have h7:=K0g (e00 g (inv w)).1 (by have:=I0c g (inv w);omega) ws hl hs
 have h8:=a0l g hg
 have h8':=(a0f g hg).2
 have h9:=x0f g hg
 have h9':=(b09 g hg).2
 unfold W07
 obtain⟨a,b,c⟩:=g
 unfold t00
 simp only[h1,oB]
 cases hA:R5 r ws with
 |false=>simp only[Bool.not_false,Bool.not_true,H1,oB,cond_true,if_true,Bool.false_and,cond_false]
 |true =>
  simp only[Bool.not_true,Bool.not_false,C1,h2,oB,cond_false]
  cases hW:I2 r w with
  |false=>simp only[Bool.not_false,Bool.not_true,H1,oB,cond_true,if_true,Bool.false_and,Bool.and_false,cond_false]
  |true =>
   simp only[Bool.not_true,Bool.not_false,C1,h3,oB,cond_false]
   cases hc:N1 (a,b,c)with
   |false=>simp only[Bool.not_false,cond_true,if_true,Bool.and_false,cond_false]
   |true =>
    simp only[Bool.not_true,cond_false]
    by_cases hr:a=r
    ·subst hr
     obtain⟨hr1,hn1,hww⟩:=i06 hA
     have hb:=R0g hc
     have g1:=T0p hc
     have g2:=m0n hb pf
     have g3:=U0b (a:=K0a (w02 (a,b,c)) pf) (b:=w) (by have:=i0m hb pf;omega)
     have g4:=X0k hc ws hww (by omega)
     have g5:=X0e hc hW
     have h5:=u03 w (by have:=(C03 hW).1;omega)
     simp only[decide_true,Bool.not_true,Bool.false_eq_true,if_false,Bool.and_self,cond_true]
     by_cases k1:k=1
     ·rw[if_pos (decide_eq_true k1),if_pos k1,h4,oB]
      cases U03 (a,b,c) ws<;>simp[C1,H1,g1,g2,g3]
     rw[if_neg (by simpa using k1),if_neg k1]
     by_cases k2:k=2
     ·rw[if_pos (decide_eq_true k2),if_pos k2,g4,oB]
      cases (ws.all fun v=>j00 (a,b,c) v)<;>simp[C1,H1,g5]
     rw[if_neg (by simpa using k2),if_neg k2]
     by_cases k3:k=3
     ·rw[if_pos (decide_eq_true k3),if_pos k3,h4,oB]
      cases U03 (a,b,c) ws<;>simp[C1,H1,g5]
     rw[if_neg (by simpa using k3),if_neg k3]
     by_cases k4:k=4
     ·rw[if_pos (decide_eq_true k4),if_pos k4,h5,oB,h6,oB]
      generalize e00 (a,b,c) (inv w)=q at *
      obtain⟨⟨x,y,z⟩,ok⟩:=q
      cases ok<;>simp[C1,H1,h7]
     rw[if_neg (by simpa using k4),if_neg k4]
     by_cases k5:k=5
     ·rw[if_pos (decide_eq_true k5),if_pos k5,h4,oB]
      cases U03 (a,b,c) ws with
      |false =>
       simp only[H1,oB,cond_false,Bool.false_and]
       rw[D0 (show M0 0 from⟨by omega,by omega⟩)];rfl
      |true =>
       simp only[C1,h8,oB,cond_true,Bool.true_and]
       rw[D0 h8',oB]
       cases decide (V03 (a,b,c)=((ws.length:Nat):Int))<;>rfl
     rw[if_neg (by simpa using k5),if_neg k5]
     by_cases k6:k=6
     ·rw[if_pos (decide_eq_true k6),if_pos k6,h4,oB]
      cases U03 (a,b,c) ws with
      |false =>
       simp only[H1,oB,cond_false,Bool.false_and]
       rw[D0 (show M0 0 from⟨by omega,by omega⟩)];rfl
      |true =>
       simp only[cond_true,Bool.true_and]
       by_cases c6:n>0
       ·simp only[decide_eq_true c6,C1,h9,oB,cond_true,Bool.and_true]
        rw[D0 h9',oB]
       ·simp only[decide_eq_false c6,H1,oB,cond_false,Bool.and_false]
        rw[D0 (show M0 0 from⟨by omega,by omega⟩)];rfl
     rw[if_neg (by simpa using k6),if_neg k6]
    ·simp only[decide_eq_false hr,Bool.not_false,cond_true,if_true,Bool.false_and,Bool.and_false,cond_false]
def b0f(c:S00):Prop:=c.2.2.1.length≤140737488355328∧P7 c.2.2.1∧c.2.2.2.1.length≤140737488355328∧c.2.2.2.2.2.1.2.2.length≤140737488355328
theorem V0b(c:S00)(h:b0f c):r00 c=some (p04 c):=Y0h c.1 c.2.1 c.2.2.1 c.2.2.2.1 c.2.2.2.2.1 c.2.2.2.2.2.1 c.2.2.2.2.2.2 h.1 h.2.1 h.2.2.1 h.2.2.2
theorem W0b(c:S00)(h:b0f c):t00 c=some (p04 c):=Z0h c.1 c.2.1 c.2.2.1 c.2.2.2.1 c.2.2.2.2.1 c.2.2.2.2.2.1 c.2.2.2.2.2.2 h.1 h.2.1 h.2.2.1 h.2.2.2
end Go.Proofs.YtcakocbgbelmeaaGreat
