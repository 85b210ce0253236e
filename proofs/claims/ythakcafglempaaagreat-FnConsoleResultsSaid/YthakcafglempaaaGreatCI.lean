/- The walk of the library's Compact, at ints. -/
import Derived.Test.YthakcafglempaaaGreatPart23
import Derived.Test.YthakcafglempaaaGreatH38
import Derived.Test.YthakcafglempaaaGreatChecked
namespace Go.Proofs.YthakcafglempaaaGreat
set_option linter.all false
open Go.H
open IntKind (i64)
set_option maxRecDepth 10000
def O0r(h:Hp) {h':Hp}{v:Value}{e:Nat}{l:List Int}(fr:Y0 h h' v e 1 true (l.map λp=>[.int .i64 p]))(hl:l.length<=9223372036854775807):
    Tr Tryz.prog 265 #[v] h' λu k=>∃ l':List Int,l'=g07 (λp q=>eqI p q) l/\Y0 h k u e 1 true (l'.map λp=>[.int .i64 p]):=by
  obtain⟨g,cap,cur,hv,hg,hh',q1,q2,q3,q4⟩:=fr.place
  clear cur q3 q4 hh'
  rw[List.length_map]at hv q1
  subst hv
  have hcap:cap<=9223372036854775807:=Q0t q2
  refine j5 (args:=[.slice (some ⟨g,0,none⟩) l.length cap]) (fn:=Tryz.f265) rfl ?_
  refine aI (λhc=>?_) (λhc=>?_)
  · have hlt : l.length < 2 := by have : ((l.length : Nat) : Int) < 2 := of_decide_eq_true hc
                                  omega
    refine⟨_,rfl,?_⟩
    have:g07 (λp q=>eqI p q) l=l:=by
      match l,hlt with
      | [],_=>rfl
      | [x],_=>rfl
    rw[this]
    exact fr
  · have hge : 2 ≤ l.length := by have : ¬ ((l.length : Nat) : Int) < 2 := of_decide_eq_false hc
                                  omega
    clear hc
    refine eX { vars:=[3],fuel:=false,boxes:=[],owns:=[] } (eX (λvs _ k'=>∃ k:Nat,S1 (λp q=>eqI p q) l k/\vs = [.int .i64 k]/\k'=h') (eX (λvs _=>match vs with | [.int _ k]=>((l.length:Int)-k).toNat|_=>0) ?_))
    refine aI ⟨1,S1.start (by omega),rfl,rfl⟩ ?_
    rintro v1 k1 ⟨k,hs,ev,rfl⟩
    cases ev
    obtain⟨hk1,hkn,x0,hx0,_⟩:=id hs
    refine aI (λhc=>?_) (λhc=>?_)
    · have hlt : k < l.length := by have : ((k : Nat) : Int) < ((l.length : Nat) : Int) := of_decide_eq_true hc
                                    omega
      clear hc
      have hw:=Z1 hlt hl
      have hp:=w64 (x:=(k:Int)-1) (by omega) (by omega)
      have hy0:l[k]?=some l[k]:=gG hlt
      generalize l[k]=y0 at hy0
      obtain⟨by_,ey⟩:=fr.elemAt (by decide) (g:=g) (n:=l.length) (cap:=cap) rfl (o:=0) (m:=l.length) (c:=cap) (i:=k) (k:=k) (x:=[.int .i64 y0]) (by simp[hy0]) (by omega) hlt rfl
      obtain⟨bx,ex⟩:=fr.elemAt (by decide) (g:=g) (n:=l.length) (cap:=cap) rfl (o:=0) (m:=l.length) (c:=cap) (i:=k-1) (k:=k-1) (x:=[.int .i64 x0]) (by simp[hx0]) (by omega) (by omega) (idx:=i64.wrap ((k:Int)-1)) (by rw[hp];omega)
      skip
      refine Or.inl (aI (aI (by kernel_rfl) (by kernel_rfl)) ?_)
      refine aI by_ (eX _ (aI ey (aI bx (eX _ (aI ex ?_)))))
      skip
      refine aI (λhc=>?_) (λhc=>?_)
      · have hd:(λp q=>eqI p q) y0 x0=true:=hc
        refine aI ⟨by omega,by omega,by omega⟩ (eX _ (aI fr.sleAt ?_))
        intro w hw1 hw2
        have hw3:=i0d hw2 (sz:=1) (by kernel_rfl) (by simp only[iN];omega)
        simp only[iN]at hw3
        subst hw3
        refine eX { vars:=[3,5],fuel:=false,boxes:=[],owns:=[] } (eX (λvs _ k'=>∃(kk k2:Nat) (R:List Int),S2 (λp q=>eqI p q) l R kk (k+k2)/\1<=k2/\Y0 h k' (.slice (some ⟨g,0,none⟩) l.length cap) e 1 true (R.map λp=>[.int .i64 p])/\vs = [.int .i64 kk,.int .i64 k2]) (eX (λvs _=>match vs with | [_,.int _ k2]=>((l.length:Int)-k2).toNat|_=>0) ?_))
        refine aI ⟨k,1,l,hs.dup hx0 hy0 hd,Nat.le_refl _,fr,rfl⟩ ?_
        rintro v2 v3 k3 ⟨kk,k2,R,hs2,hk2,fr2,ev⟩
        cases ev
        obtain⟨hR,hkm,hmn,⟨x1,hx1,_⟩,hrest⟩:=id hs2
        refine aI (λhc=>?_) (λhc=>?_)
        · have hlt2:k+k2<l.length:=by
            have:((k2:Nat):Int)<((l.length-((k:Nat):Int).toNat:Nat):Int):=of_decide_eq_true hc
            omega
          clear hc
          have hw2:=Z1 (show k2<l.length by omega) hl
          have hwk:=Z1 (show kk<l.length by omega) hl
          have hp2:=w64 (x:=(k2:Int)-1) (by omega) (by omega)
          have hy1:l[k+k2]?=some l[k+k2]:=gG hlt2
          generalize l[k+k2]=y1 at hy1
          have hRy:R[k+k2]?=some y1:=by rw[hrest _ (by omega)];exact hy1
          have hRx:R[k+k2-1]?=some x1:=by rw[hrest _ (by omega)];exact hx1
          obtain⟨by1,ey1⟩:=fr2.elemAt (by decide) (g:=g) (n:=l.length) (cap:=cap) rfl (o:=0+k*1) (m:=l.length-k) (c:=cap-k) (i:=k+k2) (k:=k2) (x:=[.int .i64 y1]) (by simp[hRy]) (by omega) (by omega) rfl
          obtain⟨bx1,ex1⟩:=fr2.elemAt (by decide) (g:=g) (n:=l.length) (cap:=cap) rfl (o:=0+k*1) (m:=l.length-k) (c:=cap-k) (i:=k+k2-1) (k:=k2-1) (x:=[.int .i64 x1]) (by simp[hRx]) (by omega) (by omega) (idx:=i64.wrap ((k2:Int)-1)) (by rw[hp2];omega)
          skip
          refine Or.inl (aI (aI (by kernel_rfl) (by kernel_rfl)) ?_)
          refine aI by1 (eX _ (aI ey1 (aI bx1 (eX _ (aI ex1 ?_)))))
          skip
          refine aI (λhc=>?_) (λhc=>?_)
          · have hd1:(λp q=>eqI p q) y1 x1=false:=by simpa [eqI] using hc
            refine aI by1 (eX _ (aI ey1 ?_))
            refine aI ⟨g,0,_,_,rfl,by omega,by omega⟩ ?_
            refine Y0.store1 fr2 (i:=kk) rfl (by simp;omega) trivial rfl (by simp) ?_
            intro k4 fr4
            skip
            refine aI rfl (aI (by first|exact trivial|exact aI rfl trivial|exact aI rfl (aI rfl trivial)|exact aI rfl (aI rfl (aI rfl trivial))|exact aI rfl (aI rfl (aI rfl (aI rfl trivial)))) (aI (by first|exact trivial|exact aI rfl trivial|exact aI rfl (aI rfl trivial)|exact aI rfl (aI rfl (aI rfl trivial))|exact aI rfl (aI rfl (aI rfl (aI rfl trivial)))) (aI ?_ ?_)))
            · refine⟨kk+1,k2+1,R.set kk y1,hs2.put hx1 hy1 hd1,by omega,by rw[List.map_set];exact fr4,?_⟩
              rw[←hw2,←hwk]
            · show((l.length:Int)-i64.wrap ((k2:Int)+1)).toNat<((l.length:Int)-(k2:Int)).toNat
              omega
          · have hd1:(λp q=>eqI p q) y1 x1=true:=by simpa [eqI] using hc
            refine aI rfl (aI (by first|exact trivial|exact aI rfl trivial|exact aI rfl (aI rfl trivial)|exact aI rfl (aI rfl (aI rfl trivial))|exact aI rfl (aI rfl (aI rfl (aI rfl trivial)))) (aI (by first|exact trivial|exact aI rfl trivial|exact aI rfl (aI rfl trivial)|exact aI rfl (aI rfl (aI rfl trivial))|exact aI rfl (aI rfl (aI rfl (aI rfl trivial)))) (aI ?_ ?_)))
            · refine⟨kk,k2+1,R,hs2.same hx1 hy1 hd1,by omega,fr2,?_⟩
              rw[←hw2]
            · show((l.length:Int)-i64.wrap ((k2:Int)+1)).toNat<((l.length:Int)-(k2:Int)).toNat
              omega
        · have hend:k+k2=l.length:=by
            have : ¬ ((k2:Nat):Int)<((l.length-((k:Nat):Int).toNat:Nat):Int):=of_decide_eq_false hc
            omega
          have hfin:=hs2.done hend
          refine aI ⟨by omega,by omega,by omega⟩ (eX _ (aI fr2.sleAt ?_))
          intro w hw1 hw2
          have hw3:=i0d hw2 (sz:=1) (by kernel_rfl) (by simp only[iN];omega)
          simp only[iN]at hw3
          subst hw3
          refine I0k (P:=Tryz.prog) (sz:=1) (k:=kk) 24 3 0 (cs := #[false]) (z := .int .i64 0) (by kernel_rfl) (by kernel_rfl) rfl (by simp[Value.cells,Value.oneCell']) fr2 ?_ (by simp;omega) (by simp[hR]) ?_
          · intro g' cap' e'
            injection e' with e1 e2 e3
            injection e1 with e4
            injection e4 with e5
            subst e5
            simp
          intro k5 fr5
          refine aI ⟨by omega,by omega,by omega⟩ (eX _ (aI fr5.sleAt ?_))
          intro w hw1 hw2
          have hw3:=i0d hw2 (sz:=1) (by kernel_rfl) (by simp only[Int.toNat_zero];omega)
          simp only[iN,Int.toNat_zero,Nat.zero_mul,Nat.add_zero,Nat.sub_zero]at hw3
          subst hw3
          refine⟨_,rfl,?_⟩
          rw[hfin]
          obtain⟨g',cap',e',fr6⟩:=fr5.cut (k:=kk) (by simp;omega)
          injection e' with e1 e2 e3
          injection e1 with e4
          injection e4 with e5
          subst e5 e3
          rw[List.take_left' (by simp;omega)]at fr6
          rw[←List.map_take]at fr6
          exact fr6
      · have hd:(λp q=>eqI p q) y0 x0=false:=hc
        refine aI rfl (aI (by first|exact trivial|exact aI rfl trivial|exact aI rfl (aI rfl trivial)|exact aI rfl (aI rfl (aI rfl trivial))|exact aI rfl (aI rfl (aI rfl (aI rfl trivial)))) (aI (by first|exact trivial|exact aI rfl trivial|exact aI rfl (aI rfl trivial)|exact aI rfl (aI rfl (aI rfl trivial))|exact aI rfl (aI rfl (aI rfl (aI rfl trivial)))) (aI ?_ ?_)))
        · refine⟨k+1,hs.step hx0 hy0 hd,?_,rfl⟩
          rw[←hw]
        · show((l.length:Int)-i64.wrap ((k:Int)+1)).toNat<((l.length:Int)-(k:Int)).toNat
          omega
    · have hk:k=l.length:=by
        have : ¬ ((k:Nat):Int)<((l.length:Nat):Int):=of_decide_eq_false hc
        omega
      refine⟨_,rfl,?_⟩
      rw[hs.done hk]
      exact fr
end Go.Proofs.YthakcafglempaaaGreat
