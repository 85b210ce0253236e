/- Plain laws over the model: fresh memory that is put behind younger one. -/
import Derived.Test.YtmgikbbmpnbbjaaGreatH41
namespace Go.H
set_option linter.unusedVariables false
set_option linter.unusedSimpArgs false
theorem p0m{m:Type}{r:Wp m}{h0 h j i:Hp}{L:List (List Value)}{xs:List m}{Bs:List (List Nat)}{g f:List Nat}{q:List Value}{e:m}(w:F3 (r.W h) L xs Bs)(n:Sub h0 h)(hf:Y4 h0 Bs.flatten)
  (G:r.W j q e f) (v:Y4 h f) (s1:Sub h j) (s2:Sub j i) (fn:Y4 i g):Y4 h0 ((Bs ++ [g]) ++ [f]).flatten:=by
 obtain⟨p,l⟩:=K04 w n hf v
 have B:(Bs ++ [f]).flatten=Bs.flatten++f:=by simp
 have C:((Bs ++ [g]) ++ [f]).flatten=Bs.flatten++(g++f):=by simp
 rw[B]at p l
 rw[C]
 obtain⟨D,E,F⟩:=List.nodup_append.1 p
 have up:∀ b,j b≠none->i b≠none:=λb d=>by
  cases ho:j b with
  |none=>exact absurd ho d
  |some o=>rw[s2 b o ho];exact λc=>nomatch c
 have s:∀ b∈Bs.flatten,i b≠none:=λb d=>by
  obtain⟨H,y,z⟩:=List.mem_flatten.1 d
  obtain⟨a,x,A⟩:=w.mem y
  exact up b (r.dom (Wp.sub A s1) b z)
 have t:∀ b∈f,i b≠none:=λb d=>up b (r.dom G b d)
 have u:∀ b∈g,h0 b=none:=λb d=>by
  cases ho:h0 b with
  |none=>rfl
  |some o=>have:=s2 b o (s1 b o (n b o ho));rw[fn.2 b d]at this;cases this
 refine⟨List.nodup_append.2 ⟨D,List.nodup_append.2 ⟨fn.1,E,λa k b d e=>t b d (by rw[←e];exact fn.2 a k)⟩,λa k b d e=>?_⟩,λb d=>?_⟩
 ·rcases List.mem_append.1 d with d|d
  ·exact s a k (by rw[e];exact fn.2 b d)
  ·exact F a k b d e
 ·rcases List.mem_append.1 d with d|d
  ·exact l b (List.mem_append_left _ d)
  ·rcases List.mem_append.1 d with d|d
   ·exact u b d
   ·exact l b (List.mem_append_right _ d)
end Go.H
