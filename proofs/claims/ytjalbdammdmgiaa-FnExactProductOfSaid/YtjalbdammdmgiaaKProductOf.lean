/- ProductOf, of the spec and of the code. -/
import Derived.Test.YtjalbdammdmgiaaP3b
import Derived.Test.YtjalbdammdmgiaaW3
import Derived.Test.YtjalbdammdmgiaaPS
namespace Go.Proofs.Ytjalbdammdmgiaa
open Go.H
set_option linter.unusedVariables false
theorem gsum_sum : ∀ ts : LTermS, gsum ts = sumM mTerm ts
  | [] => rfl
  | t :: r => by simp only [gsum, sumM, gsum_sum r]; rfl
theorem int_of {h : Hp} {v : List Value} {w : LIntS} (hw : wIntS.R h v w) : all64 w := by
  obtain ⟨a, n, c, rfl⟩ := Wp.slice_cell hw
  intro x hx
  obtain ⟨k, hk⟩ := List.getElem?_of_mem hx
  obtain ⟨_, cs, _, r⟩ := Sl.getI (r := Wp.int.toRp) hw (i := (k : Int)) (x := x) (gi_at hk) (by decide)
  obtain ⟨_, i⟩ := r
  exact i
theorem terms_of {h : Hp} {a : Option Addr} {n c : Nat} {ts : LTermS} (hy : wTermS.R h [.slice a n c] ts) (hm : mTermS ts ≤ 1048576) : (∀ t ∈ ts, all64 t.1 ∧ t.1.length ≤ 1048576) ∧ ts.length ≤ 140737488355328 ∧ gsum ts ≤ 1048576 := by
  unfold mTermS at hm
  refine ⟨fun t ht => ⟨?_, ?_⟩, by omega, by rw [gsum_sum]; omega⟩
  · obtain ⟨k, hk⟩ := List.getElem?_of_mem ht
    obtain ⟨_, cs, _, r⟩ := Sl.getI (r := wTerm.toRp) hy (i := (k : Int)) (x := t) (gi_at hk) (by decide)
    obtain ⟨a0, n0, c0, x0, x1, x2, rfl, rfl, h0, h1, h2⟩ := openTerm r
    exact int_of h0
  · have := sumM_mem (m := mTerm) ht
    have e : mTerm t = t.1.length := rfl
    omega
theorem c_ProductOf (x : LPresentation) (y : LTermS) (hx : mPresentation x ≤ 1048576) (hy : mTermS y ≤ 1048576) : cIntS (F_ProductOf x y) ≤ 16777216 := by
  have := F_ProductOf_len x y
  unfold mTermS at hy
  rw [gsum_sum] at this
  unfold cIntS
  rw [sumM_one]
  omega
theorem t_specProductOf (h : Hp) (cs : List Value) (x : LPresentation) (hx : wPresentation.R h cs x) (hm : mPresentation x ≤ 1048576) (a : Option Addr) (n c : Nat) (y : LTermS) (hy : wTermS.R h [.slice a n c] y) (hmy : mTermS y ≤ 1048576) :
    Tr Try.prog 20 #[.agg cs.toArray, .slice a n c] h fun v h' => wIntS.R h' [v] (F_ProductOf x y) ∧ Sub h h' := by
  have ht := terms_of hy hmy
  refine Tr.mono (t_spec_ProductOf h cs x hx a n c y hy _ (m_specProductOf x y (pres_short hm).1 (pres_short hm).2 ht.1 ht.2.1)) ?_
  rintro v k ⟨a0, n0, c0, rfl, r, s⟩
  exact ⟨r, s⟩
theorem t_implProductOf (h : Hp) (cs : List Value) (x : LPresentation) (hx : wPresentation.R h cs x) (hm : mPresentation x ≤ 1048576) (a : Option Addr) (n c : Nat) (y : LTermS) (hy : wTermS.R h [.slice a n c] y) (hmy : mTermS y ≤ 1048576) :
    Tr Try.prog 22 #[.agg cs.toArray, .slice a n c] h fun v h' => New wIntS h h' [v] (F_ProductOf x y) := by
  have ht := terms_of hy hmy
  refine Tr.mono (t_impl_ProductOf h cs x hx a n c y hy _ (m_implProductOf x y (pres_short hm).1 (pres_short hm).2 ht.1 ht.2.1 ht.2.2)) ?_
  rintro v k ⟨a0, n0, c0, rfl, r⟩
  exact r
end Go.Proofs.Ytjalbdammdmgiaa
