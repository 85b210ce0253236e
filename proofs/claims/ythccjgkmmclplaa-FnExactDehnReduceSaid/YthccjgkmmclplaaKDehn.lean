/- Dehn's steps, of the spec and of the code. -/
import Derived.Test.YthccjgkmmclplaaP8
import Derived.Test.YthccjgkmmclplaaW7
import Derived.Test.YthccjgkmmclplaaW8
import Derived.Test.YthccjgkmmclplaaPS
namespace Go.Proofs.Ythccjgkmmclplaa
open Go.H
set_option linter.unusedVariables false
theorem int_of {h : Hp} {v : List Value} {w : LIntS} (hw : wIntS.R h v w) : all64 w := by
  obtain ⟨a, n, c, rfl⟩ := Wp.slice_cell hw
  intro x hx
  obtain ⟨k, hk⟩ := List.getElem?_of_mem hx
  obtain ⟨_, cs, _, r⟩ := Sl.getI (r := Wp.int.toRp) hw (i := (k : Int)) (x := x) (gi_at hk) (by decide)
  obtain ⟨_, i⟩ := r
  exact i
theorem hitD_len (x : List Int) (at_ : Nat) : ∀ (l : List (List Int)) (y : List Int), short24 l → hitD x at_ l = some y → y.length ≤ x.length + 24
  | [], y, _, h => by simp [hitD] at h
  | s :: l, y, hs, h => by
    unfold hitD at h
    cases hc : decide (s.length < 2 * cpl (x.drop at_) s) with
    | false => rw [hc] at h; exact hitD_len x at_ l y (fun w hw => hs w (List.mem_cons_of_mem _ hw)) h
    | true =>
      rw [hc] at h
      simp only [cond_true, Option.some.injEq] at h
      subst h
      have h1 := rd_len (x.take at_ ++ inv (s.drop (cpl (x.drop at_) s)) ++ x.drop (at_ + cpl (x.drop at_) s))
      have h2 := inv_len (s.drop (cpl (x.drop at_) s))
      have h3 := hs s (List.mem_cons_self ..)
      simp only [List.length_append, List.length_take, List.length_drop] at h1 h2
      omega
theorem dehnD_len (set : List (List Int)) (hs : short24 set) (x : List Int) : ∀ (d k : Nat) (y : List Int), dehnD set x d k = some y → y.length ≤ x.length + 24
  | 0, k, y, h => by simp [dehnD] at h
  | d + 1, k, y, h => by
    unfold dehnD at h
    cases hh : hitD x k set with
    | some z => rw [hh] at h; cases h; exact hitD_len x k set _ hs hh
    | none => rw [hh] at h; exact dehnD_len set hs x d (k + 1) y h
def outD (z : (LIntS × Int) ⊕ LIntS) : LIntS × Int := match z with
  | .inl x => x
  | .inr u => (u, 500)
theorem loopD_len (set : List (List Int)) (hs : short24 set) : ∀ (d : Nat) (u : List Int) (n : Int), (outD (loopD set d u n)).1.length ≤ u.length + 24 * d
  | 0, u, n => by simp [loopD, outD]
  | d + 1, u, n => by
    unfold loopD
    cases hh : dehnD set u u.length 0 with
    | none => simp only [outD]; omega
    | some y =>
      have h3 := dehnD_len set hs u _ _ _ hh
      have := loopD_len set hs d y (n + 1)
      simp only at this ⊢
      omega
theorem step_len (x : LPresentation) (y : LIntS) : (F_DehnStep x y).1.length ≤ y.length + 24 := by
  have hr := rd_len y
  unfold F_DehnStep
  cases hh : dehnD (F_SymmetrizedSet x) (rd y) (rd y).length 0 with
  | none => simp only; omega
  | some z =>
    have := dehnD_len _ (fun w hw => ((sym_good x).1 w hw).2) (rd y) _ _ _ hh
    simp only; omega
theorem c_DehnStep (x : LPresentation) (y : LIntS) (hx : mPresentation x ≤ 1048576) (hy : mIntS y ≤ 1048576) : cIntS (F_DehnStep x y).1 ≤ 16777216 := by
  have := step_len x y
  have h2 : y.length ≤ 1048576 := hy
  unfold cIntS
  rw [sumM_one]
  omega
theorem c_DehnReduce (x : LPresentation) (y : LIntS) (hx : mPresentation x ≤ 1048576) (hy : mIntS y ≤ 1048576) : cIntS (F_DehnReduce x y).1 ≤ 16777216 := by
  have h1 : (F_DehnReduce x y).1.length ≤ (rd y).length + 24 * 500 := loopD_len (F_SymmetrizedSet x) (fun w hw => ((sym_good x).1 w hw).2) 500 (rd y) 0
  have hr := rd_len y
  have h2 : y.length ≤ 1048576 := hy
  unfold cIntS
  rw [sumM_one]
  omega
theorem t_specDehnStep (h : Hp) (cs : List Value) (x : LPresentation) (hx : wPresentation.R h cs x) (hm : mPresentation x ≤ 1048576) (a : Option Addr) (n c : Nat) (y : LIntS) (hy : wIntS.R h [.slice a n c] y) (hmy : mIntS y ≤ 1048576) :
    Tr Try.prog 27 #[.agg cs.toArray, .slice a n c] h fun v h' => ∃ u, v = .tuple #[u, .bool (F_DehnStep x y).2] ∧ wIntS.R h' [u] (F_DehnStep x y).1 ∧ Sub h h' := by
  have h2 : y.length ≤ 1048576 := hmy
  refine Tr.mono (t_spec_DehnStep h cs x hx a n c y hy _ (m_specDehnStep x (pres_short hm).1 (pres_short hm).2 y (int_of hy) (by omega))) ?_
  rintro v k ⟨a0, n0, c0, rfl, r, s⟩
  exact ⟨_, rfl, r, s⟩
theorem t_implDehnStep (h : Hp) (cs : List Value) (x : LPresentation) (hx : wPresentation.R h cs x) (hm : mPresentation x ≤ 1048576) (a : Option Addr) (n c : Nat) (y : LIntS) (hy : wIntS.R h [.slice a n c] y) (hmy : mIntS y ≤ 1048576) :
    Tr Try.prog 28 #[.agg cs.toArray, .slice a n c] h fun v h' => ∃ u, v = .tuple #[u, .bool (F_DehnStep x y).2] ∧ New wIntS h h' [u] (F_DehnStep x y).1 := by
  refine Tr.mono (t_impl_DehnStep h cs x hx a n c y hy _ (m_implDehnStep x (pres_short hm).1 (pres_short hm).2 y hmy)) ?_
  rintro v k ⟨a0, n0, c0, rfl, r⟩
  exact ⟨_, rfl, r⟩
theorem t_specDehnReduce (h : Hp) (cs : List Value) (x : LPresentation) (hx : wPresentation.R h cs x) (hm : mPresentation x ≤ 1048576) (a : Option Addr) (n c : Nat) (y : LIntS) (hy : wIntS.R h [.slice a n c] y) (hmy : mIntS y ≤ 1048576) :
    Tr Try.prog 31 #[.agg cs.toArray, .slice a n c] h fun v h' => ∃ u, v = .tuple #[u, .int .i64 (F_DehnReduce x y).2] ∧ wIntS.R h' [u] (F_DehnReduce x y).1 ∧ Sub h h' := by
  refine Tr.mono (t_spec_DehnReduce h cs x hx a n c y hy _ (m_specDehnReduce x (pres_short hm).1 (pres_short hm).2 y (int_of hy) hmy)) ?_
  rintro v k ⟨a0, n0, c0, rfl, r, s⟩
  exact ⟨_, rfl, r, s⟩
theorem t_implDehnReduce (h : Hp) (cs : List Value) (x : LPresentation) (hx : wPresentation.R h cs x) (hm : mPresentation x ≤ 1048576) (a : Option Addr) (n c : Nat) (y : LIntS) (hy : wIntS.R h [.slice a n c] y) (hmy : mIntS y ≤ 1048576) :
    Tr Try.prog 32 #[.agg cs.toArray, .slice a n c] h fun v h' => ∃ u, v = .tuple #[u, .int .i64 (F_DehnReduce x y).2] ∧ New wIntS h h' [u] (F_DehnReduce x y).1 := by
  refine Tr.mono (t_impl_DehnReduce h cs x hx a n c y hy _ (m_implDehnReduce x (pres_short hm).1 (pres_short hm).2 y (int_of hy) hmy)) ?_
  rintro v k ⟨a0, n0, c0, rfl, r⟩
  exact ⟨_, rfl, r⟩
end Go.Proofs.Ythccjgkmmclplaa
