/- What the laws' own helpers do: marks that are still there. -/
import Derived.Test.YthccjgkmmclplaaG1
namespace Go.Proofs.Ythccjgkmmclplaa
open Go.H
set_option linter.unusedVariables false
set_option linter.unusedSimpArgs false
set_option maxRecDepth 10000

theorem t_heldIntS (h : Hp) (a : Option Addr) (n c : Nat) (xs : LIntS) (k : Int) (hx : wIntS.R h [.slice a n c] (mkIntS xs k)) (hk : 0 ≤ k ∧ k + (cIntS xs : Nat) ≤ 4611686018427387904) :
    Tr Try.prog 30 #[.slice a n c, .int .i64 k] h fun v h' => v = .int .i64 (k + (cIntS xs : Nat)) ∧ h' = h := by
  obtain ⟨en, hn⟩ := Sl.len hx
  rw [show (mkIntS xs k).length = xs.length from mkL_length _ _ _ _] at en
  subst en
  refine walk (args := [.slice a xs.length c, .int .i64 k]) (fn := Try.f30) rfl ?_
  refine Exists.intro { vars := [1, 5], boxes := [], owns := [] } (Exists.intro (fun vs _ h' => ∃ (j : Nat) (kk : Int), kk = k + (sumM (fun _ => 1) (xs.take j) : Nat) ∧ j ≤ xs.length ∧ vs = [.int .i64 kk, .int .i64 j] ∧ h' = h) (Exists.intro (fun vs _ => match vs with | [_, .int _ j] => ((xs.length : Int) - j).toNat | _ => 0) ?_))
  refine And.intro ⟨0, k, by simp [sumM], by omega, rfl, rfl⟩ ?_
  rintro _ _ h1 ⟨j, kk, hkk, hj, ⟨⟩, rfl⟩
  refine And.intro (fun hc2 => ?_) (fun hc2 => ?_)
  · have hlt : j < xs.length := by simpa using hc2
    obtain ⟨x, gx⟩ := has_get hlt
    have hs1 : sumM (fun _ => 1) (xs.take (j + 1)) = sumM (fun _ => 1) (xs.take j) + 1 := sumM_snoc gx
    have hs2 := sumM_take (fun _ => 1) xs (j + 1)
    have hw := wsucc hlt hn
    have hkx : 0 ≤ kk ∧ kk + (1 : Nat) ≤ 4611686018427387904 := by
      have : (cIntS xs : Int) = (sumM (fun _ => 1) xs : Nat) := rfl
      omega
    have gm : (mkIntS xs k)[j]? = some ((fun _ k => k) x kk) := by rw [hkk]; exact mkL_get gx
    obtain ⟨b1, cs1, e1, i1⟩ := Sl.get hx gm (by decide)
    obtain ⟨rfl, _⟩ := i1
    refine And.intro b1 (Exists.intro _ (And.intro e1 ?_))
    refine And.intro (fun hc => ?_) (fun hc => ?_)
    · exact ((bne_iff_ne.1 hc) (by first | rfl | omega | (simp; omega))).elim
    clear hc
    have ek1 : IntKind.i64.wrap (kk + 1) = kk + (1) := by rw [w64 (by  omega) (by  omega)] <;> omega
    refine And.intro rfl (And.intro (by first | exact trivial | exact And.intro rfl trivial | exact And.intro rfl (And.intro rfl trivial) | exact And.intro rfl (And.intro rfl (And.intro rfl trivial)) | exact And.intro rfl (And.intro rfl (And.intro rfl (And.intro rfl trivial)))) (And.intro (by first | exact trivial | exact And.intro rfl trivial | exact And.intro rfl (And.intro rfl trivial) | exact And.intro rfl (And.intro rfl (And.intro rfl trivial)) | exact And.intro rfl (And.intro rfl (And.intro rfl (And.intro rfl trivial)))) (And.intro ?_ ?_)))
    · refine ⟨j + 1, IntKind.i64.wrap (kk + 1), ?_, by omega, by rw [← hw], rfl⟩
      rw [ek1]; rw [hs1]; omega
    · show ((xs.length : Int) - IntKind.i64.wrap ((j : Int) + 1)).toNat < ((xs.length : Int) - (j : Int)).toNat
      omega
  · have hj' : j = xs.length := by simp at hc2; omega
    subst hj'
    rw [List.take_length] at hkk
    exact And.intro (congrArg (Value.int .i64) hkk) rfl

theorem t_heldIntSS (h : Hp) (a : Option Addr) (n c : Nat) (xs : LIntSS) (k : Int) (hx : wIntSS.R h [.slice a n c] (mkIntSS xs k)) (hk : 0 ≤ k ∧ k + (cIntSS xs : Nat) ≤ 4611686018427387904) :
    Tr Try.prog 20 #[.slice a n c, .int .i64 k] h fun v h' => v = .int .i64 (k + (cIntSS xs : Nat)) ∧ h' = h := by
  obtain ⟨en, hn⟩ := Sl.len hx
  rw [show (mkIntSS xs k).length = xs.length from mkL_length _ _ _ _] at en
  subst en
  refine walk (args := [.slice a xs.length c, .int .i64 k]) (fn := Try.f20) rfl ?_
  refine Exists.intro { vars := [1, 5], boxes := [], owns := [] } (Exists.intro (fun vs _ h' => ∃ (j : Nat) (kk : Int), kk = k + (sumM cIntS (xs.take j) : Nat) ∧ j ≤ xs.length ∧ vs = [.int .i64 kk, .int .i64 j] ∧ h' = h) (Exists.intro (fun vs _ => match vs with | [_, .int _ j] => ((xs.length : Int) - j).toNat | _ => 0) ?_))
  refine And.intro ⟨0, k, by simp [sumM], by omega, rfl, rfl⟩ ?_
  rintro _ _ h1 ⟨j, kk, hkk, hj, ⟨⟩, rfl⟩
  refine And.intro (fun hc2 => ?_) (fun hc2 => ?_)
  · have hlt : j < xs.length := by simpa using hc2
    obtain ⟨x, gx⟩ := has_get hlt
    have hs1 : sumM cIntS (xs.take (j + 1)) = sumM cIntS (xs.take j) + cIntS x := sumM_snoc gx
    have hs2 := sumM_take cIntS xs (j + 1)
    have hw := wsucc hlt hn
    have hkx : 0 ≤ kk ∧ kk + (cIntS x : Nat) ≤ 4611686018427387904 := by
      have : (cIntSS xs : Int) = (sumM cIntS xs : Nat) := rfl
      omega
    have gm : (mkIntSS xs k)[j]? = some (mkIntS x kk) := by rw [hkk]; exact mkL_get gx
    obtain ⟨b1, cs1, e1, i1⟩ := Sl.get hx gm (by decide)
    obtain ⟨aq, nq, cq, eq⟩ := Wp.slice_cell i1
    cases eq
    refine And.intro b1 (Exists.intro _ (And.intro e1 ?_))
    have gk0 : wIntS.R h1 [.slice aq nq cq] (mkIntS x (kk)) := i1
    refine Tr.val (t_heldIntS _ aq nq cq x (kk) gk0 ⟨by omega, by omega⟩) ?_
    refine And.intro (fun hc => ?_) (fun hc => ?_)
    · have : (kk + (cIntS x : Nat) : Int) < 0 := by simpa only [decide_eq_true_eq] using hc
      exact absurd this (by omega)
    clear hc
    have ek1 : (kk + (cIntS x : Nat) : Int) = kk + ((cIntS x : Nat)) := by omega
    refine And.intro rfl (And.intro (by first | exact trivial | exact And.intro rfl trivial | exact And.intro rfl (And.intro rfl trivial) | exact And.intro rfl (And.intro rfl (And.intro rfl trivial)) | exact And.intro rfl (And.intro rfl (And.intro rfl (And.intro rfl trivial)))) (And.intro (by first | exact trivial | exact And.intro rfl trivial | exact And.intro rfl (And.intro rfl trivial) | exact And.intro rfl (And.intro rfl (And.intro rfl trivial)) | exact And.intro rfl (And.intro rfl (And.intro rfl (And.intro rfl trivial)))) (And.intro ?_ ?_)))
    · refine ⟨j + 1, kk + (cIntS x : Nat), ?_, by omega, by rw [← hw], rfl⟩
      rw [ek1]; rw [hs1]; omega
    · show ((xs.length : Int) - IntKind.i64.wrap ((j : Int) + 1)).toNat < ((xs.length : Int) - (j : Int)).toNat
      omega
  · have hj' : j = xs.length := by simp at hc2; omega
    subst hj'
    rw [List.take_length] at hkk
    exact And.intro (congrArg (Value.int .i64) hkk) rfl

end Go.Proofs.Ythccjgkmmclplaa
