/- What the laws' own helpers do: marks that are still there. -/
import Derived.Test.YtalidbmconldoaaG1
import Derived.Test.YtalidbmconldoaaG5t
namespace Go.Proofs.Ytalidbmconldoaa
open Go.H
set_option linter.unusedVariables false
set_option linter.unusedSimpArgs false
set_option maxRecDepth 10000

theorem t_heldEdgeS (h : Hp) (a : Option Addr) (n c : Nat) (xs : LEdgeS) (k : Int) (hx : wEdgeS.R h [.slice a n c] (mkEdgeS xs k)) (hk : 0 ≤ k ∧ k + (cEdgeS xs : Nat) ≤ 4611686018427387904) :
    Tr Try.prog 86 #[.slice a n c, .int .i64 k] h fun v h' => v = .int .i64 (k + (cEdgeS xs : Nat)) ∧ h' = h := by
  obtain ⟨en, hn⟩ := Sl.len hx
  rw [show (mkEdgeS xs k).length = xs.length from mkL_length _ _ _ _] at en
  subst en
  refine walk (args := [.slice a xs.length c, .int .i64 k]) (fn := Try.f86) rfl ?_
  refine Exists.intro { vars := [1, 5], boxes := [], owns := [] } (Exists.intro (fun vs _ h' => ∃ (j : Nat) (kk : Int), kk = k + (sumM ceEdge (xs.take j) : Nat) ∧ j ≤ xs.length ∧ vs = [.int .i64 kk, .int .i64 j] ∧ h' = h) (Exists.intro (fun vs _ => match vs with | [_, .int _ j] => ((xs.length : Int) - j).toNat | _ => 0) ?_))
  refine And.intro ⟨0, k, by simp [sumM], by omega, rfl, rfl⟩ ?_
  rintro _ _ h1 ⟨j, kk, hkk, hj, ⟨⟩, rfl⟩
  refine And.intro (fun hc2 => ?_) (fun hc2 => ?_)
  · have hlt : j < xs.length := by simpa using hc2
    obtain ⟨x, gx⟩ := has_get hlt
    have hs1 : sumM ceEdge (xs.take (j + 1)) = sumM ceEdge (xs.take j) + ceEdge x := sumM_snoc gx
    have hs2 := sumM_take ceEdge xs (j + 1)
    have hw := wsucc hlt hn
    have hkx : 0 ≤ kk ∧ kk + (ceEdge x : Nat) ≤ 4611686018427387904 := by
      have : (cEdgeS xs : Int) = (sumM ceEdge xs : Nat) := rfl
      omega
    have gm : (mkEdgeS xs k)[j]? = some (meEdge x kk) := by rw [hkk]; exact mkL_get gx
    obtain ⟨b1, cs1, e1, i1⟩ := Sl.get hx gm (by decide)
    obtain ⟨x0, x1, x2⟩ := x
    simp only [ceEdge] at hkx
    obtain ⟨x0q, x1q, x2q, rfl, ex, g0, g1, g2⟩ := openEdge i1
    simp only [meEdge, ceEdge, Prod.mk.injEq] at ex
    obtain ⟨rfl, rfl, rfl⟩ := ex
    refine And.intro b1 (Exists.intro _ (And.intro e1 ?_))
    refine And.intro (fun hc => ?_) (fun hc => ?_)
    · exact ((bne_iff_ne.1 hc) (by first | rfl | omega | (simp; omega))).elim
    clear hc
    have ek1 : IntKind.i64.wrap (kk + 1) = kk + (1) := by rw [w64 (by  omega) (by  omega)] <;> omega
    refine And.intro b1 (Exists.intro _ (And.intro e1 ?_))
    refine And.intro (fun hc => ?_) (fun hc => ?_)
    · exact ((bne_iff_ne.1 hc) (by rw [ek1]; first | rfl | omega | (simp; omega))).elim
    clear hc
    have ek2 : IntKind.i64.wrap (IntKind.i64.wrap (kk + 1) + 1) = kk + (1 + 1) := by rw [w64 (by rw [ek1];  omega) (by rw [ek1];  omega)] <;> rw [ek1] <;> omega
    refine And.intro b1 (Exists.intro _ (And.intro e1 ?_))
    refine And.intro (fun hc => ?_) (fun hc => ?_)
    · exact ((bne_iff_ne.1 hc) (by rw [ek2]; first | rfl | omega | (simp; omega))).elim
    clear hc
    have ek3 : IntKind.i64.wrap (IntKind.i64.wrap (IntKind.i64.wrap (kk + 1) + 1) + 1) = kk + (1 + 1 + 1) := by rw [w64 (by rw [ek2];  omega) (by rw [ek2];  omega)] <;> rw [ek2] <;> omega
    refine And.intro rfl (And.intro (by first | exact trivial | exact And.intro rfl trivial | exact And.intro rfl (And.intro rfl trivial) | exact And.intro rfl (And.intro rfl (And.intro rfl trivial)) | exact And.intro rfl (And.intro rfl (And.intro rfl (And.intro rfl trivial)))) (And.intro (by first | exact trivial | exact And.intro rfl trivial | exact And.intro rfl (And.intro rfl trivial) | exact And.intro rfl (And.intro rfl (And.intro rfl trivial)) | exact And.intro rfl (And.intro rfl (And.intro rfl (And.intro rfl trivial)))) (And.intro ?_ ?_)))
    · refine ⟨j + 1, IntKind.i64.wrap (IntKind.i64.wrap (IntKind.i64.wrap (kk + 1) + 1) + 1), ?_, by omega, by rw [← hw], rfl⟩
      rw [ek3]; rw [hs1]; simp only [ceEdge]; omega
    · show ((xs.length : Int) - IntKind.i64.wrap ((j : Int) + 1)).toNat < ((xs.length : Int) - (j : Int)).toNat
      omega
  · have hj' : j = xs.length := by simp at hc2; omega
    subst hj'
    rw [List.take_length] at hkk
    exact And.intro (congrArg (Value.int .i64) hkk) rfl

theorem t_heldGraph (h : Hp) (cs : List Value) (x : LGraph) (k : Int) (hx : wGraph.R h cs (mvGraph x k)) (hk : 0 ≤ k ∧ k + (cvGraph x : Nat) ≤ 4611686018427387904) :
    Tr Try.prog 35 #[.agg cs.toArray, .int .i64 k] h fun v h' => v = .int .i64 (k + (cvGraph x : Nat)) ∧ h' = h := by
  obtain ⟨x0, x1, x2⟩ := x
  obtain ⟨x0q, x1q, a2q, n2q, c2q, x2q, rfl, ex, g0, g1, g2⟩ := openGraph hx
  simp only [mvGraph, cvGraph, Prod.mk.injEq] at ex
  obtain ⟨rfl, rfl, rfl⟩ := ex
  simp only [cvGraph] at hk
  refine walk (args := [.agg #[.int .i64 x0, .int .i64 x1, .slice a2q n2q c2q], .int .i64 k]) (fn := Try.f35) rfl ?_
  refine Tr.val (t_heldEdgeS _ a2q n2q c2q x2 (k) (by have gg := g2; first | exact gg | (rwa [show k + (((0 : Nat) : Int)) = k from by omega] at gg)) ⟨by omega, by omega⟩) ?_
  refine And.intro (fun hc => ?_) (fun hc => ?_)
  · have : (k + (cEdgeS x2 : Nat) : Int) < 0 := by simpa only [decide_eq_true_eq] using hc
    exact absurd this (by omega)
  clear hc
  exact And.intro (congrArg (Value.int .i64) (by simp only [cvGraph] <;> omega)) rfl

theorem t_heldIntS (h : Hp) (a : Option Addr) (n c : Nat) (xs : LIntS) (k : Int) (hx : wIntS.R h [.slice a n c] (mkIntS xs k)) (hk : 0 ≤ k ∧ k + (cIntS xs : Nat) ≤ 4611686018427387904) :
    Tr Try.prog 54 #[.slice a n c, .int .i64 k] h fun v h' => v = .int .i64 (k + (cIntS xs : Nat)) ∧ h' = h := by
  obtain ⟨en, hn⟩ := Sl.len hx
  rw [show (mkIntS xs k).length = xs.length from mkL_length _ _ _ _] at en
  subst en
  refine walk (args := [.slice a xs.length c, .int .i64 k]) (fn := Try.f54) rfl ?_
  refine Exists.intro { vars := [1, 5], boxes := [], owns := [] } (Exists.intro (fun vs _ h' => ∃ (j : Nat) (kk : Int), kk = k + (sumM (fun _ => 1) (xs.take j) : Nat) ∧ j ≤ xs.length ∧ vs = [.int .i64 kk, .int .i64 j] ∧ h' = h) (Exists.intro (fun vs _ => match vs with | [_, .int _ j] => ((xs.length : Int) - j).toNat | _ => 0) ?_))
  refine And.intro ⟨0, k, by simp [sumM], by omega, rfl, rfl⟩ ?_
  rintro _ _ h1 ⟨j, kk, hkk, hj, ⟨⟩, rfl⟩
  refine And.intro (fun hc2 => ?_) (fun hc2 => ?_)
  · have hlt : j < xs.length := by simpa using hc2
    obtain ⟨x, gx⟩ := has_get hlt
    have hs1 : sumM (fun _ => 1) (xs.take (j + 1)) = sumM (fun _ => 1) (xs.take j) + 1 := sumM_snoc gx
    have hs2 := sumM_take (fun _ => 1) xs (j + 1)
    have hw := wsucc hlt hn
    have hkx : 0 ≤ kk ∧ kk + (1 : Nat) ≤ 4611686018427387904 := by
      have : (cIntS xs : Int) = (sumM (fun _ => 1) xs : Nat) := rfl
      omega
    have gm : (mkIntS xs k)[j]? = some ((fun _ k => k) x kk) := by rw [hkk]; exact mkL_get gx
    obtain ⟨b1, cs1, e1, i1⟩ := Sl.get hx gm (by decide)
    obtain ⟨rfl, _⟩ := i1
    refine And.intro b1 (Exists.intro _ (And.intro e1 ?_))
    refine And.intro (fun hc => ?_) (fun hc => ?_)
    · exact ((bne_iff_ne.1 hc) (by first | rfl | omega | (simp; omega))).elim
    clear hc
    have ek1 : IntKind.i64.wrap (kk + 1) = kk + (1) := by rw [w64 (by  omega) (by  omega)] <;> omega
    refine And.intro rfl (And.intro (by first | exact trivial | exact And.intro rfl trivial | exact And.intro rfl (And.intro rfl trivial) | exact And.intro rfl (And.intro rfl (And.intro rfl trivial)) | exact And.intro rfl (And.intro rfl (And.intro rfl (And.intro rfl trivial)))) (And.intro (by first | exact trivial | exact And.intro rfl trivial | exact And.intro rfl (And.intro rfl trivial) | exact And.intro rfl (And.intro rfl (And.intro rfl trivial)) | exact And.intro rfl (And.intro rfl (And.intro rfl (And.intro rfl trivial)))) (And.intro ?_ ?_)))
    · refine ⟨j + 1, IntKind.i64.wrap (kk + 1), ?_, by omega, by rw [← hw], rfl⟩
      rw [ek1]; rw [hs1]; omega
    · show ((xs.length : Int) - IntKind.i64.wrap ((j : Int) + 1)).toNat < ((xs.length : Int) - (j : Int)).toNat
      omega
  · have hj' : j = xs.length := by simp at hc2; omega
    subst hj'
    rw [List.take_length] at hkk
    exact And.intro (congrArg (Value.int .i64) hkk) rfl

theorem t_heldIntSS (h : Hp) (a : Option Addr) (n c : Nat) (xs : LIntSS) (k : Int) (hx : wIntSS.R h [.slice a n c] (mkIntSS xs k)) (hk : 0 ≤ k ∧ k + (cIntSS xs : Nat) ≤ 4611686018427387904) :
    Tr Try.prog 134 #[.slice a n c, .int .i64 k] h fun v h' => v = .int .i64 (k + (cIntSS xs : Nat)) ∧ h' = h := by
  obtain ⟨en, hn⟩ := Sl.len hx
  rw [show (mkIntSS xs k).length = xs.length from mkL_length _ _ _ _] at en
  subst en
  refine walk (args := [.slice a xs.length c, .int .i64 k]) (fn := Try.f134) rfl ?_
  refine Exists.intro { vars := [1, 5], boxes := [], owns := [] } (Exists.intro (fun vs _ h' => ∃ (j : Nat) (kk : Int), kk = k + (sumM cIntS (xs.take j) : Nat) ∧ j ≤ xs.length ∧ vs = [.int .i64 kk, .int .i64 j] ∧ h' = h) (Exists.intro (fun vs _ => match vs with | [_, .int _ j] => ((xs.length : Int) - j).toNat | _ => 0) ?_))
  refine And.intro ⟨0, k, by simp [sumM], by omega, rfl, rfl⟩ ?_
  rintro _ _ h1 ⟨j, kk, hkk, hj, ⟨⟩, rfl⟩
  refine And.intro (fun hc2 => ?_) (fun hc2 => ?_)
  · have hlt : j < xs.length := by simpa using hc2
    obtain ⟨x, gx⟩ := has_get hlt
    have hs1 : sumM cIntS (xs.take (j + 1)) = sumM cIntS (xs.take j) + cIntS x := sumM_snoc gx
    have hs2 := sumM_take cIntS xs (j + 1)
    have hw := wsucc hlt hn
    have hkx : 0 ≤ kk ∧ kk + (cIntS x : Nat) ≤ 4611686018427387904 := by
      have : (cIntSS xs : Int) = (sumM cIntS xs : Nat) := rfl
      omega
    have gm : (mkIntSS xs k)[j]? = some (mkIntS x kk) := by rw [hkk]; exact mkL_get gx
    obtain ⟨b1, cs1, e1, i1⟩ := Sl.get hx gm (by decide)
    obtain ⟨aq, nq, cq, eq⟩ := Wp.slice_cell i1
    cases eq
    refine And.intro b1 (Exists.intro _ (And.intro e1 ?_))
    have gk0 : wIntS.R h1 [.slice aq nq cq] (mkIntS x (kk)) := i1
    refine Tr.val (t_heldIntS _ aq nq cq x (kk) gk0 ⟨by omega, by omega⟩) ?_
    refine And.intro (fun hc => ?_) (fun hc => ?_)
    · have : (kk + (cIntS x : Nat) : Int) < 0 := by simpa only [decide_eq_true_eq] using hc
      exact absurd this (by omega)
    clear hc
    have ek1 : (kk + (cIntS x : Nat) : Int) = kk + ((cIntS x : Nat)) := by omega
    refine And.intro rfl (And.intro (by first | exact trivial | exact And.intro rfl trivial | exact And.intro rfl (And.intro rfl trivial) | exact And.intro rfl (And.intro rfl (And.intro rfl trivial)) | exact And.intro rfl (And.intro rfl (And.intro rfl (And.intro rfl trivial)))) (And.intro (by first | exact trivial | exact And.intro rfl trivial | exact And.intro rfl (And.intro rfl trivial) | exact And.intro rfl (And.intro rfl (And.intro rfl trivial)) | exact And.intro rfl (And.intro rfl (And.intro rfl (And.intro rfl trivial)))) (And.intro ?_ ?_)))
    · refine ⟨j + 1, kk + (cIntS x : Nat), ?_, by omega, by rw [← hw], rfl⟩
      rw [ek1]; rw [hs1]; omega
    · show ((xs.length : Int) - IntKind.i64.wrap ((j : Int) + 1)).toNat < ((xs.length : Int) - (j : Int)).toNat
      omega
  · have hj' : j = xs.length := by simp at hc2; omega
    subst hj'
    rw [List.take_length] at hkk
    exact And.intro (congrArg (Value.int .i64) hkk) rfl

theorem t_heldClaimS (h : Hp) (a : Option Addr) (n c : Nat) (xs : LClaimS) (k : Int) (hx : wClaimS.R h [.slice a n c] (mkClaimS xs k)) (hk : 0 ≤ k ∧ k + (cClaimS xs : Nat) ≤ 4611686018427387904) :
    Tr Try.prog 89 #[.slice a n c, .int .i64 k] h fun v h' => v = .int .i64 (k + (cClaimS xs : Nat)) ∧ h' = h := by
  obtain ⟨en, hn⟩ := Sl.len hx
  rw [show (mkClaimS xs k).length = xs.length from mkL_length _ _ _ _] at en
  subst en
  refine walk (args := [.slice a xs.length c, .int .i64 k]) (fn := Try.f89) rfl ?_
  refine Exists.intro { vars := [1, 5], boxes := [], owns := [] } (Exists.intro (fun vs _ h' => ∃ (j : Nat) (kk : Int), kk = k + (sumM ceClaim (xs.take j) : Nat) ∧ j ≤ xs.length ∧ vs = [.int .i64 kk, .int .i64 j] ∧ h' = h) (Exists.intro (fun vs _ => match vs with | [_, .int _ j] => ((xs.length : Int) - j).toNat | _ => 0) ?_))
  refine And.intro ⟨0, k, by simp [sumM], by omega, rfl, rfl⟩ ?_
  rintro _ _ h1 ⟨j, kk, hkk, hj, ⟨⟩, rfl⟩
  refine And.intro (fun hc2 => ?_) (fun hc2 => ?_)
  · have hlt : j < xs.length := by simpa using hc2
    obtain ⟨x, gx⟩ := has_get hlt
    have hs1 : sumM ceClaim (xs.take (j + 1)) = sumM ceClaim (xs.take j) + ceClaim x := sumM_snoc gx
    have hs2 := sumM_take ceClaim xs (j + 1)
    have hw := wsucc hlt hn
    have hkx : 0 ≤ kk ∧ kk + (ceClaim x : Nat) ≤ 4611686018427387904 := by
      have : (cClaimS xs : Int) = (sumM ceClaim xs : Nat) := rfl
      omega
    have gm : (mkClaimS xs k)[j]? = some (meClaim x kk) := by rw [hkk]; exact mkL_get gx
    obtain ⟨b1, cs1, e1, i1⟩ := Sl.get hx gm (by decide)
    obtain ⟨x0, x1, x2, x3, x4, ⟨x5_0, x5_1, x5_2⟩, x6⟩ := x
    simp only [ceClaim, ceGraph] at hkx
    obtain ⟨x0q, x1q, a2q, n2q, c2q, x2q, a3q, n3q, c3q, x3q, a4q, n4q, c4q, x4q, x5_0q, x5_1q, a5_2q, n5_2q, c5_2q, x5_2q, x6q, rfl, ex, g0, g1, g2, g3, g4, g5_0, g5_1, g5_2, g6⟩ := openClaim i1
    simp only [meClaim, ceClaim, meGraph, ceGraph, Prod.mk.injEq] at ex
    obtain ⟨rfl, rfl, rfl, rfl, rfl, ⟨rfl, rfl, rfl⟩, rfl⟩ := ex
    refine And.intro b1 (Exists.intro _ (And.intro e1 ?_))
    refine And.intro (fun hc => ?_) (fun hc => ?_)
    · exact ((bne_iff_ne.1 hc) (by first | rfl | omega | (simp; omega))).elim
    clear hc
    have ek1 : IntKind.i64.wrap (kk + 1) = kk + (1) := by rw [w64 (by  omega) (by  omega)] <;> omega
    refine And.intro b1 (Exists.intro _ (And.intro e1 ?_))
    refine And.intro (fun hc => ?_) (fun hc => ?_)
    · exact ((bne_iff_ne.1 hc) (by rw [ek1]; first | rfl | omega | (simp; omega))).elim
    clear hc
    have ek2 : IntKind.i64.wrap (IntKind.i64.wrap (kk + 1) + 1) = kk + (1 + 1) := by rw [w64 (by rw [ek1];  omega) (by rw [ek1];  omega)] <;> rw [ek1] <;> omega
    refine And.intro b1 (Exists.intro _ (And.intro e1 ?_))
    have gk2 : wIntSS.R h1 [.slice a2q n2q c2q] (mkIntSS x2 (IntKind.i64.wrap (IntKind.i64.wrap (kk + 1) + 1))) := castK (P := fun z => wIntSS.R h1 [.slice a2q n2q c2q] (mkIntSS x2 z)) g2 (by rw [ek2]; first | rfl | omega | (simp; omega))
    refine Tr.val (t_heldIntSS _ a2q n2q c2q x2 (IntKind.i64.wrap (IntKind.i64.wrap (kk + 1) + 1)) gk2 ⟨by rw [ek2]; omega, by rw [ek2]; omega⟩) ?_
    refine And.intro (fun hc => ?_) (fun hc => ?_)
    · have : (IntKind.i64.wrap (IntKind.i64.wrap (kk + 1) + 1) + (cIntSS x2 : Nat) : Int) < 0 := by simpa only [decide_eq_true_eq] using hc
      exact absurd this (by rw [ek2]; omega)
    clear hc
    have ek3 : (IntKind.i64.wrap (IntKind.i64.wrap (kk + 1) + 1) + (cIntSS x2 : Nat) : Int) = kk + (1 + 1 + (cIntSS x2 : Nat)) := by rw [ek2]; omega
    refine And.intro b1 (Exists.intro _ (And.intro e1 ?_))
    have gk3 : wIntS.R h1 [.slice a3q n3q c3q] (mkIntS x3 (IntKind.i64.wrap (IntKind.i64.wrap (kk + 1) + 1) + (cIntSS x2 : Nat))) := castK (P := fun z => wIntS.R h1 [.slice a3q n3q c3q] (mkIntS x3 z)) g3 (by rw [ek3]; first | rfl | omega | (simp; omega))
    refine Tr.val (t_heldIntS _ a3q n3q c3q x3 (IntKind.i64.wrap (IntKind.i64.wrap (kk + 1) + 1) + (cIntSS x2 : Nat)) gk3 ⟨by rw [ek3]; omega, by rw [ek3]; omega⟩) ?_
    refine And.intro (fun hc => ?_) (fun hc => ?_)
    · have : (IntKind.i64.wrap (IntKind.i64.wrap (kk + 1) + 1) + (cIntSS x2 : Nat) + (cIntS x3 : Nat) : Int) < 0 := by simpa only [decide_eq_true_eq] using hc
      exact absurd this (by rw [ek3]; omega)
    clear hc
    have ek4 : (IntKind.i64.wrap (IntKind.i64.wrap (kk + 1) + 1) + (cIntSS x2 : Nat) + (cIntS x3 : Nat) : Int) = kk + (1 + 1 + (cIntSS x2 : Nat) + (cIntS x3 : Nat)) := by rw [ek3]; omega
    refine And.intro b1 (Exists.intro _ (And.intro e1 ?_))
    have gk4 : wIntS.R h1 [.slice a4q n4q c4q] (mkIntS x4 (IntKind.i64.wrap (IntKind.i64.wrap (kk + 1) + 1) + (cIntSS x2 : Nat) + (cIntS x3 : Nat))) := castK (P := fun z => wIntS.R h1 [.slice a4q n4q c4q] (mkIntS x4 z)) g4 (by rw [ek4]; first | rfl | omega | (simp; omega))
    refine Tr.val (t_heldIntS _ a4q n4q c4q x4 (IntKind.i64.wrap (IntKind.i64.wrap (kk + 1) + 1) + (cIntSS x2 : Nat) + (cIntS x3 : Nat)) gk4 ⟨by rw [ek4]; omega, by rw [ek4]; omega⟩) ?_
    refine And.intro (fun hc => ?_) (fun hc => ?_)
    · have : (IntKind.i64.wrap (IntKind.i64.wrap (kk + 1) + 1) + (cIntSS x2 : Nat) + (cIntS x3 : Nat) + (cIntS x4 : Nat) : Int) < 0 := by simpa only [decide_eq_true_eq] using hc
      exact absurd this (by rw [ek4]; omega)
    clear hc
    have ek5 : (IntKind.i64.wrap (IntKind.i64.wrap (kk + 1) + 1) + (cIntSS x2 : Nat) + (cIntS x3 : Nat) + (cIntS x4 : Nat) : Int) = kk + (1 + 1 + (cIntSS x2 : Nat) + (cIntS x3 : Nat) + (cIntS x4 : Nat)) := by rw [ek4]; omega
    refine And.intro b1 (Exists.intro _ (And.intro e1 ?_))
    refine And.intro (fun hc => ?_) (fun hc => ?_)
    · exact ((bne_iff_ne.1 hc) (by rw [ek5]; first | rfl | omega | (simp; omega))).elim
    clear hc
    have ek6 : IntKind.i64.wrap (IntKind.i64.wrap (IntKind.i64.wrap (kk + 1) + 1) + (cIntSS x2 : Nat) + (cIntS x3 : Nat) + (cIntS x4 : Nat) + 1) = kk + (1 + 1 + (cIntSS x2 : Nat) + (cIntS x3 : Nat) + (cIntS x4 : Nat) + 1) := by rw [w64 (by rw [ek5];  omega) (by rw [ek5];  omega)] <;> rw [ek5] <;> omega
    refine And.intro b1 (Exists.intro _ (And.intro e1 ?_))
    refine And.intro (fun hc => ?_) (fun hc => ?_)
    · exact ((bne_iff_ne.1 hc) (by rw [ek6]; first | rfl | omega | (simp; omega))).elim
    clear hc
    have ek7 : IntKind.i64.wrap (IntKind.i64.wrap (IntKind.i64.wrap (IntKind.i64.wrap (kk + 1) + 1) + (cIntSS x2 : Nat) + (cIntS x3 : Nat) + (cIntS x4 : Nat) + 1) + 1) = kk + (1 + 1 + (cIntSS x2 : Nat) + (cIntS x3 : Nat) + (cIntS x4 : Nat) + 1 + 1) := by rw [w64 (by rw [ek6];  omega) (by rw [ek6];  omega)] <;> rw [ek6] <;> omega
    refine And.intro b1 (Exists.intro _ (And.intro e1 ?_))
    have gk7 : wEdgeS.R h1 [.slice a5_2q n5_2q c5_2q] (mkEdgeS x5_2 (IntKind.i64.wrap (IntKind.i64.wrap (IntKind.i64.wrap (IntKind.i64.wrap (kk + 1) + 1) + (cIntSS x2 : Nat) + (cIntS x3 : Nat) + (cIntS x4 : Nat) + 1) + 1))) := castK (P := fun z => wEdgeS.R h1 [.slice a5_2q n5_2q c5_2q] (mkEdgeS x5_2 z)) g5_2 (by rw [ek7]; first | rfl | omega | (simp; omega))
    refine Tr.val (t_heldEdgeS _ a5_2q n5_2q c5_2q x5_2 (IntKind.i64.wrap (IntKind.i64.wrap (IntKind.i64.wrap (IntKind.i64.wrap (kk + 1) + 1) + (cIntSS x2 : Nat) + (cIntS x3 : Nat) + (cIntS x4 : Nat) + 1) + 1)) gk7 ⟨by rw [ek7]; omega, by rw [ek7]; omega⟩) ?_
    refine And.intro (fun hc => ?_) (fun hc => ?_)
    · have : (IntKind.i64.wrap (IntKind.i64.wrap (IntKind.i64.wrap (IntKind.i64.wrap (kk + 1) + 1) + (cIntSS x2 : Nat) + (cIntS x3 : Nat) + (cIntS x4 : Nat) + 1) + 1) + (cEdgeS x5_2 : Nat) : Int) < 0 := by simpa only [decide_eq_true_eq] using hc
      exact absurd this (by rw [ek7]; omega)
    clear hc
    have ek8 : (IntKind.i64.wrap (IntKind.i64.wrap (IntKind.i64.wrap (IntKind.i64.wrap (kk + 1) + 1) + (cIntSS x2 : Nat) + (cIntS x3 : Nat) + (cIntS x4 : Nat) + 1) + 1) + (cEdgeS x5_2 : Nat) : Int) = kk + (1 + 1 + (cIntSS x2 : Nat) + (cIntS x3 : Nat) + (cIntS x4 : Nat) + 1 + 1 + (cEdgeS x5_2 : Nat)) := by rw [ek7]; omega
    refine And.intro b1 (Exists.intro _ (And.intro e1 ?_))
    refine And.intro (fun hc => ?_) (fun hc => ?_)
    · exact ((bne_iff_ne.1 hc) (by rw [ek8]; first | rfl | omega | (simp; omega))).elim
    clear hc
    have ek9 : IntKind.i64.wrap (IntKind.i64.wrap (IntKind.i64.wrap (IntKind.i64.wrap (IntKind.i64.wrap (kk + 1) + 1) + (cIntSS x2 : Nat) + (cIntS x3 : Nat) + (cIntS x4 : Nat) + 1) + 1) + (cEdgeS x5_2 : Nat) + 1) = kk + (1 + 1 + (cIntSS x2 : Nat) + (cIntS x3 : Nat) + (cIntS x4 : Nat) + 1 + 1 + (cEdgeS x5_2 : Nat) + 1) := by rw [w64 (by rw [ek8];  omega) (by rw [ek8];  omega)] <;> rw [ek8] <;> omega
    refine And.intro rfl (And.intro (by first | exact trivial | exact And.intro rfl trivial | exact And.intro rfl (And.intro rfl trivial) | exact And.intro rfl (And.intro rfl (And.intro rfl trivial)) | exact And.intro rfl (And.intro rfl (And.intro rfl (And.intro rfl trivial)))) (And.intro (by first | exact trivial | exact And.intro rfl trivial | exact And.intro rfl (And.intro rfl trivial) | exact And.intro rfl (And.intro rfl (And.intro rfl trivial)) | exact And.intro rfl (And.intro rfl (And.intro rfl (And.intro rfl trivial)))) (And.intro ?_ ?_)))
    · refine ⟨j + 1, IntKind.i64.wrap (IntKind.i64.wrap (IntKind.i64.wrap (IntKind.i64.wrap (IntKind.i64.wrap (kk + 1) + 1) + (cIntSS x2 : Nat) + (cIntS x3 : Nat) + (cIntS x4 : Nat) + 1) + 1) + (cEdgeS x5_2 : Nat) + 1), ?_, by omega, by rw [← hw], rfl⟩
      rw [ek9]; rw [hs1]; simp only [ceClaim, ceGraph]; omega
    · show ((xs.length : Int) - IntKind.i64.wrap ((j : Int) + 1)).toNat < ((xs.length : Int) - (j : Int)).toNat
      omega
  · have hj' : j = xs.length := by simp at hc2; omega
    subst hj'
    rw [List.take_length] at hkk
    exact And.intro (congrArg (Value.int .i64) hkk) rfl

theorem t_heldNotebook (h : Hp) (cs : List Value) (x : LNotebook) (k : Int) (hx : wNotebook.R h cs (mvNotebook x k)) (hk : 0 ≤ k ∧ k + (cvNotebook x : Nat) ≤ 4611686018427387904) :
    Tr Try.prog 40 #[.agg cs.toArray, .int .i64 k] h fun v h' => v = .int .i64 (k + (cvNotebook x : Nat)) ∧ h' = h := by
  obtain ⟨x0, x1⟩ := x
  obtain ⟨x0q, a1q, n1q, c1q, x1q, rfl, ex, g0, g1⟩ := openNotebook hx
  simp only [mvNotebook, cvNotebook, Prod.mk.injEq] at ex
  obtain ⟨rfl, rfl⟩ := ex
  simp only [cvNotebook] at hk
  refine walk (args := [.agg #[.int .i64 x0, .slice a1q n1q c1q], .int .i64 k]) (fn := Try.f40) rfl ?_
  refine Tr.val (t_heldClaimS _ a1q n1q c1q x1 (k) (by have gg := g1; first | exact gg | (rwa [show k + (((0 : Nat) : Int)) = k from by omega] at gg)) ⟨by omega, by omega⟩) ?_
  refine And.intro (fun hc => ?_) (fun hc => ?_)
  · have : (k + (cClaimS x1 : Nat) : Int) < 0 := by simpa only [decide_eq_true_eq] using hc
    exact absurd this (by omega)
  clear hc
  exact And.intro (congrArg (Value.int .i64) (by simp only [cvNotebook] <;> omega)) rfl

theorem t_heldEntryS (h : Hp) (a : Option Addr) (n c : Nat) (xs : LEntryS) (k : Int) (hx : wEntryS.R h [.slice a n c] (mkEntryS xs k)) (hk : 0 ≤ k ∧ k + (cEntryS xs : Nat) ≤ 4611686018427387904) :
    Tr Try.prog 76 #[.slice a n c, .int .i64 k] h fun v h' => v = .int .i64 (k + (cEntryS xs : Nat)) ∧ h' = h := by
  obtain ⟨en, hn⟩ := Sl.len hx
  rw [show (mkEntryS xs k).length = xs.length from mkL_length _ _ _ _] at en
  subst en
  refine walk (args := [.slice a xs.length c, .int .i64 k]) (fn := Try.f76) rfl ?_
  refine Exists.intro { vars := [1, 5], boxes := [], owns := [] } (Exists.intro (fun vs _ h' => ∃ (j : Nat) (kk : Int), kk = k + (sumM ceEntry (xs.take j) : Nat) ∧ j ≤ xs.length ∧ vs = [.int .i64 kk, .int .i64 j] ∧ h' = h) (Exists.intro (fun vs _ => match vs with | [_, .int _ j] => ((xs.length : Int) - j).toNat | _ => 0) ?_))
  refine And.intro ⟨0, k, by simp [sumM], by omega, rfl, rfl⟩ ?_
  rintro _ _ h1 ⟨j, kk, hkk, hj, ⟨⟩, rfl⟩
  refine And.intro (fun hc2 => ?_) (fun hc2 => ?_)
  · have hlt : j < xs.length := by simpa using hc2
    obtain ⟨x, gx⟩ := has_get hlt
    have hs1 : sumM ceEntry (xs.take (j + 1)) = sumM ceEntry (xs.take j) + ceEntry x := sumM_snoc gx
    have hs2 := sumM_take ceEntry xs (j + 1)
    have hw := wsucc hlt hn
    have hkx : 0 ≤ kk ∧ kk + (ceEntry x : Nat) ≤ 4611686018427387904 := by
      have : (cEntryS xs : Int) = (sumM ceEntry xs : Nat) := rfl
      omega
    have gm : (mkEntryS xs k)[j]? = some (meEntry x kk) := by rw [hkk]; exact mkL_get gx
    obtain ⟨b1, cs1, e1, i1⟩ := Sl.get hx gm (by decide)
    obtain ⟨x0, ⟨x1_0, x1_1, x1_2⟩⟩ := x
    simp only [ceEntry, ceGraph] at hkx
    obtain ⟨x0q, x1_0q, x1_1q, a1_2q, n1_2q, c1_2q, x1_2q, rfl, ex, g0, g1_0, g1_1, g1_2⟩ := openEntry i1
    simp only [meEntry, ceEntry, meGraph, ceGraph, Prod.mk.injEq] at ex
    obtain ⟨rfl, ⟨rfl, rfl, rfl⟩⟩ := ex
    refine Or.inl (And.intro (And.intro (by kernel_rfl) (by kernel_rfl)) ?_)
    refine And.intro b1 (Exists.intro _ (And.intro e1 ?_))
    refine Exists.intro (.string _) (And.intro (t_markText _ (kk) ⟨by omega, by omega⟩) ?_)
    refine And.intro (fun hc => ?_) (fun hc => ?_)
    · exact ((strNe hc) (congrArg mtext (by first | rfl | omega | (simp; omega)))).elim
    clear hc
    have ek1 : IntKind.i64.wrap (kk + 1) = kk + (1) := by rw [w64 (by  omega) (by  omega)] <;> omega
    refine And.intro b1 (Exists.intro _ (And.intro e1 ?_))
    refine And.intro (fun hc => ?_) (fun hc => ?_)
    · exact ((bne_iff_ne.1 hc) (by rw [ek1]; first | rfl | omega | (simp; omega))).elim
    clear hc
    have ek2 : IntKind.i64.wrap (IntKind.i64.wrap (kk + 1) + 1) = kk + (1 + 1) := by rw [w64 (by rw [ek1];  omega) (by rw [ek1];  omega)] <;> rw [ek1] <;> omega
    refine And.intro b1 (Exists.intro _ (And.intro e1 ?_))
    refine And.intro (fun hc => ?_) (fun hc => ?_)
    · exact ((bne_iff_ne.1 hc) (by rw [ek2]; first | rfl | omega | (simp; omega))).elim
    clear hc
    have ek3 : IntKind.i64.wrap (IntKind.i64.wrap (IntKind.i64.wrap (kk + 1) + 1) + 1) = kk + (1 + 1 + 1) := by rw [w64 (by rw [ek2];  omega) (by rw [ek2];  omega)] <;> rw [ek2] <;> omega
    refine And.intro b1 (Exists.intro _ (And.intro e1 ?_))
    have gk3 : wEdgeS.R h1 [.slice a1_2q n1_2q c1_2q] (mkEdgeS x1_2 (IntKind.i64.wrap (IntKind.i64.wrap (IntKind.i64.wrap (kk + 1) + 1) + 1))) := castK (P := fun z => wEdgeS.R h1 [.slice a1_2q n1_2q c1_2q] (mkEdgeS x1_2 z)) g1_2 (by rw [ek3]; first | rfl | omega | (simp; omega))
    refine Tr.val (t_heldEdgeS _ a1_2q n1_2q c1_2q x1_2 (IntKind.i64.wrap (IntKind.i64.wrap (IntKind.i64.wrap (kk + 1) + 1) + 1)) gk3 ⟨by rw [ek3]; omega, by rw [ek3]; omega⟩) ?_
    refine And.intro (fun hc => ?_) (fun hc => ?_)
    · have : (IntKind.i64.wrap (IntKind.i64.wrap (IntKind.i64.wrap (kk + 1) + 1) + 1) + (cEdgeS x1_2 : Nat) : Int) < 0 := by simpa only [decide_eq_true_eq] using hc
      exact absurd this (by rw [ek3]; omega)
    clear hc
    have ek4 : (IntKind.i64.wrap (IntKind.i64.wrap (IntKind.i64.wrap (kk + 1) + 1) + 1) + (cEdgeS x1_2 : Nat) : Int) = kk + (1 + 1 + 1 + (cEdgeS x1_2 : Nat)) := by rw [ek3]; omega
    refine And.intro rfl (And.intro (by first | exact trivial | exact And.intro rfl trivial | exact And.intro rfl (And.intro rfl trivial) | exact And.intro rfl (And.intro rfl (And.intro rfl trivial)) | exact And.intro rfl (And.intro rfl (And.intro rfl (And.intro rfl trivial)))) (And.intro (by first | exact trivial | exact And.intro rfl trivial | exact And.intro rfl (And.intro rfl trivial) | exact And.intro rfl (And.intro rfl (And.intro rfl trivial)) | exact And.intro rfl (And.intro rfl (And.intro rfl (And.intro rfl trivial)))) (And.intro ?_ ?_)))
    · refine ⟨j + 1, IntKind.i64.wrap (IntKind.i64.wrap (IntKind.i64.wrap (kk + 1) + 1) + 1) + (cEdgeS x1_2 : Nat), ?_, by omega, by rw [← hw], rfl⟩
      rw [ek4]; rw [hs1]; simp only [ceEntry, ceGraph]; omega
    · show ((xs.length : Int) - IntKind.i64.wrap ((j : Int) + 1)).toNat < ((xs.length : Int) - (j : Int)).toNat
      omega
  · have hj' : j = xs.length := by simp at hc2; omega
    subst hj'
    rw [List.take_length] at hkk
    exact And.intro (congrArg (Value.int .i64) hkk) rfl

theorem t_heldLibrary (h : Hp) (cs : List Value) (x : LLibrary) (k : Int) (hx : wLibrary.R h cs (mvLibrary x k)) (hk : 0 ≤ k ∧ k + (cvLibrary x : Nat) ≤ 4611686018427387904) :
    Tr Try.prog 24 #[.agg cs.toArray, .int .i64 k] h fun v h' => v = .int .i64 (k + (cvLibrary x : Nat)) ∧ h' = h := by
  obtain ⟨x0, x1⟩ := x
  obtain ⟨x0q, a1q, n1q, c1q, x1q, rfl, ex, g0, g1⟩ := openLibrary hx
  simp only [mvLibrary, cvLibrary, Prod.mk.injEq] at ex
  obtain ⟨rfl, rfl⟩ := ex
  simp only [cvLibrary] at hk
  refine walk (args := [.agg #[.int .i64 x0, .slice a1q n1q c1q], .int .i64 k]) (fn := Try.f24) rfl ?_
  refine Tr.val (t_heldEntryS _ a1q n1q c1q x1 (k) (by have gg := g1; first | exact gg | (rwa [show k + (((0 : Nat) : Int)) = k from by omega] at gg)) ⟨by omega, by omega⟩) ?_
  refine And.intro (fun hc => ?_) (fun hc => ?_)
  · have : (k + (cEntryS x1 : Nat) : Int) < 0 := by simpa only [decide_eq_true_eq] using hc
    exact absurd this (by omega)
  clear hc
  exact And.intro (congrArg (Value.int .i64) (by simp only [cvLibrary] <;> omega)) rfl

end Go.Proofs.Ytalidbmconldoaa
