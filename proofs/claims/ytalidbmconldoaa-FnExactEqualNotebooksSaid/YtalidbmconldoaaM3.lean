/- What the equalities of graphs do. -/
import Derived.Test.YtalidbmconldoaaM2e
namespace Go.Proofs.Ytalidbmconldoaa
open Go.H
set_option linter.unusedVariables false
set_option linter.unusedSimpArgs false
set_option maxRecDepth 10000

theorem t_slicesEqualEdges (h : Hp) (a : Option Addr) (n c : Nat) (a' : Option Addr) (n' c' : Nat) (xs ys : LEdgeS) (hx : wEdgeS.R h [.slice a n c] xs) (hy : wEdgeS.R h [.slice a' n' c'] ys) :
    Tr Try.prog 132 #[.slice a n c, .slice a' n' c'] h fun v h' => v = .bool (decide (xs = ys)) ∧ h' = h := by
  obtain ⟨rfl, hn⟩ := Sl.len hx
  obtain ⟨rfl, hn'⟩ := Sl.len hy
  refine walk (args := [.slice a xs.length c, .slice a' ys.length c']) (fn := Try.f132) rfl ?_
  refine And.intro (fun hc => ?_) (fun hc => ?_)
  · refine And.intro (congrArg Value.bool ?_) rfl
    have : xs.length ≠ ys.length := by simp at hc; omega
    exact (decide_eq_false fun e => this (by rw [e])).symm
  have hlen : xs.length = ys.length := by simp at hc; omega
  refine Exists.intro { vars := [13], boxes := [], owns := [] } (Exists.intro (fun vs _ h' => ∃ k : Nat, k ≤ xs.length ∧ xs.take k = ys.take k ∧ vs = [.int .i64 k] ∧ h' = h) (Exists.intro (fun vs _ => match vs with | [.int _ j] => ((xs.length : Int) - j).toNat | _ => 0) ?_))
  refine And.intro ⟨0, by omega, by simp, rfl, rfl⟩ ?_
  rintro _ hh ⟨k, hk, hall, ⟨⟩, rfl⟩
  refine And.intro (fun hc2 => ?_) (fun hc2 => ?_)
  · have hlt : k < xs.length := by simpa using hc2
    obtain ⟨x, gx⟩ := has_get hlt
    obtain ⟨y, gy⟩ := has_get (l := ys) (k := k) (by omega)
    obtain ⟨b1, cs1, e1, i1⟩ := Sl.get hx gx (by decide)
    obtain ⟨b2, cs2, e2, i2⟩ := Sl.get hy gy (by decide)
    have hw := wsucc hlt hn
    obtain ⟨u0, u1, u2, rfl, rfl, _, _, _⟩ := openEdge i1
    obtain ⟨w0, w1, w2, rfl, rfl, _, _, _⟩ := openEdge i2
    refine Or.inl (And.intro (And.intro (by kernel_rfl) (by kernel_rfl)) ?_)
    refine And.intro b1 (Exists.intro _ (And.intro e1 (And.intro b2 (Exists.intro _ (And.intro e2 ?_)))))
    refine Exists.intro _ (And.intro (edgeNeq _ _ _ rfl u0 u1 u2 w0 w1 w2) ?_)
    refine And.intro (fun hc3 => ?_) (fun hc3 => ?_)
    · refine And.intro (congrArg Value.bool ?_) rfl
      have hne : (u0, u1, u2) ≠ (w0, w1, w2) := not_dec hc3
      refine (decide_eq_false fun e => ?_).symm
      subst e
      exact hne (Option.some.inj (gx.symm.trans gy))
    · have heq : (u0, u1, u2) = (w0, w1, w2) := not_dec' hc3
      refine And.intro rfl (And.intro (by first | exact trivial | exact And.intro rfl trivial | exact And.intro rfl (And.intro rfl trivial) | exact And.intro rfl (And.intro rfl (And.intro rfl trivial)) | exact And.intro rfl (And.intro rfl (And.intro rfl (And.intro rfl trivial)))) (And.intro (by first | exact trivial | exact And.intro rfl trivial | exact And.intro rfl (And.intro rfl trivial) | exact And.intro rfl (And.intro rfl (And.intro rfl trivial)) | exact And.intro rfl (And.intro rfl (And.intro rfl (And.intro rfl trivial)))) (And.intro ?_ ?_)))
      · refine ⟨k + 1, by omega, by rw [take_snoc gx, take_snoc gy, hall, heq], ?_, rfl⟩
        rw [← hw]
      · show ((xs.length : Int) - IntKind.i64.wrap ((k : Int) + 1)).toNat < ((xs.length : Int) - (k : Int)).toNat
        omega
  · have hk : k = xs.length := by simp at hc2; omega
    refine And.intro (congrArg Value.bool ?_) rfl
    refine (decide_eq_true ?_).symm
    subst hk
    rw [List.take_length, hlen, List.take_length] at hall
    exact hall
theorem t_implEqualGraphs (h : Hp) (cs ds : List Value) (x y : LGraph) (hx : wGraph.R h cs x) (hy : wGraph.R h ds y) :
    Tr Try.prog 80 #[.agg cs.toArray, .agg ds.toArray] h fun v h' => v = .bool (decide (x = y)) ∧ h' = h := by
  obtain ⟨x0, x1, a2, n2, c2, x2, rfl, rfl, h0, h1, h2⟩ := openGraph hx
  obtain ⟨x0y, x1y, a2y, n2y, c2y, x2y, rfl, rfl, h0y, h1y, h2y⟩ := openGraph hy
  refine walk (args := [.agg #[.int .i64 x0, .int .i64 x1, .slice a2 n2 c2], .agg #[.int .i64 x0y, .int .i64 x1y, .slice a2y n2y c2y]]) (fn := Try.f80) rfl ?_
  refine Exists.intro (.bool _) (And.intro (fun _ => t_slicesEqualEdges _ _ _ _ _ _ _ x2 x2y h2 h2y) ?_)
  refine And.intro (congrArg Value.bool ?_) rfl
  by_cases g0 : x0 = x0y <;> by_cases g1 : x1 = x1y <;> by_cases g2 : x2 = x2y <;> simp [g0, g1, g2]
theorem t_specEqualGraphs (h : Hp) (cs ds : List Value) (x y : LGraph) (hx : wGraph.R h cs x) (hy : wGraph.R h ds y) :
    Tr Try.prog 78 #[.agg cs.toArray, .agg ds.toArray] h fun v h' => v = .bool (decide (x = y)) ∧ h' = h := by
  obtain ⟨x0, x1, a2, n2, c2, x2, rfl, rfl, h0, h1, h2⟩ := openGraph hx
  obtain ⟨x0y, x1y, a2y, n2y, c2y, x2y, rfl, rfl, h0y, h1y, h2y⟩ := openGraph hy
  obtain ⟨rfl, hn⟩ := Sl.len h2
  obtain ⟨rfl, hn'⟩ := Sl.len h2y
  refine walk (args := [.agg #[.int .i64 x0, .int .i64 x1, .slice a2 x2.length c2], .agg #[.int .i64 x0y, .int .i64 x1y, .slice a2y x2y.length c2y]]) (fn := Try.f78) rfl ?_
  refine And.intro (fun hc => ?_) (fun hc => ?_)
  · exact And.intro (congrArg Value.bool (decide_eq_false fun e => by cases e; simp at hc).symm) rfl
  have key : x0 = x0y ∧ x1 = x1y ∧ x2.length = x2y.length := by
    by_cases g0 : x0 = x0y <;> by_cases g1 : x1 = x1y <;> simp [g0, g1] at hc ⊢ <;> omega
  obtain ⟨rfl, rfl, hlen⟩ := key
  refine Exists.intro { vars := [5], boxes := [], owns := [] } (Exists.intro (fun vs _ h' => ∃ k : Nat, k ≤ x2.length ∧ x2.take k = x2y.take k ∧ vs = [.int .i64 k] ∧ h' = h) (Exists.intro (fun vs _ => match vs with | [.int _ j] => ((x2.length : Int) - j).toNat | _ => 0) ?_))
  refine And.intro ⟨0, by omega, by simp, rfl, rfl⟩ ?_
  rintro _ hh ⟨k, hk, hall, ⟨⟩, rfl⟩
  refine And.intro (fun hc2 => ?_) (fun hc2 => ?_)
  · have hlt : k < x2.length := by simpa using hc2
    obtain ⟨x, gx⟩ := has_get hlt
    obtain ⟨y, gy⟩ := has_get (l := x2y) (k := k) (by omega)
    obtain ⟨b1, cs1, e1, i1⟩ := Sl.get h2 gx (by decide)
    obtain ⟨b2, cs2, e2, i2⟩ := Sl.get h2y gy (by decide)
    have hw := wsucc hlt hn
    obtain ⟨u0, u1, u2, rfl, rfl, _, _, _⟩ := openEdge i1
    obtain ⟨w0, w1, w2, rfl, rfl, _, _, _⟩ := openEdge i2
    refine Or.inl (And.intro (And.intro (by kernel_rfl) (by kernel_rfl)) ?_)
    refine And.intro b1 (Exists.intro _ (And.intro e1 (And.intro b2 (Exists.intro _ (And.intro e2 ?_)))))
    refine Exists.intro _ (And.intro (edgeNeq _ _ _ rfl u0 u1 u2 w0 w1 w2) ?_)
    refine And.intro (fun hc3 => ?_) (fun hc3 => ?_)
    · refine And.intro (congrArg Value.bool ?_) rfl
      have hne : (u0, u1, u2) ≠ (w0, w1, w2) := not_dec hc3
      refine (decide_eq_false fun e => ?_).symm
      cases e
      exact hne (Option.some.inj (gx.symm.trans gy))
    · have heq : (u0, u1, u2) = (w0, w1, w2) := not_dec' hc3
      refine And.intro rfl (And.intro (by first | exact trivial | exact And.intro rfl trivial | exact And.intro rfl (And.intro rfl trivial) | exact And.intro rfl (And.intro rfl (And.intro rfl trivial)) | exact And.intro rfl (And.intro rfl (And.intro rfl (And.intro rfl trivial)))) (And.intro (by first | exact trivial | exact And.intro rfl trivial | exact And.intro rfl (And.intro rfl trivial) | exact And.intro rfl (And.intro rfl (And.intro rfl trivial)) | exact And.intro rfl (And.intro rfl (And.intro rfl (And.intro rfl trivial)))) (And.intro ?_ ?_)))
      · refine ⟨k + 1, by omega, by rw [take_snoc gx, take_snoc gy, hall, heq], ?_, rfl⟩
        rw [← hw]
      · show ((x2.length : Int) - IntKind.i64.wrap ((k : Int) + 1)).toNat < ((x2.length : Int) - (k : Int)).toNat
        omega
  · have hk : k = x2.length := by simp at hc2; omega
    refine And.intro (congrArg Value.bool ?_) rfl
    refine (decide_eq_true ?_).symm
    subst hk
    rw [List.take_length, hlen, List.take_length] at hall
    rw [hall]
end Go.Proofs.Ytalidbmconldoaa
