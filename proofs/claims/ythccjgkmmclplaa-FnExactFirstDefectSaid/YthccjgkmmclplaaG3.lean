/- What the laws' own helpers do: equality. -/
import Derived.Test.YthccjgkmmclplaaG1
namespace Go.Proofs.Ythccjgkmmclplaa
open Go.H
set_option linter.unusedVariables false
set_option linter.unusedSimpArgs false
set_option maxRecDepth 10000

theorem t_eqEdge (h : Hp) (cs ds : List Value) (x y : LEdge) (hx : wEdge.R h cs x) (hy : wEdge.R h ds y) :
    Tr Try.prog 111 #[.agg cs.toArray, .agg ds.toArray] h fun v h' => v = .bool (decide (x = y)) ∧ h' = h := by
  obtain ⟨x0, x1, x2, rfl, rfl, h0, h1, h2⟩ := openEdge hx
  obtain ⟨x0y, x1y, x2y, rfl, rfl, h0y, h1y, h2y⟩ := openEdge hy
  refine walk (args := [.agg #[.int .i64 x0, .int .i64 x1, .int .i64 x2], .agg #[.int .i64 x0y, .int .i64 x1y, .int .i64 x2y]]) (fn := Try.f111) rfl ?_
  refine And.intro (fun hc => ?_) (fun hc => ?_)
  · have ne : x0 ≠ x0y := by simpa using hc
    exact And.intro (congrArg Value.bool (decide_eq_false fun e => by cases e; exact ne rfl).symm) rfl
  have q0 : x0 = x0y := by simpa using hc
  subst q0
  refine And.intro (fun hc => ?_) (fun hc => ?_)
  · have ne : x1 ≠ x1y := by simpa using hc
    exact And.intro (congrArg Value.bool (decide_eq_false fun e => by cases e; exact ne rfl).symm) rfl
  have q1 : x1 = x1y := by simpa using hc
  subst q1
  refine And.intro (fun hc => ?_) (fun hc => ?_)
  · have ne : x2 ≠ x2y := by simpa using hc
    exact And.intro (congrArg Value.bool (decide_eq_false fun e => by cases e; exact ne rfl).symm) rfl
  have q2 : x2 = x2y := by simpa using hc
  subst q2
  exact And.intro (congrArg Value.bool (decide_eq_true rfl).symm) rfl

theorem t_eqEdgeS (h : Hp) (a : Option Addr) (n c : Nat) (a' : Option Addr) (n' c' : Nat) (xs ys : LEdgeS) (hx : wEdgeS.R h [.slice a n c] xs) (hy : wEdgeS.R h [.slice a' n' c'] ys) :
    Tr Try.prog 81 #[.slice a n c, .slice a' n' c'] h fun v h' => v = .bool (decide (xs = ys)) ∧ h' = h := by
  obtain ⟨rfl, hn⟩ := Sl.len hx
  obtain ⟨rfl, hn'⟩ := Sl.len hy
  refine walk (args := [.slice a xs.length c, .slice a' ys.length c']) (fn := Try.f81) rfl ?_
  refine And.intro (fun hc => ?_) (fun hc => ?_)
  · refine And.intro (congrArg Value.bool ?_) rfl
    have : xs.length ≠ ys.length := by simp at hc; omega
    exact (decide_eq_false fun e => this (by rw [e])).symm
  have hlen : xs.length = ys.length := by simp at hc; omega
  refine Exists.intro { vars := [5], boxes := [], owns := [] } (Exists.intro (fun vs _ h' => ∃ k : Nat, k ≤ xs.length ∧ xs.take k = ys.take k ∧ vs = [.int .i64 k] ∧ h' = h) (Exists.intro (fun vs _ => match vs with | [.int _ j] => ((xs.length : Int) - j).toNat | _ => 0) ?_))
  refine And.intro ⟨0, by omega, by simp, rfl, rfl⟩ ?_
  rintro _ h1 ⟨k, hk, hall, ⟨⟩, rfl⟩
  refine And.intro (fun hc2 => ?_) (fun hc2 => ?_)
  · have hlt : k < xs.length := by simpa using hc2
    obtain ⟨x, gx⟩ := has_get hlt
    obtain ⟨y, gy⟩ := has_get (l := ys) (k := k) (by omega)
    obtain ⟨b1, cs1, e1, i1⟩ := Sl.get hx gx (by decide)
    obtain ⟨b2, cs2, e2, i2⟩ := Sl.get hy gy (by decide)
    have hw := wsucc hlt hn
    obtain ⟨x0, x1, x2, rfl, rfl, g0, g1, g2⟩ := openEdge i1
    obtain ⟨x0y, x1y, x2y, rfl, rfl, g0y, g1y, g2y⟩ := openEdge i2
    refine Or.inl (And.intro (And.intro (by kernel_rfl) (by kernel_rfl)) ?_)
    refine And.intro b1 (Exists.intro _ (And.intro e1 (And.intro b2 (Exists.intro _ (And.intro e2 ?_)))))
    refine Exists.intro (.bool _) (And.intro (t_eqEdge _ [.int .i64 x0, .int .i64 x1, .int .i64 x2] [.int .i64 x0y, .int .i64 x1y, .int .i64 x2y] (x0, x1, x2) (x0y, x1y, x2y) (closeEdge g0 g1 g2) (closeEdge g0y g1y g2y)) ?_)
    refine And.intro (fun hc3 => ?_) (fun hc3 => ?_)
    · refine And.intro (congrArg Value.bool ?_) rfl
      have hne : (x0, x1, x2) ≠ (x0y, x1y, x2y) := not_dec hc3
      exact (decide_eq_false fun e => hne (Option.some.inj (gx.symm.trans ((congrArg (fun l : LEdgeS => l[k]?) e).trans gy)))).symm
    · have heq : (x0, x1, x2) = (x0y, x1y, x2y) := not_dec' hc3
      refine And.intro rfl (And.intro (by first | exact trivial | exact And.intro rfl trivial | exact And.intro rfl (And.intro rfl trivial) | exact And.intro rfl (And.intro rfl (And.intro rfl trivial)) | exact And.intro rfl (And.intro rfl (And.intro rfl (And.intro rfl trivial)))) (And.intro (by first | exact trivial | exact And.intro rfl trivial | exact And.intro rfl (And.intro rfl trivial) | exact And.intro rfl (And.intro rfl (And.intro rfl trivial)) | exact And.intro rfl (And.intro rfl (And.intro rfl (And.intro rfl trivial)))) (And.intro ?_ ?_)))
      · refine ⟨k + 1, by omega, by rw [take_snoc gx, take_snoc gy, hall, heq], ?_, rfl⟩
        rw [← hw]
      · show ((xs.length : Int) - IntKind.i64.wrap ((k : Int) + 1)).toNat < ((xs.length : Int) - (k : Int)).toNat
        omega
  · have hk : k = xs.length := by simp at hc2; omega
    refine And.intro (congrArg Value.bool ?_) rfl
    refine (decide_eq_true ?_).symm
    subst hk
    rwa [List.take_length, hlen, List.take_length] at hall

theorem t_eqGraph (h : Hp) (cs ds : List Value) (x y : LGraph) (hx : wGraph.R h cs x) (hy : wGraph.R h ds y) :
    Tr Try.prog 37 #[.agg cs.toArray, .agg ds.toArray] h fun v h' => v = .bool (decide (x = y)) ∧ h' = h := by
  obtain ⟨x0, x1, a2, n2, c2, x2, rfl, rfl, h0, h1, h2⟩ := openGraph hx
  obtain ⟨x0y, x1y, a2y, n2y, c2y, x2y, rfl, rfl, h0y, h1y, h2y⟩ := openGraph hy
  refine walk (args := [.agg #[.int .i64 x0, .int .i64 x1, .slice a2 n2 c2], .agg #[.int .i64 x0y, .int .i64 x1y, .slice a2y n2y c2y]]) (fn := Try.f37) rfl ?_
  refine And.intro (fun hc => ?_) (fun hc => ?_)
  · have ne : x0 ≠ x0y := by simpa using hc
    exact And.intro (congrArg Value.bool (decide_eq_false fun e => by cases e; exact ne rfl).symm) rfl
  have q0 : x0 = x0y := by simpa using hc
  subst q0
  refine And.intro (fun hc => ?_) (fun hc => ?_)
  · have ne : x1 ≠ x1y := by simpa using hc
    exact And.intro (congrArg Value.bool (decide_eq_false fun e => by cases e; exact ne rfl).symm) rfl
  have q1 : x1 = x1y := by simpa using hc
  subst q1
  refine Tr.val (t_eqEdgeS h a2 n2 c2 a2y n2y c2y x2 x2y h2 h2y) ?_
  refine And.intro (fun hc => ?_) (fun hc => ?_)
  · have ne : x2 ≠ x2y := not_dec hc
    exact And.intro (congrArg Value.bool (decide_eq_false fun e => by cases e; exact ne rfl).symm) rfl
  have q2 : x2 = x2y := not_dec' hc
  subst q2
  exact And.intro (congrArg Value.bool (decide_eq_true rfl).symm) rfl

theorem t_eqIntS (h : Hp) (a : Option Addr) (n c : Nat) (a' : Option Addr) (n' c' : Nat) (xs ys : LIntS) (hx : wIntS.R h [.slice a n c] xs) (hy : wIntS.R h [.slice a' n' c'] ys) :
    Tr Try.prog 26 #[.slice a n c, .slice a' n' c'] h fun v h' => v = .bool (decide (xs = ys)) ∧ h' = h := by
  obtain ⟨rfl, hn⟩ := Sl.len hx
  obtain ⟨rfl, hn'⟩ := Sl.len hy
  refine walk (args := [.slice a xs.length c, .slice a' ys.length c']) (fn := Try.f26) rfl ?_
  refine And.intro (fun hc => ?_) (fun hc => ?_)
  · refine And.intro (congrArg Value.bool ?_) rfl
    have : xs.length ≠ ys.length := by simp at hc; omega
    exact (decide_eq_false fun e => this (by rw [e])).symm
  have hlen : xs.length = ys.length := by simp at hc; omega
  refine Exists.intro { vars := [5], boxes := [], owns := [] } (Exists.intro (fun vs _ h' => ∃ k : Nat, k ≤ xs.length ∧ xs.take k = ys.take k ∧ vs = [.int .i64 k] ∧ h' = h) (Exists.intro (fun vs _ => match vs with | [.int _ j] => ((xs.length : Int) - j).toNat | _ => 0) ?_))
  refine And.intro ⟨0, by omega, by simp, rfl, rfl⟩ ?_
  rintro _ h1 ⟨k, hk, hall, ⟨⟩, rfl⟩
  refine And.intro (fun hc2 => ?_) (fun hc2 => ?_)
  · have hlt : k < xs.length := by simpa using hc2
    obtain ⟨x, gx⟩ := has_get hlt
    obtain ⟨y, gy⟩ := has_get (l := ys) (k := k) (by omega)
    obtain ⟨b1, cs1, e1, i1⟩ := Sl.get hx gx (by decide)
    obtain ⟨b2, cs2, e2, i2⟩ := Sl.get hy gy (by decide)
    have hw := wsucc hlt hn
    obtain ⟨rfl, _⟩ := i1
    obtain ⟨rfl, _⟩ := i2
    refine Or.inl (And.intro (And.intro (by kernel_rfl) (by kernel_rfl)) ?_)
    refine And.intro b1 (Exists.intro _ (And.intro e1 (And.intro b2 (Exists.intro _ (And.intro e2 ?_)))))
    refine And.intro (fun hc3 => ?_) (fun hc3 => ?_)
    · refine And.intro (congrArg Value.bool ?_) rfl
      have hne : x ≠ y := by simpa using hc3
      exact (decide_eq_false fun e => hne (Option.some.inj (gx.symm.trans ((congrArg (fun l : LIntS => l[k]?) e).trans gy)))).symm
    · have heq : x = y := by simpa using hc3
      refine And.intro rfl (And.intro (by first | exact trivial | exact And.intro rfl trivial | exact And.intro rfl (And.intro rfl trivial) | exact And.intro rfl (And.intro rfl (And.intro rfl trivial)) | exact And.intro rfl (And.intro rfl (And.intro rfl (And.intro rfl trivial)))) (And.intro (by first | exact trivial | exact And.intro rfl trivial | exact And.intro rfl (And.intro rfl trivial) | exact And.intro rfl (And.intro rfl (And.intro rfl trivial)) | exact And.intro rfl (And.intro rfl (And.intro rfl (And.intro rfl trivial)))) (And.intro ?_ ?_)))
      · refine ⟨k + 1, by omega, by rw [take_snoc gx, take_snoc gy, hall, heq], ?_, rfl⟩
        rw [← hw]
      · show ((xs.length : Int) - IntKind.i64.wrap ((k : Int) + 1)).toNat < ((xs.length : Int) - (k : Int)).toNat
        omega
  · have hk : k = xs.length := by simp at hc2; omega
    refine And.intro (congrArg Value.bool ?_) rfl
    refine (decide_eq_true ?_).symm
    subst hk
    rwa [List.take_length, hlen, List.take_length] at hall

theorem t_eqIntSS (h : Hp) (a : Option Addr) (n c : Nat) (a' : Option Addr) (n' c' : Nat) (xs ys : LIntSS) (hx : wIntSS.R h [.slice a n c] xs) (hy : wIntSS.R h [.slice a' n' c'] ys) :
    Tr Try.prog 17 #[.slice a n c, .slice a' n' c'] h fun v h' => v = .bool (decide (xs = ys)) ∧ h' = h := by
  obtain ⟨rfl, hn⟩ := Sl.len hx
  obtain ⟨rfl, hn'⟩ := Sl.len hy
  refine walk (args := [.slice a xs.length c, .slice a' ys.length c']) (fn := Try.f17) rfl ?_
  refine And.intro (fun hc => ?_) (fun hc => ?_)
  · refine And.intro (congrArg Value.bool ?_) rfl
    have : xs.length ≠ ys.length := by simp at hc; omega
    exact (decide_eq_false fun e => this (by rw [e])).symm
  have hlen : xs.length = ys.length := by simp at hc; omega
  refine Exists.intro { vars := [5], boxes := [], owns := [] } (Exists.intro (fun vs _ h' => ∃ k : Nat, k ≤ xs.length ∧ xs.take k = ys.take k ∧ vs = [.int .i64 k] ∧ h' = h) (Exists.intro (fun vs _ => match vs with | [.int _ j] => ((xs.length : Int) - j).toNat | _ => 0) ?_))
  refine And.intro ⟨0, by omega, by simp, rfl, rfl⟩ ?_
  rintro _ h1 ⟨k, hk, hall, ⟨⟩, rfl⟩
  refine And.intro (fun hc2 => ?_) (fun hc2 => ?_)
  · have hlt : k < xs.length := by simpa using hc2
    obtain ⟨x, gx⟩ := has_get hlt
    obtain ⟨y, gy⟩ := has_get (l := ys) (k := k) (by omega)
    obtain ⟨b1, cs1, e1, i1⟩ := Sl.get hx gx (by decide)
    obtain ⟨b2, cs2, e2, i2⟩ := Sl.get hy gy (by decide)
    have hw := wsucc hlt hn
    obtain ⟨a1, n1, c1, rfl⟩ := Wp.slice_cell i1
    obtain ⟨a2, n2, c2, rfl⟩ := Wp.slice_cell i2
    refine Or.inl (And.intro (And.intro (by kernel_rfl) (by kernel_rfl)) ?_)
    refine And.intro b1 (Exists.intro _ (And.intro e1 (And.intro b2 (Exists.intro _ (And.intro e2 ?_)))))
    refine Exists.intro (.bool _) (And.intro (t_eqIntS _ _ _ _ _ _ _ x y i1 i2) ?_)
    refine And.intro (fun hc3 => ?_) (fun hc3 => ?_)
    · refine And.intro (congrArg Value.bool ?_) rfl
      have hne : x ≠ y := not_dec hc3
      exact (decide_eq_false fun e => hne (Option.some.inj (gx.symm.trans ((congrArg (fun l : LIntSS => l[k]?) e).trans gy)))).symm
    · have heq : x = y := not_dec' hc3
      refine And.intro rfl (And.intro (by first | exact trivial | exact And.intro rfl trivial | exact And.intro rfl (And.intro rfl trivial) | exact And.intro rfl (And.intro rfl (And.intro rfl trivial)) | exact And.intro rfl (And.intro rfl (And.intro rfl (And.intro rfl trivial)))) (And.intro (by first | exact trivial | exact And.intro rfl trivial | exact And.intro rfl (And.intro rfl trivial) | exact And.intro rfl (And.intro rfl (And.intro rfl trivial)) | exact And.intro rfl (And.intro rfl (And.intro rfl (And.intro rfl trivial)))) (And.intro ?_ ?_)))
      · refine ⟨k + 1, by omega, by rw [take_snoc gx, take_snoc gy, hall, heq], ?_, rfl⟩
        rw [← hw]
      · show ((xs.length : Int) - IntKind.i64.wrap ((k : Int) + 1)).toNat < ((xs.length : Int) - (k : Int)).toNat
        omega
  · have hk : k = xs.length := by simp at hc2; omega
    refine And.intro (congrArg Value.bool ?_) rfl
    refine (decide_eq_true ?_).symm
    subst hk
    rwa [List.take_length, hlen, List.take_length] at hall

theorem t_eqPresentation (h : Hp) (cs ds : List Value) (x y : LPresentation) (hx : wPresentation.R h cs x) (hy : wPresentation.R h ds y) :
    Tr Try.prog 14 #[.agg cs.toArray, .agg ds.toArray] h fun v h' => v = .bool (decide (x = y)) ∧ h' = h := by
  obtain ⟨x0, a1, n1, c1, x1, rfl, rfl, h0, h1⟩ := openPresentation hx
  obtain ⟨x0y, a1y, n1y, c1y, x1y, rfl, rfl, h0y, h1y⟩ := openPresentation hy
  refine walk (args := [.agg #[.int .i64 x0, .slice a1 n1 c1], .agg #[.int .i64 x0y, .slice a1y n1y c1y]]) (fn := Try.f14) rfl ?_
  refine And.intro (fun hc => ?_) (fun hc => ?_)
  · have ne : x0 ≠ x0y := by simpa using hc
    exact And.intro (congrArg Value.bool (decide_eq_false fun e => by cases e; exact ne rfl).symm) rfl
  have q0 : x0 = x0y := by simpa using hc
  subst q0
  refine Tr.val (t_eqIntSS h a1 n1 c1 a1y n1y c1y x1 x1y h1 h1y) ?_
  refine And.intro (fun hc => ?_) (fun hc => ?_)
  · have ne : x1 ≠ x1y := not_dec hc
    exact And.intro (congrArg Value.bool (decide_eq_false fun e => by cases e; exact ne rfl).symm) rfl
  have q1 : x1 = x1y := not_dec' hc
  subst q1
  exact And.intro (congrArg Value.bool (decide_eq_true rfl).symm) rfl

end Go.Proofs.Ythccjgkmmclplaa
