/- What the laws' own helpers do: equality. -/
import Derived.Test.YtjalbdammdmgiaaG1
namespace Go.Proofs.Ytjalbdammdmgiaa
open Go.H
set_option linter.unusedVariables false
set_option linter.unusedSimpArgs false
set_option maxRecDepth 10000

theorem t_eqEdge (h : Hp) (cs ds : List Value) (x y : LEdge) (hx : wEdge.R h cs x) (hy : wEdge.R h ds y) :
    Tr Try.prog 153 #[.agg cs.toArray, .agg ds.toArray] h fun v h' => v = .bool (decide (x = y)) ∧ h' = h := by
  obtain ⟨x0, x1, x2, rfl, rfl, h0, h1, h2⟩ := openEdge hx
  obtain ⟨x0y, x1y, x2y, rfl, rfl, h0y, h1y, h2y⟩ := openEdge hy
  refine walk (args := [.agg #[.int .i64 x0, .int .i64 x1, .int .i64 x2], .agg #[.int .i64 x0y, .int .i64 x1y, .int .i64 x2y]]) (fn := Try.f153) rfl ?_
  refine And.intro (fun hc => ?_) (fun hc => ?_)
  · have ne : x0 ≠ x0y := by simpa using hc
    exact And.intro (congrArg Value.bool (decide_eq_false fun e => by cases e; exact ne rfl).symm) rfl
  have q0 : x0 = x0y := by simpa using hc
  subst q0
  refine And.intro (fun hc => ?_) (fun hc => ?_)
  · have ne : x1 ≠ x1y := by simpa using hc
    exact And.intro (congrArg Value.bool (decide_eq_false fun e => by cases e; exact ne rfl).symm) rfl
  have q1 : x1 = x1y := by simpa using hc
  subst q1
  refine And.intro (fun hc => ?_) (fun hc => ?_)
  · have ne : x2 ≠ x2y := by simpa using hc
    exact And.intro (congrArg Value.bool (decide_eq_false fun e => by cases e; exact ne rfl).symm) rfl
  have q2 : x2 = x2y := by simpa using hc
  subst q2
  exact And.intro (congrArg Value.bool (decide_eq_true rfl).symm) rfl

theorem t_eqEdgeS (h : Hp) (a : Option Addr) (n c : Nat) (a' : Option Addr) (n' c' : Nat) (xs ys : LEdgeS) (hx : wEdgeS.R h [.slice a n c] xs) (hy : wEdgeS.R h [.slice a' n' c'] ys) :
    Tr Try.prog 127 #[.slice a n c, .slice a' n' c'] h fun v h' => v = .bool (decide (xs = ys)) ∧ h' = h := by
  obtain ⟨rfl, hn⟩ := Sl.len hx
  obtain ⟨rfl, hn'⟩ := Sl.len hy
  refine walk (args := [.slice a xs.length c, .slice a' ys.length c']) (fn := Try.f127) rfl ?_
  refine And.intro (fun hc => ?_) (fun hc => ?_)
  · refine And.intro (congrArg Value.bool ?_) rfl
    have : xs.length ≠ ys.length := by simp at hc; omega
    exact (decide_eq_false fun e => this (by rw [e])).symm
  have hlen : xs.length = ys.length := by simp at hc; omega
  refine Exists.intro { vars := [5], boxes := [], owns := [] } (Exists.intro (fun vs _ h' => ∃ k : Nat, k ≤ xs.length ∧ xs.take k = ys.take k ∧ vs = [.int .i64 k] ∧ h' = h) (Exists.intro (fun vs _ => match vs with | [.int _ j] => ((xs.length : Int) - j).toNat | _ => 0) ?_))
  refine And.intro ⟨0, by omega, by simp, rfl, rfl⟩ ?_
  rintro _ h1 ⟨k, hk, hall, ⟨⟩, rfl⟩
  refine And.intro (fun hc2 => ?_) (fun hc2 => ?_)
  · have hlt : k < xs.length := by simpa using hc2
    obtain ⟨x, gx⟩ := has_get hlt
    obtain ⟨y, gy⟩ := has_get (l := ys) (k := k) (by omega)
    obtain ⟨b1, cs1, e1, i1⟩ := Sl.get hx gx (by decide)
    obtain ⟨b2, cs2, e2, i2⟩ := Sl.get hy gy (by decide)
    have hw := wsucc hlt hn
    obtain ⟨x0, x1, x2, rfl, rfl, g0, g1, g2⟩ := openEdge i1
    obtain ⟨x0y, x1y, x2y, rfl, rfl, g0y, g1y, g2y⟩ := openEdge i2
    refine Or.inl (And.intro (And.intro (by kernel_rfl) (by kernel_rfl)) ?_)
    refine And.intro b1 (Exists.intro _ (And.intro e1 (And.intro b2 (Exists.intro _ (And.intro e2 ?_)))))
    refine Exists.intro (.bool _) (And.intro (t_eqEdge _ [.int .i64 x0, .int .i64 x1, .int .i64 x2] [.int .i64 x0y, .int .i64 x1y, .int .i64 x2y] (x0, x1, x2) (x0y, x1y, x2y) (closeEdge g0 g1 g2) (closeEdge g0y g1y g2y)) ?_)
    refine And.intro (fun hc3 => ?_) (fun hc3 => ?_)
    · refine And.intro (congrArg Value.bool ?_) rfl
      have hne : (x0, x1, x2) ≠ (x0y, x1y, x2y) := not_dec hc3
      exact (decide_eq_false fun e => hne (Option.some.inj (gx.symm.trans ((congrArg (fun l : LEdgeS => l[k]?) e).trans gy)))).symm
    · have heq : (x0, x1, x2) = (x0y, x1y, x2y) := not_dec' hc3
      refine And.intro rfl (And.intro (by first | exact trivial | exact And.intro rfl trivial | exact And.intro rfl (And.intro rfl trivial) | exact And.intro rfl (And.intro rfl (And.intro rfl trivial)) | exact And.intro rfl (And.intro rfl (And.intro rfl (And.intro rfl trivial)))) (And.intro (by first | exact trivial | exact And.intro rfl trivial | exact And.intro rfl (And.intro rfl trivial) | exact And.intro rfl (And.intro rfl (And.intro rfl trivial)) | exact And.intro rfl (And.intro rfl (And.intro rfl (And.intro rfl trivial)))) (And.intro ?_ ?_)))
      · refine ⟨k + 1, by omega, by rw [take_snoc gx, take_snoc gy, hall, heq], ?_, rfl⟩
        rw [← hw]
      · show ((xs.length : Int) - IntKind.i64.wrap ((k : Int) + 1)).toNat < ((xs.length : Int) - (k : Int)).toNat
        omega
  · have hk : k = xs.length := by simp at hc2; omega
    refine And.intro (congrArg Value.bool ?_) rfl
    refine (decide_eq_true ?_).symm
    subst hk
    rwa [List.take_length, hlen, List.take_length] at hall

theorem t_eqGraph (h : Hp) (cs ds : List Value) (x y : LGraph) (hx : wGraph.R h cs x) (hy : wGraph.R h ds y) :
    Tr Try.prog 59 #[.agg cs.toArray, .agg ds.toArray] h fun v h' => v = .bool (decide (x = y)) ∧ h' = h := by
  obtain ⟨x0, x1, a2, n2, c2, x2, rfl, rfl, h0, h1, h2⟩ := openGraph hx
  obtain ⟨x0y, x1y, a2y, n2y, c2y, x2y, rfl, rfl, h0y, h1y, h2y⟩ := openGraph hy
  refine walk (args := [.agg #[.int .i64 x0, .int .i64 x1, .slice a2 n2 c2], .agg #[.int .i64 x0y, .int .i64 x1y, .slice a2y n2y c2y]]) (fn := Try.f59) rfl ?_
  refine And.intro (fun hc => ?_) (fun hc => ?_)
  · have ne : x0 ≠ x0y := by simpa using hc
    exact And.intro (congrArg Value.bool (decide_eq_false fun e => by cases e; exact ne rfl).symm) rfl
  have q0 : x0 = x0y := by simpa using hc
  subst q0
  refine And.intro (fun hc => ?_) (fun hc => ?_)
  · have ne : x1 ≠ x1y := by simpa using hc
    exact And.intro (congrArg Value.bool (decide_eq_false fun e => by cases e; exact ne rfl).symm) rfl
  have q1 : x1 = x1y := by simpa using hc
  subst q1
  refine Tr.val (t_eqEdgeS h a2 n2 c2 a2y n2y c2y x2 x2y h2 h2y) ?_
  refine And.intro (fun hc => ?_) (fun hc => ?_)
  · have ne : x2 ≠ x2y := not_dec hc
    exact And.intro (congrArg Value.bool (decide_eq_false fun e => by cases e; exact ne rfl).symm) rfl
  have q2 : x2 = x2y := not_dec' hc
  subst q2
  exact And.intro (congrArg Value.bool (decide_eq_true rfl).symm) rfl

theorem t_eqIntS (h : Hp) (a : Option Addr) (n c : Nat) (a' : Option Addr) (n' c' : Nat) (xs ys : LIntS) (hx : wIntS.R h [.slice a n c] xs) (hy : wIntS.R h [.slice a' n' c'] ys) :
    Tr Try.prog 23 #[.slice a n c, .slice a' n' c'] h fun v h' => v = .bool (decide (xs = ys)) ∧ h' = h := by
  obtain ⟨rfl, hn⟩ := Sl.len hx
  obtain ⟨rfl, hn'⟩ := Sl.len hy
  refine walk (args := [.slice a xs.length c, .slice a' ys.length c']) (fn := Try.f23) rfl ?_
  refine And.intro (fun hc => ?_) (fun hc => ?_)
  · refine And.intro (congrArg Value.bool ?_) rfl
    have : xs.length ≠ ys.length := by simp at hc; omega
    exact (decide_eq_false fun e => this (by rw [e])).symm
  have hlen : xs.length = ys.length := by simp at hc; omega
  refine Exists.intro { vars := [5], boxes := [], owns := [] } (Exists.intro (fun vs _ h' => ∃ k : Nat, k ≤ xs.length ∧ xs.take k = ys.take k ∧ vs = [.int .i64 k] ∧ h' = h) (Exists.intro (fun vs _ => match vs with | [.int _ j] => ((xs.length : Int) - j).toNat | _ => 0) ?_))
  refine And.intro ⟨0, by omega, by simp, rfl, rfl⟩ ?_
  rintro _ h1 ⟨k, hk, hall, ⟨⟩, rfl⟩
  refine And.intro (fun hc2 => ?_) (fun hc2 => ?_)
  · have hlt : k < xs.length := by simpa using hc2
    obtain ⟨x, gx⟩ := has_get hlt
    obtain ⟨y, gy⟩ := has_get (l := ys) (k := k) (by omega)
    obtain ⟨b1, cs1, e1, i1⟩ := Sl.get hx gx (by decide)
    obtain ⟨b2, cs2, e2, i2⟩ := Sl.get hy gy (by decide)
    have hw := wsucc hlt hn
    obtain ⟨rfl, _⟩ := i1
    obtain ⟨rfl, _⟩ := i2
    refine Or.inl (And.intro (And.intro (by kernel_rfl) (by kernel_rfl)) ?_)
    refine And.intro b1 (Exists.intro _ (And.intro e1 (And.intro b2 (Exists.intro _ (And.intro e2 ?_)))))
    refine And.intro (fun hc3 => ?_) (fun hc3 => ?_)
    · refine And.intro (congrArg Value.bool ?_) rfl
      have hne : x ≠ y := by simpa using hc3
      exact (decide_eq_false fun e => hne (Option.some.inj (gx.symm.trans ((congrArg (fun l : LIntS => l[k]?) e).trans gy)))).symm
    · have heq : x = y := by simpa using hc3
      refine And.intro rfl (And.intro (by first | exact trivial | exact And.intro rfl trivial | exact And.intro rfl (And.intro rfl trivial) | exact And.intro rfl (And.intro rfl (And.intro rfl trivial)) | exact And.intro rfl (And.intro rfl (And.intro rfl (And.intro rfl trivial)))) (And.intro (by first | exact trivial | exact And.intro rfl trivial | exact And.intro rfl (And.intro rfl trivial) | exact And.intro rfl (And.intro rfl (And.intro rfl trivial)) | exact And.intro rfl (And.intro rfl (And.intro rfl (And.intro rfl trivial)))) (And.intro ?_ ?_)))
      · refine ⟨k + 1, by omega, by rw [take_snoc gx, take_snoc gy, hall, heq], ?_, rfl⟩
        rw [← hw]
      · show ((xs.length : Int) - IntKind.i64.wrap ((k : Int) + 1)).toNat < ((xs.length : Int) - (k : Int)).toNat
        omega
  · have hk : k = xs.length := by simp at hc2; omega
    refine And.intro (congrArg Value.bool ?_) rfl
    refine (decide_eq_true ?_).symm
    subst hk
    rwa [List.take_length, hlen, List.take_length] at hall

theorem t_eqIntSS (h : Hp) (a : Option Addr) (n c : Nat) (a' : Option Addr) (n' c' : Nat) (xs ys : LIntSS) (hx : wIntSS.R h [.slice a n c] xs) (hy : wIntSS.R h [.slice a' n' c'] ys) :
    Tr Try.prog 43 #[.slice a n c, .slice a' n' c'] h fun v h' => v = .bool (decide (xs = ys)) ∧ h' = h := by
  obtain ⟨rfl, hn⟩ := Sl.len hx
  obtain ⟨rfl, hn'⟩ := Sl.len hy
  refine walk (args := [.slice a xs.length c, .slice a' ys.length c']) (fn := Try.f43) rfl ?_
  refine And.intro (fun hc => ?_) (fun hc => ?_)
  · refine And.intro (congrArg Value.bool ?_) rfl
    have : xs.length ≠ ys.length := by simp at hc; omega
    exact (decide_eq_false fun e => this (by rw [e])).symm
  have hlen : xs.length = ys.length := by simp at hc; omega
  refine Exists.intro { vars := [5], boxes := [], owns := [] } (Exists.intro (fun vs _ h' => ∃ k : Nat, k ≤ xs.length ∧ xs.take k = ys.take k ∧ vs = [.int .i64 k] ∧ h' = h) (Exists.intro (fun vs _ => match vs with | [.int _ j] => ((xs.length : Int) - j).toNat | _ => 0) ?_))
  refine And.intro ⟨0, by omega, by simp, rfl, rfl⟩ ?_
  rintro _ h1 ⟨k, hk, hall, ⟨⟩, rfl⟩
  refine And.intro (fun hc2 => ?_) (fun hc2 => ?_)
  · have hlt : k < xs.length := by simpa using hc2
    obtain ⟨x, gx⟩ := has_get hlt
    obtain ⟨y, gy⟩ := has_get (l := ys) (k := k) (by omega)
    obtain ⟨b1, cs1, e1, i1⟩ := Sl.get hx gx (by decide)
    obtain ⟨b2, cs2, e2, i2⟩ := Sl.get hy gy (by decide)
    have hw := wsucc hlt hn
    obtain ⟨a1, n1, c1, rfl⟩ := Wp.slice_cell i1
    obtain ⟨a2, n2, c2, rfl⟩ := Wp.slice_cell i2
    refine Or.inl (And.intro (And.intro (by kernel_rfl) (by kernel_rfl)) ?_)
    refine And.intro b1 (Exists.intro _ (And.intro e1 (And.intro b2 (Exists.intro _ (And.intro e2 ?_)))))
    refine Exists.intro (.bool _) (And.intro (t_eqIntS _ _ _ _ _ _ _ x y i1 i2) ?_)
    refine And.intro (fun hc3 => ?_) (fun hc3 => ?_)
    · refine And.intro (congrArg Value.bool ?_) rfl
      have hne : x ≠ y := not_dec hc3
      exact (decide_eq_false fun e => hne (Option.some.inj (gx.symm.trans ((congrArg (fun l : LIntSS => l[k]?) e).trans gy)))).symm
    · have heq : x = y := not_dec' hc3
      refine And.intro rfl (And.intro (by first | exact trivial | exact And.intro rfl trivial | exact And.intro rfl (And.intro rfl trivial) | exact And.intro rfl (And.intro rfl (And.intro rfl trivial)) | exact And.intro rfl (And.intro rfl (And.intro rfl (And.intro rfl trivial)))) (And.intro (by first | exact trivial | exact And.intro rfl trivial | exact And.intro rfl (And.intro rfl trivial) | exact And.intro rfl (And.intro rfl (And.intro rfl trivial)) | exact And.intro rfl (And.intro rfl (And.intro rfl (And.intro rfl trivial)))) (And.intro ?_ ?_)))
      · refine ⟨k + 1, by omega, by rw [take_snoc gx, take_snoc gy, hall, heq], ?_, rfl⟩
        rw [← hw]
      · show ((xs.length : Int) - IntKind.i64.wrap ((k : Int) + 1)).toNat < ((xs.length : Int) - (k : Int)).toNat
        omega
  · have hk : k = xs.length := by simp at hc2; omega
    refine And.intro (congrArg Value.bool ?_) rfl
    refine (decide_eq_true ?_).symm
    subst hk
    rwa [List.take_length, hlen, List.take_length] at hall

theorem t_eqPresentation (h : Hp) (cs ds : List Value) (x y : LPresentation) (hx : wPresentation.R h cs x) (hy : wPresentation.R h ds y) :
    Tr Try.prog 18 #[.agg cs.toArray, .agg ds.toArray] h fun v h' => v = .bool (decide (x = y)) ∧ h' = h := by
  obtain ⟨x0, a1, n1, c1, x1, rfl, rfl, h0, h1⟩ := openPresentation hx
  obtain ⟨x0y, a1y, n1y, c1y, x1y, rfl, rfl, h0y, h1y⟩ := openPresentation hy
  refine walk (args := [.agg #[.int .i64 x0, .slice a1 n1 c1], .agg #[.int .i64 x0y, .slice a1y n1y c1y]]) (fn := Try.f18) rfl ?_
  refine And.intro (fun hc => ?_) (fun hc => ?_)
  · have ne : x0 ≠ x0y := by simpa using hc
    exact And.intro (congrArg Value.bool (decide_eq_false fun e => by cases e; exact ne rfl).symm) rfl
  have q0 : x0 = x0y := by simpa using hc
  subst q0
  refine Tr.val (t_eqIntSS h a1 n1 c1 a1y n1y c1y x1 x1y h1 h1y) ?_
  refine And.intro (fun hc => ?_) (fun hc => ?_)
  · have ne : x1 ≠ x1y := not_dec hc
    exact And.intro (congrArg Value.bool (decide_eq_false fun e => by cases e; exact ne rfl).symm) rfl
  have q1 : x1 = x1y := not_dec' hc
  subst q1
  exact And.intro (congrArg Value.bool (decide_eq_true rfl).symm) rfl

theorem t_eqTerm (h : Hp) (cs ds : List Value) (x y : LTerm) (hx : wTerm.R h cs x) (hy : wTerm.R h ds y) :
    Tr Try.prog 78 #[.agg cs.toArray, .agg ds.toArray] h fun v h' => v = .bool (decide (x = y)) ∧ h' = h := by
  obtain ⟨a0, n0, c0, x0, x1, x2, rfl, rfl, h0, h1, h2⟩ := openTerm hx
  obtain ⟨a0y, n0y, c0y, x0y, x1y, x2y, rfl, rfl, h0y, h1y, h2y⟩ := openTerm hy
  refine walk (args := [.agg #[.slice a0 n0 c0, .int .i64 x1, .int .i64 x2], .agg #[.slice a0y n0y c0y, .int .i64 x1y, .int .i64 x2y]]) (fn := Try.f78) rfl ?_
  refine Tr.val (t_eqIntS h a0 n0 c0 a0y n0y c0y x0 x0y h0 h0y) ?_
  refine And.intro (fun hc => ?_) (fun hc => ?_)
  · have ne : x0 ≠ x0y := not_dec hc
    exact And.intro (congrArg Value.bool (decide_eq_false fun e => by cases e; exact ne rfl).symm) rfl
  have q0 : x0 = x0y := not_dec' hc
  subst q0
  refine And.intro (fun hc => ?_) (fun hc => ?_)
  · have ne : x1 ≠ x1y := by simpa using hc
    exact And.intro (congrArg Value.bool (decide_eq_false fun e => by cases e; exact ne rfl).symm) rfl
  have q1 : x1 = x1y := by simpa using hc
  subst q1
  refine And.intro (fun hc => ?_) (fun hc => ?_)
  · have ne : x2 ≠ x2y := by simpa using hc
    exact And.intro (congrArg Value.bool (decide_eq_false fun e => by cases e; exact ne rfl).symm) rfl
  have q2 : x2 = x2y := by simpa using hc
  subst q2
  exact And.intro (congrArg Value.bool (decide_eq_true rfl).symm) rfl

theorem t_eqClaim (h : Hp) (cs ds : List Value) (x y : LClaim) (hx : wClaim.R h cs x) (hy : wClaim.R h ds y) :
    Tr Try.prog 33 #[.agg cs.toArray, .agg ds.toArray] h fun v h' => v = .bool (decide (x = y)) ∧ h' = h := by
  obtain ⟨x0, x1, a2, n2, c2, x2, a3, n3, c3, x3, a4, n4, c4, x4, x5_0, x5_1, a5_2, n5_2, c5_2, x5_2, x6, rfl, rfl, h0, h1, h2, h3, h4, h5_0, h5_1, h5_2, h6⟩ := openClaim hx
  obtain ⟨x0y, x1y, a2y, n2y, c2y, x2y, a3y, n3y, c3y, x3y, a4y, n4y, c4y, x4y, x5_0y, x5_1y, a5_2y, n5_2y, c5_2y, x5_2y, x6y, rfl, rfl, h0y, h1y, h2y, h3y, h4y, h5_0y, h5_1y, h5_2y, h6y⟩ := openClaim hy
  refine walk (args := [.agg #[.int .i64 x0, .int .i64 x1, .slice a2 n2 c2, .slice a3 n3 c3, .slice a4 n4 c4, .int .i64 x5_0, .int .i64 x5_1, .slice a5_2 n5_2 c5_2, .int .i64 x6], .agg #[.int .i64 x0y, .int .i64 x1y, .slice a2y n2y c2y, .slice a3y n3y c3y, .slice a4y n4y c4y, .int .i64 x5_0y, .int .i64 x5_1y, .slice a5_2y n5_2y c5_2y, .int .i64 x6y]]) (fn := Try.f33) rfl ?_
  refine And.intro (fun hc => ?_) (fun hc => ?_)
  · have ne : x0 ≠ x0y := by simpa using hc
    exact And.intro (congrArg Value.bool (decide_eq_false fun e => by cases e; exact ne rfl).symm) rfl
  have q0 : x0 = x0y := by simpa using hc
  subst q0
  refine And.intro (fun hc => ?_) (fun hc => ?_)
  · have ne : x1 ≠ x1y := by simpa using hc
    exact And.intro (congrArg Value.bool (decide_eq_false fun e => by cases e; exact ne rfl).symm) rfl
  have q1 : x1 = x1y := by simpa using hc
  subst q1
  refine Tr.val (t_eqIntSS h a2 n2 c2 a2y n2y c2y x2 x2y h2 h2y) ?_
  refine And.intro (fun hc => ?_) (fun hc => ?_)
  · have ne : x2 ≠ x2y := not_dec hc
    exact And.intro (congrArg Value.bool (decide_eq_false fun e => by cases e; exact ne rfl).symm) rfl
  have q2 : x2 = x2y := not_dec' hc
  subst q2
  refine Tr.val (t_eqIntS h a3 n3 c3 a3y n3y c3y x3 x3y h3 h3y) ?_
  refine And.intro (fun hc => ?_) (fun hc => ?_)
  · have ne : x3 ≠ x3y := not_dec hc
    exact And.intro (congrArg Value.bool (decide_eq_false fun e => by cases e; exact ne rfl).symm) rfl
  have q3 : x3 = x3y := not_dec' hc
  subst q3
  refine Tr.val (t_eqIntS h a4 n4 c4 a4y n4y c4y x4 x4y h4 h4y) ?_
  refine And.intro (fun hc => ?_) (fun hc => ?_)
  · have ne : x4 ≠ x4y := not_dec hc
    exact And.intro (congrArg Value.bool (decide_eq_false fun e => by cases e; exact ne rfl).symm) rfl
  have q4 : x4 = x4y := not_dec' hc
  subst q4
  refine Tr.val (t_eqGraph h [.int .i64 x5_0, .int .i64 x5_1, .slice a5_2 n5_2 c5_2] [.int .i64 x5_0y, .int .i64 x5_1y, .slice a5_2y n5_2y c5_2y] (x5_0, x5_1, x5_2) (x5_0y, x5_1y, x5_2y) (closeGraph h5_0 h5_1 h5_2) (closeGraph h5_0y h5_1y h5_2y)) ?_
  refine And.intro (fun hc => ?_) (fun hc => ?_)
  · have ne : (x5_0, x5_1, x5_2) ≠ (x5_0y, x5_1y, x5_2y) := not_dec hc
    exact And.intro (congrArg Value.bool (decide_eq_false fun e => by cases e; exact ne rfl).symm) rfl
  have q5 : (x5_0, x5_1, x5_2) = (x5_0y, x5_1y, x5_2y) := not_dec' hc
  cases q5
  refine And.intro (fun hc => ?_) (fun hc => ?_)
  · have ne : x6 ≠ x6y := by simpa using hc
    exact And.intro (congrArg Value.bool (decide_eq_false fun e => by cases e; exact ne rfl).symm) rfl
  have q6 : x6 = x6y := by simpa using hc
  subst q6
  exact And.intro (congrArg Value.bool (decide_eq_true rfl).symm) rfl

theorem t_eqClaimS (h : Hp) (a : Option Addr) (n c : Nat) (a' : Option Addr) (n' c' : Nat) (xs ys : LClaimS) (hx : wClaimS.R h [.slice a n c] xs) (hy : wClaimS.R h [.slice a' n' c'] ys) :
    Tr Try.prog 96 #[.slice a n c, .slice a' n' c'] h fun v h' => v = .bool (decide (xs = ys)) ∧ h' = h := by
  obtain ⟨rfl, hn⟩ := Sl.len hx
  obtain ⟨rfl, hn'⟩ := Sl.len hy
  refine walk (args := [.slice a xs.length c, .slice a' ys.length c']) (fn := Try.f96) rfl ?_
  refine And.intro (fun hc => ?_) (fun hc => ?_)
  · refine And.intro (congrArg Value.bool ?_) rfl
    have : xs.length ≠ ys.length := by simp at hc; omega
    exact (decide_eq_false fun e => this (by rw [e])).symm
  have hlen : xs.length = ys.length := by simp at hc; omega
  refine Exists.intro { vars := [5], boxes := [], owns := [] } (Exists.intro (fun vs _ h' => ∃ k : Nat, k ≤ xs.length ∧ xs.take k = ys.take k ∧ vs = [.int .i64 k] ∧ h' = h) (Exists.intro (fun vs _ => match vs with | [.int _ j] => ((xs.length : Int) - j).toNat | _ => 0) ?_))
  refine And.intro ⟨0, by omega, by simp, rfl, rfl⟩ ?_
  rintro _ h1 ⟨k, hk, hall, ⟨⟩, rfl⟩
  refine And.intro (fun hc2 => ?_) (fun hc2 => ?_)
  · have hlt : k < xs.length := by simpa using hc2
    obtain ⟨x, gx⟩ := has_get hlt
    obtain ⟨y, gy⟩ := has_get (l := ys) (k := k) (by omega)
    obtain ⟨b1, cs1, e1, i1⟩ := Sl.get hx gx (by decide)
    obtain ⟨b2, cs2, e2, i2⟩ := Sl.get hy gy (by decide)
    have hw := wsucc hlt hn
    obtain ⟨x0, x1, a2, n2, c2, x2, a3, n3, c3, x3, a4, n4, c4, x4, x5_0, x5_1, a5_2, n5_2, c5_2, x5_2, x6, rfl, rfl, g0, g1, g2, g3, g4, g5_0, g5_1, g5_2, g6⟩ := openClaim i1
    obtain ⟨x0y, x1y, a2y, n2y, c2y, x2y, a3y, n3y, c3y, x3y, a4y, n4y, c4y, x4y, x5_0y, x5_1y, a5_2y, n5_2y, c5_2y, x5_2y, x6y, rfl, rfl, g0y, g1y, g2y, g3y, g4y, g5_0y, g5_1y, g5_2y, g6y⟩ := openClaim i2
    refine Or.inl (And.intro (And.intro (by kernel_rfl) (by kernel_rfl)) ?_)
    refine And.intro b1 (Exists.intro _ (And.intro e1 (And.intro b2 (Exists.intro _ (And.intro e2 ?_)))))
    refine Exists.intro (.bool _) (And.intro (t_eqClaim _ [.int .i64 x0, .int .i64 x1, .slice a2 n2 c2, .slice a3 n3 c3, .slice a4 n4 c4, .int .i64 x5_0, .int .i64 x5_1, .slice a5_2 n5_2 c5_2, .int .i64 x6] [.int .i64 x0y, .int .i64 x1y, .slice a2y n2y c2y, .slice a3y n3y c3y, .slice a4y n4y c4y, .int .i64 x5_0y, .int .i64 x5_1y, .slice a5_2y n5_2y c5_2y, .int .i64 x6y] (x0, x1, x2, x3, x4, (x5_0, x5_1, x5_2), x6) (x0y, x1y, x2y, x3y, x4y, (x5_0y, x5_1y, x5_2y), x6y) (closeClaim g0 g1 g2 g3 g4 g5_0 g5_1 g5_2 g6) (closeClaim g0y g1y g2y g3y g4y g5_0y g5_1y g5_2y g6y)) ?_)
    refine And.intro (fun hc3 => ?_) (fun hc3 => ?_)
    · refine And.intro (congrArg Value.bool ?_) rfl
      have hne : (x0, x1, x2, x3, x4, (x5_0, x5_1, x5_2), x6) ≠ (x0y, x1y, x2y, x3y, x4y, (x5_0y, x5_1y, x5_2y), x6y) := not_dec hc3
      exact (decide_eq_false fun e => hne (Option.some.inj (gx.symm.trans ((congrArg (fun l : LClaimS => l[k]?) e).trans gy)))).symm
    · have heq : (x0, x1, x2, x3, x4, (x5_0, x5_1, x5_2), x6) = (x0y, x1y, x2y, x3y, x4y, (x5_0y, x5_1y, x5_2y), x6y) := not_dec' hc3
      refine And.intro rfl (And.intro (by first | exact trivial | exact And.intro rfl trivial | exact And.intro rfl (And.intro rfl trivial) | exact And.intro rfl (And.intro rfl (And.intro rfl trivial)) | exact And.intro rfl (And.intro rfl (And.intro rfl (And.intro rfl trivial)))) (And.intro (by first | exact trivial | exact And.intro rfl trivial | exact And.intro rfl (And.intro rfl trivial) | exact And.intro rfl (And.intro rfl (And.intro rfl trivial)) | exact And.intro rfl (And.intro rfl (And.intro rfl (And.intro rfl trivial)))) (And.intro ?_ ?_)))
      · refine ⟨k + 1, by omega, by rw [take_snoc gx, take_snoc gy, hall, heq], ?_, rfl⟩
        rw [← hw]
      · show ((xs.length : Int) - IntKind.i64.wrap ((k : Int) + 1)).toNat < ((xs.length : Int) - (k : Int)).toNat
        omega
  · have hk : k = xs.length := by simp at hc2; omega
    refine And.intro (congrArg Value.bool ?_) rfl
    refine (decide_eq_true ?_).symm
    subst hk
    rwa [List.take_length, hlen, List.take_length] at hall

theorem t_eqNotebook (h : Hp) (cs ds : List Value) (x y : LNotebook) (hx : wNotebook.R h cs x) (hy : wNotebook.R h ds y) :
    Tr Try.prog 38 #[.agg cs.toArray, .agg ds.toArray] h fun v h' => v = .bool (decide (x = y)) ∧ h' = h := by
  obtain ⟨x0, a1, n1, c1, x1, rfl, rfl, h0, h1⟩ := openNotebook hx
  obtain ⟨x0y, a1y, n1y, c1y, x1y, rfl, rfl, h0y, h1y⟩ := openNotebook hy
  refine walk (args := [.agg #[.int .i64 x0, .slice a1 n1 c1], .agg #[.int .i64 x0y, .slice a1y n1y c1y]]) (fn := Try.f38) rfl ?_
  refine And.intro (fun hc => ?_) (fun hc => ?_)
  · have ne : x0 ≠ x0y := by simpa using hc
    exact And.intro (congrArg Value.bool (decide_eq_false fun e => by cases e; exact ne rfl).symm) rfl
  have q0 : x0 = x0y := by simpa using hc
  subst q0
  refine Tr.val (t_eqClaimS h a1 n1 c1 a1y n1y c1y x1 x1y h1 h1y) ?_
  refine And.intro (fun hc => ?_) (fun hc => ?_)
  · have ne : x1 ≠ x1y := not_dec hc
    exact And.intro (congrArg Value.bool (decide_eq_false fun e => by cases e; exact ne rfl).symm) rfl
  have q1 : x1 = x1y := not_dec' hc
  subst q1
  exact And.intro (congrArg Value.bool (decide_eq_true rfl).symm) rfl

theorem t_eqTermS (h : Hp) (a : Option Addr) (n c : Nat) (a' : Option Addr) (n' c' : Nat) (xs ys : LTermS) (hx : wTermS.R h [.slice a n c] xs) (hy : wTermS.R h [.slice a' n' c'] ys) :
    Tr Try.prog 24 #[.slice a n c, .slice a' n' c'] h fun v h' => v = .bool (decide (xs = ys)) ∧ h' = h := by
  obtain ⟨rfl, hn⟩ := Sl.len hx
  obtain ⟨rfl, hn'⟩ := Sl.len hy
  refine walk (args := [.slice a xs.length c, .slice a' ys.length c']) (fn := Try.f24) rfl ?_
  refine And.intro (fun hc => ?_) (fun hc => ?_)
  · refine And.intro (congrArg Value.bool ?_) rfl
    have : xs.length ≠ ys.length := by simp at hc; omega
    exact (decide_eq_false fun e => this (by rw [e])).symm
  have hlen : xs.length = ys.length := by simp at hc; omega
  refine Exists.intro { vars := [5], boxes := [], owns := [] } (Exists.intro (fun vs _ h' => ∃ k : Nat, k ≤ xs.length ∧ xs.take k = ys.take k ∧ vs = [.int .i64 k] ∧ h' = h) (Exists.intro (fun vs _ => match vs with | [.int _ j] => ((xs.length : Int) - j).toNat | _ => 0) ?_))
  refine And.intro ⟨0, by omega, by simp, rfl, rfl⟩ ?_
  rintro _ h1 ⟨k, hk, hall, ⟨⟩, rfl⟩
  refine And.intro (fun hc2 => ?_) (fun hc2 => ?_)
  · have hlt : k < xs.length := by simpa using hc2
    obtain ⟨x, gx⟩ := has_get hlt
    obtain ⟨y, gy⟩ := has_get (l := ys) (k := k) (by omega)
    obtain ⟨b1, cs1, e1, i1⟩ := Sl.get hx gx (by decide)
    obtain ⟨b2, cs2, e2, i2⟩ := Sl.get hy gy (by decide)
    have hw := wsucc hlt hn
    obtain ⟨a0, n0, c0, x0, x1, x2, rfl, rfl, g0, g1, g2⟩ := openTerm i1
    obtain ⟨a0y, n0y, c0y, x0y, x1y, x2y, rfl, rfl, g0y, g1y, g2y⟩ := openTerm i2
    refine Or.inl (And.intro (And.intro (by kernel_rfl) (by kernel_rfl)) ?_)
    refine And.intro b1 (Exists.intro _ (And.intro e1 (And.intro b2 (Exists.intro _ (And.intro e2 ?_)))))
    refine Exists.intro (.bool _) (And.intro (t_eqTerm _ [.slice a0 n0 c0, .int .i64 x1, .int .i64 x2] [.slice a0y n0y c0y, .int .i64 x1y, .int .i64 x2y] (x0, x1, x2) (x0y, x1y, x2y) (closeTerm g0 g1 g2) (closeTerm g0y g1y g2y)) ?_)
    refine And.intro (fun hc3 => ?_) (fun hc3 => ?_)
    · refine And.intro (congrArg Value.bool ?_) rfl
      have hne : (x0, x1, x2) ≠ (x0y, x1y, x2y) := not_dec hc3
      exact (decide_eq_false fun e => hne (Option.some.inj (gx.symm.trans ((congrArg (fun l : LTermS => l[k]?) e).trans gy)))).symm
    · have heq : (x0, x1, x2) = (x0y, x1y, x2y) := not_dec' hc3
      refine And.intro rfl (And.intro (by first | exact trivial | exact And.intro rfl trivial | exact And.intro rfl (And.intro rfl trivial) | exact And.intro rfl (And.intro rfl (And.intro rfl trivial)) | exact And.intro rfl (And.intro rfl (And.intro rfl (And.intro rfl trivial)))) (And.intro (by first | exact trivial | exact And.intro rfl trivial | exact And.intro rfl (And.intro rfl trivial) | exact And.intro rfl (And.intro rfl (And.intro rfl trivial)) | exact And.intro rfl (And.intro rfl (And.intro rfl (And.intro rfl trivial)))) (And.intro ?_ ?_)))
      · refine ⟨k + 1, by omega, by rw [take_snoc gx, take_snoc gy, hall, heq], ?_, rfl⟩
        rw [← hw]
      · show ((xs.length : Int) - IntKind.i64.wrap ((k : Int) + 1)).toNat < ((xs.length : Int) - (k : Int)).toNat
        omega
  · have hk : k = xs.length := by simp at hc2; omega
    refine And.intro (congrArg Value.bool ?_) rfl
    refine (decide_eq_true ?_).symm
    subst hk
    rwa [List.take_length, hlen, List.take_length] at hall

end Go.Proofs.Ytjalbdammdmgiaa
