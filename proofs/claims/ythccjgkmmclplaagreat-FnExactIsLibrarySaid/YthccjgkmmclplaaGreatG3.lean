/- What the laws' own helpers do: equality. -/
import Derived.Test.YthccjgkmmclplaaGreatG1
namespace Go.Proofs.YthccjgkmmclplaaGreat
open Go.H
set_option linter.unusedVariables false
set_option linter.unusedSimpArgs false
set_option maxRecDepth 10000

theorem t_eqEdge (h : Hp) (cs ds : List Value) (x y : LEdge) (hx : wEdge.R h cs x) (hy : wEdge.R h ds y) :
    Tr Tryz.prog 103 #[.agg cs.toArray, .agg ds.toArray] h fun v h' => v = .bool (decide (x = y)) ∧ h' = h := by
  obtain ⟨x0, x1, x2, rfl, rfl, h0, h1, h2⟩ := openEdge hx
  obtain ⟨x0y, x1y, x2y, rfl, rfl, h0y, h1y, h2y⟩ := openEdge hy
  refine walk (args := [.agg #[.int .i64 x0, .int .i64 x1, .int .i64 x2], .agg #[.int .i64 x0y, .int .i64 x1y, .int .i64 x2y]]) (fn := Tryz.f103) rfl ?_
  refine And.intro (fun hc => ?_) (fun hc => ?_)
  · have ne : x0 ≠ x0y := by simpa using hc
    exact And.intro (congrArg Value.bool (decide_eq_false fun e => by cases e; exact ne rfl).symm) rfl
  have q0 : x0 = x0y := by simpa using hc
  subst q0
  refine And.intro (fun hc => ?_) (fun hc => ?_)
  · have ne : x1 ≠ x1y := by simpa using hc
    exact And.intro (congrArg Value.bool (decide_eq_false fun e => by cases e; exact ne rfl).symm) rfl
  have q1 : x1 = x1y := by simpa using hc
  subst q1
  refine And.intro (fun hc => ?_) (fun hc => ?_)
  · have ne : x2 ≠ x2y := by simpa using hc
    exact And.intro (congrArg Value.bool (decide_eq_false fun e => by cases e; exact ne rfl).symm) rfl
  have q2 : x2 = x2y := by simpa using hc
  subst q2
  exact And.intro (congrArg Value.bool (decide_eq_true rfl).symm) rfl

theorem t_eqEdgeS (h : Hp) (a : Option Addr) (n c : Nat) (a' : Option Addr) (n' c' : Nat) (xs ys : LEdgeS) (hx : wEdgeS.R h [.slice a n c] xs) (hy : wEdgeS.R h [.slice a' n' c'] ys) :
    Tr Tryz.prog 62 #[.slice a n c, .slice a' n' c'] h fun v h' => v = .bool (decide (xs = ys)) ∧ h' = h := by
  obtain ⟨rfl, hn⟩ := Sl.len hx
  obtain ⟨rfl, hn'⟩ := Sl.len hy
  refine walk (args := [.slice a xs.length c, .slice a' ys.length c']) (fn := Tryz.f62) rfl ?_
  refine And.intro (fun hc => ?_) (fun hc => ?_)
  · refine And.intro (congrArg Value.bool ?_) rfl
    have : xs.length ≠ ys.length := by simp at hc; omega
    exact (decide_eq_false fun e => this (by rw [e])).symm
  have hlen : xs.length = ys.length := by simp at hc; omega
  refine Exists.intro { vars := [5], boxes := [], owns := [] } (Exists.intro (fun vs _ h' => ∃ k : Nat, k ≤ xs.length ∧ xs.take k = ys.take k ∧ vs = [.int .i64 k] ∧ h' = h) (Exists.intro (fun vs _ => match vs with | [.int _ j] => ((xs.length : Int) - j).toNat | _ => 0) ?_))
  refine And.intro ⟨0, by omega, by simp, rfl, rfl⟩ ?_
  rintro _ h1 ⟨k, hk, hall, ⟨⟩, rfl⟩
  refine And.intro (fun hc2 => ?_) (fun hc2 => ?_)
  · have hlt : k < xs.length := by simpa using hc2
    obtain ⟨x, gx⟩ := has_get hlt
    obtain ⟨y, gy⟩ := has_get (l := ys) (k := k) (by omega)
    obtain ⟨b1, cs1, e1, i1⟩ := Sl.get hx gx (by decide)
    obtain ⟨b2, cs2, e2, i2⟩ := Sl.get hy gy (by decide)
    have hw := wsucc hlt hn
    obtain ⟨x0, x1, x2, rfl, rfl, g0, g1, g2⟩ := openEdge i1
    obtain ⟨x0y, x1y, x2y, rfl, rfl, g0y, g1y, g2y⟩ := openEdge i2
    refine Or.inl (And.intro (And.intro (by kernel_rfl) (by kernel_rfl)) ?_)
    refine And.intro b1 (Exists.intro _ (And.intro e1 (And.intro b2 (Exists.intro _ (And.intro e2 ?_)))))
    refine Exists.intro (.bool _) (And.intro (t_eqEdge _ [.int .i64 x0, .int .i64 x1, .int .i64 x2] [.int .i64 x0y, .int .i64 x1y, .int .i64 x2y] (x0, x1, x2) (x0y, x1y, x2y) (closeEdge g0 g1 g2) (closeEdge g0y g1y g2y)) ?_)
    refine And.intro (fun hc3 => ?_) (fun hc3 => ?_)
    · refine And.intro (congrArg Value.bool ?_) rfl
      have hne : (x0, x1, x2) ≠ (x0y, x1y, x2y) := not_dec hc3
      exact (decide_eq_false fun e => hne (Option.some.inj (gx.symm.trans ((congrArg (fun l : LEdgeS => l[k]?) e).trans gy)))).symm
    · have heq : (x0, x1, x2) = (x0y, x1y, x2y) := not_dec' hc3
      refine And.intro rfl (And.intro (by first | exact trivial | exact And.intro rfl trivial | exact And.intro rfl (And.intro rfl trivial) | exact And.intro rfl (And.intro rfl (And.intro rfl trivial)) | exact And.intro rfl (And.intro rfl (And.intro rfl (And.intro rfl trivial)))) (And.intro (by first | exact trivial | exact And.intro rfl trivial | exact And.intro rfl (And.intro rfl trivial) | exact And.intro rfl (And.intro rfl (And.intro rfl trivial)) | exact And.intro rfl (And.intro rfl (And.intro rfl (And.intro rfl trivial)))) (And.intro ?_ ?_)))
      · refine ⟨k + 1, by omega, by rw [take_snoc gx, take_snoc gy, hall, heq], ?_, rfl⟩
        rw [← hw]
      · show ((xs.length : Int) - IntKind.i64.wrap ((k : Int) + 1)).toNat < ((xs.length : Int) - (k : Int)).toNat
        omega
  · have hk : k = xs.length := by simp at hc2; omega
    refine And.intro (congrArg Value.bool ?_) rfl
    refine (decide_eq_true ?_).symm
    subst hk
    rwa [List.take_length, hlen, List.take_length] at hall

theorem t_eqGraph (h : Hp) (cs ds : List Value) (x y : LGraph) (hx : wGraph.R h cs x) (hy : wGraph.R h ds y) :
    Tr Tryz.prog 26 #[.agg cs.toArray, .agg ds.toArray] h fun v h' => v = .bool (decide (x = y)) ∧ h' = h := by
  obtain ⟨x0, x1, a2, n2, c2, x2, rfl, rfl, h0, h1, h2⟩ := openGraph hx
  obtain ⟨x0y, x1y, a2y, n2y, c2y, x2y, rfl, rfl, h0y, h1y, h2y⟩ := openGraph hy
  refine walk (args := [.agg #[.int .i64 x0, .int .i64 x1, .slice a2 n2 c2], .agg #[.int .i64 x0y, .int .i64 x1y, .slice a2y n2y c2y]]) (fn := Tryz.f26) rfl ?_
  refine And.intro (fun hc => ?_) (fun hc => ?_)
  · have ne : x0 ≠ x0y := by simpa using hc
    exact And.intro (congrArg Value.bool (decide_eq_false fun e => by cases e; exact ne rfl).symm) rfl
  have q0 : x0 = x0y := by simpa using hc
  subst q0
  refine And.intro (fun hc => ?_) (fun hc => ?_)
  · have ne : x1 ≠ x1y := by simpa using hc
    exact And.intro (congrArg Value.bool (decide_eq_false fun e => by cases e; exact ne rfl).symm) rfl
  have q1 : x1 = x1y := by simpa using hc
  subst q1
  refine Tr.val (t_eqEdgeS h a2 n2 c2 a2y n2y c2y x2 x2y h2 h2y) ?_
  refine And.intro (fun hc => ?_) (fun hc => ?_)
  · have ne : x2 ≠ x2y := not_dec hc
    exact And.intro (congrArg Value.bool (decide_eq_false fun e => by cases e; exact ne rfl).symm) rfl
  have q2 : x2 = x2y := not_dec' hc
  subst q2
  exact And.intro (congrArg Value.bool (decide_eq_true rfl).symm) rfl

theorem t_eqIntS (h : Hp) (a : Option Addr) (n c : Nat) (a' : Option Addr) (n' c' : Nat) (xs ys : LIntS) (hx : wIntS.R h [.slice a n c] xs) (hy : wIntS.R h [.slice a' n' c'] ys) :
    Tr Tryz.prog 125 #[.slice a n c, .slice a' n' c'] h fun v h' => v = .bool (decide (xs = ys)) ∧ h' = h := by
  obtain ⟨rfl, hn⟩ := Sl.len hx
  obtain ⟨rfl, hn'⟩ := Sl.len hy
  refine walk (args := [.slice a xs.length c, .slice a' ys.length c']) (fn := Tryz.f125) rfl ?_
  refine And.intro (fun hc => ?_) (fun hc => ?_)
  · refine And.intro (congrArg Value.bool ?_) rfl
    have : xs.length ≠ ys.length := by simp at hc; omega
    exact (decide_eq_false fun e => this (by rw [e])).symm
  have hlen : xs.length = ys.length := by simp at hc; omega
  refine Exists.intro { vars := [5], boxes := [], owns := [] } (Exists.intro (fun vs _ h' => ∃ k : Nat, k ≤ xs.length ∧ xs.take k = ys.take k ∧ vs = [.int .i64 k] ∧ h' = h) (Exists.intro (fun vs _ => match vs with | [.int _ j] => ((xs.length : Int) - j).toNat | _ => 0) ?_))
  refine And.intro ⟨0, by omega, by simp, rfl, rfl⟩ ?_
  rintro _ h1 ⟨k, hk, hall, ⟨⟩, rfl⟩
  refine And.intro (fun hc2 => ?_) (fun hc2 => ?_)
  · have hlt : k < xs.length := by simpa using hc2
    obtain ⟨x, gx⟩ := has_get hlt
    obtain ⟨y, gy⟩ := has_get (l := ys) (k := k) (by omega)
    obtain ⟨b1, cs1, e1, i1⟩ := Sl.get hx gx (by decide)
    obtain ⟨b2, cs2, e2, i2⟩ := Sl.get hy gy (by decide)
    have hw := wsucc hlt hn
    obtain ⟨rfl, _⟩ := i1
    obtain ⟨rfl, _⟩ := i2
    refine Or.inl (And.intro (And.intro (by kernel_rfl) (by kernel_rfl)) ?_)
    refine And.intro b1 (Exists.intro _ (And.intro e1 (And.intro b2 (Exists.intro _ (And.intro e2 ?_)))))
    refine And.intro (fun hc3 => ?_) (fun hc3 => ?_)
    · refine And.intro (congrArg Value.bool ?_) rfl
      have hne : x ≠ y := by simpa using hc3
      exact (decide_eq_false fun e => hne (Option.some.inj (gx.symm.trans ((congrArg (fun l : LIntS => l[k]?) e).trans gy)))).symm
    · have heq : x = y := by simpa using hc3
      refine And.intro rfl (And.intro (by first | exact trivial | exact And.intro rfl trivial | exact And.intro rfl (And.intro rfl trivial) | exact And.intro rfl (And.intro rfl (And.intro rfl trivial)) | exact And.intro rfl (And.intro rfl (And.intro rfl (And.intro rfl trivial)))) (And.intro (by first | exact trivial | exact And.intro rfl trivial | exact And.intro rfl (And.intro rfl trivial) | exact And.intro rfl (And.intro rfl (And.intro rfl trivial)) | exact And.intro rfl (And.intro rfl (And.intro rfl (And.intro rfl trivial)))) (And.intro ?_ ?_)))
      · refine ⟨k + 1, by omega, by rw [take_snoc gx, take_snoc gy, hall, heq], ?_, rfl⟩
        rw [← hw]
      · show ((xs.length : Int) - IntKind.i64.wrap ((k : Int) + 1)).toNat < ((xs.length : Int) - (k : Int)).toNat
        omega
  · have hk : k = xs.length := by simp at hc2; omega
    refine And.intro (congrArg Value.bool ?_) rfl
    refine (decide_eq_true ?_).symm
    subst hk
    rwa [List.take_length, hlen, List.take_length] at hall

theorem t_eqIntSS (h : Hp) (a : Option Addr) (n c : Nat) (a' : Option Addr) (n' c' : Nat) (xs ys : LIntSS) (hx : wIntSS.R h [.slice a n c] xs) (hy : wIntSS.R h [.slice a' n' c'] ys) :
    Tr Tryz.prog 82 #[.slice a n c, .slice a' n' c'] h fun v h' => v = .bool (decide (xs = ys)) ∧ h' = h := by
  obtain ⟨rfl, hn⟩ := Sl.len hx
  obtain ⟨rfl, hn'⟩ := Sl.len hy
  refine walk (args := [.slice a xs.length c, .slice a' ys.length c']) (fn := Tryz.f82) rfl ?_
  refine And.intro (fun hc => ?_) (fun hc => ?_)
  · refine And.intro (congrArg Value.bool ?_) rfl
    have : xs.length ≠ ys.length := by simp at hc; omega
    exact (decide_eq_false fun e => this (by rw [e])).symm
  have hlen : xs.length = ys.length := by simp at hc; omega
  refine Exists.intro { vars := [5], boxes := [], owns := [] } (Exists.intro (fun vs _ h' => ∃ k : Nat, k ≤ xs.length ∧ xs.take k = ys.take k ∧ vs = [.int .i64 k] ∧ h' = h) (Exists.intro (fun vs _ => match vs with | [.int _ j] => ((xs.length : Int) - j).toNat | _ => 0) ?_))
  refine And.intro ⟨0, by omega, by simp, rfl, rfl⟩ ?_
  rintro _ h1 ⟨k, hk, hall, ⟨⟩, rfl⟩
  refine And.intro (fun hc2 => ?_) (fun hc2 => ?_)
  · have hlt : k < xs.length := by simpa using hc2
    obtain ⟨x, gx⟩ := has_get hlt
    obtain ⟨y, gy⟩ := has_get (l := ys) (k := k) (by omega)
    obtain ⟨b1, cs1, e1, i1⟩ := Sl.get hx gx (by decide)
    obtain ⟨b2, cs2, e2, i2⟩ := Sl.get hy gy (by decide)
    have hw := wsucc hlt hn
    obtain ⟨a1, n1, c1, rfl⟩ := Wp.slice_cell i1
    obtain ⟨a2, n2, c2, rfl⟩ := Wp.slice_cell i2
    refine Or.inl (And.intro (And.intro (by kernel_rfl) (by kernel_rfl)) ?_)
    refine And.intro b1 (Exists.intro _ (And.intro e1 (And.intro b2 (Exists.intro _ (And.intro e2 ?_)))))
    refine Exists.intro (.bool _) (And.intro (t_eqIntS _ _ _ _ _ _ _ x y i1 i2) ?_)
    refine And.intro (fun hc3 => ?_) (fun hc3 => ?_)
    · refine And.intro (congrArg Value.bool ?_) rfl
      have hne : x ≠ y := not_dec hc3
      exact (decide_eq_false fun e => hne (Option.some.inj (gx.symm.trans ((congrArg (fun l : LIntSS => l[k]?) e).trans gy)))).symm
    · have heq : x = y := not_dec' hc3
      refine And.intro rfl (And.intro (by first | exact trivial | exact And.intro rfl trivial | exact And.intro rfl (And.intro rfl trivial) | exact And.intro rfl (And.intro rfl (And.intro rfl trivial)) | exact And.intro rfl (And.intro rfl (And.intro rfl (And.intro rfl trivial)))) (And.intro (by first | exact trivial | exact And.intro rfl trivial | exact And.intro rfl (And.intro rfl trivial) | exact And.intro rfl (And.intro rfl (And.intro rfl trivial)) | exact And.intro rfl (And.intro rfl (And.intro rfl (And.intro rfl trivial)))) (And.intro ?_ ?_)))
      · refine ⟨k + 1, by omega, by rw [take_snoc gx, take_snoc gy, hall, heq], ?_, rfl⟩
        rw [← hw]
      · show ((xs.length : Int) - IntKind.i64.wrap ((k : Int) + 1)).toNat < ((xs.length : Int) - (k : Int)).toNat
        omega
  · have hk : k = xs.length := by simp at hc2; omega
    refine And.intro (congrArg Value.bool ?_) rfl
    refine (decide_eq_true ?_).symm
    subst hk
    rwa [List.take_length, hlen, List.take_length] at hall

theorem t_eqPresentation (h : Hp) (cs ds : List Value) (x y : LPresentation) (hx : wPresentation.R h cs x) (hy : wPresentation.R h ds y) :
    Tr Tryz.prog 32 #[.agg cs.toArray, .agg ds.toArray] h fun v h' => v = .bool (decide (x = y)) ∧ h' = h := by
  obtain ⟨x0, a1, n1, c1, x1, rfl, rfl, h0, h1⟩ := openPresentation hx
  obtain ⟨x0y, a1y, n1y, c1y, x1y, rfl, rfl, h0y, h1y⟩ := openPresentation hy
  refine walk (args := [.agg #[.int .i64 x0, .slice a1 n1 c1], .agg #[.int .i64 x0y, .slice a1y n1y c1y]]) (fn := Tryz.f32) rfl ?_
  refine And.intro (fun hc => ?_) (fun hc => ?_)
  · have ne : x0 ≠ x0y := by simpa using hc
    exact And.intro (congrArg Value.bool (decide_eq_false fun e => by cases e; exact ne rfl).symm) rfl
  have q0 : x0 = x0y := by simpa using hc
  subst q0
  refine Tr.val (t_eqIntSS h a1 n1 c1 a1y n1y c1y x1 x1y h1 h1y) ?_
  refine And.intro (fun hc => ?_) (fun hc => ?_)
  · have ne : x1 ≠ x1y := not_dec hc
    exact And.intro (congrArg Value.bool (decide_eq_false fun e => by cases e; exact ne rfl).symm) rfl
  have q1 : x1 = x1y := not_dec' hc
  subst q1
  exact And.intro (congrArg Value.bool (decide_eq_true rfl).symm) rfl

theorem t_eqEntry (h : Hp) (cs ds : List Value) (x y : LEntry) (hx : wEntry.R h cs x) (hy : wEntry.R h ds y) :
    Tr Tryz.prog 90 #[.agg cs.toArray, .agg ds.toArray] h fun v h' => v = .bool (decide (x = y)) ∧ h' = h := by
  obtain ⟨x0, x1_0, x1_1, a1_2, n1_2, c1_2, x1_2, rfl, rfl, h0, h1_0, h1_1, h1_2⟩ := openEntry hx
  obtain ⟨x0y, x1_0y, x1_1y, a1_2y, n1_2y, c1_2y, x1_2y, rfl, rfl, h0y, h1_0y, h1_1y, h1_2y⟩ := openEntry hy
  refine walk (args := [.agg #[.string x0, .int .i64 x1_0, .int .i64 x1_1, .slice a1_2 n1_2 c1_2], .agg #[.string x0y, .int .i64 x1_0y, .int .i64 x1_1y, .slice a1_2y n1_2y c1_2y]]) (fn := Tryz.f90) rfl ?_
  refine And.intro (fun hc => ?_) (fun hc => ?_)
  · have ne : x0 ≠ x0y := strNe hc
    exact And.intro (congrArg Value.bool (decide_eq_false fun e => by cases e; exact ne rfl).symm) rfl
  have q0 : x0 = x0y := strEq hc
  subst q0
  refine Tr.val (t_eqGraph h [.int .i64 x1_0, .int .i64 x1_1, .slice a1_2 n1_2 c1_2] [.int .i64 x1_0y, .int .i64 x1_1y, .slice a1_2y n1_2y c1_2y] (x1_0, x1_1, x1_2) (x1_0y, x1_1y, x1_2y) (closeGraph h1_0 h1_1 h1_2) (closeGraph h1_0y h1_1y h1_2y)) ?_
  refine And.intro (fun hc => ?_) (fun hc => ?_)
  · have ne : (x1_0, x1_1, x1_2) ≠ (x1_0y, x1_1y, x1_2y) := not_dec hc
    exact And.intro (congrArg Value.bool (decide_eq_false fun e => by cases e; exact ne rfl).symm) rfl
  have q1 : (x1_0, x1_1, x1_2) = (x1_0y, x1_1y, x1_2y) := not_dec' hc
  cases q1
  exact And.intro (congrArg Value.bool (decide_eq_true rfl).symm) rfl

theorem t_eqEntryS (h : Hp) (a : Option Addr) (n c : Nat) (a' : Option Addr) (n' c' : Nat) (xs ys : LEntryS) (hx : wEntryS.R h [.slice a n c] xs) (hy : wEntryS.R h [.slice a' n' c'] ys) :
    Tr Tryz.prog 43 #[.slice a n c, .slice a' n' c'] h fun v h' => v = .bool (decide (xs = ys)) ∧ h' = h := by
  obtain ⟨rfl, hn⟩ := Sl.len hx
  obtain ⟨rfl, hn'⟩ := Sl.len hy
  refine walk (args := [.slice a xs.length c, .slice a' ys.length c']) (fn := Tryz.f43) rfl ?_
  refine And.intro (fun hc => ?_) (fun hc => ?_)
  · refine And.intro (congrArg Value.bool ?_) rfl
    have : xs.length ≠ ys.length := by simp at hc; omega
    exact (decide_eq_false fun e => this (by rw [e])).symm
  have hlen : xs.length = ys.length := by simp at hc; omega
  refine Exists.intro { vars := [5], boxes := [], owns := [] } (Exists.intro (fun vs _ h' => ∃ k : Nat, k ≤ xs.length ∧ xs.take k = ys.take k ∧ vs = [.int .i64 k] ∧ h' = h) (Exists.intro (fun vs _ => match vs with | [.int _ j] => ((xs.length : Int) - j).toNat | _ => 0) ?_))
  refine And.intro ⟨0, by omega, by simp, rfl, rfl⟩ ?_
  rintro _ h1 ⟨k, hk, hall, ⟨⟩, rfl⟩
  refine And.intro (fun hc2 => ?_) (fun hc2 => ?_)
  · have hlt : k < xs.length := by simpa using hc2
    obtain ⟨x, gx⟩ := has_get hlt
    obtain ⟨y, gy⟩ := has_get (l := ys) (k := k) (by omega)
    obtain ⟨b1, cs1, e1, i1⟩ := Sl.get hx gx (by decide)
    obtain ⟨b2, cs2, e2, i2⟩ := Sl.get hy gy (by decide)
    have hw := wsucc hlt hn
    obtain ⟨x0, x1_0, x1_1, a1_2, n1_2, c1_2, x1_2, rfl, rfl, g0, g1_0, g1_1, g1_2⟩ := openEntry i1
    obtain ⟨x0y, x1_0y, x1_1y, a1_2y, n1_2y, c1_2y, x1_2y, rfl, rfl, g0y, g1_0y, g1_1y, g1_2y⟩ := openEntry i2
    refine Or.inl (And.intro (And.intro (by kernel_rfl) (by kernel_rfl)) ?_)
    refine And.intro b1 (Exists.intro _ (And.intro e1 (And.intro b2 (Exists.intro _ (And.intro e2 ?_)))))
    refine Exists.intro (.bool _) (And.intro (t_eqEntry _ [.string x0, .int .i64 x1_0, .int .i64 x1_1, .slice a1_2 n1_2 c1_2] [.string x0y, .int .i64 x1_0y, .int .i64 x1_1y, .slice a1_2y n1_2y c1_2y] (x0, (x1_0, x1_1, x1_2)) (x0y, (x1_0y, x1_1y, x1_2y)) (closeEntry g0 g1_0 g1_1 g1_2) (closeEntry g0y g1_0y g1_1y g1_2y)) ?_)
    refine And.intro (fun hc3 => ?_) (fun hc3 => ?_)
    · refine And.intro (congrArg Value.bool ?_) rfl
      have hne : (x0, (x1_0, x1_1, x1_2)) ≠ (x0y, (x1_0y, x1_1y, x1_2y)) := not_dec hc3
      exact (decide_eq_false fun e => hne (Option.some.inj (gx.symm.trans ((congrArg (fun l : LEntryS => l[k]?) e).trans gy)))).symm
    · have heq : (x0, (x1_0, x1_1, x1_2)) = (x0y, (x1_0y, x1_1y, x1_2y)) := not_dec' hc3
      refine And.intro rfl (And.intro (by first | exact trivial | exact And.intro rfl trivial | exact And.intro rfl (And.intro rfl trivial) | exact And.intro rfl (And.intro rfl (And.intro rfl trivial)) | exact And.intro rfl (And.intro rfl (And.intro rfl (And.intro rfl trivial)))) (And.intro (by first | exact trivial | exact And.intro rfl trivial | exact And.intro rfl (And.intro rfl trivial) | exact And.intro rfl (And.intro rfl (And.intro rfl trivial)) | exact And.intro rfl (And.intro rfl (And.intro rfl (And.intro rfl trivial)))) (And.intro ?_ ?_)))
      · refine ⟨k + 1, by omega, by rw [take_snoc gx, take_snoc gy, hall, heq], ?_, rfl⟩
        rw [← hw]
      · show ((xs.length : Int) - IntKind.i64.wrap ((k : Int) + 1)).toNat < ((xs.length : Int) - (k : Int)).toNat
        omega
  · have hk : k = xs.length := by simp at hc2; omega
    refine And.intro (congrArg Value.bool ?_) rfl
    refine (decide_eq_true ?_).symm
    subst hk
    rwa [List.take_length, hlen, List.take_length] at hall

theorem t_eqLibrary (h : Hp) (cs ds : List Value) (x y : LLibrary) (hx : wLibrary.R h cs x) (hy : wLibrary.R h ds y) :
    Tr Tryz.prog 12 #[.agg cs.toArray, .agg ds.toArray] h fun v h' => v = .bool (decide (x = y)) ∧ h' = h := by
  obtain ⟨x0, a1, n1, c1, x1, rfl, rfl, h0, h1⟩ := openLibrary hx
  obtain ⟨x0y, a1y, n1y, c1y, x1y, rfl, rfl, h0y, h1y⟩ := openLibrary hy
  refine walk (args := [.agg #[.int .i64 x0, .slice a1 n1 c1], .agg #[.int .i64 x0y, .slice a1y n1y c1y]]) (fn := Tryz.f12) rfl ?_
  refine And.intro (fun hc => ?_) (fun hc => ?_)
  · have ne : x0 ≠ x0y := by simpa using hc
    exact And.intro (congrArg Value.bool (decide_eq_false fun e => by cases e; exact ne rfl).symm) rfl
  have q0 : x0 = x0y := by simpa using hc
  subst q0
  refine Tr.val (t_eqEntryS h a1 n1 c1 a1y n1y c1y x1 x1y h1 h1y) ?_
  refine And.intro (fun hc => ?_) (fun hc => ?_)
  · have ne : x1 ≠ x1y := not_dec hc
    exact And.intro (congrArg Value.bool (decide_eq_false fun e => by cases e; exact ne rfl).symm) rfl
  have q1 : x1 = x1y := not_dec' hc
  subst q1
  exact And.intro (congrArg Value.bool (decide_eq_true rfl).symm) rfl

theorem t_eqGraphS (h : Hp) (a : Option Addr) (n c : Nat) (a' : Option Addr) (n' c' : Nat) (xs ys : LGraphS) (hx : wGraphS.R h [.slice a n c] xs) (hy : wGraphS.R h [.slice a' n' c'] ys) :
    Tr Tryz.prog 15 #[.slice a n c, .slice a' n' c'] h fun v h' => v = .bool (decide (xs = ys)) ∧ h' = h := by
  obtain ⟨rfl, hn⟩ := Sl.len hx
  obtain ⟨rfl, hn'⟩ := Sl.len hy
  refine walk (args := [.slice a xs.length c, .slice a' ys.length c']) (fn := Tryz.f15) rfl ?_
  refine And.intro (fun hc => ?_) (fun hc => ?_)
  · refine And.intro (congrArg Value.bool ?_) rfl
    have : xs.length ≠ ys.length := by simp at hc; omega
    exact (decide_eq_false fun e => this (by rw [e])).symm
  have hlen : xs.length = ys.length := by simp at hc; omega
  refine Exists.intro { vars := [5], boxes := [], owns := [] } (Exists.intro (fun vs _ h' => ∃ k : Nat, k ≤ xs.length ∧ xs.take k = ys.take k ∧ vs = [.int .i64 k] ∧ h' = h) (Exists.intro (fun vs _ => match vs with | [.int _ j] => ((xs.length : Int) - j).toNat | _ => 0) ?_))
  refine And.intro ⟨0, by omega, by simp, rfl, rfl⟩ ?_
  rintro _ h1 ⟨k, hk, hall, ⟨⟩, rfl⟩
  refine And.intro (fun hc2 => ?_) (fun hc2 => ?_)
  · have hlt : k < xs.length := by simpa using hc2
    obtain ⟨x, gx⟩ := has_get hlt
    obtain ⟨y, gy⟩ := has_get (l := ys) (k := k) (by omega)
    obtain ⟨b1, cs1, e1, i1⟩ := Sl.get hx gx (by decide)
    obtain ⟨b2, cs2, e2, i2⟩ := Sl.get hy gy (by decide)
    have hw := wsucc hlt hn
    obtain ⟨x0, x1, a2, n2, c2, x2, rfl, rfl, g0, g1, g2⟩ := openGraph i1
    obtain ⟨x0y, x1y, a2y, n2y, c2y, x2y, rfl, rfl, g0y, g1y, g2y⟩ := openGraph i2
    refine Or.inl (And.intro (And.intro (by kernel_rfl) (by kernel_rfl)) ?_)
    refine And.intro b1 (Exists.intro _ (And.intro e1 (And.intro b2 (Exists.intro _ (And.intro e2 ?_)))))
    refine Exists.intro (.bool _) (And.intro (t_eqGraph _ [.int .i64 x0, .int .i64 x1, .slice a2 n2 c2] [.int .i64 x0y, .int .i64 x1y, .slice a2y n2y c2y] (x0, x1, x2) (x0y, x1y, x2y) (closeGraph g0 g1 g2) (closeGraph g0y g1y g2y)) ?_)
    refine And.intro (fun hc3 => ?_) (fun hc3 => ?_)
    · refine And.intro (congrArg Value.bool ?_) rfl
      have hne : (x0, x1, x2) ≠ (x0y, x1y, x2y) := not_dec hc3
      exact (decide_eq_false fun e => hne (Option.some.inj (gx.symm.trans ((congrArg (fun l : LGraphS => l[k]?) e).trans gy)))).symm
    · have heq : (x0, x1, x2) = (x0y, x1y, x2y) := not_dec' hc3
      refine And.intro rfl (And.intro (by first | exact trivial | exact And.intro rfl trivial | exact And.intro rfl (And.intro rfl trivial) | exact And.intro rfl (And.intro rfl (And.intro rfl trivial)) | exact And.intro rfl (And.intro rfl (And.intro rfl (And.intro rfl trivial)))) (And.intro (by first | exact trivial | exact And.intro rfl trivial | exact And.intro rfl (And.intro rfl trivial) | exact And.intro rfl (And.intro rfl (And.intro rfl trivial)) | exact And.intro rfl (And.intro rfl (And.intro rfl (And.intro rfl trivial)))) (And.intro ?_ ?_)))
      · refine ⟨k + 1, by omega, by rw [take_snoc gx, take_snoc gy, hall, heq], ?_, rfl⟩
        rw [← hw]
      · show ((xs.length : Int) - IntKind.i64.wrap ((k : Int) + 1)).toNat < ((xs.length : Int) - (k : Int)).toNat
        omega
  · have hk : k = xs.length := by simp at hc2; omega
    refine And.intro (congrArg Value.bool ?_) rfl
    refine (decide_eq_true ?_).symm
    subst hk
    rwa [List.take_length, hlen, List.take_length] at hall

end Go.Proofs.YthccjgkmmclplaaGreat
