/- What the equalities of words and lists of words do. -/
import Derived.Test.YtalidbmconldoaaG1
namespace Go.Proofs.Ytalidbmconldoaa
open Go.H
set_option linter.unusedVariables false
set_option linter.unusedSimpArgs false
set_option maxRecDepth 10000

theorem t_specEqualWords (h : Hp) (a : Option Addr) (n c : Nat) (a' : Option Addr) (n' c' : Nat) (xs ys : LIntS) (hx : wIntS.R h [.slice a n c] xs) (hy : wIntS.R h [.slice a' n' c'] ys) :
    Tr Try.prog 93 #[.slice a n c, .slice a' n' c'] h fun v h' => v = .bool (decide (xs = ys)) ∧ h' = h := by
  obtain ⟨rfl, hn⟩ := Sl.len hx
  obtain ⟨rfl, hn'⟩ := Sl.len hy
  refine walk (args := [.slice a xs.length c, .slice a' ys.length c']) (fn := Try.f93) rfl ?_
  refine And.intro (fun hc => ?_) (fun hc => ?_)
  · refine And.intro (congrArg Value.bool ?_) rfl
    have : xs.length ≠ ys.length := by simp at hc; omega
    exact (decide_eq_false fun e => this (by rw [e])).symm
  have hlen : xs.length = ys.length := by simp at hc; omega
  refine Exists.intro { vars := [5], boxes := [], owns := [] } (Exists.intro (fun vs _ h' => ∃ k : Nat, k ≤ xs.length ∧ xs.take k = ys.take k ∧ vs = [.int .i64 k] ∧ h' = h) (Exists.intro (fun vs _ => match vs with | [.int _ j] => ((xs.length : Int) - j).toNat | _ => 0) ?_))
  refine And.intro ⟨0, by omega, by simp, rfl, rfl⟩ ?_
  rintro _ h1 ⟨k, hk, hall, ⟨⟩, rfl⟩
  refine And.intro (fun hc2 => ?_) (fun hc2 => ?_)
  · have hlt : k < xs.length := by simpa using hc2
    obtain ⟨x, gx⟩ := has_get hlt
    obtain ⟨y, gy⟩ := has_get (l := ys) (k := k) (by omega)
    obtain ⟨b1, cs1, e1, i1⟩ := Sl.get hx gx (by decide)
    obtain ⟨b2, cs2, e2, i2⟩ := Sl.get hy gy (by decide)
    have hw := wsucc hlt hn
    obtain ⟨rfl, _⟩ := i1
    obtain ⟨rfl, _⟩ := i2
    refine Or.inl (And.intro (And.intro (by kernel_rfl) (by kernel_rfl)) ?_)
    refine And.intro b1 (Exists.intro _ (And.intro e1 (And.intro b2 (Exists.intro _ (And.intro e2 ?_)))))
    refine And.intro (fun hc3 => ?_) (fun hc3 => ?_)
    · refine And.intro (congrArg Value.bool ?_) rfl
      have hne : x ≠ y := by simpa using hc3
      exact (decide_eq_false fun e => hne (Option.some.inj (gx.symm.trans ((congrArg (fun l : LIntS => l[k]?) e).trans gy)))).symm
    · have heq : x = y := by simpa using hc3
      refine And.intro rfl (And.intro (by first | exact trivial | exact And.intro rfl trivial | exact And.intro rfl (And.intro rfl trivial) | exact And.intro rfl (And.intro rfl (And.intro rfl trivial)) | exact And.intro rfl (And.intro rfl (And.intro rfl (And.intro rfl trivial)))) (And.intro (by first | exact trivial | exact And.intro rfl trivial | exact And.intro rfl (And.intro rfl trivial) | exact And.intro rfl (And.intro rfl (And.intro rfl trivial)) | exact And.intro rfl (And.intro rfl (And.intro rfl (And.intro rfl trivial)))) (And.intro ?_ ?_)))
      · refine ⟨k + 1, by omega, by rw [take_snoc gx, take_snoc gy, hall, heq], ?_, rfl⟩
        rw [← hw]
      · show ((xs.length : Int) - IntKind.i64.wrap ((k : Int) + 1)).toNat < ((xs.length : Int) - (k : Int)).toNat
        omega
  · have hk : k = xs.length := by simp at hc2; omega
    refine And.intro (congrArg Value.bool ?_) rfl
    refine (decide_eq_true ?_).symm
    subst hk
    rwa [List.take_length, hlen, List.take_length] at hall
theorem t_specEqualWordLists (h : Hp) (a : Option Addr) (n c : Nat) (a' : Option Addr) (n' c' : Nat) (xs ys : LIntSS) (hx : wIntSS.R h [.slice a n c] xs) (hy : wIntSS.R h [.slice a' n' c'] ys) :
    Tr Try.prog 92 #[.slice a n c, .slice a' n' c'] h fun v h' => v = .bool (decide (xs = ys)) ∧ h' = h := by
  obtain ⟨rfl, hn⟩ := Sl.len hx
  obtain ⟨rfl, hn'⟩ := Sl.len hy
  refine walk (args := [.slice a xs.length c, .slice a' ys.length c']) (fn := Try.f92) rfl ?_
  refine And.intro (fun hc => ?_) (fun hc => ?_)
  · refine And.intro (congrArg Value.bool ?_) rfl
    have : xs.length ≠ ys.length := by simp at hc; omega
    exact (decide_eq_false fun e => this (by rw [e])).symm
  have hlen : xs.length = ys.length := by simp at hc; omega
  refine Exists.intro { vars := [5], boxes := [], owns := [] } (Exists.intro (fun vs _ h' => ∃ k : Nat, k ≤ xs.length ∧ xs.take k = ys.take k ∧ vs = [.int .i64 k] ∧ h' = h) (Exists.intro (fun vs _ => match vs with | [.int _ j] => ((xs.length : Int) - j).toNat | _ => 0) ?_))
  refine And.intro ⟨0, by omega, by simp, rfl, rfl⟩ ?_
  rintro _ h1 ⟨k, hk, hall, ⟨⟩, rfl⟩
  refine And.intro (fun hc2 => ?_) (fun hc2 => ?_)
  · have hlt : k < xs.length := by simpa using hc2
    obtain ⟨x, gx⟩ := has_get hlt
    obtain ⟨y, gy⟩ := has_get (l := ys) (k := k) (by omega)
    obtain ⟨b1, cs1, e1, i1⟩ := Sl.get hx gx (by decide)
    obtain ⟨b2, cs2, e2, i2⟩ := Sl.get hy gy (by decide)
    have hw := wsucc hlt hn
    obtain ⟨a1, n1, c1, rfl⟩ := Wp.slice_cell i1
    obtain ⟨a2, n2, c2, rfl⟩ := Wp.slice_cell i2
    refine Or.inl (And.intro (And.intro (by kernel_rfl) (by kernel_rfl)) ?_)
    refine And.intro b1 (Exists.intro _ (And.intro e1 (And.intro b2 (Exists.intro _ (And.intro e2 ?_)))))
    refine Exists.intro (.bool _) (And.intro (t_specEqualWords _ _ _ _ _ _ _ x y i1 i2) ?_)
    refine And.intro (fun hc3 => ?_) (fun hc3 => ?_)
    · refine And.intro (congrArg Value.bool ?_) rfl
      have hne : x ≠ y := not_dec hc3
      exact (decide_eq_false fun e => hne (Option.some.inj (gx.symm.trans ((congrArg (fun l : LIntSS => l[k]?) e).trans gy)))).symm
    · have heq : x = y := not_dec' hc3
      refine And.intro rfl (And.intro (by first | exact trivial | exact And.intro rfl trivial | exact And.intro rfl (And.intro rfl trivial) | exact And.intro rfl (And.intro rfl (And.intro rfl trivial)) | exact And.intro rfl (And.intro rfl (And.intro rfl (And.intro rfl trivial)))) (And.intro (by first | exact trivial | exact And.intro rfl trivial | exact And.intro rfl (And.intro rfl trivial) | exact And.intro rfl (And.intro rfl (And.intro rfl trivial)) | exact And.intro rfl (And.intro rfl (And.intro rfl (And.intro rfl trivial)))) (And.intro ?_ ?_)))
      · refine ⟨k + 1, by omega, by rw [take_snoc gx, take_snoc gy, hall, heq], ?_, rfl⟩
        rw [← hw]
      · show ((xs.length : Int) - IntKind.i64.wrap ((k : Int) + 1)).toNat < ((xs.length : Int) - (k : Int)).toNat
        omega
  · have hk : k = xs.length := by simp at hc2; omega
    refine And.intro (congrArg Value.bool ?_) rfl
    refine (decide_eq_true ?_).symm
    subst hk
    rwa [List.take_length, hlen, List.take_length] at hall
theorem t_implEqualWords (h : Hp) (a : Option Addr) (n c : Nat) (a' : Option Addr) (n' c' : Nat) (xs ys : LIntS) (hx : wIntS.R h [.slice a n c] xs) (hy : wIntS.R h [.slice a' n' c'] ys) :
    Tr Try.prog 97 #[.slice a n c, .slice a' n' c'] h fun v h' => v = .bool (decide (xs = ys)) ∧ h' = h := by
  obtain ⟨rfl, hn⟩ := Sl.len hx
  obtain ⟨rfl, hn'⟩ := Sl.len hy
  refine walk (args := [.slice a xs.length c, .slice a' ys.length c']) (fn := Try.f97) rfl ?_
  refine And.intro (fun hc => ?_) (fun hc => ?_)
  · refine And.intro (congrArg Value.bool ?_) rfl
    have : xs.length ≠ ys.length := by simp at hc; omega
    exact (decide_eq_false fun e => this (by rw [e])).symm
  have hlen : xs.length = ys.length := by simp at hc; omega
  refine Exists.intro { vars := [13], boxes := [], owns := [] } (Exists.intro (fun vs _ h' => ∃ k : Nat, k ≤ xs.length ∧ xs.take k = ys.take k ∧ vs = [.int .i64 k] ∧ h' = h) (Exists.intro (fun vs _ => match vs with | [.int _ j] => ((xs.length : Int) - j).toNat | _ => 0) ?_))
  refine And.intro ⟨0, by omega, by simp, rfl, rfl⟩ ?_
  rintro _ h1 ⟨k, hk, hall, ⟨⟩, rfl⟩
  refine And.intro (fun hc2 => ?_) (fun hc2 => ?_)
  · have hlt : k < xs.length := by simpa using hc2
    obtain ⟨x, gx⟩ := has_get hlt
    obtain ⟨y, gy⟩ := has_get (l := ys) (k := k) (by omega)
    obtain ⟨b1, cs1, e1, i1⟩ := Sl.get hx gx (by decide)
    obtain ⟨b2, cs2, e2, i2⟩ := Sl.get hy gy (by decide)
    have hw := wsucc hlt hn
    obtain ⟨rfl, _⟩ := i1
    obtain ⟨rfl, _⟩ := i2
    refine Or.inl (And.intro (And.intro (by kernel_rfl) (by kernel_rfl)) ?_)
    refine And.intro b1 (Exists.intro _ (And.intro e1 (And.intro b2 (Exists.intro _ (And.intro e2 ?_)))))
    refine And.intro (fun hc3 => ?_) (fun hc3 => ?_)
    · refine And.intro (congrArg Value.bool ?_) rfl
      have hne : x ≠ y := by simpa using hc3
      exact (decide_eq_false fun e => hne (Option.some.inj (gx.symm.trans ((congrArg (fun l : LIntS => l[k]?) e).trans gy)))).symm
    · have heq : x = y := by simpa using hc3
      refine And.intro rfl (And.intro (by first | exact trivial | exact And.intro rfl trivial | exact And.intro rfl (And.intro rfl trivial) | exact And.intro rfl (And.intro rfl (And.intro rfl trivial)) | exact And.intro rfl (And.intro rfl (And.intro rfl (And.intro rfl trivial)))) (And.intro (by first | exact trivial | exact And.intro rfl trivial | exact And.intro rfl (And.intro rfl trivial) | exact And.intro rfl (And.intro rfl (And.intro rfl trivial)) | exact And.intro rfl (And.intro rfl (And.intro rfl (And.intro rfl trivial)))) (And.intro ?_ ?_)))
      · refine ⟨k + 1, by omega, by rw [take_snoc gx, take_snoc gy, hall, heq], ?_, rfl⟩
        rw [← hw]
      · show ((xs.length : Int) - IntKind.i64.wrap ((k : Int) + 1)).toNat < ((xs.length : Int) - (k : Int)).toNat
        omega
  · have hk : k = xs.length := by simp at hc2; omega
    refine And.intro (congrArg Value.bool ?_) rfl
    refine (decide_eq_true ?_).symm
    subst hk
    rwa [List.take_length, hlen, List.take_length] at hall
theorem t_implEqualWordLists (h : Hp) (a : Option Addr) (n c : Nat) (a' : Option Addr) (n' c' : Nat) (xs ys : LIntSS) (hx : wIntSS.R h [.slice a n c] xs) (hy : wIntSS.R h [.slice a' n' c'] ys) :
    Tr Try.prog 96 #[.slice a n c, .slice a' n' c'] h fun v h' => v = .bool (decide (xs = ys)) ∧ h' = h := by
  obtain ⟨rfl, hn⟩ := Sl.len hx
  obtain ⟨rfl, hn'⟩ := Sl.len hy
  refine walk (args := [.slice a xs.length c, .slice a' ys.length c']) (fn := Try.f96) rfl ?_
  refine And.intro (fun hc => ?_) (fun hc => ?_)
  · refine And.intro (congrArg Value.bool ?_) rfl
    have : xs.length ≠ ys.length := by simp at hc; omega
    exact (decide_eq_false fun e => this (by rw [e])).symm
  have hlen : xs.length = ys.length := by simp at hc; omega
  refine Exists.intro { vars := [13], boxes := [], owns := [] } (Exists.intro (fun vs _ h' => ∃ k : Nat, k ≤ xs.length ∧ xs.take k = ys.take k ∧ vs = [.int .i64 k] ∧ h' = h) (Exists.intro (fun vs _ => match vs with | [.int _ j] => ((xs.length : Int) - j).toNat | _ => 0) ?_))
  refine And.intro ⟨0, by omega, by simp, rfl, rfl⟩ ?_
  rintro _ h1 ⟨k, hk, hall, ⟨⟩, rfl⟩
  refine And.intro (fun hc2 => ?_) (fun hc2 => ?_)
  · have hlt : k < xs.length := by simpa using hc2
    obtain ⟨x, gx⟩ := has_get hlt
    obtain ⟨y, gy⟩ := has_get (l := ys) (k := k) (by omega)
    obtain ⟨b1, cs1, e1, i1⟩ := Sl.get hx gx (by decide)
    obtain ⟨b2, cs2, e2, i2⟩ := Sl.get hy gy (by decide)
    have hw := wsucc hlt hn
    obtain ⟨a1, n1, c1, rfl⟩ := Wp.slice_cell i1
    obtain ⟨a2, n2, c2, rfl⟩ := Wp.slice_cell i2
    refine Or.inl (And.intro (And.intro (by kernel_rfl) (by kernel_rfl)) ?_)
    refine And.intro b1 (Exists.intro _ (And.intro e1 (And.intro b2 (Exists.intro _ (And.intro e2 ?_)))))
    refine Exists.intro (.bool _) (And.intro (t_implEqualWords _ _ _ _ _ _ _ x y i1 i2) ?_)
    refine And.intro (fun hc3 => ?_) (fun hc3 => ?_)
    · refine And.intro (congrArg Value.bool ?_) rfl
      have hne : x ≠ y := not_dec hc3
      exact (decide_eq_false fun e => hne (Option.some.inj (gx.symm.trans ((congrArg (fun l : LIntSS => l[k]?) e).trans gy)))).symm
    · have heq : x = y := not_dec' hc3
      refine And.intro rfl (And.intro (by first | exact trivial | exact And.intro rfl trivial | exact And.intro rfl (And.intro rfl trivial) | exact And.intro rfl (And.intro rfl (And.intro rfl trivial)) | exact And.intro rfl (And.intro rfl (And.intro rfl (And.intro rfl trivial)))) (And.intro (by first | exact trivial | exact And.intro rfl trivial | exact And.intro rfl (And.intro rfl trivial) | exact And.intro rfl (And.intro rfl (And.intro rfl trivial)) | exact And.intro rfl (And.intro rfl (And.intro rfl (And.intro rfl trivial)))) (And.intro ?_ ?_)))
      · refine ⟨k + 1, by omega, by rw [take_snoc gx, take_snoc gy, hall, heq], ?_, rfl⟩
        rw [← hw]
      · show ((xs.length : Int) - IntKind.i64.wrap ((k : Int) + 1)).toNat < ((xs.length : Int) - (k : Int)).toNat
        omega
  · have hk : k = xs.length := by simp at hc2; omega
    refine And.intro (congrArg Value.bool ?_) rfl
    refine (decide_eq_true ?_).symm
    subst hk
    rwa [List.take_length, hlen, List.take_length] at hall
end Go.Proofs.Ytalidbmconldoaa
