/- What FactorialOf does. -/
import Derived.Test.YtdhephfnmmllnaaC1
namespace Go.Proofs.Ytdhephfnmmllnaa
open Go.H
set_option linter.unusedVariables false
set_option maxRecDepth 10000

def factN : Nat → Nat
  | 0 => 1
  | n + 1 => (n + 1) * factN n
def factI (x : Int) : Int := if 0 ≤ x ∧ x ≤ 12 then (factN x.toNat : Nat) else 0
theorem factN_le : ∀ (n : Nat), n ≤ 12 → factN n ≤ 479001600 := by decide
theorem factN_step (n : Nat) (hn : n < 12) : IntKind.i64.wrap ((factN n : Int) * ((n : Int) + 1)) = (factN (n + 1) : Int) := by
  have h1 := factN_le (n + 1) (by omega)
  have h2 : (factN n : Int) * ((n : Int) + 1) = (factN (n + 1) : Int) := by
    simp only [factN]
    rw [Int.natCast_mul, Int.mul_comm]
    simp
  rw [h2]
  exact w64 (by omega) (by omega)

theorem t_specFactorialOf (h : Hp) (x : Int) : Tr Try.prog 11 #[.int .i64 x] h fun v h' => v = .int .i64 (factI x) ∧ h' = h := by
  refine walk (args := [.int .i64 x]) (fn := Try.f11) rfl ?_
  refine Tr.val (t_l1In h x 0 12) ?_
  refine And.intro (fun hc => ?_) (fun hc => ?_)
  · refine And.intro ?_ rfl
    have hx : ¬ (0 ≤ x ∧ x ≤ 12) := by simp at hc; omega
    rw [factI, if_neg hx]
    rfl
  have hx : 0 ≤ x ∧ x ≤ 12 := by simp at hc; omega
  refine Exists.intro ⟨[3, 4], [], [], [], []⟩ (Exists.intro (fun vs _ h' => ∃ n : Nat, (n : Int) ≤ max x 1 ∧ 1 ≤ n ∧ vs = [.int .i64 (factN n), .int .i64 (n + 1)] ∧ h' = h) (Exists.intro (fun vs _ => match vs with | [_, .int _ k] => (x + 1 - k).toNat | _ => 0) ?_))
  refine And.intro ⟨1, by omega, by omega, rfl, rfl⟩ ?_
  rintro _ _ _ ⟨n, hn, hn1, ⟨⟩, rfl⟩
  refine And.intro (fun hc2 => ?_) (fun hc2 => ?_)
  · have hlt : (n : Int) + 1 ≤ x := by simp at hc2; omega
    have hw : IntKind.i64.wrap ((n : Int) + 1 + 1) = ((n + 1 : Nat) : Int) + 1 := by rw [w64 (by omega) (by omega)]; omega
    refine And.intro rfl (And.intro (by first | exact trivial | exact And.intro rfl trivial | exact And.intro rfl (And.intro rfl trivial) | exact And.intro rfl (And.intro rfl (And.intro rfl trivial)) | exact And.intro rfl (And.intro rfl (And.intro rfl (And.intro rfl trivial)))) (And.intro (by first | exact trivial | exact And.intro rfl trivial | exact And.intro rfl (And.intro rfl trivial) | exact And.intro rfl (And.intro rfl (And.intro rfl trivial)) | exact And.intro rfl (And.intro rfl (And.intro rfl (And.intro rfl trivial)))) (And.intro ?_ ?_)))
    · refine ⟨n + 1, by omega, by omega, ?_, rfl⟩
      rw [← factN_step n (by omega), ← hw]
    · show (x + 1 - IntKind.i64.wrap ((n : Int) + 1 + 1)).toNat < (x + 1 - ((n : Int) + 1)).toNat
      omega
  · refine And.intro ?_ rfl
    have hlt : x < (n : Int) + 1 := by simp at hc2; omega
    rw [factI, if_pos hx]
    by_cases h0 : x = 0
    · have : n = 1 := by omega
      subst this; subst h0; rfl
    · have : x.toNat = n := by omega
      rw [this]
      rfl
theorem t_implFactorialOf (h : Hp) (x : Int) : Tr Try.prog 12 #[.int .i64 x] h fun v h' => v = .int .i64 (factI x) ∧ h' = h := by
  refine walk (args := [.int .i64 x]) (fn := Try.f12) rfl ?_
  refine Tr.val (t_within h x 0 12) ?_
  refine And.intro (fun hc => ?_) (fun hc => ?_)
  · refine And.intro ?_ rfl
    have hx : ¬ (0 ≤ x ∧ x ≤ 12) := by simp at hc; omega
    rw [factI, if_neg hx]
    rfl
  have hx : 0 ≤ x ∧ x ≤ 12 := by simp at hc; omega
  refine Exists.intro ⟨[3, 4], [], [], [], []⟩ (Exists.intro (fun vs _ h' => ∃ n : Nat, (n : Int) ≤ max x 1 ∧ 1 ≤ n ∧ vs = [.int .i64 (factN n), .int .i64 (n + 1)] ∧ h' = h) (Exists.intro (fun vs _ => match vs with | [_, .int _ k] => (x + 1 - k).toNat | _ => 0) ?_))
  refine And.intro ⟨1, by omega, by omega, rfl, rfl⟩ ?_
  rintro _ _ _ ⟨n, hn, hn1, ⟨⟩, rfl⟩
  refine And.intro (fun hc2 => ?_) (fun hc2 => ?_)
  · have hlt : (n : Int) + 1 ≤ x := by simp at hc2; omega
    have hw : IntKind.i64.wrap ((n : Int) + 1 + 1) = ((n + 1 : Nat) : Int) + 1 := by rw [w64 (by omega) (by omega)]; omega
    refine And.intro rfl (And.intro (by first | exact trivial | exact And.intro rfl trivial | exact And.intro rfl (And.intro rfl trivial) | exact And.intro rfl (And.intro rfl (And.intro rfl trivial)) | exact And.intro rfl (And.intro rfl (And.intro rfl (And.intro rfl trivial)))) (And.intro (by first | exact trivial | exact And.intro rfl trivial | exact And.intro rfl (And.intro rfl trivial) | exact And.intro rfl (And.intro rfl (And.intro rfl trivial)) | exact And.intro rfl (And.intro rfl (And.intro rfl (And.intro rfl trivial)))) (And.intro ?_ ?_)))
    · refine ⟨n + 1, by omega, by omega, ?_, rfl⟩
      rw [← factN_step n (by omega), ← hw]
    · show (x + 1 - IntKind.i64.wrap ((n : Int) + 1 + 1)).toNat < (x + 1 - ((n : Int) + 1)).toNat
      omega
  · refine And.intro ?_ rfl
    have hlt : x < (n : Int) + 1 := by simp at hc2; omega
    rw [factI, if_pos hx]
    by_cases h0 : x = 0
    · have : n = 1 := by omega
      subst this; subst h0; rfl
    · have : x.toNat = n := by omega
      rw [this]
      rfl

theorem t_FnExactFactorialOf (h : Hp) (x : Int) (_ : In64 x) : Tr Try.prog 4 #[.int .i64 x] h fun v h' => v = .bool true ∧ h' = h := by
  refine walk (args := [.int .i64 x]) (fn := Try.f4) rfl ?_
  refine Tr.val (t_specFactorialOf h x) ?_
  refine Tr.val (t_implFactorialOf h x) ?_
  refine And.intro (fun hc => ?_) (fun hc => ?_)
  · exact absurd hc (by simp)
  · exact And.intro rfl rfl
end Go.Proofs.Ytdhephfnmmllnaa
