/- What HallCount does. -/
import Derived.Test.YtdhephfnmmllnaaC3
namespace Go.Proofs.Ytdhephfnmmllnaa
open Go.H
set_option linter.unusedVariables false
set_option maxRecDepth 10000

def powW (x : Int) : Nat → Int
  | 0 => 1
  | n + 1 => IntKind.i64.wrap (powW x n * x)

theorem t_l28Power (h : Hp) (x k : Int) (hk : In64 k) : Tr Try.prog 29 #[.int .i64 x, .int .i64 k] h fun v h' => v = .int .i64 (powW x k.toNat) ∧ h' = h := by
  obtain ⟨hk1, hk2⟩ := hk
  refine walk (args := [.int .i64 x, .int .i64 k]) (fn := Try.f29) rfl ?_
  refine Exists.intro ⟨[5, 6], [], [], [], []⟩ (Exists.intro (fun vs _ h' => ∃ n : Nat, n ≤ k.toNat ∧ vs = [.int .i64 (powW x n), .int .i64 n] ∧ h' = h) (Exists.intro (fun vs _ => match vs with | [_, .int _ j] => (k - j).toNat | _ => 0) ?_))
  refine And.intro ⟨0, by omega, rfl, rfl⟩ ?_
  rintro _ _ _ ⟨n, hn, ⟨⟩, rfl⟩
  refine And.intro (fun hc => ?_) (fun hc => ?_)
  · have hlt : (n : Int) < k := by simpa using hc
    have hw : IntKind.i64.wrap ((n : Int) + 1) = ((n + 1 : Nat) : Int) := by rw [w64 (by omega) (by omega)]; omega
    refine And.intro rfl (And.intro (by first | exact trivial | exact And.intro rfl trivial | exact And.intro rfl (And.intro rfl trivial) | exact And.intro rfl (And.intro rfl (And.intro rfl trivial)) | exact And.intro rfl (And.intro rfl (And.intro rfl (And.intro rfl trivial)))) (And.intro (by first | exact trivial | exact And.intro rfl trivial | exact And.intro rfl (And.intro rfl trivial) | exact And.intro rfl (And.intro rfl (And.intro rfl trivial)) | exact And.intro rfl (And.intro rfl (And.intro rfl (And.intro rfl trivial)))) (And.intro ?_ ?_)))
    · refine ⟨n + 1, by omega, ?_, rfl⟩
      rw [← hw]
      rfl
    · show (k - IntKind.i64.wrap ((n : Int) + 1)).toNat < (k - (n : Int)).toNat
      omega
  · have hge : n = k.toNat := by simp at hc; omega
    subst hge
    exact And.intro rfl rfl

theorem t_HallPower (h : Hp) (x r : Int) (b : Nat) (ty : TypeId) (hr : 1 ≤ r ∧ r ≤ 3) (hb : h b = some (.cells #[.int .i64 r] ty (0, 0))) :
    Tr Try.prog 30 #[.int .i64 x, ptr b 0] h fun v h' => v = .int .i64 (powW (factI x) (r - 1).toNat) ∧ h' = h := by
  have hcell : ∀ Kn : Value → Prop, Kn (.int .i64 r) → ∃ v, ((⟨b, 0, none⟩ : Addr).spot = none ∧ Hp.cell h b 0 = some v) ∧ Kn v := fun Kn hk => ⟨_, ⟨rfl, by simp [Hp.cell, hb]⟩, hk⟩
  refine walk (args := [.int .i64 x, ptr b 0]) (fn := Try.f30) rfl ?_
  refine Exists.intro ⟨[4, 5], [], [], [], []⟩ (Exists.intro (fun vs _ h' => ∃ n : Nat, n ≤ (r - 1).toNat ∧ vs = [.int .i64 (powW (factI x) n), .int .i64 (n + 1)] ∧ h' = h) (Exists.intro (fun vs _ => match vs with | [_, .int _ j] => (r - j).toNat | _ => 0) ?_))
  refine And.intro ⟨0, by omega, rfl, rfl⟩ ?_
  rintro _ _ _ ⟨n, hn, ⟨⟩, rfl⟩
  refine Exists.intro (.int .i64 r) (And.intro ⟨rfl, by simp [Hp.cell, hb]⟩ ?_)
  refine And.intro (fun hc => ?_) (fun hc => ?_)
  · have hlt : (n : Int) + 1 < r := by simpa using hc
    have hw : IntKind.i64.wrap ((n : Int) + 1 + 1) = ((n + 1 : Nat) : Int) + 1 := by rw [w64 (by omega) (by omega)]; omega
    refine Tr.val (t_implFactorialOf _ x) ?_
    refine And.intro rfl (And.intro (by first | exact trivial | exact And.intro rfl trivial | exact And.intro rfl (And.intro rfl trivial) | exact And.intro rfl (And.intro rfl (And.intro rfl trivial)) | exact And.intro rfl (And.intro rfl (And.intro rfl (And.intro rfl trivial)))) (And.intro (by first | exact trivial | exact And.intro rfl trivial | exact And.intro rfl (And.intro rfl trivial) | exact And.intro rfl (And.intro rfl (And.intro rfl trivial)) | exact And.intro rfl (And.intro rfl (And.intro rfl (And.intro rfl trivial)))) (And.intro ?_ ?_)))
    · refine ⟨n + 1, by omega, ?_, rfl⟩
      rw [← hw]
      rfl
    · show (r - IntKind.i64.wrap ((n : Int) + 1 + 1)).toNat < (r - ((n : Int) + 1)).toNat
      omega
  · have hge : n = (r - 1).toNat := by simp at hc; omega
    subst hge
    exact And.intro rfl rfl
end Go.Proofs.Ytdhephfnmmllnaa
