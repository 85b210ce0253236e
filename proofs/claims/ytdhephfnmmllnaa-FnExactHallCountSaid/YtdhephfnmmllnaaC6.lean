/- What HallCount does. -/
import Derived.Test.YtdhephfnmmllnaaC5
namespace Go.Proofs.Ytdhephfnmmllnaa
open Go.H
set_option linter.unusedVariables false
set_option maxRecDepth 10000

def hallIn (r : Int) (m : Nat) (cs : List Int) : Nat → Int
  | 0 => IntKind.i64.wrap ((m : Int) * powW (factI m) (r - 1).toNat)
  | k + 1 => IntKind.i64.wrap (hallIn r m cs k - IntKind.i64.wrap (powW (factI ((m : Int) - (k + 1 : Nat))) (r - 1).toNat * cs.getD (k + 1) 0))
def hallL (r : Int) : Nat → List Int
  | 0 => [0]
  | m + 1 => hallL r m ++ [hallIn r (m + 1) (hallL r m) m]
theorem hallL_length (r : Int) : ∀ m, (hallL r m).length = m + 1
  | 0 => rfl
  | m + 1 => by simp [hallL, hallL_length r m]
def hallI (r n : Int) : Int := if (1 ≤ r ∧ r ≤ 3) ∧ 1 ≤ n ∧ n ≤ 7 then (hallL r n.toNat).getD n.toNat 0 else -1
theorem map_get {l : List Int} {i : Nat} (hi : i < l.length) : (l.map fun x => [Value.int .i64 x])[i]? = some [.int .i64 (l.getD i 0)] := by
  rw [List.getElem?_map, getD_some 0 hi]
  rfl

theorem t_specHallCount (h : Hp) (r n : Int) : Tr Try.prog 15 #[.int .i64 r, .int .i64 n] h fun v h' => v = .int .i64 (hallI r n) ∧ h' = h := by
  refine walk (args := [.int .i64 r, .int .i64 n]) (fn := Try.f15) rfl ?_
  refine Tr.val (t_l1In h r 1 3) ?_
  refine Exists.intro (.bool (decide (1 ≤ n ∧ n ≤ 7))) (And.intro (fun _ => t_l1In _ n 1 7) ?_)
  refine And.intro (fun hc => ?_) (fun hc => ?_)
  · refine And.intro ?_ rfl
    have hx : ¬ ((1 ≤ r ∧ r ≤ 3) ∧ 1 ≤ n ∧ n ≤ 7) := by
      intro h
      simp [h] at hc
    rw [hallI, if_neg hx]
    rfl
  have hx : (1 ≤ r ∧ r ≤ 3) ∧ 1 ≤ n ∧ n ≤ 7 := by
    simp at hc
    omega
  have hw1 : IntKind.i64.wrap (r - 1) = r - 1 := w64 (by omega) (by omega)
  have hin : In64 (IntKind.i64.wrap (r - 1)) := by rw [hw1]; exact ⟨by omega, by omega⟩
  refine Exists.intro ⟨[6], [], [0], [], []⟩ (Exists.intro (fun vs os h' => ∃ m : Nat, m ≤ n ∧ vs = [.int .i64 (m + 1)] ∧ os = [(hallL r m).map fun x => [.int .i64 x]] ∧ h' = h) (Exists.intro (fun vs _ => match vs with | [.int _ j] => (n + 1 - j).toNat | _ => 0) ?_))
  refine And.intro ⟨0, by omega, rfl, rfl, rfl⟩ ?_
  rintro _ _ h1 ⟨m, hm, ⟨⟩, ⟨⟩, rfl⟩
  refine And.intro (fun hc => ?_) (fun hc => ?_)
  · have hlt : (m : Int) + 1 ≤ n := by simpa using hc
    refine Tr.val (t_specFactorialOf _ _) ?_
    refine Tr.val (t_l28Power _ _ _ hin) ?_
    refine Exists.intro ⟨[7, 8], [], [], [], []⟩ (Exists.intro (fun vs _ h' => ∃ k : Nat, k ≤ m ∧ vs = [.int .i64 (hallIn r (m + 1) (hallL r m) k), .int .i64 (k + 1)] ∧ h' = h1) (Exists.intro (fun vs _ => match vs with | [_, .int _ j] => ((m : Int) + 1 - j).toNat | _ => 0) ?_))
    refine And.intro ⟨0, by omega, ?_, rfl⟩ ?_
    · rw [hw1]; rfl
    rintro _ _ _ ⟨k, hk, ⟨⟩, rfl⟩
    refine And.intro (fun hc2 => ?_) (fun hc2 => ?_)
    · have hlt2 : (k : Int) + 1 < (m : Int) + 1 := by simpa using hc2
      refine And.intro (And.intro (by kernel_rfl) (by kernel_rfl)) ?_
      refine Exists.intro (.int .i64 _) (And.intro (t_specFactorialOf _ _) ?_)
      refine Exists.intro (.int .i64 _) (And.intro (t_l28Power _ _ _ hin) ?_)
      refine And.intro ?_ ?_
      · show 0 ≤ (k : Int) + 1 ∧ (k : Int) + 1 < (((hallL r m).map fun x => [Value.int .i64 x]).length : Nat)
        rw [List.length_map, hallL_length]; omega
      refine Exists.intro [.int .i64 ((hallL r m).getD (k + 1) 0)] (And.intro ?_ ?_)
      · exact map_get (by rw [hallL_length]; omega)
      have hw : IntKind.i64.wrap ((k : Int) + 1 + 1) = ((k + 1 : Nat) : Int) + 1 := by rw [w64 (by omega) (by omega)]; omega
      refine And.intro rfl (And.intro (by first | exact trivial | exact And.intro rfl trivial | exact And.intro rfl (And.intro rfl trivial) | exact And.intro rfl (And.intro rfl (And.intro rfl trivial)) | exact And.intro rfl (And.intro rfl (And.intro rfl (And.intro rfl trivial)))) (And.intro (by first | exact trivial | exact And.intro rfl trivial | exact And.intro rfl (And.intro rfl trivial) | exact And.intro rfl (And.intro rfl (And.intro rfl trivial)) | exact And.intro rfl (And.intro rfl (And.intro rfl (And.intro rfl trivial)))) (And.intro ?_ ?_)))
      · refine ⟨k + 1, by omega, ?_, rfl⟩
        have hw3 : IntKind.i64.wrap ((m : Int) + 1 - ((k : Int) + 1)) = ((m + 1 : Nat) : Int) - ((k + 1 : Nat) : Int) := by rw [w64 (by omega) (by omega)]; omega
        show [Value.int .i64 (IntKind.i64.wrap (hallIn r (m + 1) (hallL r m) k - IntKind.i64.wrap (powW (factI (IntKind.i64.wrap ((m : Int) + 1 - ((k : Int) + 1)))) (IntKind.i64.wrap (r - 1)).toNat * (hallL r m).getD (k + 1) 0))), Value.int .i64 (IntKind.i64.wrap ((k : Int) + 1 + 1))] = _
        rw [hw3, hw1, hw]
        rfl
      · show ((m : Int) + 1 - IntKind.i64.wrap ((k : Int) + 1 + 1)).toNat < ((m : Int) + 1 - ((k : Int) + 1)).toNat
        omega
    · have hk : k = m := by simp at hc2; omega
      subst hk
      refine And.intro ?_ ?_
      · show (((hallL r k).map fun x => [Value.int .i64 x]).length + 1) * 8 ≤ 140737488355328
        rw [List.length_map, hallL_length]; omega
      have hw : IntKind.i64.wrap ((k : Int) + 1 + 1) = ((k + 1 : Nat) : Int) + 1 := by rw [w64 (by omega) (by omega)]; omega
      refine And.intro rfl (And.intro (by first | exact trivial | exact And.intro rfl trivial | exact And.intro rfl (And.intro rfl trivial) | exact And.intro rfl (And.intro rfl (And.intro rfl trivial)) | exact And.intro rfl (And.intro rfl (And.intro rfl (And.intro rfl trivial)))) (And.intro (by first | exact trivial | exact And.intro rfl trivial | exact And.intro rfl (And.intro rfl trivial) | exact And.intro rfl (And.intro rfl (And.intro rfl trivial)) | exact And.intro rfl (And.intro rfl (And.intro rfl (And.intro rfl trivial)))) (And.intro ?_ ?_)))
      · refine ⟨k + 1, by omega, ?_, ?_, rfl⟩
        · rw [← hw]
        · show [((hallL r k).map fun x => [Value.int .i64 x]) ++ [[Value.int .i64 (hallIn r (k + 1) (hallL r k) k)]]] = _
          rw [show hallL r (k + 1) = hallL r k ++ [hallIn r (k + 1) (hallL r k) k] from rfl, List.map_append]
          rfl
      · show (n + 1 - IntKind.i64.wrap ((k : Int) + 1 + 1)).toNat < (n + 1 - ((k : Int) + 1)).toNat
        omega
  · have hn : n.toNat = m := by simp at hc; omega
    refine And.intro ?_ ?_
    · show 0 ≤ n ∧ n < (((hallL r m).map fun x => [Value.int .i64 x]).length : Nat)
      rw [List.length_map, hallL_length]; omega
    refine Exists.intro [.int .i64 ((hallL r m).getD n.toNat 0)] (And.intro ?_ ?_)
    · exact map_get (by rw [hallL_length]; omega)
    refine And.intro ?_ rfl
    rw [hallI, if_pos hx, hn]
    rfl

theorem powW_one : ∀ n, powW 1 n = 1
  | 0 => rfl
  | n + 1 => by rw [powW, powW_one n]; rfl
theorem hallL_one (r : Int) : hallL r 1 = [0, 1] := by
  show [0] ++ [IntKind.i64.wrap (((0 + 1 : Nat) : Int) * powW (factI ((0 + 1 : Nat) : Int)) (r - 1).toNat)] = [0, 1]
  rw [show factI ((0 + 1 : Nat) : Int) = 1 from rfl, powW_one]
  rfl

theorem t_implHallCount (h : Hp) (r n : Int) : Tr Try.prog 16 #[.int .i64 r, .int .i64 n] h fun v h' => v = .int .i64 (hallI r n) ∧ h' = h := by
  refine Tr.forget ?_
  refine walk (args := [.int .i64 r, .int .i64 n]) (fn := Try.f16) rfl ?_
  refine Tr.val (t_within h r 1 3) ?_
  refine Exists.intro (.bool (decide (1 ≤ n ∧ n ≤ 7))) (And.intro (fun _ => t_within _ n 1 7) ?_)
  refine And.intro (fun hc => ?_) (fun hc => ?_)
  · refine And.intro ?_ (Sub.refl _)
    have hx : ¬ ((1 ≤ r ∧ r ≤ 3) ∧ 1 ≤ n ∧ n ≤ 7) := by
      intro h
      simp [h] at hc
    rw [hallI, if_neg hx]
    rfl
  have hx : (1 ≤ r ∧ r ≤ 3) ∧ 1 ≤ n ∧ n ≤ 7 := by
    simp at hc
    omega
  intro b hb
  have hb2 : h.set b (.cells #[.int .i64 r] 3 (0, 0)) b = some (.cells #[.int .i64 r] 3 (0, 0)) := Hp.set_same _ _ _
  refine Exists.intro ⟨[7], [], [0], [], []⟩ (Exists.intro (fun vs os h' => ∃ m : Nat, m + 1 ≤ n ∧ vs = [.int .i64 (m + 2)] ∧ os = [(hallL r (m + 1)).map fun x => [.int .i64 x]] ∧ h' = h.set b (.cells #[.int .i64 r] 3 (0, 0))) (Exists.intro (fun vs _ => match vs with | [.int _ j] => (n + 1 - j).toNat | _ => 0) ?_))
  refine And.intro ⟨0, by omega, rfl, by rw [hallL_one]; rfl, rfl⟩ ?_
  rintro _ _ h1 ⟨m, hm, ⟨⟩, ⟨⟩, rfl⟩
  refine And.intro (fun hc => ?_) (fun hc => ?_)
  · have hlt : (m : Int) + 2 ≤ n := by simpa using hc
    refine Tr.val (t_HallPower _ _ _ _ _ hx.1 hb2) ?_
    refine Exists.intro ⟨[8, 9], [], [], [], []⟩ (Exists.intro (fun vs _ h' => ∃ k : Nat, k ≤ m + 1 ∧ vs = [.int .i64 (hallIn r (m + 2) (hallL r (m + 1)) k), .int .i64 (k + 1)] ∧ h' = h.set b (.cells #[.int .i64 r] 3 (0, 0))) (Exists.intro (fun vs _ => match vs with | [_, .int _ j] => ((m : Int) + 2 - j).toNat | _ => 0) ?_))
    refine And.intro ⟨0, by omega, rfl, rfl⟩ ?_
    rintro _ _ _ ⟨k, hk, ⟨⟩, rfl⟩
    refine And.intro (fun hc2 => ?_) (fun hc2 => ?_)
    · have hlt2 : (k : Int) + 1 < (m : Int) + 2 := by simpa using hc2
      refine And.intro (And.intro (by kernel_rfl) (by kernel_rfl)) ?_
      refine Exists.intro (.int .i64 _) (And.intro (t_HallPower _ _ _ _ _ hx.1 hb2) ?_)
      refine And.intro ?_ ?_
      · show 0 ≤ (k : Int) + 1 ∧ (k : Int) + 1 < (((hallL r (m + 1)).map fun x => [Value.int .i64 x]).length : Nat)
        rw [List.length_map, hallL_length]; omega
      refine Exists.intro [.int .i64 ((hallL r (m + 1)).getD (k + 1) 0)] (And.intro ?_ ?_)
      · exact map_get (by rw [hallL_length]; omega)
      have hw : IntKind.i64.wrap ((k : Int) + 1 + 1) = ((k + 1 : Nat) : Int) + 1 := by rw [w64 (by omega) (by omega)]; omega
      refine And.intro rfl (And.intro (by first | exact trivial | exact And.intro rfl trivial | exact And.intro rfl (And.intro rfl trivial) | exact And.intro rfl (And.intro rfl (And.intro rfl trivial)) | exact And.intro rfl (And.intro rfl (And.intro rfl (And.intro rfl trivial)))) (And.intro (by first | exact trivial | exact And.intro rfl trivial | exact And.intro rfl (And.intro rfl trivial) | exact And.intro rfl (And.intro rfl (And.intro rfl trivial)) | exact And.intro rfl (And.intro rfl (And.intro rfl (And.intro rfl trivial)))) (And.intro ?_ ?_)))
      · refine ⟨k + 1, by omega, ?_, rfl⟩
        have hw3 : IntKind.i64.wrap ((m : Int) + 2 - ((k : Int) + 1)) = ((m + 2 : Nat) : Int) - ((k + 1 : Nat) : Int) := by rw [w64 (by omega) (by omega)]; omega
        show [Value.int .i64 (IntKind.i64.wrap (hallIn r (m + 2) (hallL r (m + 1)) k - IntKind.i64.wrap (powW (factI (IntKind.i64.wrap ((m : Int) + 2 - ((k : Int) + 1)))) (r - 1).toNat * (hallL r (m + 1)).getD (k + 1) 0))), Value.int .i64 (IntKind.i64.wrap ((k : Int) + 1 + 1))] = _
        rw [hw3, hw]
        rfl
      · show ((m : Int) + 2 - IntKind.i64.wrap ((k : Int) + 1 + 1)).toNat < ((m : Int) + 2 - ((k : Int) + 1)).toNat
        omega
    · have hk : k = m + 1 := by simp at hc2; omega
      subst hk
      refine And.intro ?_ ?_
      · show (((hallL r (m + 1)).map fun x => [Value.int .i64 x]).length + 1) * 8 ≤ 140737488355328
        rw [List.length_map, hallL_length]; omega
      have hw : IntKind.i64.wrap ((m : Int) + 2 + 1) = ((m + 1 : Nat) : Int) + 2 := by rw [w64 (by omega) (by omega)]; omega
      refine And.intro rfl (And.intro (by first | exact trivial | exact And.intro rfl trivial | exact And.intro rfl (And.intro rfl trivial) | exact And.intro rfl (And.intro rfl (And.intro rfl trivial)) | exact And.intro rfl (And.intro rfl (And.intro rfl (And.intro rfl trivial)))) (And.intro (by first | exact trivial | exact And.intro rfl trivial | exact And.intro rfl (And.intro rfl trivial) | exact And.intro rfl (And.intro rfl (And.intro rfl trivial)) | exact And.intro rfl (And.intro rfl (And.intro rfl (And.intro rfl trivial)))) (And.intro ?_ ?_)))
      · refine ⟨m + 1, by omega, ?_, ?_, rfl⟩
        · rw [← hw]
        · show [((hallL r (m + 1)).map fun x => [Value.int .i64 x]) ++ [[Value.int .i64 (hallIn r (m + 2) (hallL r (m + 1)) (m + 1))]]] = _
          rw [show hallL r (m + 1 + 1) = hallL r (m + 1) ++ [hallIn r (m + 2) (hallL r (m + 1)) (m + 1)] from rfl, List.map_append]
          rfl
      · show (n + 1 - IntKind.i64.wrap ((m : Int) + 2 + 1)).toNat < (n + 1 - ((m : Int) + 2)).toNat
        omega
  · have hn : n.toNat = m + 1 := by simp at hc; omega
    refine And.intro ?_ ?_
    · show 0 ≤ n ∧ n < (((hallL r (m + 1)).map fun x => [Value.int .i64 x]).length : Nat)
      rw [List.length_map, hallL_length]; omega
    refine Exists.intro [.int .i64 ((hallL r (m + 1)).getD n.toNat 0)] (And.intro ?_ ?_)
    · exact map_get (by rw [hallL_length]; omega)
    refine And.intro ?_ (Sub.set hb)
    rw [hallI, if_pos hx, hn]
    rfl

theorem t_FnExactHallCount (h : Hp) (r n : Int) (_ : In64 r) (_ : In64 n) : Tr Try.prog 6 #[.int .i64 r, .int .i64 n] h fun v h' => v = .bool true ∧ h' = h := by
  refine walk (args := [.int .i64 r, .int .i64 n]) (fn := Try.f6) rfl ?_
  refine Tr.val (t_specHallCount h r n) ?_
  refine Tr.val (t_implHallCount h r n) ?_
  refine And.intro (fun hc => ?_) (fun hc => ?_)
  · exact absurd hc (by simp)
  · exact And.intro rfl rfl
end Go.Proofs.Ytdhephfnmmllnaa
