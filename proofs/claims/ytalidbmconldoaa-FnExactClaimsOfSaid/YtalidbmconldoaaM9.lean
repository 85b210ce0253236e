/- What ClaimsOf does. -/
import Derived.Test.YtalidbmconldoaaG1
namespace Go.Proofs.Ytalidbmconldoaa
open Go.H
set_option linter.unusedVariables false
set_option linter.unusedSimpArgs false
set_option maxRecDepth 10000

def clTo (l : LClaimS) (k : Int) : Nat → List Int
  | 0 => []
  | j + 1 => clTo l k j ++ (match l[j]? with
    | some c => if c.1 = k then [(j : Int)] else []
    | none => [])
def F_ClaimsOf (x : LNotebook) (k : Int) : LIntS := clTo x.2 k x.2.length
theorem clTo_len (l : LClaimS) (k : Int) : ∀ j, (clTo l k j).length ≤ j
  | 0 => by simp [clTo]
  | j + 1 => by
    have := clTo_len l k j
    simp only [clTo, List.length_append]
    split
    · split <;> simp <;> omega
    · simp; omega
theorem clTo_64 (l : LClaimS) (k : Int) : ∀ j, j ≤ 9223372036854775807 → ∀ x ∈ clTo l k j, In64 x
  | 0, _, x, hx => by cases hx
  | j + 1, hj, x, hx => by
    simp only [clTo] at hx
    rcases List.mem_append.1 hx with hx | hx
    · exact clTo_64 l k j (by omega) x hx
    · split at hx
      · split at hx
        · simp at hx; rw [hx]; exact in64 (by omega) (by omega)
        · cases hx
      · cases hx
theorem clTo_yes {l : LClaimS} {k : Int} {j : Nat} {c : LClaim} (h : l[j]? = some c) (hk : c.1 = k) : clTo l k (j + 1) = clTo l k j ++ [(j : Int)] := by simp only [clTo, h, if_pos hk]
theorem clTo_no {l : LClaimS} {k : Int} {j : Nat} {c : LClaim} (h : l[j]? = some c) (hk : c.1 ≠ k) : clTo l k (j + 1) = clTo l k j := by simp only [clTo, h, if_neg hk, List.append_nil]
theorem c_ClaimsOf (x : LNotebook) (k : Int) (hm : mNotebook x ≤ 1048576) (hk : In64 k) : cIntS (F_ClaimsOf x k) ≤ 16777216 := by
  have h1 := clTo_len x.2 k x.2.length
  have h2 : cIntS (F_ClaimsOf x k) = (clTo x.2 k x.2.length).length := sumM_one _
  simp only [mNotebook, mClaimS] at hm
  omega
theorem t_specClaimsOf0 (h : Hp) (cs : List Value) (x : LNotebook) (hx : wNotebook.R h cs x) (hm : mNotebook x ≤ 1048576) (kd : Int) (hkd : In64 kd) :
    Tr Try.prog 49 #[.agg cs.toArray, .int .i64 kd] h fun v h' => New wIntS h h' [v] (F_ClaimsOf x kd) := by
  obtain ⟨x0, a1, n1, c1, x1, rfl, rfl, h0, h1⟩ := openNotebook hx
  obtain ⟨rfl, hn⟩ := Sl.len h1
  have hlen : x1.length ≤ 1048576 := by simp only [mNotebook, mClaimS] at hm; omega
  refine walk (args := [.agg #[.int .i64 x0, .slice a1 x1.length c1], .int .i64 kd]) (fn := Try.f49) rfl ?_
  refine Exists.intro { vars := [6], boxes := [], owns := [0] } (Exists.intro (fun vs os h' => ∃ j : Nat, j ≤ x1.length ∧ vs = [.int .i64 j] ∧ os = [(clTo x1 kd j).map fun i => [.int .i64 i]] ∧ h' = h) (Exists.intro (fun vs _ => match vs with | [.int _ j] => ((x1.length : Int) - j).toNat | _ => 0) ?_))
  refine And.intro ⟨0, by omega, rfl, rfl, rfl⟩ ?_
  rintro _ _ hh ⟨j, hj, ⟨⟩, ⟨⟩, rfl⟩
  refine And.intro (fun hc2 => ?_) (fun hc2 => ?_)
  · have hlt : j < x1.length := by simpa using hc2
    obtain ⟨x, gx⟩ := has_get hlt
    obtain ⟨b1, cs1, e1, i1⟩ := Sl.get h1 gx (by decide)
    obtain ⟨u0, u1, a2, n2, c2, u2, a3, n3, c3, u3, a4, n4, c4, u4, u5, u6, a7, n7, c7, u7, u8, rfl, rfl, _, _, _, _, _, _, _, _, _⟩ := openClaim i1
    have hw := wsucc hlt hn
    have hl := clTo_len x1 kd j
    refine And.intro b1 (Exists.intro _ (And.intro e1 ?_))
    refine And.intro (fun hc3 => ?_) (fun hc3 => ?_)
    · have hk : u0 = kd := by simpa using hc3
      refine And.intro ?_ ?_
      · show (((clTo x1 kd j).map fun i => [Value.int .i64 i]).length + 1) * 8 ≤ 140737488355328
        rw [List.length_map]; omega
      refine And.intro rfl (And.intro (by first | exact trivial | exact And.intro rfl trivial | exact And.intro rfl (And.intro rfl trivial) | exact And.intro rfl (And.intro rfl (And.intro rfl trivial)) | exact And.intro rfl (And.intro rfl (And.intro rfl (And.intro rfl trivial)))) (And.intro (by first | exact trivial | exact And.intro rfl trivial | exact And.intro rfl (And.intro rfl trivial) | exact And.intro rfl (And.intro rfl (And.intro rfl trivial)) | exact And.intro rfl (And.intro rfl (And.intro rfl (And.intro rfl trivial)))) (And.intro ?_ ?_)))
      · refine ⟨j + 1, by omega, by rw [← hw], ?_, rfl⟩
        rw [clTo_yes gx hk, List.map_append]
        rfl
      · show ((x1.length : Int) - IntKind.i64.wrap ((j : Int) + 1)).toNat < ((x1.length : Int) - (j : Int)).toNat
        omega
    · have hk : u0 ≠ kd := by simpa using hc3
      refine And.intro rfl (And.intro (by first | exact trivial | exact And.intro rfl trivial | exact And.intro rfl (And.intro rfl trivial) | exact And.intro rfl (And.intro rfl (And.intro rfl trivial)) | exact And.intro rfl (And.intro rfl (And.intro rfl (And.intro rfl trivial)))) (And.intro (by first | exact trivial | exact And.intro rfl trivial | exact And.intro rfl (And.intro rfl trivial) | exact And.intro rfl (And.intro rfl (And.intro rfl trivial)) | exact And.intro rfl (And.intro rfl (And.intro rfl (And.intro rfl trivial)))) (And.intro ?_ ?_)))
      · refine ⟨j + 1, by omega, by rw [← hw], ?_, rfl⟩
        rw [clTo_no gx hk]
      · show ((x1.length : Int) - IntKind.i64.wrap ((j : Int) + 1)).toNat < ((x1.length : Int) - (j : Int)).toNat
        omega
  · have hj' : j = x1.length := by simp at hc2; omega
    subst hj'
    intro v h' hf
    exact hf.newInts (clTo_64 x1 kd _ (by omega))
theorem t_implClaimsOf0 (h : Hp) (cs : List Value) (x : LNotebook) (hx : wNotebook.R h cs x) (hm : mNotebook x ≤ 1048576) (kd : Int) (hkd : In64 kd) :
    Tr Try.prog 51 #[.agg cs.toArray, .int .i64 kd] h fun v h' => New wIntS h h' [v] (F_ClaimsOf x kd) := by
  obtain ⟨x0, a1, n1, c1, x1, rfl, rfl, h0, h1⟩ := openNotebook hx
  obtain ⟨rfl, hn⟩ := Sl.len h1
  have hlen : x1.length ≤ 1048576 := by simp only [mNotebook, mClaimS] at hm; omega
  refine walk (args := [.agg #[.int .i64 x0, .slice a1 x1.length c1], .int .i64 kd]) (fn := Try.f51) rfl ?_
  refine Exists.intro { vars := [12], boxes := [], owns := [0] } (Exists.intro (fun vs os h' => ∃ j : Nat, j ≤ x1.length ∧ vs = [.int .i64 j] ∧ os = [(clTo x1 kd j).map fun i => [.int .i64 i]] ∧ h' = h) (Exists.intro (fun vs _ => match vs with | [.int _ j] => ((x1.length : Int) - j).toNat | _ => 0) ?_))
  refine And.intro ⟨0, by omega, rfl, rfl, rfl⟩ ?_
  rintro _ _ hh ⟨j, hj, ⟨⟩, ⟨⟩, rfl⟩
  refine And.intro (fun hc2 => ?_) (fun hc2 => ?_)
  · have hlt : j < x1.length := by simpa using hc2
    obtain ⟨x, gx⟩ := has_get hlt
    obtain ⟨b1, cs1, e1, i1⟩ := Sl.get h1 gx (by decide)
    obtain ⟨u0, u1, a2, n2, c2, u2, a3, n3, c3, u3, a4, n4, c4, u4, u5, u6, a7, n7, c7, u7, u8, rfl, rfl, _, _, _, _, _, _, _, _, _⟩ := openClaim i1
    have hw := wsucc hlt hn
    have hl := clTo_len x1 kd j
    refine And.intro b1 (Exists.intro _ (And.intro e1 ?_))
    refine And.intro (fun hc3 => ?_) (fun hc3 => ?_)
    · have hk : u0 = kd := by simpa using hc3
      refine And.intro ?_ ?_
      · show (((clTo x1 kd j).map fun i => [Value.int .i64 i]).length + 1) * 8 ≤ 140737488355328
        rw [List.length_map]; omega
      refine And.intro rfl (And.intro (by first | exact trivial | exact And.intro rfl trivial | exact And.intro rfl (And.intro rfl trivial) | exact And.intro rfl (And.intro rfl (And.intro rfl trivial)) | exact And.intro rfl (And.intro rfl (And.intro rfl (And.intro rfl trivial)))) (And.intro (by first | exact trivial | exact And.intro rfl trivial | exact And.intro rfl (And.intro rfl trivial) | exact And.intro rfl (And.intro rfl (And.intro rfl trivial)) | exact And.intro rfl (And.intro rfl (And.intro rfl (And.intro rfl trivial)))) (And.intro ?_ ?_)))
      · refine ⟨j + 1, by omega, by rw [← hw], ?_, rfl⟩
        rw [clTo_yes gx hk, List.map_append]
        rfl
      · show ((x1.length : Int) - IntKind.i64.wrap ((j : Int) + 1)).toNat < ((x1.length : Int) - (j : Int)).toNat
        omega
    · have hk : u0 ≠ kd := by simpa using hc3
      refine And.intro rfl (And.intro (by first | exact trivial | exact And.intro rfl trivial | exact And.intro rfl (And.intro rfl trivial) | exact And.intro rfl (And.intro rfl (And.intro rfl trivial)) | exact And.intro rfl (And.intro rfl (And.intro rfl (And.intro rfl trivial)))) (And.intro (by first | exact trivial | exact And.intro rfl trivial | exact And.intro rfl (And.intro rfl trivial) | exact And.intro rfl (And.intro rfl (And.intro rfl trivial)) | exact And.intro rfl (And.intro rfl (And.intro rfl (And.intro rfl trivial)))) (And.intro ?_ ?_)))
      · refine ⟨j + 1, by omega, by rw [← hw], ?_, rfl⟩
        rw [clTo_no gx hk]
      · show ((x1.length : Int) - IntKind.i64.wrap ((j : Int) + 1)).toNat < ((x1.length : Int) - (j : Int)).toNat
        omega
  · have hj' : j = x1.length := by simp at hc2; omega
    subst hj'
    intro v h' hf
    exact hf.newInts (clTo_64 x1 kd _ (by omega))
theorem t_specClaimsOf (h : Hp) (cs : List Value) (x : LNotebook) (hx : wNotebook.R h cs x) (hm : mNotebook x ≤ 1048576) (kd : Int) (hkd : In64 kd) :
    Tr Try.prog 49 #[.agg cs.toArray, .int .i64 kd] h fun v h' => wIntS.R h' [v] (F_ClaimsOf x kd) ∧ Sub h h' :=
  (t_specClaimsOf0 h cs x hx hm kd hkd).mono fun v h' n => ⟨n.r, n.sub⟩
theorem t_implClaimsOf (h : Hp) (cs : List Value) (x : LNotebook) (hx : wNotebook.R h cs x) (hm : mNotebook x ≤ 1048576) (kd : Int) (hkd : In64 kd) :
    Tr Try.prog 51 #[.agg cs.toArray, .int .i64 kd] h fun v h' => New wIntS h h' [v] (F_ClaimsOf x kd) := t_implClaimsOf0 h cs x hx hm kd hkd
end Go.Proofs.Ytalidbmconldoaa
