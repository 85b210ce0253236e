/- What the equalities of libraries do. -/
import Derived.Test.YtalidbmconldoaaM3
namespace Go.Proofs.Ytalidbmconldoaa
open Go.H
set_option linter.unusedVariables false
set_option linter.unusedSimpArgs false
set_option maxRecDepth 10000

def F_EqualLibraries (x y : LLibrary) : Bool := decide (x = y)
theorem strBool {a b : ByteArray} : (!(a.toList == b.toList)) = !(decide (a = b)) := by
  cases h : (!(a.toList == b.toList)) with
  | true => rw [decide_eq_false (strNe h)]; rfl
  | false => rw [decide_eq_true (strEq h)]; rfl
theorem t_specEqualLibraries (h : Hp) (cs : List Value) (x : LLibrary) (hx : wLibrary.R h cs x) (hm : mLibrary x ≤ 1048576) (ds : List Value) (y : LLibrary) (hy : wLibrary.R h ds y) (hm' : mLibrary y ≤ 1048576) :
    Tr Try.prog 28 #[.agg cs.toArray, .agg ds.toArray] h fun v h' => v = .bool (F_EqualLibraries x y) ∧ h' = h := by
  obtain ⟨x0, a1, n1, c1, x1, rfl, rfl, h0, h1⟩ := openLibrary hx
  obtain ⟨y0, a1y, n1y, c1y, y1, rfl, rfl, h0y, h1y⟩ := openLibrary hy
  obtain ⟨rfl, hn⟩ := Sl.len h1
  obtain ⟨rfl, hn'⟩ := Sl.len h1y
  refine walk (args := [.agg #[.int .i64 x0, .slice a1 x1.length c1], .agg #[.int .i64 y0, .slice a1y y1.length c1y]]) (fn := Try.f28) rfl ?_
  refine And.intro (fun hc => ?_) (fun hc => ?_)
  · exact And.intro (congrArg Value.bool (decide_eq_false fun e => by cases e; simp at hc).symm) rfl
  have key : x0 = y0 ∧ x1.length = y1.length := by
    by_cases g0 : x0 = y0 <;> simp [g0] at hc ⊢ <;> omega
  obtain ⟨rfl, hlen⟩ := key
  refine Exists.intro { vars := [5], boxes := [], owns := [] } (Exists.intro (fun vs _ h' => ∃ k : Nat, k ≤ x1.length ∧ x1.take k = y1.take k ∧ vs = [.int .i64 k] ∧ h' = h) (Exists.intro (fun vs _ => match vs with | [.int _ j] => ((x1.length : Int) - j).toNat | _ => 0) ?_))
  refine And.intro ⟨0, by omega, by simp, rfl, rfl⟩ ?_
  rintro _ hh ⟨k, hk, hall, ⟨⟩, rfl⟩
  refine And.intro (fun hc2 => ?_) (fun hc2 => ?_)
  · have hlt : k < x1.length := by simpa using hc2
    obtain ⟨x, gx⟩ := has_get hlt
    obtain ⟨y, gy⟩ := has_get (l := y1) (k := k) (by omega)
    obtain ⟨b1, cs1, e1, i1⟩ := Sl.get h1 gx (by decide)
    obtain ⟨b2, cs2, e2, i2⟩ := Sl.get h1y gy (by decide)
    have hw := wsucc hlt hn
    obtain ⟨s0, g0, g1, ga, gn, gc, g2, rfl, rfl, j0, j1, j2, j3⟩ := openEntry i1
    obtain ⟨t0, k0, k1, ka, kn, kc, k2, rfl, rfl, l0, l1, l2, l3⟩ := openEntry i2
    refine Or.inl (And.intro (And.intro (by kernel_rfl) (by kernel_rfl)) ?_)
    refine And.intro b1 (Exists.intro _ (And.intro e1 (And.intro b2 (Exists.intro _ (And.intro e2 ?_)))))
    refine And.intro (fun _ => b1) (Exists.intro _ (And.intro (fun _ => e1) (And.intro (fun _ => b2) (Exists.intro _ (And.intro (fun _ => e2) ?_)))))
    refine Exists.intro (.bool _) (And.intro (fun _ => t_specEqualGraphs _ [.int .i64 g0, .int .i64 g1, .slice ga gn gc] [.int .i64 k0, .int .i64 k1, .slice ka kn kc] (g0, g1, g2) (k0, k1, k2) (closeGraph j1 j2 j3) (closeGraph l1 l2 l3)) ?_)
    have kk : (bif !(s0.toList == t0.toList) then true else !(decide ((g0, g1, g2) = (k0, k1, k2)))) = !(decide ((s0, g0, g1, g2) = (t0, k0, k1, k2))) := by
      rw [strBool]
      by_cases q0 : s0 = t0 <;> by_cases q1 : (g0, g1, g2) = (k0, k1, k2) <;> simp [q0, q1]
    refine And.intro (fun hc3 => ?_) (fun hc3 => ?_)
    · refine And.intro (congrArg Value.bool ?_) rfl
      have hne : (s0, g0, g1, g2) ≠ (t0, k0, k1, k2) := not_dec (kk.symm.trans hc3)
      refine (decide_eq_false fun e => ?_).symm
      cases e
      exact hne (Option.some.inj (gx.symm.trans gy))
    · have heq : (s0, g0, g1, g2) = (t0, k0, k1, k2) := not_dec' (kk.symm.trans hc3)
      refine And.intro rfl (And.intro (by first | exact trivial | exact And.intro rfl trivial | exact And.intro rfl (And.intro rfl trivial) | exact And.intro rfl (And.intro rfl (And.intro rfl trivial)) | exact And.intro rfl (And.intro rfl (And.intro rfl (And.intro rfl trivial)))) (And.intro (by first | exact trivial | exact And.intro rfl trivial | exact And.intro rfl (And.intro rfl trivial) | exact And.intro rfl (And.intro rfl (And.intro rfl trivial)) | exact And.intro rfl (And.intro rfl (And.intro rfl (And.intro rfl trivial)))) (And.intro ?_ ?_)))
      · refine ⟨k + 1, by omega, by rw [take_snoc gx, take_snoc gy, hall, heq], ?_, rfl⟩
        rw [← hw]
      · show ((x1.length : Int) - IntKind.i64.wrap ((k : Int) + 1)).toNat < ((x1.length : Int) - (k : Int)).toNat
        omega
  · have hk : k = x1.length := by simp at hc2; omega
    refine And.intro (congrArg Value.bool ?_) rfl
    refine (decide_eq_true ?_).symm
    subst hk
    rw [List.take_length, hlen, List.take_length] at hall
    rw [hall]
theorem t_implEqualLibraries (h : Hp) (cs : List Value) (x : LLibrary) (hx : wLibrary.R h cs x) (hm : mLibrary x ≤ 1048576) (ds : List Value) (y : LLibrary) (hy : wLibrary.R h ds y) (hm' : mLibrary y ≤ 1048576) :
    Tr Try.prog 30 #[.agg cs.toArray, .agg ds.toArray] h fun v h' => v = .bool (F_EqualLibraries x y) ∧ h' = h := by
  obtain ⟨x0, a1, n1, c1, x1, rfl, rfl, h0, h1⟩ := openLibrary hx
  obtain ⟨y0, a1y, n1y, c1y, y1, rfl, rfl, h0y, h1y⟩ := openLibrary hy
  obtain ⟨rfl, hn⟩ := Sl.len h1
  obtain ⟨rfl, hn'⟩ := Sl.len h1y
  refine walk (args := [.agg #[.int .i64 x0, .slice a1 x1.length c1], .agg #[.int .i64 y0, .slice a1y y1.length c1y]]) (fn := Try.f30) rfl ?_
  refine And.intro (fun hc => ?_) (fun hc => ?_)
  · exact And.intro (congrArg Value.bool (decide_eq_false fun e => by cases e; simp at hc).symm) rfl
  have key : x0 = y0 ∧ x1.length = y1.length := by
    by_cases g0 : x0 = y0 <;> simp [g0] at hc ⊢ <;> omega
  obtain ⟨rfl, hlen⟩ := key
  refine Exists.intro { vars := [23], boxes := [], owns := [] } (Exists.intro (fun vs _ h' => ∃ k : Nat, k ≤ x1.length ∧ x1.take k = y1.take k ∧ vs = [.int .i64 k] ∧ h' = h) (Exists.intro (fun vs _ => match vs with | [.int _ j] => ((x1.length : Int) - j).toNat | _ => 0) ?_))
  refine And.intro ⟨0, by omega, by simp, rfl, rfl⟩ ?_
  rintro _ hh ⟨k, hk, hall, ⟨⟩, rfl⟩
  refine And.intro (fun hc2 => ?_) (fun hc2 => ?_)
  · have hlt : k < x1.length := by simpa using hc2
    obtain ⟨x, gx⟩ := has_get hlt
    obtain ⟨y, gy⟩ := has_get (l := y1) (k := k) (by omega)
    obtain ⟨b1, cs1, e1, i1⟩ := Sl.get h1 gx (by decide)
    obtain ⟨b2, cs2, e2, i2⟩ := Sl.get h1y gy (by decide)
    have hw := wsucc hlt hn
    obtain ⟨s0, g0, g1, ga, gn, gc, g2, rfl, rfl, j0, j1, j2, j3⟩ := openEntry i1
    obtain ⟨t0, k0, k1, ka, kn, kc, k2, rfl, rfl, l0, l1, l2, l3⟩ := openEntry i2
    refine Or.inl (And.intro (And.intro (by kernel_rfl) (by kernel_rfl)) ?_)
    refine And.intro b1 (Exists.intro _ (And.intro e1 (And.intro b2 (Exists.intro _ (And.intro e2 ?_)))))
    refine And.intro (fun _ => b1) (Exists.intro _ (And.intro (fun _ => e1) (And.intro (fun _ => b2) (Exists.intro _ (And.intro (fun _ => e2) ?_)))))
    refine Exists.intro (.bool _) (And.intro (fun _ => t_implEqualGraphs _ [.int .i64 g0, .int .i64 g1, .slice ga gn gc] [.int .i64 k0, .int .i64 k1, .slice ka kn kc] (g0, g1, g2) (k0, k1, k2) (closeGraph j1 j2 j3) (closeGraph l1 l2 l3)) ?_)
    have kk : (bif !(s0.toList == t0.toList) then true else !(decide ((g0, g1, g2) = (k0, k1, k2)))) = !(decide ((s0, g0, g1, g2) = (t0, k0, k1, k2))) := by
      rw [strBool]
      by_cases q0 : s0 = t0 <;> by_cases q1 : (g0, g1, g2) = (k0, k1, k2) <;> simp [q0, q1]
    refine And.intro (fun hc3 => ?_) (fun hc3 => ?_)
    · refine And.intro (congrArg Value.bool ?_) rfl
      have hne : (s0, g0, g1, g2) ≠ (t0, k0, k1, k2) := not_dec (kk.symm.trans hc3)
      refine (decide_eq_false fun e => ?_).symm
      cases e
      exact hne (Option.some.inj (gx.symm.trans gy))
    · have heq : (s0, g0, g1, g2) = (t0, k0, k1, k2) := not_dec' (kk.symm.trans hc3)
      refine And.intro rfl (And.intro (by first | exact trivial | exact And.intro rfl trivial | exact And.intro rfl (And.intro rfl trivial) | exact And.intro rfl (And.intro rfl (And.intro rfl trivial)) | exact And.intro rfl (And.intro rfl (And.intro rfl (And.intro rfl trivial)))) (And.intro (by first | exact trivial | exact And.intro rfl trivial | exact And.intro rfl (And.intro rfl trivial) | exact And.intro rfl (And.intro rfl (And.intro rfl trivial)) | exact And.intro rfl (And.intro rfl (And.intro rfl (And.intro rfl trivial)))) (And.intro ?_ ?_)))
      · refine ⟨k + 1, by omega, by rw [take_snoc gx, take_snoc gy, hall, heq], ?_, rfl⟩
        rw [← hw]
      · show ((x1.length : Int) - IntKind.i64.wrap ((k : Int) + 1)).toNat < ((x1.length : Int) - (k : Int)).toNat
        omega
  · have hk : k = x1.length := by simp at hc2; omega
    refine And.intro (congrArg Value.bool ?_) rfl
    refine (decide_eq_true ?_).symm
    subst hk
    rw [List.take_length, hlen, List.take_length] at hall
    rw [hall]
end Go.Proofs.Ytalidbmconldoaa
