/- What the equalities of claims and notebooks do. -/
import Derived.Test.YtalidbmconldoaaM3
namespace Go.Proofs.Ytalidbmconldoaa
open Go.H
set_option linter.unusedVariables false
set_option linter.unusedSimpArgs false
set_option maxRecDepth 10000

def F_EqualClaims (x y : LClaim) : Bool := decide (x = y)
def F_EqualNotebooks (x y : LNotebook) : Bool := decide (x = y)
theorem t_specEqualClaims0 (h : Hp) (cs : List Value) (x : LClaim) (hx : wClaim.R h cs x) (ds : List Value) (y : LClaim) (hy : wClaim.R h ds y) :
    Tr Try.prog 42 #[.agg cs.toArray, .agg ds.toArray] h fun v h' => v = .bool (F_EqualClaims x y) ∧ h' = h := by
  obtain ⟨x0, x1, a2, n2, c2, x2, a3, n3, c3, x3, a4, n4, c4, x4, x5, x6, a7, n7, c7, x7, x8, rfl, rfl, h0, h1, h2, h3, h4, h5, h6, h7, h8⟩ := openClaim hx
  obtain ⟨y0, y1, b2, m2, d2, y2, b3, m3, d3, y3, b4, m4, d4, y4, y5, y6, b7, m7, d7, y7, y8, rfl, rfl, k0, k1, k2, k3, k4, k5, k6, k7, k8⟩ := openClaim hy
  refine walk (args := [.agg #[.int .i64 x0, .int .i64 x1, .slice a2 n2 c2, .slice a3 n3 c3, .slice a4 n4 c4, .int .i64 x5, .int .i64 x6, .slice a7 n7 c7, .int .i64 x8], .agg #[.int .i64 y0, .int .i64 y1, .slice b2 m2 d2, .slice b3 m3 d3, .slice b4 m4 d4, .int .i64 y5, .int .i64 y6, .slice b7 m7 d7, .int .i64 y8]]) (fn := Try.f42) rfl ?_
  refine Exists.intro (.bool _) (And.intro (fun _ => t_specEqualWordLists _ _ _ _ _ _ _ x2 y2 h2 k2) ?_)
  refine Exists.intro (.bool _) (And.intro (fun _ => t_specEqualWords _ _ _ _ _ _ _ x3 y3 h3 k3) ?_)
  refine Exists.intro (.bool _) (And.intro (fun _ => t_specEqualWords _ _ _ _ _ _ _ x4 y4 h4 k4) ?_)
  refine Exists.intro (.bool _) (And.intro (fun _ => t_specEqualGraphs _ [.int .i64 x5, .int .i64 x6, .slice a7 n7 c7] [.int .i64 y5, .int .i64 y6, .slice b7 m7 d7] (x5, x6, x7) (y5, y6, y7) (closeGraph h5 h6 h7) (closeGraph k5 k6 k7)) ?_)
  refine And.intro (congrArg Value.bool ?_) rfl
  unfold F_EqualClaims
  by_cases g0 : x0 = y0
  · by_cases g1 : x1 = y1
    · by_cases g2 : x2 = y2
      · by_cases g3 : x3 = y3
        · by_cases g4 : x4 = y4
          · by_cases g5 : (x5, x6, x7) = (y5, y6, y7)
            · by_cases g6 : x8 = y8 <;> simp [g0, g1, g2, g3, g4, g5, g6]
            · simp [g0, g1, g2, g3, g4, g5]
          · simp [g0, g1, g2, g3, g4]
        · simp [g0, g1, g2, g3]
      · simp [g0, g1, g2]
    · simp [g0, g1]
  · simp [g0]
theorem t_specEqualClaims (h : Hp) (cs : List Value) (x : LClaim) (hx : wClaim.R h cs x) (hm : mClaim x ≤ 1048576) (ds : List Value) (y : LClaim) (hy : wClaim.R h ds y) (hm' : mClaim y ≤ 1048576) :
    Tr Try.prog 42 #[.agg cs.toArray, .agg ds.toArray] h fun v h' => v = .bool (F_EqualClaims x y) ∧ h' = h := t_specEqualClaims0 h cs x hx ds y hy
theorem t_specEqualNotebooks (h : Hp) (cs : List Value) (x : LNotebook) (hx : wNotebook.R h cs x) (hm : mNotebook x ≤ 1048576) (ds : List Value) (y : LNotebook) (hy : wNotebook.R h ds y) (hm' : mNotebook y ≤ 1048576) :
    Tr Try.prog 62 #[.agg cs.toArray, .agg ds.toArray] h fun v h' => v = .bool (F_EqualNotebooks x y) ∧ h' = h := by
  obtain ⟨x0, a1, n1, c1, x1, rfl, rfl, h0, h1⟩ := openNotebook hx
  obtain ⟨y0, a1y, n1y, c1y, y1, rfl, rfl, h0y, h1y⟩ := openNotebook hy
  obtain ⟨rfl, hn⟩ := Sl.len h1
  obtain ⟨rfl, hn'⟩ := Sl.len h1y
  refine walk (args := [.agg #[.int .i64 x0, .slice a1 x1.length c1], .agg #[.int .i64 y0, .slice a1y y1.length c1y]]) (fn := Try.f62) rfl ?_
  refine And.intro (fun hc => ?_) (fun hc => ?_)
  · exact And.intro (congrArg Value.bool (decide_eq_false fun e => by cases e; simp at hc).symm) rfl
  have key : x0 = y0 ∧ x1.length = y1.length := by
    by_cases g0 : x0 = y0 <;> simp [g0] at hc ⊢ <;> omega
  obtain ⟨rfl, hlen⟩ := key
  refine Exists.intro { vars := [5], boxes := [], owns := [] } (Exists.intro (fun vs _ h' => ∃ k : Nat, k ≤ x1.length ∧ x1.take k = y1.take k ∧ vs = [.int .i64 k] ∧ h' = h) (Exists.intro (fun vs _ => match vs with | [.int _ j] => ((x1.length : Int) - j).toNat | _ => 0) ?_))
  refine And.intro ⟨0, by omega, by simp, rfl, rfl⟩ ?_
  rintro _ hh ⟨k, hk, hall, ⟨⟩, rfl⟩
  refine And.intro (fun hc2 => ?_) (fun hc2 => ?_)
  · have hlt : k < x1.length := by simpa using hc2
    obtain ⟨x, gx⟩ := has_get hlt
    obtain ⟨y, gy⟩ := has_get (l := y1) (k := k) (by omega)
    obtain ⟨b1, cs1, e1, i1⟩ := Sl.get h1 gx (by decide)
    obtain ⟨b2, cs2, e2, i2⟩ := Sl.get h1y gy (by decide)
    have hw := wsucc hlt hn
    have R1 := i1
    have R2 := i2
    obtain ⟨u0, u1, a2, n2, c2, u2, a3, n3, c3, u3, a4, n4, c4, u4, u5, u6, a7, n7, c7, u7, u8, rfl, ex, _, _, _, _, _, _, _, _, _⟩ := openClaim i1
    obtain ⟨w0, w1, b2', m2, d2, w2, b3, m3, d3, w3, b4, m4, d4, w4, w5, w6, b7, m7, d7, w7, w8, rfl, ey, _, _, _, _, _, _, _, _, _⟩ := openClaim i2
    refine Or.inl (And.intro (And.intro (by kernel_rfl) (by kernel_rfl)) ?_)
    refine And.intro b1 (Exists.intro _ (And.intro e1 (And.intro b2 (Exists.intro _ (And.intro e2 ?_)))))
    refine Exists.intro (.bool _) (And.intro (t_specEqualClaims0 _ _ x R1 _ y R2) ?_)
    refine And.intro (fun hc3 => ?_) (fun hc3 => ?_)
    · refine And.intro (congrArg Value.bool ?_) rfl
      have hne : x ≠ y := not_dec hc3
      refine (decide_eq_false fun e => ?_).symm
      cases e
      exact hne (Option.some.inj (gx.symm.trans gy))
    · have heq : x = y := not_dec' hc3
      refine And.intro rfl (And.intro (by first | exact trivial | exact And.intro rfl trivial | exact And.intro rfl (And.intro rfl trivial) | exact And.intro rfl (And.intro rfl (And.intro rfl trivial)) | exact And.intro rfl (And.intro rfl (And.intro rfl (And.intro rfl trivial)))) (And.intro (by first | exact trivial | exact And.intro rfl trivial | exact And.intro rfl (And.intro rfl trivial) | exact And.intro rfl (And.intro rfl (And.intro rfl trivial)) | exact And.intro rfl (And.intro rfl (And.intro rfl (And.intro rfl trivial)))) (And.intro ?_ ?_)))
      · refine ⟨k + 1, by omega, by rw [take_snoc gx, take_snoc gy, hall, heq], ?_, rfl⟩
        rw [← hw]
      · show ((x1.length : Int) - IntKind.i64.wrap ((k : Int) + 1)).toNat < ((x1.length : Int) - (k : Int)).toNat
        omega
  · have hk : k = x1.length := by simp at hc2; omega
    refine And.intro (congrArg Value.bool ?_) rfl
    refine (decide_eq_true ?_).symm
    subst hk
    rw [List.take_length, hlen, List.take_length] at hall
    rw [hall]
theorem t_implEqualClaims0 (h : Hp) (cs : List Value) (x : LClaim) (hx : wClaim.R h cs x) (ds : List Value) (y : LClaim) (hy : wClaim.R h ds y) :
    Tr Try.prog 44 #[.agg cs.toArray, .agg ds.toArray] h fun v h' => v = .bool (F_EqualClaims x y) ∧ h' = h := by
  obtain ⟨x0, x1, a2, n2, c2, x2, a3, n3, c3, x3, a4, n4, c4, x4, x5, x6, a7, n7, c7, x7, x8, rfl, rfl, h0, h1, h2, h3, h4, h5, h6, h7, h8⟩ := openClaim hx
  obtain ⟨y0, y1, b2, m2, d2, y2, b3, m3, d3, y3, b4, m4, d4, y4, y5, y6, b7, m7, d7, y7, y8, rfl, rfl, k0, k1, k2, k3, k4, k5, k6, k7, k8⟩ := openClaim hy
  refine walk (args := [.agg #[.int .i64 x0, .int .i64 x1, .slice a2 n2 c2, .slice a3 n3 c3, .slice a4 n4 c4, .int .i64 x5, .int .i64 x6, .slice a7 n7 c7, .int .i64 x8], .agg #[.int .i64 y0, .int .i64 y1, .slice b2 m2 d2, .slice b3 m3 d3, .slice b4 m4 d4, .int .i64 y5, .int .i64 y6, .slice b7 m7 d7, .int .i64 y8]]) (fn := Try.f44) rfl ?_
  refine Exists.intro (.bool _) (And.intro (fun _ => t_implEqualWordLists _ _ _ _ _ _ _ x2 y2 h2 k2) ?_)
  refine Exists.intro (.bool _) (And.intro (fun _ => t_implEqualWords _ _ _ _ _ _ _ x3 y3 h3 k3) ?_)
  refine Exists.intro (.bool _) (And.intro (fun _ => t_implEqualWords _ _ _ _ _ _ _ x4 y4 h4 k4) ?_)
  refine Exists.intro (.bool _) (And.intro (fun _ => t_implEqualGraphs _ [.int .i64 x5, .int .i64 x6, .slice a7 n7 c7] [.int .i64 y5, .int .i64 y6, .slice b7 m7 d7] (x5, x6, x7) (y5, y6, y7) (closeGraph h5 h6 h7) (closeGraph k5 k6 k7)) ?_)
  refine And.intro (congrArg Value.bool ?_) rfl
  unfold F_EqualClaims
  by_cases g0 : x0 = y0
  · by_cases g1 : x1 = y1
    · by_cases g2 : x2 = y2
      · by_cases g3 : x3 = y3
        · by_cases g4 : x4 = y4
          · by_cases g5 : (x5, x6, x7) = (y5, y6, y7)
            · by_cases g6 : x8 = y8 <;> simp [g0, g1, g2, g3, g4, g5, g6]
            · simp [g0, g1, g2, g3, g4, g5]
          · simp [g0, g1, g2, g3, g4]
        · simp [g0, g1, g2, g3]
      · simp [g0, g1, g2]
    · simp [g0, g1]
  · simp [g0]
theorem t_implEqualClaims (h : Hp) (cs : List Value) (x : LClaim) (hx : wClaim.R h cs x) (hm : mClaim x ≤ 1048576) (ds : List Value) (y : LClaim) (hy : wClaim.R h ds y) (hm' : mClaim y ≤ 1048576) :
    Tr Try.prog 44 #[.agg cs.toArray, .agg ds.toArray] h fun v h' => v = .bool (F_EqualClaims x y) ∧ h' = h := t_implEqualClaims0 h cs x hx ds y hy
theorem t_implEqualNotebooks (h : Hp) (cs : List Value) (x : LNotebook) (hx : wNotebook.R h cs x) (hm : mNotebook x ≤ 1048576) (ds : List Value) (y : LNotebook) (hy : wNotebook.R h ds y) (hm' : mNotebook y ≤ 1048576) :
    Tr Try.prog 63 #[.agg cs.toArray, .agg ds.toArray] h fun v h' => v = .bool (F_EqualNotebooks x y) ∧ h' = h := by
  obtain ⟨x0, a1, n1, c1, x1, rfl, rfl, h0, h1⟩ := openNotebook hx
  obtain ⟨y0, a1y, n1y, c1y, y1, rfl, rfl, h0y, h1y⟩ := openNotebook hy
  obtain ⟨rfl, hn⟩ := Sl.len h1
  obtain ⟨rfl, hn'⟩ := Sl.len h1y
  refine walk (args := [.agg #[.int .i64 x0, .slice a1 x1.length c1], .agg #[.int .i64 y0, .slice a1y y1.length c1y]]) (fn := Try.f63) rfl ?_
  refine And.intro (fun hc => ?_) (fun hc => ?_)
  · exact And.intro (congrArg Value.bool (decide_eq_false fun e => by cases e; simp at hc).symm) rfl
  have key : x0 = y0 ∧ x1.length = y1.length := by
    by_cases g0 : x0 = y0 <;> simp [g0] at hc ⊢ <;> omega
  obtain ⟨rfl, hlen⟩ := key
  refine Exists.intro { vars := [23], boxes := [], owns := [] } (Exists.intro (fun vs _ h' => ∃ k : Nat, k ≤ x1.length ∧ x1.take k = y1.take k ∧ vs = [.int .i64 k] ∧ h' = h) (Exists.intro (fun vs _ => match vs with | [.int _ j] => ((x1.length : Int) - j).toNat | _ => 0) ?_))
  refine And.intro ⟨0, by omega, by simp, rfl, rfl⟩ ?_
  rintro _ hh ⟨k, hk, hall, ⟨⟩, rfl⟩
  refine And.intro (fun hc2 => ?_) (fun hc2 => ?_)
  · have hlt : k < x1.length := by simpa using hc2
    obtain ⟨x, gx⟩ := has_get hlt
    obtain ⟨y, gy⟩ := has_get (l := y1) (k := k) (by omega)
    obtain ⟨b1, cs1, e1, i1⟩ := Sl.get h1 gx (by decide)
    obtain ⟨b2, cs2, e2, i2⟩ := Sl.get h1y gy (by decide)
    have hw := wsucc hlt hn
    have R1 := i1
    have R2 := i2
    obtain ⟨u0, u1, a2, n2, c2, u2, a3, n3, c3, u3, a4, n4, c4, u4, u5, u6, a7, n7, c7, u7, u8, rfl, ex, _, _, _, _, _, _, _, _, _⟩ := openClaim i1
    obtain ⟨w0, w1, b2', m2, d2, w2, b3, m3, d3, w3, b4, m4, d4, w4, w5, w6, b7, m7, d7, w7, w8, rfl, ey, _, _, _, _, _, _, _, _, _⟩ := openClaim i2
    refine Or.inl (And.intro (And.intro (by kernel_rfl) (by kernel_rfl)) ?_)
    refine And.intro b1 (Exists.intro _ (And.intro e1 (And.intro b2 (Exists.intro _ (And.intro e2 ?_)))))
    refine Exists.intro (.bool _) (And.intro (t_implEqualClaims0 _ _ x R1 _ y R2) ?_)
    refine And.intro (fun hc3 => ?_) (fun hc3 => ?_)
    · refine And.intro (congrArg Value.bool ?_) rfl
      have hne : x ≠ y := not_dec hc3
      refine (decide_eq_false fun e => ?_).symm
      cases e
      exact hne (Option.some.inj (gx.symm.trans gy))
    · have heq : x = y := not_dec' hc3
      refine And.intro rfl (And.intro (by first | exact trivial | exact And.intro rfl trivial | exact And.intro rfl (And.intro rfl trivial) | exact And.intro rfl (And.intro rfl (And.intro rfl trivial)) | exact And.intro rfl (And.intro rfl (And.intro rfl (And.intro rfl trivial)))) (And.intro (by first | exact trivial | exact And.intro rfl trivial | exact And.intro rfl (And.intro rfl trivial) | exact And.intro rfl (And.intro rfl (And.intro rfl trivial)) | exact And.intro rfl (And.intro rfl (And.intro rfl (And.intro rfl trivial)))) (And.intro ?_ ?_)))
      · refine ⟨k + 1, by omega, by rw [take_snoc gx, take_snoc gy, hall, heq], ?_, rfl⟩
        rw [← hw]
      · show ((x1.length : Int) - IntKind.i64.wrap ((k : Int) + 1)).toNat < ((x1.length : Int) - (k : Int)).toNat
        omega
  · have hk : k = x1.length := by simp at hc2; omega
    refine And.intro (congrArg Value.bool ?_) rfl
    refine (decide_eq_true ?_).symm
    subst hk
    rw [List.take_length, hlen, List.take_length] at hall
    rw [hall]
end Go.Proofs.Ytalidbmconldoaa
