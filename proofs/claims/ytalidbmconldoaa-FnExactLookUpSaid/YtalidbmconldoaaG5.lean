/- What the laws' own helpers do: marks. -/
import Derived.Test.YtalidbmconldoaaG1
import Derived.Test.YtalidbmconldoaaG5t
namespace Go.Proofs.Ytalidbmconldoaa
open Go.H
set_option linter.unusedVariables false
set_option linter.unusedSimpArgs false
set_option maxRecDepth 10000

theorem t_markEdgeS (h : Hp) (a : Option Addr) (n c : Nat) (xs : LEdgeS) (B : List Nat) (k : Int) (hx : wEdgeS.W h [.slice a n c] xs B) (hB : B.Nodup) (hk : 0 ≤ k ∧ k + (cEdgeS xs : Nat) ≤ 4611686018427387904) :
    Tr Try.prog 85 #[.slice a n c, .int .i64 k] h fun v h' => v = .int .i64 (k + (cEdgeS xs : Nat)) ∧ wEdgeS.W h' [.slice a n c] (mkEdgeS xs k) B ∧ ∀ y, y ∉ B → h' y = h y := by
  obtain ⟨rfl, hn⟩ := Sl.len (wEdgeS.toR hx)
  refine walk (args := [.slice a xs.length c, .int .i64 k]) (fn := Try.f85) rfl ?_
  refine Exists.intro { vars := [1, 5], boxes := [], owns := [] } (Exists.intro (fun vs _ h' => ∃ (j : Nat) (kk : Int), kk = k + (sumM ceEdge (xs.take j) : Nat) ∧ j ≤ xs.length ∧ vs = [.int .i64 kk, .int .i64 j] ∧ wEdgeS.W h' [.slice a xs.length c] (mkTo meEdge ceEdge xs k j) B ∧ ∀ y, y ∉ B → h' y = h y) (Exists.intro (fun vs _ => match vs with | [_, .int _ j] => ((xs.length : Int) - j).toNat | _ => 0) ?_))
  refine And.intro ⟨0, k, by simp [sumM], by omega, rfl, by rw [mkTo_zero]; exact hx, fun _ _ => rfl⟩ ?_
  rintro _ _ h1 ⟨j, kk, hkk, hj, ⟨⟩, W0, F0⟩
  refine And.intro (fun hc2 => ?_) (fun hc2 => ?_)
  · have hlt : j < xs.length := by simpa using hc2
    obtain ⟨x, gx⟩ := has_get hlt
    have G0 := mkTo_get (mk := meEdge) (c := ceEdge) (k := k) gx
    have hs1 : sumM ceEdge (xs.take (j + 1)) = sumM ceEdge (xs.take j) + ceEdge x := sumM_snoc gx
    have hs2 := sumM_take ceEdge xs (j + 1)
    have hw := wsucc hlt hn
    have hkx : 0 ≤ kk ∧ kk + (ceEdge x : Nat) ≤ 4611686018427387904 := by
      have : (cEdgeS xs : Int) = (sumM ceEdge xs : Nat) := rfl
      omega
    obtain ⟨x0, x1, x2⟩ := x
    simp only [ceEdge] at hkx
    obtain ⟨b0, cs0, Bi0, bb0, of0, cur0, ty0, ea0, e0, w0, hb0, hin0, hbB0, hbn0, hsub0, hnd0, upd0, st0⟩ := Wp.at W0 hB G0 (by decide)
    cases ea0
    obtain ⟨x0q0, x1q0, x2q0, rfl, ex0, rfl, g0q0, g1q0, g2q0⟩ := openWEdge w0
    cases ex0
    refine And.intro b0 ?_
    refine helStore.mk (Int.natCast_nonneg j) hb0 (hin0 0 (by decide)) (by rw [Int.toNat_natCast]; rfl) trivial ?_
    have W1 : wEdgeS.W (h1.set bb0 (.cells (cur0.setIfInBounds (of0 + (j * wEdge.sz + 0)) (.int .i64 (kk))) ty0 (0, 0))) [.slice (some ⟨bb0, of0, none⟩) xs.length c] ((mkTo meEdge ceEdge xs k j).set j (kk, x1, x2)) B := st0 0 (.int .i64 (kk)) (kk, x1, x2) (by decide) fun h' hf => closeWEdge (in64 (by  omega) (by  omega)) g1q0 g2q0
    have F1 : ∀ y, y ∉ B → (h1.set bb0 (.cells (cur0.setIfInBounds (of0 + (j * wEdge.sz + 0)) (.int .i64 (kk))) ty0 (0, 0))) y = h y := fun y hy => (Hp.set_other _ _ fun e => hy (by rw [e]; exact hbB0)).trans (F0 y hy)
    generalize (h1.set bb0 (.cells (cur0.setIfInBounds (of0 + (j * wEdge.sz + 0)) (.int .i64 (kk))) ty0 (0, 0))) = kst0 at W1 F1 ⊢
    have ek1 : IntKind.i64.wrap (kk + 1) = kk + (1) := by rw [w64 (by  omega) (by  omega)] <;> omega
    have G1 : ((mkTo meEdge ceEdge xs k j).set j (kk, x1, x2))[j]? = some (kk, x1, x2) := by rw [List.getElem?_set_self (by rw [mkTo_length]; exact hlt)]
    obtain ⟨b1, cs1, Bi1, bb1, of1, cur1, ty1, ea1, e1, w1, hb1, hin1, hbB1, hbn1, hsub1, hnd1, upd1, st1⟩ := Wp.at W1 hB G1 (by decide)
    cases ea1
    obtain ⟨x0q1, x1q1, x2q1, rfl, ex1, rfl, g0q1, g1q1, g2q1⟩ := openWEdge w1
    cases ex1
    refine And.intro b1 ?_
    refine helStore.mk (Int.natCast_nonneg j) hb1 (hin1 1 (by decide)) (by rw [Int.toNat_natCast]; rfl) trivial ?_
    have W2 : wEdgeS.W (kst0.set bb0 (.cells (cur1.setIfInBounds (of0 + (j * wEdge.sz + 1)) (.int .i64 (IntKind.i64.wrap (kk + 1)))) ty1 (0, 0))) [.slice (some ⟨bb0, of0, none⟩) xs.length c] ((mkTo meEdge ceEdge xs k j).set j (kk, IntKind.i64.wrap (kk + 1), x2)) B := by have := st1 1 (.int .i64 (IntKind.i64.wrap (kk + 1))) (kk, IntKind.i64.wrap (kk + 1), x2) (by decide) fun h' hf => closeWEdge g0q1 (in64 (by rw [ek1]; omega) (by rw [ek1]; omega)) g2q1; rwa [List.set_set] at this
    have F2 : ∀ y, y ∉ B → (kst0.set bb0 (.cells (cur1.setIfInBounds (of0 + (j * wEdge.sz + 1)) (.int .i64 (IntKind.i64.wrap (kk + 1)))) ty1 (0, 0))) y = h y := fun y hy => (Hp.set_other _ _ fun e => hy (by rw [e]; exact hbB1)).trans (F1 y hy)
    generalize (kst0.set bb0 (.cells (cur1.setIfInBounds (of0 + (j * wEdge.sz + 1)) (.int .i64 (IntKind.i64.wrap (kk + 1)))) ty1 (0, 0))) = kst1 at W2 F2 ⊢
    have ek2 : IntKind.i64.wrap (IntKind.i64.wrap (kk + 1) + 1) = kk + (1 + 1) := by rw [w64 (by rw [ek1]; omega) (by rw [ek1]; omega)] <;> rw [ek1] <;> omega
    have G2 : ((mkTo meEdge ceEdge xs k j).set j (kk, IntKind.i64.wrap (kk + 1), x2))[j]? = some (kk, IntKind.i64.wrap (kk + 1), x2) := by rw [List.getElem?_set_self (by rw [mkTo_length]; exact hlt)]
    obtain ⟨b2, cs2, Bi2, bb2, of2, cur2, ty2, ea2, e2, w2, hb2, hin2, hbB2, hbn2, hsub2, hnd2, upd2, st2⟩ := Wp.at W2 hB G2 (by decide)
    cases ea2
    obtain ⟨x0q2, x1q2, x2q2, rfl, ex2, rfl, g0q2, g1q2, g2q2⟩ := openWEdge w2
    cases ex2
    refine And.intro b2 ?_
    refine helStore.mk (Int.natCast_nonneg j) hb2 (hin2 2 (by decide)) (by rw [Int.toNat_natCast]; rfl) trivial ?_
    have W3 : wEdgeS.W (kst1.set bb0 (.cells (cur2.setIfInBounds (of0 + (j * wEdge.sz + 2)) (.int .i64 (IntKind.i64.wrap (IntKind.i64.wrap (kk + 1) + 1)))) ty2 (0, 0))) [.slice (some ⟨bb0, of0, none⟩) xs.length c] ((mkTo meEdge ceEdge xs k j).set j (kk, IntKind.i64.wrap (kk + 1), IntKind.i64.wrap (IntKind.i64.wrap (kk + 1) + 1))) B := by have := st2 2 (.int .i64 (IntKind.i64.wrap (IntKind.i64.wrap (kk + 1) + 1))) (kk, IntKind.i64.wrap (kk + 1), IntKind.i64.wrap (IntKind.i64.wrap (kk + 1) + 1)) (by decide) fun h' hf => closeWEdge g0q2 g1q2 (in64 (by rw [ek2]; omega) (by rw [ek2]; omega)); rwa [List.set_set] at this
    have F3 : ∀ y, y ∉ B → (kst1.set bb0 (.cells (cur2.setIfInBounds (of0 + (j * wEdge.sz + 2)) (.int .i64 (IntKind.i64.wrap (IntKind.i64.wrap (kk + 1) + 1)))) ty2 (0, 0))) y = h y := fun y hy => (Hp.set_other _ _ fun e => hy (by rw [e]; exact hbB2)).trans (F2 y hy)
    generalize (kst1.set bb0 (.cells (cur2.setIfInBounds (of0 + (j * wEdge.sz + 2)) (.int .i64 (IntKind.i64.wrap (IntKind.i64.wrap (kk + 1) + 1)))) ty2 (0, 0))) = kst2 at W3 F3 ⊢
    have ek3 : IntKind.i64.wrap (IntKind.i64.wrap (IntKind.i64.wrap (kk + 1) + 1) + 1) = kk + (1 + 1 + 1) := by rw [w64 (by rw [ek2]; omega) (by rw [ek2]; omega)] <;> rw [ek2] <;> omega
    have em : (kk, IntKind.i64.wrap (kk + 1), IntKind.i64.wrap (IntKind.i64.wrap (kk + 1) + 1)) = meEdge (x0, x1, x2) kk := by
      simp only [meEdge, ceEdge]
      exact (congr (congrArg Prod.mk rfl) (congr (congrArg Prod.mk (by rw [ek1] <;> first | rfl | omega | (simp; omega))) (by rw [ek2] <;> first | rfl | omega | (simp; omega))))
    have eL : (mkTo meEdge ceEdge xs k j).set j (kk, IntKind.i64.wrap (kk + 1), IntKind.i64.wrap (IntKind.i64.wrap (kk + 1) + 1)) = mkTo meEdge ceEdge xs k (j + 1) := by rw [em]; rw [hkk]; exact mkTo_set gx
    rw [eL] at W3
    refine And.intro rfl (And.intro (by first | exact trivial | exact And.intro rfl trivial | exact And.intro rfl (And.intro rfl trivial) | exact And.intro rfl (And.intro rfl (And.intro rfl trivial)) | exact And.intro rfl (And.intro rfl (And.intro rfl (And.intro rfl trivial)))) (And.intro (by first | exact trivial | exact And.intro rfl trivial | exact And.intro rfl (And.intro rfl trivial) | exact And.intro rfl (And.intro rfl (And.intro rfl trivial)) | exact And.intro rfl (And.intro rfl (And.intro rfl (And.intro rfl trivial)))) (And.intro ?_ ?_)))
    · refine ⟨j + 1, IntKind.i64.wrap (IntKind.i64.wrap (IntKind.i64.wrap (kk + 1) + 1) + 1), ?_, by omega, by rw [← hw], W3, F3⟩
      rw [ek3]; rw [hs1]; simp only [ceEdge]; omega
    · show ((xs.length : Int) - IntKind.i64.wrap ((j : Int) + 1)).toNat < ((xs.length : Int) - (j : Int)).toNat
      omega
  · have hj' : j = xs.length := by simp at hc2; omega
    subst hj'
    rw [List.take_length] at hkk
    rw [mkTo_all] at W0
    exact And.intro (congrArg (Value.int .i64) hkk) (And.intro W0 F0)

theorem t_markGraph (h : Hp) (cs : List Value) (x : LGraph) (B : List Nat) (k : Int) (hx : wGraph.W h cs x B) (hB : B.Nodup) (hk : 0 ≤ k ∧ k + (cvGraph x : Nat) ≤ 4611686018427387904) :
    Tr Try.prog 34 #[.agg cs.toArray, .int .i64 k] h fun v h' => v = .int .i64 (k + (cvGraph x : Nat)) ∧ wGraph.W h' cs (mvGraph x k) B ∧ ∀ y, y ∉ B → h' y = h y := by
  obtain ⟨x0, x1, a2, n2, c2, x2, B2, rfl, rfl, rfl, h0, h1, h2⟩ := openWGraph hx
  simp only [cvGraph] at hk
  refine walk (args := [.agg #[.int .i64 x0, .int .i64 x1, .slice a2 n2 c2], .int .i64 k]) (fn := Try.f34) rfl ?_
  have hn2 : B.Nodup := by first | exact hB | (have := hB; simp only [List.nil_append, List.append_nil, List.nodup_append] at this; grind)
  refine Tr.mono (t_markEdgeS _ a2 n2 c2 x2 B (k) h2 hn2 ⟨by omega, by omega⟩) ?_
  rintro v2 h2m ⟨rfl, wm2, fm2⟩
  have eK : (k + (cEdgeS x2 : Nat) : Int) = k + (cvGraph (x0, x1, x2) : Nat) := by simp only [cvGraph] <;> omega
  have WW : wGraph.W h2m [.int .i64 x0, .int .i64 x1, .slice a2 n2 c2] (x0, x1, mkEdgeS x2 (k)) (B) := ⟨[.int .i64 x0], [.int .i64 x1, .slice a2 n2 c2], [], ([] ++ B), rfl, rfl, ⟨⟨rfl, h0⟩, rfl⟩, ⟨[.int .i64 x1], [.slice a2 n2 c2], [], B, rfl, rfl, ⟨⟨rfl, h1⟩, rfl⟩, wm2⟩⟩
  have em : (x0, x1, mkEdgeS x2 (k)) = mvGraph (x0, x1, x2) k := by
    unfold mvGraph
    exact (congr (congrArg Prod.mk rfl) (congr (congrArg Prod.mk rfl) rfl))
  rw [em] at WW
  exact And.intro (congrArg (Value.int .i64) eK) (And.intro WW (fun y hy => fm2 y (fun hy2 => hy (by first | exact hy2 | (simp only [List.nil_append, List.append_nil, List.mem_append, List.not_mem_nil, false_or, or_false] at hy2 ⊢; grind)))))

theorem t_markIntS (h : Hp) (a : Option Addr) (n c : Nat) (xs : LIntS) (B : List Nat) (k : Int) (hx : wIntS.W h [.slice a n c] xs B) (hB : B.Nodup) (hk : 0 ≤ k ∧ k + (cIntS xs : Nat) ≤ 4611686018427387904) :
    Tr Try.prog 53 #[.slice a n c, .int .i64 k] h fun v h' => v = .int .i64 (k + (cIntS xs : Nat)) ∧ wIntS.W h' [.slice a n c] (mkIntS xs k) B ∧ ∀ y, y ∉ B → h' y = h y := by
  obtain ⟨rfl, hn⟩ := Sl.len (wIntS.toR hx)
  refine walk (args := [.slice a xs.length c, .int .i64 k]) (fn := Try.f53) rfl ?_
  refine Exists.intro { vars := [1, 5], boxes := [], owns := [] } (Exists.intro (fun vs _ h' => ∃ (j : Nat) (kk : Int), kk = k + (sumM (fun _ => 1) (xs.take j) : Nat) ∧ j ≤ xs.length ∧ vs = [.int .i64 kk, .int .i64 j] ∧ wIntS.W h' [.slice a xs.length c] (mkTo (fun _ k => k) (fun _ => 1) xs k j) B ∧ ∀ y, y ∉ B → h' y = h y) (Exists.intro (fun vs _ => match vs with | [_, .int _ j] => ((xs.length : Int) - j).toNat | _ => 0) ?_))
  refine And.intro ⟨0, k, by simp [sumM], by omega, rfl, by rw [mkTo_zero]; exact hx, fun _ _ => rfl⟩ ?_
  rintro _ _ h1 ⟨j, kk, hkk, hj, ⟨⟩, W0, F0⟩
  refine And.intro (fun hc2 => ?_) (fun hc2 => ?_)
  · have hlt : j < xs.length := by simpa using hc2
    obtain ⟨x, gx⟩ := has_get hlt
    have G0 := mkTo_get (mk := (fun _ k => k)) (c := (fun _ => 1)) (k := k) gx
    have hs1 : sumM (fun _ => 1) (xs.take (j + 1)) = sumM (fun _ => 1) (xs.take j) + 1 := sumM_snoc gx
    have hs2 := sumM_take (fun _ => 1) xs (j + 1)
    have hw := wsucc hlt hn
    have hkx : 0 ≤ kk ∧ kk + (1 : Nat) ≤ 4611686018427387904 := by
      have : (cIntS xs : Int) = (sumM (fun _ => 1) xs : Nat) := rfl
      omega
    obtain ⟨b0, cs0, Bi0, bb0, of0, cur0, ty0, ea0, e0, w0, hb0, hin0, hbB0, hbn0, hsub0, hnd0, upd0, st0⟩ := Wp.at W0 hB G0 (by decide)
    cases ea0
    obtain ⟨⟨rfl, _⟩, rfl⟩ := w0
    refine And.intro b0 ?_
    refine helStore.mk (Int.natCast_nonneg j) hb0 (hin0 0 (by decide)) (by rw [Int.toNat_natCast]; rfl) trivial ?_
    have W1 : wIntS.W (h1.set bb0 (.cells (cur0.setIfInBounds (of0 + (j * Wp.int.sz + 0)) (.int .i64 (kk))) ty0 (0, 0))) [.slice (some ⟨bb0, of0, none⟩) xs.length c] ((mkTo (fun _ k => k) (fun _ => 1) xs k j).set j (kk)) B := st0 0 (.int .i64 (kk)) (kk) (by decide) fun h' hf => ⟨⟨rfl, in64 (by omega) (by omega)⟩, rfl⟩
    have F1 : ∀ y, y ∉ B → (h1.set bb0 (.cells (cur0.setIfInBounds (of0 + (j * Wp.int.sz + 0)) (.int .i64 (kk))) ty0 (0, 0))) y = h y := fun y hy => (Hp.set_other _ _ fun e => hy (by rw [e]; exact hbB0)).trans (F0 y hy)
    generalize (h1.set bb0 (.cells (cur0.setIfInBounds (of0 + (j * Wp.int.sz + 0)) (.int .i64 (kk))) ty0 (0, 0))) = kst0 at W1 F1 ⊢
    have ek1 : IntKind.i64.wrap (kk + 1) = kk + (1) := by rw [w64 (by  omega) (by  omega)] <;> omega
    have em : kk = (fun _ k => k) x kk := rfl
    have eL : (mkTo (fun _ k => k) (fun _ => 1) xs k j).set j (kk) = mkTo (fun _ k => k) (fun _ => 1) xs k (j + 1) := by rw [hkk]; exact mkTo_set gx
    rw [eL] at W1
    refine And.intro rfl (And.intro (by first | exact trivial | exact And.intro rfl trivial | exact And.intro rfl (And.intro rfl trivial) | exact And.intro rfl (And.intro rfl (And.intro rfl trivial)) | exact And.intro rfl (And.intro rfl (And.intro rfl (And.intro rfl trivial)))) (And.intro (by first | exact trivial | exact And.intro rfl trivial | exact And.intro rfl (And.intro rfl trivial) | exact And.intro rfl (And.intro rfl (And.intro rfl trivial)) | exact And.intro rfl (And.intro rfl (And.intro rfl (And.intro rfl trivial)))) (And.intro ?_ ?_)))
    · refine ⟨j + 1, IntKind.i64.wrap (kk + 1), ?_, by omega, by rw [← hw], W1, F1⟩
      rw [ek1]; rw [hs1]; omega
    · show ((xs.length : Int) - IntKind.i64.wrap ((j : Int) + 1)).toNat < ((xs.length : Int) - (j : Int)).toNat
      omega
  · have hj' : j = xs.length := by simp at hc2; omega
    subst hj'
    rw [List.take_length] at hkk
    rw [mkTo_all] at W0
    exact And.intro (congrArg (Value.int .i64) hkk) (And.intro W0 F0)

theorem t_markIntSS (h : Hp) (a : Option Addr) (n c : Nat) (xs : LIntSS) (B : List Nat) (k : Int) (hx : wIntSS.W h [.slice a n c] xs B) (hB : B.Nodup) (hk : 0 ≤ k ∧ k + (cIntSS xs : Nat) ≤ 4611686018427387904) :
    Tr Try.prog 113 #[.slice a n c, .int .i64 k] h fun v h' => v = .int .i64 (k + (cIntSS xs : Nat)) ∧ wIntSS.W h' [.slice a n c] (mkIntSS xs k) B ∧ ∀ y, y ∉ B → h' y = h y := by
  obtain ⟨rfl, hn⟩ := Sl.len (wIntSS.toR hx)
  refine walk (args := [.slice a xs.length c, .int .i64 k]) (fn := Try.f113) rfl ?_
  refine Exists.intro { vars := [1, 5], boxes := [], owns := [] } (Exists.intro (fun vs _ h' => ∃ (j : Nat) (kk : Int), kk = k + (sumM cIntS (xs.take j) : Nat) ∧ j ≤ xs.length ∧ vs = [.int .i64 kk, .int .i64 j] ∧ wIntSS.W h' [.slice a xs.length c] (mkTo mkIntS cIntS xs k j) B ∧ ∀ y, y ∉ B → h' y = h y) (Exists.intro (fun vs _ => match vs with | [_, .int _ j] => ((xs.length : Int) - j).toNat | _ => 0) ?_))
  refine And.intro ⟨0, k, by simp [sumM], by omega, rfl, by rw [mkTo_zero]; exact hx, fun _ _ => rfl⟩ ?_
  rintro _ _ h1 ⟨j, kk, hkk, hj, ⟨⟩, W0, F0⟩
  refine And.intro (fun hc2 => ?_) (fun hc2 => ?_)
  · have hlt : j < xs.length := by simpa using hc2
    obtain ⟨x, gx⟩ := has_get hlt
    have G0 := mkTo_get (mk := mkIntS) (c := cIntS) (k := k) gx
    have hs1 : sumM cIntS (xs.take (j + 1)) = sumM cIntS (xs.take j) + cIntS x := sumM_snoc gx
    have hs2 := sumM_take cIntS xs (j + 1)
    have hw := wsucc hlt hn
    have hkx : 0 ≤ kk ∧ kk + (cIntS x : Nat) ≤ 4611686018427387904 := by
      have : (cIntSS xs : Int) = (sumM cIntS xs : Nat) := rfl
      omega
    obtain ⟨b0, cs0, Bi0, bb0, of0, cur0, ty0, ea0, e0, w0, hb0, hin0, hbB0, hbn0, hsub0, hnd0, upd0, st0⟩ := Wp.at W0 hB G0 (by decide)
    cases ea0
    obtain ⟨aq0, nq0, cq0, eq0⟩ := Wp.slice_cell (wIntS.toR w0)
    cases eq0
    refine And.intro b0 (Exists.intro _ (And.intro e0 ?_))
    refine Tr.mono (t_markIntS _ aq0 nq0 cq0 (x) Bi0 (kk) w0 hnd0 ⟨by omega, by omega⟩) ?_
    rintro v0 h0m ⟨rfl, wm0, fm0⟩
    have W1 : wIntSS.W h0m [.slice (some ⟨bb0, of0, none⟩) xs.length c] ((mkTo mkIntS cIntS xs k j).set j (mkIntS x (kk))) B := upd0 h0m (mkIntS x (kk)) (fm0) wm0
    have F1 : ∀ y, y ∉ B → h0m y = h y := fun y hy => (fm0 y fun hy2 => hy (hsub0 y (by simp [hy2]))).trans (F0 y hy)
    have ek1 : (kk + (cIntS x : Nat) : Int) = kk + ((cIntS x : Nat)) := by omega
    have em : (mkIntS x (kk)) = mkIntS x kk := rfl
    have eL : (mkTo mkIntS cIntS xs k j).set j (mkIntS x (kk)) = mkTo mkIntS cIntS xs k (j + 1) := by rw [hkk]; exact mkTo_set gx
    rw [eL] at W1
    refine And.intro rfl (And.intro (by first | exact trivial | exact And.intro rfl trivial | exact And.intro rfl (And.intro rfl trivial) | exact And.intro rfl (And.intro rfl (And.intro rfl trivial)) | exact And.intro rfl (And.intro rfl (And.intro rfl (And.intro rfl trivial)))) (And.intro (by first | exact trivial | exact And.intro rfl trivial | exact And.intro rfl (And.intro rfl trivial) | exact And.intro rfl (And.intro rfl (And.intro rfl trivial)) | exact And.intro rfl (And.intro rfl (And.intro rfl (And.intro rfl trivial)))) (And.intro ?_ ?_)))
    · refine ⟨j + 1, kk + (cIntS x : Nat), ?_, by omega, by rw [← hw], W1, F1⟩
      rw [ek1]; rw [hs1]; omega
    · show ((xs.length : Int) - IntKind.i64.wrap ((j : Int) + 1)).toNat < ((xs.length : Int) - (j : Int)).toNat
      omega
  · have hj' : j = xs.length := by simp at hc2; omega
    subst hj'
    rw [List.take_length] at hkk
    rw [mkTo_all] at W0
    exact And.intro (congrArg (Value.int .i64) hkk) (And.intro W0 F0)

theorem t_markPresentation (h : Hp) (cs : List Value) (x : LPresentation) (B : List Nat) (k : Int) (hx : wPresentation.W h cs x B) (hB : B.Nodup) (hk : 0 ≤ k ∧ k + (cvPresentation x : Nat) ≤ 4611686018427387904) :
    Tr Try.prog 60 #[.agg cs.toArray, .int .i64 k] h fun v h' => v = .int .i64 (k + (cvPresentation x : Nat)) ∧ wPresentation.W h' cs (mvPresentation x k) B ∧ ∀ y, y ∉ B → h' y = h y := by
  obtain ⟨x0, a1, n1, c1, x1, B1, rfl, rfl, rfl, h0, h1⟩ := openWPresentation hx
  simp only [cvPresentation] at hk
  refine walk (args := [.agg #[.int .i64 x0, .slice a1 n1 c1], .int .i64 k]) (fn := Try.f60) rfl ?_
  have hn1 : B.Nodup := by first | exact hB | (have := hB; simp only [List.nil_append, List.append_nil, List.nodup_append] at this; grind)
  refine Tr.mono (t_markIntSS _ a1 n1 c1 x1 B (k) h1 hn1 ⟨by omega, by omega⟩) ?_
  rintro v1 h1m ⟨rfl, wm1, fm1⟩
  have eK : (k + (cIntSS x1 : Nat) : Int) = k + (cvPresentation (x0, x1) : Nat) := by simp only [cvPresentation] <;> omega
  have WW : wPresentation.W h1m [.int .i64 x0, .slice a1 n1 c1] (x0, mkIntSS x1 (k)) (B) := ⟨[.int .i64 x0], [.slice a1 n1 c1], [], B, rfl, rfl, ⟨⟨rfl, h0⟩, rfl⟩, wm1⟩
  have em : (x0, mkIntSS x1 (k)) = mvPresentation (x0, x1) k := by
    unfold mvPresentation
    exact (congr (congrArg Prod.mk rfl) rfl)
  rw [em] at WW
  exact And.intro (congrArg (Value.int .i64) eK) (And.intro WW (fun y hy => fm1 y (fun hy2 => hy (by first | exact hy2 | (simp only [List.nil_append, List.append_nil, List.mem_append, List.not_mem_nil, false_or, or_false] at hy2 ⊢; grind)))))

set_option maxHeartbeats 4000000 in
theorem t_markClaimS (h : Hp) (a : Option Addr) (n c : Nat) (xs : LClaimS) (B : List Nat) (k : Int) (hx : wClaimS.W h [.slice a n c] xs B) (hB : B.Nodup) (hk : 0 ≤ k ∧ k + (cClaimS xs : Nat) ≤ 4611686018427387904) :
    Tr Try.prog 88 #[.slice a n c, .int .i64 k] h fun v h' => v = .int .i64 (k + (cClaimS xs : Nat)) ∧ wClaimS.W h' [.slice a n c] (mkClaimS xs k) B ∧ ∀ y, y ∉ B → h' y = h y := by
  obtain ⟨rfl, hn⟩ := Sl.len (wClaimS.toR hx)
  refine walk (args := [.slice a xs.length c, .int .i64 k]) (fn := Try.f88) rfl ?_
  refine Exists.intro { vars := [1, 5], boxes := [], owns := [] } (Exists.intro (fun vs _ h' => ∃ (j : Nat) (kk : Int), kk = k + (sumM ceClaim (xs.take j) : Nat) ∧ j ≤ xs.length ∧ vs = [.int .i64 kk, .int .i64 j] ∧ wClaimS.W h' [.slice a xs.length c] (mkTo meClaim ceClaim xs k j) B ∧ ∀ y, y ∉ B → h' y = h y) (Exists.intro (fun vs _ => match vs with | [_, .int _ j] => ((xs.length : Int) - j).toNat | _ => 0) ?_))
  refine And.intro ⟨0, k, by simp [sumM], by omega, rfl, by rw [mkTo_zero]; exact hx, fun _ _ => rfl⟩ ?_
  rintro _ _ h1 ⟨j, kk, hkk, hj, ⟨⟩, W0, F0⟩
  refine And.intro (fun hc2 => ?_) (fun hc2 => ?_)
  · have hlt : j < xs.length := by simpa using hc2
    obtain ⟨x, gx⟩ := has_get hlt
    have G0 := mkTo_get (mk := meClaim) (c := ceClaim) (k := k) gx
    have hs1 : sumM ceClaim (xs.take (j + 1)) = sumM ceClaim (xs.take j) + ceClaim x := sumM_snoc gx
    have hs2 := sumM_take ceClaim xs (j + 1)
    have hw := wsucc hlt hn
    have hkx : 0 ≤ kk ∧ kk + (ceClaim x : Nat) ≤ 4611686018427387904 := by
      have : (cClaimS xs : Int) = (sumM ceClaim xs : Nat) := rfl
      omega
    obtain ⟨x0, x1, x2, x3, x4, ⟨x5_0, x5_1, x5_2⟩, x6⟩ := x
    simp only [ceClaim, ceGraph] at hkx
    obtain ⟨b0, cs0, Bi0, bb0, of0, cur0, ty0, ea0, e0, w0, hb0, hin0, hbB0, hbn0, hsub0, hnd0, upd0, st0⟩ := Wp.at W0 hB G0 (by decide)
    cases ea0
    obtain ⟨x0q0, x1q0, a2q0, n2q0, c2q0, x2q0, a3q0, n3q0, c3q0, x3q0, a4q0, n4q0, c4q0, x4q0, x5_0q0, x5_1q0, a5_2q0, n5_2q0, c5_2q0, x5_2q0, x6q0, B2q0, B3q0, B4q0, B5_2q0, rfl, ex0, rfl, g0q0, g1q0, g2q0, g3q0, g4q0, g5_0q0, g5_1q0, g5_2q0, g6q0⟩ := openWClaim w0
    cases ex0
    refine And.intro b0 ?_
    refine helStore.mk (Int.natCast_nonneg j) hb0 (hin0 0 (by decide)) (by rw [Int.toNat_natCast]; rfl) trivial ?_
    have W1 : wClaimS.W (h1.set bb0 (.cells (cur0.setIfInBounds (of0 + (j * wClaim.sz + 0)) (.int .i64 (kk))) ty0 (0, 0))) [.slice (some ⟨bb0, of0, none⟩) xs.length c] ((mkTo meClaim ceClaim xs k j).set j (kk, x1, x2, x3, x4, (x5_0, x5_1, x5_2), x6)) B := st0 0 (.int .i64 (kk)) (kk, x1, x2, x3, x4, (x5_0, x5_1, x5_2), x6) (by decide) fun h' hf => closeWClaim (in64 (by  omega) (by  omega)) g1q0 (wIntSS.frame g2q0 fun y hy => hf y (by simp [hy])) (wIntS.frame g3q0 fun y hy => hf y (by simp [hy])) (wIntS.frame g4q0 fun y hy => hf y (by simp [hy])) g5_0q0 g5_1q0 (wEdgeS.frame g5_2q0 fun y hy => hf y (by simp [hy])) g6q0
    have F1 : ∀ y, y ∉ B → (h1.set bb0 (.cells (cur0.setIfInBounds (of0 + (j * wClaim.sz + 0)) (.int .i64 (kk))) ty0 (0, 0))) y = h y := fun y hy => (Hp.set_other _ _ fun e => hy (by rw [e]; exact hbB0)).trans (F0 y hy)
    generalize (h1.set bb0 (.cells (cur0.setIfInBounds (of0 + (j * wClaim.sz + 0)) (.int .i64 (kk))) ty0 (0, 0))) = kst0 at W1 F1 ⊢
    have ek1 : IntKind.i64.wrap (kk + 1) = kk + (1) := by rw [w64 (by  omega) (by  omega)] <;> omega
    have G1 : ((mkTo meClaim ceClaim xs k j).set j (kk, x1, x2, x3, x4, (x5_0, x5_1, x5_2), x6))[j]? = some (kk, x1, x2, x3, x4, (x5_0, x5_1, x5_2), x6) := by rw [List.getElem?_set_self (by rw [mkTo_length]; exact hlt)]
    obtain ⟨b1, cs1, Bi1, bb1, of1, cur1, ty1, ea1, e1, w1, hb1, hin1, hbB1, hbn1, hsub1, hnd1, upd1, st1⟩ := Wp.at W1 hB G1 (by decide)
    cases ea1
    obtain ⟨x0q1, x1q1, a2q1, n2q1, c2q1, x2q1, a3q1, n3q1, c3q1, x3q1, a4q1, n4q1, c4q1, x4q1, x5_0q1, x5_1q1, a5_2q1, n5_2q1, c5_2q1, x5_2q1, x6q1, B2q1, B3q1, B4q1, B5_2q1, rfl, ex1, rfl, g0q1, g1q1, g2q1, g3q1, g4q1, g5_0q1, g5_1q1, g5_2q1, g6q1⟩ := openWClaim w1
    cases ex1
    refine And.intro b1 ?_
    refine helStore.mk (Int.natCast_nonneg j) hb1 (hin1 1 (by decide)) (by rw [Int.toNat_natCast]; rfl) trivial ?_
    have W2 : wClaimS.W (kst0.set bb0 (.cells (cur1.setIfInBounds (of0 + (j * wClaim.sz + 1)) (.int .i64 (IntKind.i64.wrap (kk + 1)))) ty1 (0, 0))) [.slice (some ⟨bb0, of0, none⟩) xs.length c] ((mkTo meClaim ceClaim xs k j).set j (kk, IntKind.i64.wrap (kk + 1), x2, x3, x4, (x5_0, x5_1, x5_2), x6)) B := by have := st1 1 (.int .i64 (IntKind.i64.wrap (kk + 1))) (kk, IntKind.i64.wrap (kk + 1), x2, x3, x4, (x5_0, x5_1, x5_2), x6) (by decide) fun h' hf => closeWClaim g0q1 (in64 (by rw [ek1]; omega) (by rw [ek1]; omega)) (wIntSS.frame g2q1 fun y hy => hf y (by simp [hy])) (wIntS.frame g3q1 fun y hy => hf y (by simp [hy])) (wIntS.frame g4q1 fun y hy => hf y (by simp [hy])) g5_0q1 g5_1q1 (wEdgeS.frame g5_2q1 fun y hy => hf y (by simp [hy])) g6q1; rwa [List.set_set] at this
    have F2 : ∀ y, y ∉ B → (kst0.set bb0 (.cells (cur1.setIfInBounds (of0 + (j * wClaim.sz + 1)) (.int .i64 (IntKind.i64.wrap (kk + 1)))) ty1 (0, 0))) y = h y := fun y hy => (Hp.set_other _ _ fun e => hy (by rw [e]; exact hbB1)).trans (F1 y hy)
    generalize (kst0.set bb0 (.cells (cur1.setIfInBounds (of0 + (j * wClaim.sz + 1)) (.int .i64 (IntKind.i64.wrap (kk + 1)))) ty1 (0, 0))) = kst1 at W2 F2 ⊢
    have ek2 : IntKind.i64.wrap (IntKind.i64.wrap (kk + 1) + 1) = kk + (1 + 1) := by rw [w64 (by rw [ek1]; omega) (by rw [ek1]; omega)] <;> rw [ek1] <;> omega
    have G2 : ((mkTo meClaim ceClaim xs k j).set j (kk, IntKind.i64.wrap (kk + 1), x2, x3, x4, (x5_0, x5_1, x5_2), x6))[j]? = some (kk, IntKind.i64.wrap (kk + 1), x2, x3, x4, (x5_0, x5_1, x5_2), x6) := by rw [List.getElem?_set_self (by rw [mkTo_length]; exact hlt)]
    obtain ⟨b2, cs2, Bi2, bb2, of2, cur2, ty2, ea2, e2, w2, hb2, hin2, hbB2, hbn2, hsub2, hnd2, upd2, st2⟩ := Wp.at W2 hB G2 (by decide)
    cases ea2
    obtain ⟨x0q2, x1q2, a2q2, n2q2, c2q2, x2q2, a3q2, n3q2, c3q2, x3q2, a4q2, n4q2, c4q2, x4q2, x5_0q2, x5_1q2, a5_2q2, n5_2q2, c5_2q2, x5_2q2, x6q2, B2q2, B3q2, B4q2, B5_2q2, rfl, ex2, rfl, g0q2, g1q2, g2q2, g3q2, g4q2, g5_0q2, g5_1q2, g5_2q2, g6q2⟩ := openWClaim w2
    cases ex2
    refine And.intro b2 (Exists.intro _ (And.intro e2 ?_))
    have hn2 : B2q2.Nodup := by first | exact hnd2 | (have := hnd2; simp only [List.nil_append, List.append_nil, List.nodup_append] at this; grind)
    refine Tr.mono (t_markIntSS _ a2q2 n2q2 c2q2 (x2) B2q2 (IntKind.i64.wrap (IntKind.i64.wrap (kk + 1) + 1)) g2q2 hn2 ⟨by rw [ek2]; omega, by rw [ek2]; omega⟩) ?_
    rintro v2 h2m ⟨rfl, wm2, fm2⟩
    have W3 : wClaimS.W h2m [.slice (some ⟨bb0, of0, none⟩) xs.length c] ((mkTo meClaim ceClaim xs k j).set j (kk, IntKind.i64.wrap (kk + 1), (mkIntSS x2 (IntKind.i64.wrap (IntKind.i64.wrap (kk + 1) + 1))), x3, x4, (x5_0, x5_1, x5_2), x6)) B := by have := upd2 h2m (kk, IntKind.i64.wrap (kk + 1), (mkIntSS x2 (IntKind.i64.wrap (IntKind.i64.wrap (kk + 1) + 1))), x3, x4, (x5_0, x5_1, x5_2), x6) (fun y hy => fm2 y fun hy2 => hy (by simp [hy2])) (closeWClaim g0q2 g1q2 wm2 (wIntS.frame g3q2 fun y hy => fm2 y fun hy2 => by have := hnd2; simp only [List.nil_append, List.append_nil, List.nodup_append] at this; grind) (wIntS.frame g4q2 fun y hy => fm2 y fun hy2 => by have := hnd2; simp only [List.nil_append, List.append_nil, List.nodup_append] at this; grind) g5_0q2 g5_1q2 (wEdgeS.frame g5_2q2 fun y hy => fm2 y fun hy2 => by have := hnd2; simp only [List.nil_append, List.append_nil, List.nodup_append] at this; grind) g6q2); rwa [List.set_set] at this
    have F3 : ∀ y, y ∉ B → h2m y = h y := fun y hy => (fm2 y fun hy2 => hy (hsub2 y (by simp [hy2]))).trans (F2 y hy)
    have ek3 : (IntKind.i64.wrap (IntKind.i64.wrap (kk + 1) + 1) + (cIntSS x2 : Nat) : Int) = kk + (1 + 1 + (cIntSS x2 : Nat)) := by rw [ek2]; omega
    have G3 : ((mkTo meClaim ceClaim xs k j).set j (kk, IntKind.i64.wrap (kk + 1), (mkIntSS x2 (IntKind.i64.wrap (IntKind.i64.wrap (kk + 1) + 1))), x3, x4, (x5_0, x5_1, x5_2), x6))[j]? = some (kk, IntKind.i64.wrap (kk + 1), (mkIntSS x2 (IntKind.i64.wrap (IntKind.i64.wrap (kk + 1) + 1))), x3, x4, (x5_0, x5_1, x5_2), x6) := by rw [List.getElem?_set_self (by rw [mkTo_length]; exact hlt)]
    obtain ⟨b3, cs3, Bi3, bb3, of3, cur3, ty3, ea3, e3, w3, hb3, hin3, hbB3, hbn3, hsub3, hnd3, upd3, st3⟩ := Wp.at W3 hB G3 (by decide)
    cases ea3
    obtain ⟨x0q3, x1q3, a2q3, n2q3, c2q3, x2q3, a3q3, n3q3, c3q3, x3q3, a4q3, n4q3, c4q3, x4q3, x5_0q3, x5_1q3, a5_2q3, n5_2q3, c5_2q3, x5_2q3, x6q3, B2q3, B3q3, B4q3, B5_2q3, rfl, ex3, rfl, g0q3, g1q3, g2q3, g3q3, g4q3, g5_0q3, g5_1q3, g5_2q3, g6q3⟩ := openWClaim w3
    cases ex3
    refine And.intro b3 (Exists.intro _ (And.intro e3 ?_))
    have hn3 : B3q3.Nodup := by first | exact hnd3 | (have := hnd3; simp only [List.nil_append, List.append_nil, List.nodup_append] at this; grind)
    refine Tr.mono (t_markIntS _ a3q3 n3q3 c3q3 (x3) B3q3 (IntKind.i64.wrap (IntKind.i64.wrap (kk + 1) + 1) + (cIntSS x2 : Nat)) g3q3 hn3 ⟨by rw [ek3]; omega, by rw [ek3]; omega⟩) ?_
    rintro v3 h3m ⟨rfl, wm3, fm3⟩
    have W4 : wClaimS.W h3m [.slice (some ⟨bb0, of0, none⟩) xs.length c] ((mkTo meClaim ceClaim xs k j).set j (kk, IntKind.i64.wrap (kk + 1), (mkIntSS x2 (IntKind.i64.wrap (IntKind.i64.wrap (kk + 1) + 1))), (mkIntS x3 (IntKind.i64.wrap (IntKind.i64.wrap (kk + 1) + 1) + (cIntSS x2 : Nat))), x4, (x5_0, x5_1, x5_2), x6)) B := by have := upd3 h3m (kk, IntKind.i64.wrap (kk + 1), (mkIntSS x2 (IntKind.i64.wrap (IntKind.i64.wrap (kk + 1) + 1))), (mkIntS x3 (IntKind.i64.wrap (IntKind.i64.wrap (kk + 1) + 1) + (cIntSS x2 : Nat))), x4, (x5_0, x5_1, x5_2), x6) (fun y hy => fm3 y fun hy2 => hy (by simp [hy2])) (closeWClaim g0q3 g1q3 (wIntSS.frame g2q3 fun y hy => fm3 y fun hy2 => by have := hnd3; simp only [List.nil_append, List.append_nil, List.nodup_append] at this; grind) wm3 (wIntS.frame g4q3 fun y hy => fm3 y fun hy2 => by have := hnd3; simp only [List.nil_append, List.append_nil, List.nodup_append] at this; grind) g5_0q3 g5_1q3 (wEdgeS.frame g5_2q3 fun y hy => fm3 y fun hy2 => by have := hnd3; simp only [List.nil_append, List.append_nil, List.nodup_append] at this; grind) g6q3); rwa [List.set_set] at this
    have F4 : ∀ y, y ∉ B → h3m y = h y := fun y hy => (fm3 y fun hy2 => hy (hsub3 y (by simp [hy2]))).trans (F3 y hy)
    have ek4 : (IntKind.i64.wrap (IntKind.i64.wrap (kk + 1) + 1) + (cIntSS x2 : Nat) + (cIntS x3 : Nat) : Int) = kk + (1 + 1 + (cIntSS x2 : Nat) + (cIntS x3 : Nat)) := by rw [ek3]; omega
    have G4 : ((mkTo meClaim ceClaim xs k j).set j (kk, IntKind.i64.wrap (kk + 1), (mkIntSS x2 (IntKind.i64.wrap (IntKind.i64.wrap (kk + 1) + 1))), (mkIntS x3 (IntKind.i64.wrap (IntKind.i64.wrap (kk + 1) + 1) + (cIntSS x2 : Nat))), x4, (x5_0, x5_1, x5_2), x6))[j]? = some (kk, IntKind.i64.wrap (kk + 1), (mkIntSS x2 (IntKind.i64.wrap (IntKind.i64.wrap (kk + 1) + 1))), (mkIntS x3 (IntKind.i64.wrap (IntKind.i64.wrap (kk + 1) + 1) + (cIntSS x2 : Nat))), x4, (x5_0, x5_1, x5_2), x6) := by rw [List.getElem?_set_self (by rw [mkTo_length]; exact hlt)]
    obtain ⟨b4, cs4, Bi4, bb4, of4, cur4, ty4, ea4, e4, w4, hb4, hin4, hbB4, hbn4, hsub4, hnd4, upd4, st4⟩ := Wp.at W4 hB G4 (by decide)
    cases ea4
    obtain ⟨x0q4, x1q4, a2q4, n2q4, c2q4, x2q4, a3q4, n3q4, c3q4, x3q4, a4q4, n4q4, c4q4, x4q4, x5_0q4, x5_1q4, a5_2q4, n5_2q4, c5_2q4, x5_2q4, x6q4, B2q4, B3q4, B4q4, B5_2q4, rfl, ex4, rfl, g0q4, g1q4, g2q4, g3q4, g4q4, g5_0q4, g5_1q4, g5_2q4, g6q4⟩ := openWClaim w4
    cases ex4
    refine And.intro b4 (Exists.intro _ (And.intro e4 ?_))
    have hn4 : B4q4.Nodup := by first | exact hnd4 | (have := hnd4; simp only [List.nil_append, List.append_nil, List.nodup_append] at this; grind)
    refine Tr.mono (t_markIntS _ a4q4 n4q4 c4q4 (x4) B4q4 (IntKind.i64.wrap (IntKind.i64.wrap (kk + 1) + 1) + (cIntSS x2 : Nat) + (cIntS x3 : Nat)) g4q4 hn4 ⟨by rw [ek4]; omega, by rw [ek4]; omega⟩) ?_
    rintro v4 h4m ⟨rfl, wm4, fm4⟩
    have W5 : wClaimS.W h4m [.slice (some ⟨bb0, of0, none⟩) xs.length c] ((mkTo meClaim ceClaim xs k j).set j (kk, IntKind.i64.wrap (kk + 1), (mkIntSS x2 (IntKind.i64.wrap (IntKind.i64.wrap (kk + 1) + 1))), (mkIntS x3 (IntKind.i64.wrap (IntKind.i64.wrap (kk + 1) + 1) + (cIntSS x2 : Nat))), (mkIntS x4 (IntKind.i64.wrap (IntKind.i64.wrap (kk + 1) + 1) + (cIntSS x2 : Nat) + (cIntS x3 : Nat))), (x5_0, x5_1, x5_2), x6)) B := by have := upd4 h4m (kk, IntKind.i64.wrap (kk + 1), (mkIntSS x2 (IntKind.i64.wrap (IntKind.i64.wrap (kk + 1) + 1))), (mkIntS x3 (IntKind.i64.wrap (IntKind.i64.wrap (kk + 1) + 1) + (cIntSS x2 : Nat))), (mkIntS x4 (IntKind.i64.wrap (IntKind.i64.wrap (kk + 1) + 1) + (cIntSS x2 : Nat) + (cIntS x3 : Nat))), (x5_0, x5_1, x5_2), x6) (fun y hy => fm4 y fun hy2 => hy (by simp [hy2])) (closeWClaim g0q4 g1q4 (wIntSS.frame g2q4 fun y hy => fm4 y fun hy2 => by have := hnd4; simp only [List.nil_append, List.append_nil, List.nodup_append] at this; grind) (wIntS.frame g3q4 fun y hy => fm4 y fun hy2 => by have := hnd4; simp only [List.nil_append, List.append_nil, List.nodup_append] at this; grind) wm4 g5_0q4 g5_1q4 (wEdgeS.frame g5_2q4 fun y hy => fm4 y fun hy2 => by have := hnd4; simp only [List.nil_append, List.append_nil, List.nodup_append] at this; grind) g6q4); rwa [List.set_set] at this
    have F5 : ∀ y, y ∉ B → h4m y = h y := fun y hy => (fm4 y fun hy2 => hy (hsub4 y (by simp [hy2]))).trans (F4 y hy)
    have ek5 : (IntKind.i64.wrap (IntKind.i64.wrap (kk + 1) + 1) + (cIntSS x2 : Nat) + (cIntS x3 : Nat) + (cIntS x4 : Nat) : Int) = kk + (1 + 1 + (cIntSS x2 : Nat) + (cIntS x3 : Nat) + (cIntS x4 : Nat)) := by rw [ek4]; omega
    have G5 : ((mkTo meClaim ceClaim xs k j).set j (kk, IntKind.i64.wrap (kk + 1), (mkIntSS x2 (IntKind.i64.wrap (IntKind.i64.wrap (kk + 1) + 1))), (mkIntS x3 (IntKind.i64.wrap (IntKind.i64.wrap (kk + 1) + 1) + (cIntSS x2 : Nat))), (mkIntS x4 (IntKind.i64.wrap (IntKind.i64.wrap (kk + 1) + 1) + (cIntSS x2 : Nat) + (cIntS x3 : Nat))), (x5_0, x5_1, x5_2), x6))[j]? = some (kk, IntKind.i64.wrap (kk + 1), (mkIntSS x2 (IntKind.i64.wrap (IntKind.i64.wrap (kk + 1) + 1))), (mkIntS x3 (IntKind.i64.wrap (IntKind.i64.wrap (kk + 1) + 1) + (cIntSS x2 : Nat))), (mkIntS x4 (IntKind.i64.wrap (IntKind.i64.wrap (kk + 1) + 1) + (cIntSS x2 : Nat) + (cIntS x3 : Nat))), (x5_0, x5_1, x5_2), x6) := by rw [List.getElem?_set_self (by rw [mkTo_length]; exact hlt)]
    obtain ⟨b5, cs5, Bi5, bb5, of5, cur5, ty5, ea5, e5, w5, hb5, hin5, hbB5, hbn5, hsub5, hnd5, upd5, st5⟩ := Wp.at W5 hB G5 (by decide)
    cases ea5
    obtain ⟨x0q5, x1q5, a2q5, n2q5, c2q5, x2q5, a3q5, n3q5, c3q5, x3q5, a4q5, n4q5, c4q5, x4q5, x5_0q5, x5_1q5, a5_2q5, n5_2q5, c5_2q5, x5_2q5, x6q5, B2q5, B3q5, B4q5, B5_2q5, rfl, ex5, rfl, g0q5, g1q5, g2q5, g3q5, g4q5, g5_0q5, g5_1q5, g5_2q5, g6q5⟩ := openWClaim w5
    cases ex5
    refine And.intro b5 ?_
    refine helStore.mk (Int.natCast_nonneg j) hb5 (hin5 5 (by decide)) (by rw [Int.toNat_natCast]; rfl) trivial ?_
    have W6 : wClaimS.W (h4m.set bb0 (.cells (cur5.setIfInBounds (of0 + (j * wClaim.sz + 5)) (.int .i64 (IntKind.i64.wrap (IntKind.i64.wrap (kk + 1) + 1) + (cIntSS x2 : Nat) + (cIntS x3 : Nat) + (cIntS x4 : Nat)))) ty5 (0, 0))) [.slice (some ⟨bb0, of0, none⟩) xs.length c] ((mkTo meClaim ceClaim xs k j).set j (kk, IntKind.i64.wrap (kk + 1), (mkIntSS x2 (IntKind.i64.wrap (IntKind.i64.wrap (kk + 1) + 1))), (mkIntS x3 (IntKind.i64.wrap (IntKind.i64.wrap (kk + 1) + 1) + (cIntSS x2 : Nat))), (mkIntS x4 (IntKind.i64.wrap (IntKind.i64.wrap (kk + 1) + 1) + (cIntSS x2 : Nat) + (cIntS x3 : Nat))), (IntKind.i64.wrap (IntKind.i64.wrap (kk + 1) + 1) + (cIntSS x2 : Nat) + (cIntS x3 : Nat) + (cIntS x4 : Nat), x5_1, x5_2), x6)) B := by have := st5 5 (.int .i64 (IntKind.i64.wrap (IntKind.i64.wrap (kk + 1) + 1) + (cIntSS x2 : Nat) + (cIntS x3 : Nat) + (cIntS x4 : Nat))) (kk, IntKind.i64.wrap (kk + 1), (mkIntSS x2 (IntKind.i64.wrap (IntKind.i64.wrap (kk + 1) + 1))), (mkIntS x3 (IntKind.i64.wrap (IntKind.i64.wrap (kk + 1) + 1) + (cIntSS x2 : Nat))), (mkIntS x4 (IntKind.i64.wrap (IntKind.i64.wrap (kk + 1) + 1) + (cIntSS x2 : Nat) + (cIntS x3 : Nat))), (IntKind.i64.wrap (IntKind.i64.wrap (kk + 1) + 1) + (cIntSS x2 : Nat) + (cIntS x3 : Nat) + (cIntS x4 : Nat), x5_1, x5_2), x6) (by decide) fun h' hf => closeWClaim g0q5 g1q5 (wIntSS.frame g2q5 fun y hy => hf y (by simp [hy])) (wIntS.frame g3q5 fun y hy => hf y (by simp [hy])) (wIntS.frame g4q5 fun y hy => hf y (by simp [hy])) (in64 (by rw [ek5]; omega) (by rw [ek5]; omega)) g5_1q5 (wEdgeS.frame g5_2q5 fun y hy => hf y (by simp [hy])) g6q5; rwa [List.set_set] at this
    have F6 : ∀ y, y ∉ B → (h4m.set bb0 (.cells (cur5.setIfInBounds (of0 + (j * wClaim.sz + 5)) (.int .i64 (IntKind.i64.wrap (IntKind.i64.wrap (kk + 1) + 1) + (cIntSS x2 : Nat) + (cIntS x3 : Nat) + (cIntS x4 : Nat)))) ty5 (0, 0))) y = h y := fun y hy => (Hp.set_other _ _ fun e => hy (by rw [e]; exact hbB5)).trans (F5 y hy)
    generalize (h4m.set bb0 (.cells (cur5.setIfInBounds (of0 + (j * wClaim.sz + 5)) (.int .i64 (IntKind.i64.wrap (IntKind.i64.wrap (kk + 1) + 1) + (cIntSS x2 : Nat) + (cIntS x3 : Nat) + (cIntS x4 : Nat)))) ty5 (0, 0))) = kst5 at W6 F6 ⊢
    have ek6 : IntKind.i64.wrap (IntKind.i64.wrap (IntKind.i64.wrap (kk + 1) + 1) + (cIntSS x2 : Nat) + (cIntS x3 : Nat) + (cIntS x4 : Nat) + 1) = kk + (1 + 1 + (cIntSS x2 : Nat) + (cIntS x3 : Nat) + (cIntS x4 : Nat) + 1) := by rw [w64 (by rw [ek5]; omega) (by rw [ek5]; omega)] <;> rw [ek5] <;> omega
    have G6 : ((mkTo meClaim ceClaim xs k j).set j (kk, IntKind.i64.wrap (kk + 1), (mkIntSS x2 (IntKind.i64.wrap (IntKind.i64.wrap (kk + 1) + 1))), (mkIntS x3 (IntKind.i64.wrap (IntKind.i64.wrap (kk + 1) + 1) + (cIntSS x2 : Nat))), (mkIntS x4 (IntKind.i64.wrap (IntKind.i64.wrap (kk + 1) + 1) + (cIntSS x2 : Nat) + (cIntS x3 : Nat))), (IntKind.i64.wrap (IntKind.i64.wrap (kk + 1) + 1) + (cIntSS x2 : Nat) + (cIntS x3 : Nat) + (cIntS x4 : Nat), x5_1, x5_2), x6))[j]? = some (kk, IntKind.i64.wrap (kk + 1), (mkIntSS x2 (IntKind.i64.wrap (IntKind.i64.wrap (kk + 1) + 1))), (mkIntS x3 (IntKind.i64.wrap (IntKind.i64.wrap (kk + 1) + 1) + (cIntSS x2 : Nat))), (mkIntS x4 (IntKind.i64.wrap (IntKind.i64.wrap (kk + 1) + 1) + (cIntSS x2 : Nat) + (cIntS x3 : Nat))), (IntKind.i64.wrap (IntKind.i64.wrap (kk + 1) + 1) + (cIntSS x2 : Nat) + (cIntS x3 : Nat) + (cIntS x4 : Nat), x5_1, x5_2), x6) := by rw [List.getElem?_set_self (by rw [mkTo_length]; exact hlt)]
    obtain ⟨b6, cs6, Bi6, bb6, of6, cur6, ty6, ea6, e6, w6, hb6, hin6, hbB6, hbn6, hsub6, hnd6, upd6, st6⟩ := Wp.at W6 hB G6 (by decide)
    cases ea6
    obtain ⟨x0q6, x1q6, a2q6, n2q6, c2q6, x2q6, a3q6, n3q6, c3q6, x3q6, a4q6, n4q6, c4q6, x4q6, x5_0q6, x5_1q6, a5_2q6, n5_2q6, c5_2q6, x5_2q6, x6q6, B2q6, B3q6, B4q6, B5_2q6, rfl, ex6, rfl, g0q6, g1q6, g2q6, g3q6, g4q6, g5_0q6, g5_1q6, g5_2q6, g6q6⟩ := openWClaim w6
    cases ex6
    refine And.intro b6 ?_
    refine helStore.mk (Int.natCast_nonneg j) hb6 (hin6 6 (by decide)) (by rw [Int.toNat_natCast]; rfl) trivial ?_
    have W7 : wClaimS.W (kst5.set bb0 (.cells (cur6.setIfInBounds (of0 + (j * wClaim.sz + 6)) (.int .i64 (IntKind.i64.wrap (IntKind.i64.wrap (IntKind.i64.wrap (kk + 1) + 1) + (cIntSS x2 : Nat) + (cIntS x3 : Nat) + (cIntS x4 : Nat) + 1)))) ty6 (0, 0))) [.slice (some ⟨bb0, of0, none⟩) xs.length c] ((mkTo meClaim ceClaim xs k j).set j (kk, IntKind.i64.wrap (kk + 1), (mkIntSS x2 (IntKind.i64.wrap (IntKind.i64.wrap (kk + 1) + 1))), (mkIntS x3 (IntKind.i64.wrap (IntKind.i64.wrap (kk + 1) + 1) + (cIntSS x2 : Nat))), (mkIntS x4 (IntKind.i64.wrap (IntKind.i64.wrap (kk + 1) + 1) + (cIntSS x2 : Nat) + (cIntS x3 : Nat))), (IntKind.i64.wrap (IntKind.i64.wrap (kk + 1) + 1) + (cIntSS x2 : Nat) + (cIntS x3 : Nat) + (cIntS x4 : Nat), IntKind.i64.wrap (IntKind.i64.wrap (IntKind.i64.wrap (kk + 1) + 1) + (cIntSS x2 : Nat) + (cIntS x3 : Nat) + (cIntS x4 : Nat) + 1), x5_2), x6)) B := by have := st6 6 (.int .i64 (IntKind.i64.wrap (IntKind.i64.wrap (IntKind.i64.wrap (kk + 1) + 1) + (cIntSS x2 : Nat) + (cIntS x3 : Nat) + (cIntS x4 : Nat) + 1))) (kk, IntKind.i64.wrap (kk + 1), (mkIntSS x2 (IntKind.i64.wrap (IntKind.i64.wrap (kk + 1) + 1))), (mkIntS x3 (IntKind.i64.wrap (IntKind.i64.wrap (kk + 1) + 1) + (cIntSS x2 : Nat))), (mkIntS x4 (IntKind.i64.wrap (IntKind.i64.wrap (kk + 1) + 1) + (cIntSS x2 : Nat) + (cIntS x3 : Nat))), (IntKind.i64.wrap (IntKind.i64.wrap (kk + 1) + 1) + (cIntSS x2 : Nat) + (cIntS x3 : Nat) + (cIntS x4 : Nat), IntKind.i64.wrap (IntKind.i64.wrap (IntKind.i64.wrap (kk + 1) + 1) + (cIntSS x2 : Nat) + (cIntS x3 : Nat) + (cIntS x4 : Nat) + 1), x5_2), x6) (by decide) fun h' hf => closeWClaim g0q6 g1q6 (wIntSS.frame g2q6 fun y hy => hf y (by simp [hy])) (wIntS.frame g3q6 fun y hy => hf y (by simp [hy])) (wIntS.frame g4q6 fun y hy => hf y (by simp [hy])) g5_0q6 (in64 (by rw [ek6]; omega) (by rw [ek6]; omega)) (wEdgeS.frame g5_2q6 fun y hy => hf y (by simp [hy])) g6q6; rwa [List.set_set] at this
    have F7 : ∀ y, y ∉ B → (kst5.set bb0 (.cells (cur6.setIfInBounds (of0 + (j * wClaim.sz + 6)) (.int .i64 (IntKind.i64.wrap (IntKind.i64.wrap (IntKind.i64.wrap (kk + 1) + 1) + (cIntSS x2 : Nat) + (cIntS x3 : Nat) + (cIntS x4 : Nat) + 1)))) ty6 (0, 0))) y = h y := fun y hy => (Hp.set_other _ _ fun e => hy (by rw [e]; exact hbB6)).trans (F6 y hy)
    generalize (kst5.set bb0 (.cells (cur6.setIfInBounds (of0 + (j * wClaim.sz + 6)) (.int .i64 (IntKind.i64.wrap (IntKind.i64.wrap (IntKind.i64.wrap (kk + 1) + 1) + (cIntSS x2 : Nat) + (cIntS x3 : Nat) + (cIntS x4 : Nat) + 1)))) ty6 (0, 0))) = kst6 at W7 F7 ⊢
    have ek7 : IntKind.i64.wrap (IntKind.i64.wrap (IntKind.i64.wrap (IntKind.i64.wrap (kk + 1) + 1) + (cIntSS x2 : Nat) + (cIntS x3 : Nat) + (cIntS x4 : Nat) + 1) + 1) = kk + (1 + 1 + (cIntSS x2 : Nat) + (cIntS x3 : Nat) + (cIntS x4 : Nat) + 1 + 1) := by rw [w64 (by rw [ek6]; omega) (by rw [ek6]; omega)] <;> rw [ek6] <;> omega
    have G7 : ((mkTo meClaim ceClaim xs k j).set j (kk, IntKind.i64.wrap (kk + 1), (mkIntSS x2 (IntKind.i64.wrap (IntKind.i64.wrap (kk + 1) + 1))), (mkIntS x3 (IntKind.i64.wrap (IntKind.i64.wrap (kk + 1) + 1) + (cIntSS x2 : Nat))), (mkIntS x4 (IntKind.i64.wrap (IntKind.i64.wrap (kk + 1) + 1) + (cIntSS x2 : Nat) + (cIntS x3 : Nat))), (IntKind.i64.wrap (IntKind.i64.wrap (kk + 1) + 1) + (cIntSS x2 : Nat) + (cIntS x3 : Nat) + (cIntS x4 : Nat), IntKind.i64.wrap (IntKind.i64.wrap (IntKind.i64.wrap (kk + 1) + 1) + (cIntSS x2 : Nat) + (cIntS x3 : Nat) + (cIntS x4 : Nat) + 1), x5_2), x6))[j]? = some (kk, IntKind.i64.wrap (kk + 1), (mkIntSS x2 (IntKind.i64.wrap (IntKind.i64.wrap (kk + 1) + 1))), (mkIntS x3 (IntKind.i64.wrap (IntKind.i64.wrap (kk + 1) + 1) + (cIntSS x2 : Nat))), (mkIntS x4 (IntKind.i64.wrap (IntKind.i64.wrap (kk + 1) + 1) + (cIntSS x2 : Nat) + (cIntS x3 : Nat))), (IntKind.i64.wrap (IntKind.i64.wrap (kk + 1) + 1) + (cIntSS x2 : Nat) + (cIntS x3 : Nat) + (cIntS x4 : Nat), IntKind.i64.wrap (IntKind.i64.wrap (IntKind.i64.wrap (kk + 1) + 1) + (cIntSS x2 : Nat) + (cIntS x3 : Nat) + (cIntS x4 : Nat) + 1), x5_2), x6) := by rw [List.getElem?_set_self (by rw [mkTo_length]; exact hlt)]
    obtain ⟨b7, cs7, Bi7, bb7, of7, cur7, ty7, ea7, e7, w7, hb7, hin7, hbB7, hbn7, hsub7, hnd7, upd7, st7⟩ := Wp.at W7 hB G7 (by decide)
    cases ea7
    obtain ⟨x0q7, x1q7, a2q7, n2q7, c2q7, x2q7, a3q7, n3q7, c3q7, x3q7, a4q7, n4q7, c4q7, x4q7, x5_0q7, x5_1q7, a5_2q7, n5_2q7, c5_2q7, x5_2q7, x6q7, B2q7, B3q7, B4q7, B5_2q7, rfl, ex7, rfl, g0q7, g1q7, g2q7, g3q7, g4q7, g5_0q7, g5_1q7, g5_2q7, g6q7⟩ := openWClaim w7
    cases ex7
    refine And.intro b7 (Exists.intro _ (And.intro e7 ?_))
    have hn7 : B5_2q7.Nodup := by first | exact hnd7 | (have := hnd7; simp only [List.nil_append, List.append_nil, List.nodup_append] at this; grind)
    refine Tr.mono (t_markEdgeS _ a5_2q7 n5_2q7 c5_2q7 (x5_2) B5_2q7 (IntKind.i64.wrap (IntKind.i64.wrap (IntKind.i64.wrap (IntKind.i64.wrap (kk + 1) + 1) + (cIntSS x2 : Nat) + (cIntS x3 : Nat) + (cIntS x4 : Nat) + 1) + 1)) g5_2q7 hn7 ⟨by rw [ek7]; omega, by rw [ek7]; omega⟩) ?_
    rintro v7 h7m ⟨rfl, wm7, fm7⟩
    have W8 : wClaimS.W h7m [.slice (some ⟨bb0, of0, none⟩) xs.length c] ((mkTo meClaim ceClaim xs k j).set j (kk, IntKind.i64.wrap (kk + 1), (mkIntSS x2 (IntKind.i64.wrap (IntKind.i64.wrap (kk + 1) + 1))), (mkIntS x3 (IntKind.i64.wrap (IntKind.i64.wrap (kk + 1) + 1) + (cIntSS x2 : Nat))), (mkIntS x4 (IntKind.i64.wrap (IntKind.i64.wrap (kk + 1) + 1) + (cIntSS x2 : Nat) + (cIntS x3 : Nat))), (IntKind.i64.wrap (IntKind.i64.wrap (kk + 1) + 1) + (cIntSS x2 : Nat) + (cIntS x3 : Nat) + (cIntS x4 : Nat), IntKind.i64.wrap (IntKind.i64.wrap (IntKind.i64.wrap (kk + 1) + 1) + (cIntSS x2 : Nat) + (cIntS x3 : Nat) + (cIntS x4 : Nat) + 1), (mkEdgeS x5_2 (IntKind.i64.wrap (IntKind.i64.wrap (IntKind.i64.wrap (IntKind.i64.wrap (kk + 1) + 1) + (cIntSS x2 : Nat) + (cIntS x3 : Nat) + (cIntS x4 : Nat) + 1) + 1)))), x6)) B := by have := upd7 h7m (kk, IntKind.i64.wrap (kk + 1), (mkIntSS x2 (IntKind.i64.wrap (IntKind.i64.wrap (kk + 1) + 1))), (mkIntS x3 (IntKind.i64.wrap (IntKind.i64.wrap (kk + 1) + 1) + (cIntSS x2 : Nat))), (mkIntS x4 (IntKind.i64.wrap (IntKind.i64.wrap (kk + 1) + 1) + (cIntSS x2 : Nat) + (cIntS x3 : Nat))), (IntKind.i64.wrap (IntKind.i64.wrap (kk + 1) + 1) + (cIntSS x2 : Nat) + (cIntS x3 : Nat) + (cIntS x4 : Nat), IntKind.i64.wrap (IntKind.i64.wrap (IntKind.i64.wrap (kk + 1) + 1) + (cIntSS x2 : Nat) + (cIntS x3 : Nat) + (cIntS x4 : Nat) + 1), (mkEdgeS x5_2 (IntKind.i64.wrap (IntKind.i64.wrap (IntKind.i64.wrap (IntKind.i64.wrap (kk + 1) + 1) + (cIntSS x2 : Nat) + (cIntS x3 : Nat) + (cIntS x4 : Nat) + 1) + 1)))), x6) (fun y hy => fm7 y fun hy2 => hy (by simp [hy2])) (closeWClaim g0q7 g1q7 (wIntSS.frame g2q7 fun y hy => fm7 y fun hy2 => by have := hnd7; simp only [List.nil_append, List.append_nil, List.nodup_append] at this; grind) (wIntS.frame g3q7 fun y hy => fm7 y fun hy2 => by have := hnd7; simp only [List.nil_append, List.append_nil, List.nodup_append] at this; grind) (wIntS.frame g4q7 fun y hy => fm7 y fun hy2 => by have := hnd7; simp only [List.nil_append, List.append_nil, List.nodup_append] at this; grind) g5_0q7 g5_1q7 wm7 g6q7); rwa [List.set_set] at this
    have F8 : ∀ y, y ∉ B → h7m y = h y := fun y hy => (fm7 y fun hy2 => hy (hsub7 y (by simp [hy2]))).trans (F7 y hy)
    have ek8 : (IntKind.i64.wrap (IntKind.i64.wrap (IntKind.i64.wrap (IntKind.i64.wrap (kk + 1) + 1) + (cIntSS x2 : Nat) + (cIntS x3 : Nat) + (cIntS x4 : Nat) + 1) + 1) + (cEdgeS x5_2 : Nat) : Int) = kk + (1 + 1 + (cIntSS x2 : Nat) + (cIntS x3 : Nat) + (cIntS x4 : Nat) + 1 + 1 + (cEdgeS x5_2 : Nat)) := by rw [ek7]; omega
    have G8 : ((mkTo meClaim ceClaim xs k j).set j (kk, IntKind.i64.wrap (kk + 1), (mkIntSS x2 (IntKind.i64.wrap (IntKind.i64.wrap (kk + 1) + 1))), (mkIntS x3 (IntKind.i64.wrap (IntKind.i64.wrap (kk + 1) + 1) + (cIntSS x2 : Nat))), (mkIntS x4 (IntKind.i64.wrap (IntKind.i64.wrap (kk + 1) + 1) + (cIntSS x2 : Nat) + (cIntS x3 : Nat))), (IntKind.i64.wrap (IntKind.i64.wrap (kk + 1) + 1) + (cIntSS x2 : Nat) + (cIntS x3 : Nat) + (cIntS x4 : Nat), IntKind.i64.wrap (IntKind.i64.wrap (IntKind.i64.wrap (kk + 1) + 1) + (cIntSS x2 : Nat) + (cIntS x3 : Nat) + (cIntS x4 : Nat) + 1), (mkEdgeS x5_2 (IntKind.i64.wrap (IntKind.i64.wrap (IntKind.i64.wrap (IntKind.i64.wrap (kk + 1) + 1) + (cIntSS x2 : Nat) + (cIntS x3 : Nat) + (cIntS x4 : Nat) + 1) + 1)))), x6))[j]? = some (kk, IntKind.i64.wrap (kk + 1), (mkIntSS x2 (IntKind.i64.wrap (IntKind.i64.wrap (kk + 1) + 1))), (mkIntS x3 (IntKind.i64.wrap (IntKind.i64.wrap (kk + 1) + 1) + (cIntSS x2 : Nat))), (mkIntS x4 (IntKind.i64.wrap (IntKind.i64.wrap (kk + 1) + 1) + (cIntSS x2 : Nat) + (cIntS x3 : Nat))), (IntKind.i64.wrap (IntKind.i64.wrap (kk + 1) + 1) + (cIntSS x2 : Nat) + (cIntS x3 : Nat) + (cIntS x4 : Nat), IntKind.i64.wrap (IntKind.i64.wrap (IntKind.i64.wrap (kk + 1) + 1) + (cIntSS x2 : Nat) + (cIntS x3 : Nat) + (cIntS x4 : Nat) + 1), (mkEdgeS x5_2 (IntKind.i64.wrap (IntKind.i64.wrap (IntKind.i64.wrap (IntKind.i64.wrap (kk + 1) + 1) + (cIntSS x2 : Nat) + (cIntS x3 : Nat) + (cIntS x4 : Nat) + 1) + 1)))), x6) := by rw [List.getElem?_set_self (by rw [mkTo_length]; exact hlt)]
    obtain ⟨b8, cs8, Bi8, bb8, of8, cur8, ty8, ea8, e8, w8, hb8, hin8, hbB8, hbn8, hsub8, hnd8, upd8, st8⟩ := Wp.at W8 hB G8 (by decide)
    cases ea8
    obtain ⟨x0q8, x1q8, a2q8, n2q8, c2q8, x2q8, a3q8, n3q8, c3q8, x3q8, a4q8, n4q8, c4q8, x4q8, x5_0q8, x5_1q8, a5_2q8, n5_2q8, c5_2q8, x5_2q8, x6q8, B2q8, B3q8, B4q8, B5_2q8, rfl, ex8, rfl, g0q8, g1q8, g2q8, g3q8, g4q8, g5_0q8, g5_1q8, g5_2q8, g6q8⟩ := openWClaim w8
    cases ex8
    refine And.intro b8 ?_
    refine helStore.mk (Int.natCast_nonneg j) hb8 (hin8 8 (by decide)) (by rw [Int.toNat_natCast]; rfl) trivial ?_
    have W9 : wClaimS.W (h7m.set bb0 (.cells (cur8.setIfInBounds (of0 + (j * wClaim.sz + 8)) (.int .i64 (IntKind.i64.wrap (IntKind.i64.wrap (IntKind.i64.wrap (IntKind.i64.wrap (kk + 1) + 1) + (cIntSS x2 : Nat) + (cIntS x3 : Nat) + (cIntS x4 : Nat) + 1) + 1) + (cEdgeS x5_2 : Nat)))) ty8 (0, 0))) [.slice (some ⟨bb0, of0, none⟩) xs.length c] ((mkTo meClaim ceClaim xs k j).set j (kk, IntKind.i64.wrap (kk + 1), (mkIntSS x2 (IntKind.i64.wrap (IntKind.i64.wrap (kk + 1) + 1))), (mkIntS x3 (IntKind.i64.wrap (IntKind.i64.wrap (kk + 1) + 1) + (cIntSS x2 : Nat))), (mkIntS x4 (IntKind.i64.wrap (IntKind.i64.wrap (kk + 1) + 1) + (cIntSS x2 : Nat) + (cIntS x3 : Nat))), (IntKind.i64.wrap (IntKind.i64.wrap (kk + 1) + 1) + (cIntSS x2 : Nat) + (cIntS x3 : Nat) + (cIntS x4 : Nat), IntKind.i64.wrap (IntKind.i64.wrap (IntKind.i64.wrap (kk + 1) + 1) + (cIntSS x2 : Nat) + (cIntS x3 : Nat) + (cIntS x4 : Nat) + 1), (mkEdgeS x5_2 (IntKind.i64.wrap (IntKind.i64.wrap (IntKind.i64.wrap (IntKind.i64.wrap (kk + 1) + 1) + (cIntSS x2 : Nat) + (cIntS x3 : Nat) + (cIntS x4 : Nat) + 1) + 1)))), IntKind.i64.wrap (IntKind.i64.wrap (IntKind.i64.wrap (IntKind.i64.wrap (kk + 1) + 1) + (cIntSS x2 : Nat) + (cIntS x3 : Nat) + (cIntS x4 : Nat) + 1) + 1) + (cEdgeS x5_2 : Nat))) B := by have := st8 8 (.int .i64 (IntKind.i64.wrap (IntKind.i64.wrap (IntKind.i64.wrap (IntKind.i64.wrap (kk + 1) + 1) + (cIntSS x2 : Nat) + (cIntS x3 : Nat) + (cIntS x4 : Nat) + 1) + 1) + (cEdgeS x5_2 : Nat))) (kk, IntKind.i64.wrap (kk + 1), (mkIntSS x2 (IntKind.i64.wrap (IntKind.i64.wrap (kk + 1) + 1))), (mkIntS x3 (IntKind.i64.wrap (IntKind.i64.wrap (kk + 1) + 1) + (cIntSS x2 : Nat))), (mkIntS x4 (IntKind.i64.wrap (IntKind.i64.wrap (kk + 1) + 1) + (cIntSS x2 : Nat) + (cIntS x3 : Nat))), (IntKind.i64.wrap (IntKind.i64.wrap (kk + 1) + 1) + (cIntSS x2 : Nat) + (cIntS x3 : Nat) + (cIntS x4 : Nat), IntKind.i64.wrap (IntKind.i64.wrap (IntKind.i64.wrap (kk + 1) + 1) + (cIntSS x2 : Nat) + (cIntS x3 : Nat) + (cIntS x4 : Nat) + 1), (mkEdgeS x5_2 (IntKind.i64.wrap (IntKind.i64.wrap (IntKind.i64.wrap (IntKind.i64.wrap (kk + 1) + 1) + (cIntSS x2 : Nat) + (cIntS x3 : Nat) + (cIntS x4 : Nat) + 1) + 1)))), IntKind.i64.wrap (IntKind.i64.wrap (IntKind.i64.wrap (IntKind.i64.wrap (kk + 1) + 1) + (cIntSS x2 : Nat) + (cIntS x3 : Nat) + (cIntS x4 : Nat) + 1) + 1) + (cEdgeS x5_2 : Nat)) (by decide) fun h' hf => closeWClaim g0q8 g1q8 (wIntSS.frame g2q8 fun y hy => hf y (by simp [hy])) (wIntS.frame g3q8 fun y hy => hf y (by simp [hy])) (wIntS.frame g4q8 fun y hy => hf y (by simp [hy])) g5_0q8 g5_1q8 (wEdgeS.frame g5_2q8 fun y hy => hf y (by simp [hy])) (in64 (by rw [ek8]; omega) (by rw [ek8]; omega)); rwa [List.set_set] at this
    have F9 : ∀ y, y ∉ B → (h7m.set bb0 (.cells (cur8.setIfInBounds (of0 + (j * wClaim.sz + 8)) (.int .i64 (IntKind.i64.wrap (IntKind.i64.wrap (IntKind.i64.wrap (IntKind.i64.wrap (kk + 1) + 1) + (cIntSS x2 : Nat) + (cIntS x3 : Nat) + (cIntS x4 : Nat) + 1) + 1) + (cEdgeS x5_2 : Nat)))) ty8 (0, 0))) y = h y := fun y hy => (Hp.set_other _ _ fun e => hy (by rw [e]; exact hbB8)).trans (F8 y hy)
    generalize (h7m.set bb0 (.cells (cur8.setIfInBounds (of0 + (j * wClaim.sz + 8)) (.int .i64 (IntKind.i64.wrap (IntKind.i64.wrap (IntKind.i64.wrap (IntKind.i64.wrap (kk + 1) + 1) + (cIntSS x2 : Nat) + (cIntS x3 : Nat) + (cIntS x4 : Nat) + 1) + 1) + (cEdgeS x5_2 : Nat)))) ty8 (0, 0))) = kst8 at W9 F9 ⊢
    have ek9 : IntKind.i64.wrap (IntKind.i64.wrap (IntKind.i64.wrap (IntKind.i64.wrap (IntKind.i64.wrap (kk + 1) + 1) + (cIntSS x2 : Nat) + (cIntS x3 : Nat) + (cIntS x4 : Nat) + 1) + 1) + (cEdgeS x5_2 : Nat) + 1) = kk + (1 + 1 + (cIntSS x2 : Nat) + (cIntS x3 : Nat) + (cIntS x4 : Nat) + 1 + 1 + (cEdgeS x5_2 : Nat) + 1) := by rw [w64 (by rw [ek8]; omega) (by rw [ek8]; omega)] <;> rw [ek8] <;> omega
    have em : (kk, IntKind.i64.wrap (kk + 1), (mkIntSS x2 (IntKind.i64.wrap (IntKind.i64.wrap (kk + 1) + 1))), (mkIntS x3 (IntKind.i64.wrap (IntKind.i64.wrap (kk + 1) + 1) + (cIntSS x2 : Nat))), (mkIntS x4 (IntKind.i64.wrap (IntKind.i64.wrap (kk + 1) + 1) + (cIntSS x2 : Nat) + (cIntS x3 : Nat))), (IntKind.i64.wrap (IntKind.i64.wrap (kk + 1) + 1) + (cIntSS x2 : Nat) + (cIntS x3 : Nat) + (cIntS x4 : Nat), IntKind.i64.wrap (IntKind.i64.wrap (IntKind.i64.wrap (kk + 1) + 1) + (cIntSS x2 : Nat) + (cIntS x3 : Nat) + (cIntS x4 : Nat) + 1), (mkEdgeS x5_2 (IntKind.i64.wrap (IntKind.i64.wrap (IntKind.i64.wrap (IntKind.i64.wrap (kk + 1) + 1) + (cIntSS x2 : Nat) + (cIntS x3 : Nat) + (cIntS x4 : Nat) + 1) + 1)))), IntKind.i64.wrap (IntKind.i64.wrap (IntKind.i64.wrap (IntKind.i64.wrap (kk + 1) + 1) + (cIntSS x2 : Nat) + (cIntS x3 : Nat) + (cIntS x4 : Nat) + 1) + 1) + (cEdgeS x5_2 : Nat)) = meClaim (x0, x1, x2, x3, x4, (x5_0, x5_1, x5_2), x6) kk := by
      simp only [meClaim, ceClaim, meGraph, ceGraph]
      exact (congr (congrArg Prod.mk rfl) (congr (congrArg Prod.mk (by rw [ek1] <;> first | rfl | omega | (simp; omega))) (congr (congrArg Prod.mk (congrArg (mkIntSS x2) (by rw [ek2] <;> first | rfl | omega | (simp; omega)))) (congr (congrArg Prod.mk (congrArg (mkIntS x3) (by rw [ek3] <;> first | rfl | omega | (simp; omega)))) (congr (congrArg Prod.mk (congrArg (mkIntS x4) (by rw [ek4] <;> first | rfl | omega | (simp; omega)))) (congr (congrArg Prod.mk (congr (congrArg Prod.mk (by rw [ek5] <;> first | rfl | omega | (simp; omega))) (congr (congrArg Prod.mk (by rw [ek6] <;> first | rfl | omega | (simp; omega))) (congrArg (mkEdgeS x5_2) (by rw [ek7] <;> first | rfl | omega | (simp; omega)))))) (by rw [ek8] <;> first | rfl | omega | (simp; omega))))))))
    have eL : (mkTo meClaim ceClaim xs k j).set j (kk, IntKind.i64.wrap (kk + 1), (mkIntSS x2 (IntKind.i64.wrap (IntKind.i64.wrap (kk + 1) + 1))), (mkIntS x3 (IntKind.i64.wrap (IntKind.i64.wrap (kk + 1) + 1) + (cIntSS x2 : Nat))), (mkIntS x4 (IntKind.i64.wrap (IntKind.i64.wrap (kk + 1) + 1) + (cIntSS x2 : Nat) + (cIntS x3 : Nat))), (IntKind.i64.wrap (IntKind.i64.wrap (kk + 1) + 1) + (cIntSS x2 : Nat) + (cIntS x3 : Nat) + (cIntS x4 : Nat), IntKind.i64.wrap (IntKind.i64.wrap (IntKind.i64.wrap (kk + 1) + 1) + (cIntSS x2 : Nat) + (cIntS x3 : Nat) + (cIntS x4 : Nat) + 1), (mkEdgeS x5_2 (IntKind.i64.wrap (IntKind.i64.wrap (IntKind.i64.wrap (IntKind.i64.wrap (kk + 1) + 1) + (cIntSS x2 : Nat) + (cIntS x3 : Nat) + (cIntS x4 : Nat) + 1) + 1)))), IntKind.i64.wrap (IntKind.i64.wrap (IntKind.i64.wrap (IntKind.i64.wrap (kk + 1) + 1) + (cIntSS x2 : Nat) + (cIntS x3 : Nat) + (cIntS x4 : Nat) + 1) + 1) + (cEdgeS x5_2 : Nat)) = mkTo meClaim ceClaim xs k (j + 1) := by rw [em]; rw [hkk]; exact mkTo_set gx
    rw [eL] at W9
    refine And.intro rfl (And.intro (by first | exact trivial | exact And.intro rfl trivial | exact And.intro rfl (And.intro rfl trivial) | exact And.intro rfl (And.intro rfl (And.intro rfl trivial)) | exact And.intro rfl (And.intro rfl (And.intro rfl (And.intro rfl trivial)))) (And.intro (by first | exact trivial | exact And.intro rfl trivial | exact And.intro rfl (And.intro rfl trivial) | exact And.intro rfl (And.intro rfl (And.intro rfl trivial)) | exact And.intro rfl (And.intro rfl (And.intro rfl (And.intro rfl trivial)))) (And.intro ?_ ?_)))
    · refine ⟨j + 1, IntKind.i64.wrap (IntKind.i64.wrap (IntKind.i64.wrap (IntKind.i64.wrap (IntKind.i64.wrap (kk + 1) + 1) + (cIntSS x2 : Nat) + (cIntS x3 : Nat) + (cIntS x4 : Nat) + 1) + 1) + (cEdgeS x5_2 : Nat) + 1), ?_, by omega, by rw [← hw], W9, F9⟩
      rw [ek9]; rw [hs1]; simp only [ceClaim, ceGraph]; omega
    · show ((xs.length : Int) - IntKind.i64.wrap ((j : Int) + 1)).toNat < ((xs.length : Int) - (j : Int)).toNat
      omega
  · have hj' : j = xs.length := by simp at hc2; omega
    subst hj'
    rw [List.take_length] at hkk
    rw [mkTo_all] at W0
    exact And.intro (congrArg (Value.int .i64) hkk) (And.intro W0 F0)

theorem t_markNotebook (h : Hp) (cs : List Value) (x : LNotebook) (B : List Nat) (k : Int) (hx : wNotebook.W h cs x B) (hB : B.Nodup) (hk : 0 ≤ k ∧ k + (cvNotebook x : Nat) ≤ 4611686018427387904) :
    Tr Try.prog 39 #[.agg cs.toArray, .int .i64 k] h fun v h' => v = .int .i64 (k + (cvNotebook x : Nat)) ∧ wNotebook.W h' cs (mvNotebook x k) B ∧ ∀ y, y ∉ B → h' y = h y := by
  obtain ⟨x0, a1, n1, c1, x1, B1, rfl, rfl, rfl, h0, h1⟩ := openWNotebook hx
  simp only [cvNotebook] at hk
  refine walk (args := [.agg #[.int .i64 x0, .slice a1 n1 c1], .int .i64 k]) (fn := Try.f39) rfl ?_
  have hn1 : B.Nodup := by first | exact hB | (have := hB; simp only [List.nil_append, List.append_nil, List.nodup_append] at this; grind)
  refine Tr.mono (t_markClaimS _ a1 n1 c1 x1 B (k) h1 hn1 ⟨by omega, by omega⟩) ?_
  rintro v1 h1m ⟨rfl, wm1, fm1⟩
  have eK : (k + (cClaimS x1 : Nat) : Int) = k + (cvNotebook (x0, x1) : Nat) := by simp only [cvNotebook] <;> omega
  have WW : wNotebook.W h1m [.int .i64 x0, .slice a1 n1 c1] (x0, mkClaimS x1 (k)) (B) := ⟨[.int .i64 x0], [.slice a1 n1 c1], [], B, rfl, rfl, ⟨⟨rfl, h0⟩, rfl⟩, wm1⟩
  have em : (x0, mkClaimS x1 (k)) = mvNotebook (x0, x1) k := by
    unfold mvNotebook
    exact (congr (congrArg Prod.mk rfl) rfl)
  rw [em] at WW
  exact And.intro (congrArg (Value.int .i64) eK) (And.intro WW (fun y hy => fm1 y (fun hy2 => hy (by first | exact hy2 | (simp only [List.nil_append, List.append_nil, List.mem_append, List.not_mem_nil, false_or, or_false] at hy2 ⊢; grind)))))

theorem t_markEntryS (h : Hp) (a : Option Addr) (n c : Nat) (xs : LEntryS) (B : List Nat) (k : Int) (hx : wEntryS.W h [.slice a n c] xs B) (hB : B.Nodup) (hk : 0 ≤ k ∧ k + (cEntryS xs : Nat) ≤ 4611686018427387904) :
    Tr Try.prog 75 #[.slice a n c, .int .i64 k] h fun v h' => v = .int .i64 (k + (cEntryS xs : Nat)) ∧ wEntryS.W h' [.slice a n c] (mkEntryS xs k) B ∧ ∀ y, y ∉ B → h' y = h y := by
  obtain ⟨rfl, hn⟩ := Sl.len (wEntryS.toR hx)
  refine walk (args := [.slice a xs.length c, .int .i64 k]) (fn := Try.f75) rfl ?_
  refine Exists.intro { vars := [1, 5], boxes := [], owns := [] } (Exists.intro (fun vs _ h' => ∃ (j : Nat) (kk : Int), kk = k + (sumM ceEntry (xs.take j) : Nat) ∧ j ≤ xs.length ∧ vs = [.int .i64 kk, .int .i64 j] ∧ wEntryS.W h' [.slice a xs.length c] (mkTo meEntry ceEntry xs k j) B ∧ ∀ y, y ∉ B → h' y = h y) (Exists.intro (fun vs _ => match vs with | [_, .int _ j] => ((xs.length : Int) - j).toNat | _ => 0) ?_))
  refine And.intro ⟨0, k, by simp [sumM], by omega, rfl, by rw [mkTo_zero]; exact hx, fun _ _ => rfl⟩ ?_
  rintro _ _ h1 ⟨j, kk, hkk, hj, ⟨⟩, W0, F0⟩
  refine And.intro (fun hc2 => ?_) (fun hc2 => ?_)
  · have hlt : j < xs.length := by simpa using hc2
    obtain ⟨x, gx⟩ := has_get hlt
    have G0 := mkTo_get (mk := meEntry) (c := ceEntry) (k := k) gx
    have hs1 : sumM ceEntry (xs.take (j + 1)) = sumM ceEntry (xs.take j) + ceEntry x := sumM_snoc gx
    have hs2 := sumM_take ceEntry xs (j + 1)
    have hw := wsucc hlt hn
    have hkx : 0 ≤ kk ∧ kk + (ceEntry x : Nat) ≤ 4611686018427387904 := by
      have : (cEntryS xs : Int) = (sumM ceEntry xs : Nat) := rfl
      omega
    obtain ⟨x0, ⟨x1_0, x1_1, x1_2⟩⟩ := x
    simp only [ceEntry, ceGraph] at hkx
    obtain ⟨b0, cs0, Bi0, bb0, of0, cur0, ty0, ea0, e0, w0, hb0, hin0, hbB0, hbn0, hsub0, hnd0, upd0, st0⟩ := Wp.at W0 hB G0 (by decide)
    cases ea0
    obtain ⟨x0q0, x1_0q0, x1_1q0, a1_2q0, n1_2q0, c1_2q0, x1_2q0, B1_2q0, rfl, ex0, rfl, g0q0, g1_0q0, g1_1q0, g1_2q0⟩ := openWEntry w0
    cases ex0
    refine Tr.val (t_markText _ (kk) ⟨by omega, by omega⟩) ?_
    refine And.intro b0 ?_
    refine helStore.mk (Int.natCast_nonneg j) hb0 (hin0 0 (by decide)) (by rw [Int.toNat_natCast]; rfl) trivial ?_
    have W1 : wEntryS.W (h1.set bb0 (.cells (cur0.setIfInBounds (of0 + (j * wEntry.sz + 0)) (.string (mtext (kk)))) ty0 (0, 0))) [.slice (some ⟨bb0, of0, none⟩) xs.length c] ((mkTo meEntry ceEntry xs k j).set j (mtext (kk), (x1_0, x1_1, x1_2))) B := st0 0 (.string (mtext (kk))) (mtext (kk), (x1_0, x1_1, x1_2)) (by decide) fun h' hf => closeWEntry (mtext_size _) g1_0q0 g1_1q0 (wEdgeS.frame g1_2q0 fun y hy => hf y (by simp [hy]))
    have F1 : ∀ y, y ∉ B → (h1.set bb0 (.cells (cur0.setIfInBounds (of0 + (j * wEntry.sz + 0)) (.string (mtext (kk)))) ty0 (0, 0))) y = h y := fun y hy => (Hp.set_other _ _ fun e => hy (by rw [e]; exact hbB0)).trans (F0 y hy)
    generalize (h1.set bb0 (.cells (cur0.setIfInBounds (of0 + (j * wEntry.sz + 0)) (.string (mtext (kk)))) ty0 (0, 0))) = kst0 at W1 F1 ⊢
    have ek1 : IntKind.i64.wrap (kk + 1) = kk + (1) := by rw [w64 (by  omega) (by  omega)] <;> omega
    have G1 : ((mkTo meEntry ceEntry xs k j).set j (mtext (kk), (x1_0, x1_1, x1_2)))[j]? = some (mtext (kk), (x1_0, x1_1, x1_2)) := by rw [List.getElem?_set_self (by rw [mkTo_length]; exact hlt)]
    obtain ⟨b1, cs1, Bi1, bb1, of1, cur1, ty1, ea1, e1, w1, hb1, hin1, hbB1, hbn1, hsub1, hnd1, upd1, st1⟩ := Wp.at W1 hB G1 (by decide)
    cases ea1
    obtain ⟨x0q1, x1_0q1, x1_1q1, a1_2q1, n1_2q1, c1_2q1, x1_2q1, B1_2q1, rfl, ex1, rfl, g0q1, g1_0q1, g1_1q1, g1_2q1⟩ := openWEntry w1
    cases ex1
    refine And.intro b1 ?_
    refine helStore.mk (Int.natCast_nonneg j) hb1 (hin1 1 (by decide)) (by rw [Int.toNat_natCast]; rfl) trivial ?_
    have W2 : wEntryS.W (kst0.set bb0 (.cells (cur1.setIfInBounds (of0 + (j * wEntry.sz + 1)) (.int .i64 (IntKind.i64.wrap (kk + 1)))) ty1 (0, 0))) [.slice (some ⟨bb0, of0, none⟩) xs.length c] ((mkTo meEntry ceEntry xs k j).set j (mtext (kk), (IntKind.i64.wrap (kk + 1), x1_1, x1_2))) B := by have := st1 1 (.int .i64 (IntKind.i64.wrap (kk + 1))) (mtext (kk), (IntKind.i64.wrap (kk + 1), x1_1, x1_2)) (by decide) fun h' hf => closeWEntry g0q1 (in64 (by rw [ek1]; omega) (by rw [ek1]; omega)) g1_1q1 (wEdgeS.frame g1_2q1 fun y hy => hf y (by simp [hy])); rwa [List.set_set] at this
    have F2 : ∀ y, y ∉ B → (kst0.set bb0 (.cells (cur1.setIfInBounds (of0 + (j * wEntry.sz + 1)) (.int .i64 (IntKind.i64.wrap (kk + 1)))) ty1 (0, 0))) y = h y := fun y hy => (Hp.set_other _ _ fun e => hy (by rw [e]; exact hbB1)).trans (F1 y hy)
    generalize (kst0.set bb0 (.cells (cur1.setIfInBounds (of0 + (j * wEntry.sz + 1)) (.int .i64 (IntKind.i64.wrap (kk + 1)))) ty1 (0, 0))) = kst1 at W2 F2 ⊢
    have ek2 : IntKind.i64.wrap (IntKind.i64.wrap (kk + 1) + 1) = kk + (1 + 1) := by rw [w64 (by rw [ek1]; omega) (by rw [ek1]; omega)] <;> rw [ek1] <;> omega
    have G2 : ((mkTo meEntry ceEntry xs k j).set j (mtext (kk), (IntKind.i64.wrap (kk + 1), x1_1, x1_2)))[j]? = some (mtext (kk), (IntKind.i64.wrap (kk + 1), x1_1, x1_2)) := by rw [List.getElem?_set_self (by rw [mkTo_length]; exact hlt)]
    obtain ⟨b2, cs2, Bi2, bb2, of2, cur2, ty2, ea2, e2, w2, hb2, hin2, hbB2, hbn2, hsub2, hnd2, upd2, st2⟩ := Wp.at W2 hB G2 (by decide)
    cases ea2
    obtain ⟨x0q2, x1_0q2, x1_1q2, a1_2q2, n1_2q2, c1_2q2, x1_2q2, B1_2q2, rfl, ex2, rfl, g0q2, g1_0q2, g1_1q2, g1_2q2⟩ := openWEntry w2
    cases ex2
    refine And.intro b2 ?_
    refine helStore.mk (Int.natCast_nonneg j) hb2 (hin2 2 (by decide)) (by rw [Int.toNat_natCast]; rfl) trivial ?_
    have W3 : wEntryS.W (kst1.set bb0 (.cells (cur2.setIfInBounds (of0 + (j * wEntry.sz + 2)) (.int .i64 (IntKind.i64.wrap (IntKind.i64.wrap (kk + 1) + 1)))) ty2 (0, 0))) [.slice (some ⟨bb0, of0, none⟩) xs.length c] ((mkTo meEntry ceEntry xs k j).set j (mtext (kk), (IntKind.i64.wrap (kk + 1), IntKind.i64.wrap (IntKind.i64.wrap (kk + 1) + 1), x1_2))) B := by have := st2 2 (.int .i64 (IntKind.i64.wrap (IntKind.i64.wrap (kk + 1) + 1))) (mtext (kk), (IntKind.i64.wrap (kk + 1), IntKind.i64.wrap (IntKind.i64.wrap (kk + 1) + 1), x1_2)) (by decide) fun h' hf => closeWEntry g0q2 g1_0q2 (in64 (by rw [ek2]; omega) (by rw [ek2]; omega)) (wEdgeS.frame g1_2q2 fun y hy => hf y (by simp [hy])); rwa [List.set_set] at this
    have F3 : ∀ y, y ∉ B → (kst1.set bb0 (.cells (cur2.setIfInBounds (of0 + (j * wEntry.sz + 2)) (.int .i64 (IntKind.i64.wrap (IntKind.i64.wrap (kk + 1) + 1)))) ty2 (0, 0))) y = h y := fun y hy => (Hp.set_other _ _ fun e => hy (by rw [e]; exact hbB2)).trans (F2 y hy)
    generalize (kst1.set bb0 (.cells (cur2.setIfInBounds (of0 + (j * wEntry.sz + 2)) (.int .i64 (IntKind.i64.wrap (IntKind.i64.wrap (kk + 1) + 1)))) ty2 (0, 0))) = kst2 at W3 F3 ⊢
    have ek3 : IntKind.i64.wrap (IntKind.i64.wrap (IntKind.i64.wrap (kk + 1) + 1) + 1) = kk + (1 + 1 + 1) := by rw [w64 (by rw [ek2]; omega) (by rw [ek2]; omega)] <;> rw [ek2] <;> omega
    have G3 : ((mkTo meEntry ceEntry xs k j).set j (mtext (kk), (IntKind.i64.wrap (kk + 1), IntKind.i64.wrap (IntKind.i64.wrap (kk + 1) + 1), x1_2)))[j]? = some (mtext (kk), (IntKind.i64.wrap (kk + 1), IntKind.i64.wrap (IntKind.i64.wrap (kk + 1) + 1), x1_2)) := by rw [List.getElem?_set_self (by rw [mkTo_length]; exact hlt)]
    obtain ⟨b3, cs3, Bi3, bb3, of3, cur3, ty3, ea3, e3, w3, hb3, hin3, hbB3, hbn3, hsub3, hnd3, upd3, st3⟩ := Wp.at W3 hB G3 (by decide)
    cases ea3
    obtain ⟨x0q3, x1_0q3, x1_1q3, a1_2q3, n1_2q3, c1_2q3, x1_2q3, B1_2q3, rfl, ex3, rfl, g0q3, g1_0q3, g1_1q3, g1_2q3⟩ := openWEntry w3
    cases ex3
    refine And.intro b3 (Exists.intro _ (And.intro e3 ?_))
    have hn3 : Bi3.Nodup := by first | exact hnd3 | (have := hnd3; simp only [List.nil_append, List.append_nil, List.nodup_append] at this; grind)
    refine Tr.mono (t_markEdgeS _ a1_2q3 n1_2q3 c1_2q3 (x1_2) Bi3 (IntKind.i64.wrap (IntKind.i64.wrap (IntKind.i64.wrap (kk + 1) + 1) + 1)) g1_2q3 hn3 ⟨by rw [ek3]; omega, by rw [ek3]; omega⟩) ?_
    rintro v3 h3m ⟨rfl, wm3, fm3⟩
    have W4 : wEntryS.W h3m [.slice (some ⟨bb0, of0, none⟩) xs.length c] ((mkTo meEntry ceEntry xs k j).set j (mtext (kk), (IntKind.i64.wrap (kk + 1), IntKind.i64.wrap (IntKind.i64.wrap (kk + 1) + 1), (mkEdgeS x1_2 (IntKind.i64.wrap (IntKind.i64.wrap (IntKind.i64.wrap (kk + 1) + 1) + 1)))))) B := by have := upd3 h3m (mtext (kk), (IntKind.i64.wrap (kk + 1), IntKind.i64.wrap (IntKind.i64.wrap (kk + 1) + 1), (mkEdgeS x1_2 (IntKind.i64.wrap (IntKind.i64.wrap (IntKind.i64.wrap (kk + 1) + 1) + 1))))) (fun y hy => fm3 y fun hy2 => hy (by simp [hy2])) (closeWEntry g0q3 g1_0q3 g1_1q3 wm3); rwa [List.set_set] at this
    have F4 : ∀ y, y ∉ B → h3m y = h y := fun y hy => (fm3 y fun hy2 => hy (hsub3 y (by simp [hy2]))).trans (F3 y hy)
    have ek4 : (IntKind.i64.wrap (IntKind.i64.wrap (IntKind.i64.wrap (kk + 1) + 1) + 1) + (cEdgeS x1_2 : Nat) : Int) = kk + (1 + 1 + 1 + (cEdgeS x1_2 : Nat)) := by rw [ek3]; omega
    have em : (mtext (kk), (IntKind.i64.wrap (kk + 1), IntKind.i64.wrap (IntKind.i64.wrap (kk + 1) + 1), (mkEdgeS x1_2 (IntKind.i64.wrap (IntKind.i64.wrap (IntKind.i64.wrap (kk + 1) + 1) + 1))))) = meEntry (x0, (x1_0, x1_1, x1_2)) kk := by
      simp only [meEntry, ceEntry, meGraph, ceGraph]
      exact (congr (congrArg Prod.mk rfl) (congr (congrArg Prod.mk (by rw [ek1] <;> first | rfl | omega | (simp; omega))) (congr (congrArg Prod.mk (by rw [ek2] <;> first | rfl | omega | (simp; omega))) (congrArg (mkEdgeS x1_2) (by rw [ek3] <;> first | rfl | omega | (simp; omega))))))
    have eL : (mkTo meEntry ceEntry xs k j).set j (mtext (kk), (IntKind.i64.wrap (kk + 1), IntKind.i64.wrap (IntKind.i64.wrap (kk + 1) + 1), (mkEdgeS x1_2 (IntKind.i64.wrap (IntKind.i64.wrap (IntKind.i64.wrap (kk + 1) + 1) + 1))))) = mkTo meEntry ceEntry xs k (j + 1) := by rw [em]; rw [hkk]; exact mkTo_set gx
    rw [eL] at W4
    refine And.intro rfl (And.intro (by first | exact trivial | exact And.intro rfl trivial | exact And.intro rfl (And.intro rfl trivial) | exact And.intro rfl (And.intro rfl (And.intro rfl trivial)) | exact And.intro rfl (And.intro rfl (And.intro rfl (And.intro rfl trivial)))) (And.intro (by first | exact trivial | exact And.intro rfl trivial | exact And.intro rfl (And.intro rfl trivial) | exact And.intro rfl (And.intro rfl (And.intro rfl trivial)) | exact And.intro rfl (And.intro rfl (And.intro rfl (And.intro rfl trivial)))) (And.intro ?_ ?_)))
    · refine ⟨j + 1, IntKind.i64.wrap (IntKind.i64.wrap (IntKind.i64.wrap (kk + 1) + 1) + 1) + (cEdgeS x1_2 : Nat), ?_, by omega, by rw [← hw], W4, F4⟩
      rw [ek4]; rw [hs1]; simp only [ceEntry, ceGraph]; omega
    · show ((xs.length : Int) - IntKind.i64.wrap ((j : Int) + 1)).toNat < ((xs.length : Int) - (j : Int)).toNat
      omega
  · have hj' : j = xs.length := by simp at hc2; omega
    subst hj'
    rw [List.take_length] at hkk
    rw [mkTo_all] at W0
    exact And.intro (congrArg (Value.int .i64) hkk) (And.intro W0 F0)

theorem t_markLibrary (h : Hp) (cs : List Value) (x : LLibrary) (B : List Nat) (k : Int) (hx : wLibrary.W h cs x B) (hB : B.Nodup) (hk : 0 ≤ k ∧ k + (cvLibrary x : Nat) ≤ 4611686018427387904) :
    Tr Try.prog 23 #[.agg cs.toArray, .int .i64 k] h fun v h' => v = .int .i64 (k + (cvLibrary x : Nat)) ∧ wLibrary.W h' cs (mvLibrary x k) B ∧ ∀ y, y ∉ B → h' y = h y := by
  obtain ⟨x0, a1, n1, c1, x1, B1, rfl, rfl, rfl, h0, h1⟩ := openWLibrary hx
  simp only [cvLibrary] at hk
  refine walk (args := [.agg #[.int .i64 x0, .slice a1 n1 c1], .int .i64 k]) (fn := Try.f23) rfl ?_
  have hn1 : B.Nodup := by first | exact hB | (have := hB; simp only [List.nil_append, List.append_nil, List.nodup_append] at this; grind)
  refine Tr.mono (t_markEntryS _ a1 n1 c1 x1 B (k) h1 hn1 ⟨by omega, by omega⟩) ?_
  rintro v1 h1m ⟨rfl, wm1, fm1⟩
  have eK : (k + (cEntryS x1 : Nat) : Int) = k + (cvLibrary (x0, x1) : Nat) := by simp only [cvLibrary] <;> omega
  have WW : wLibrary.W h1m [.int .i64 x0, .slice a1 n1 c1] (x0, mkEntryS x1 (k)) (B) := ⟨[.int .i64 x0], [.slice a1 n1 c1], [], B, rfl, rfl, ⟨⟨rfl, h0⟩, rfl⟩, wm1⟩
  have em : (x0, mkEntryS x1 (k)) = mvLibrary (x0, x1) k := by
    unfold mvLibrary
    exact (congr (congrArg Prod.mk rfl) rfl)
  rw [em] at WW
  exact And.intro (congrArg (Value.int .i64) eK) (And.intro WW (fun y hy => fm1 y (fun hy2 => hy (by first | exact hy2 | (simp only [List.nil_append, List.append_nil, List.mem_append, List.not_mem_nil, false_or, or_false] at hy2 ⊢; grind)))))

theorem t_markTermS (h : Hp) (a : Option Addr) (n c : Nat) (xs : LTermS) (B : List Nat) (k : Int) (hx : wTermS.W h [.slice a n c] xs B) (hB : B.Nodup) (hk : 0 ≤ k ∧ k + (cTermS xs : Nat) ≤ 4611686018427387904) :
    Tr Try.prog 61 #[.slice a n c, .int .i64 k] h fun v h' => v = .int .i64 (k + (cTermS xs : Nat)) ∧ wTermS.W h' [.slice a n c] (mkTermS xs k) B ∧ ∀ y, y ∉ B → h' y = h y := by
  obtain ⟨rfl, hn⟩ := Sl.len (wTermS.toR hx)
  refine walk (args := [.slice a xs.length c, .int .i64 k]) (fn := Try.f61) rfl ?_
  refine Exists.intro { vars := [1, 5], boxes := [], owns := [] } (Exists.intro (fun vs _ h' => ∃ (j : Nat) (kk : Int), kk = k + (sumM ceTerm (xs.take j) : Nat) ∧ j ≤ xs.length ∧ vs = [.int .i64 kk, .int .i64 j] ∧ wTermS.W h' [.slice a xs.length c] (mkTo meTerm ceTerm xs k j) B ∧ ∀ y, y ∉ B → h' y = h y) (Exists.intro (fun vs _ => match vs with | [_, .int _ j] => ((xs.length : Int) - j).toNat | _ => 0) ?_))
  refine And.intro ⟨0, k, by simp [sumM], by omega, rfl, by rw [mkTo_zero]; exact hx, fun _ _ => rfl⟩ ?_
  rintro _ _ h1 ⟨j, kk, hkk, hj, ⟨⟩, W0, F0⟩
  refine And.intro (fun hc2 => ?_) (fun hc2 => ?_)
  · have hlt : j < xs.length := by simpa using hc2
    obtain ⟨x, gx⟩ := has_get hlt
    have G0 := mkTo_get (mk := meTerm) (c := ceTerm) (k := k) gx
    have hs1 : sumM ceTerm (xs.take (j + 1)) = sumM ceTerm (xs.take j) + ceTerm x := sumM_snoc gx
    have hs2 := sumM_take ceTerm xs (j + 1)
    have hw := wsucc hlt hn
    have hkx : 0 ≤ kk ∧ kk + (ceTerm x : Nat) ≤ 4611686018427387904 := by
      have : (cTermS xs : Int) = (sumM ceTerm xs : Nat) := rfl
      omega
    obtain ⟨x0, x1, x2⟩ := x
    simp only [ceTerm] at hkx
    obtain ⟨b0, cs0, Bi0, bb0, of0, cur0, ty0, ea0, e0, w0, hb0, hin0, hbB0, hbn0, hsub0, hnd0, upd0, st0⟩ := Wp.at W0 hB G0 (by decide)
    cases ea0
    obtain ⟨a0q0, n0q0, c0q0, x0q0, x1q0, x2q0, B0q0, rfl, ex0, rfl, g0q0, g1q0, g2q0⟩ := openWTerm w0
    cases ex0
    refine And.intro b0 (Exists.intro _ (And.intro e0 ?_))
    have hn0 : B0q0.Nodup := by first | exact hnd0 | (have := hnd0; simp only [List.nil_append, List.append_nil, List.nodup_append] at this; grind)
    refine Tr.mono (t_markIntS _ a0q0 n0q0 c0q0 (x0) B0q0 (kk) g0q0 hn0 ⟨by omega, by omega⟩) ?_
    rintro v0 h0m ⟨rfl, wm0, fm0⟩
    have W1 : wTermS.W h0m [.slice (some ⟨bb0, of0, none⟩) xs.length c] ((mkTo meTerm ceTerm xs k j).set j ((mkIntS x0 (kk)), x1, x2)) B := upd0 h0m ((mkIntS x0 (kk)), x1, x2) (fun y hy => fm0 y fun hy2 => hy (by simp [hy2])) (closeWTerm wm0 g1q0 g2q0)
    have F1 : ∀ y, y ∉ B → h0m y = h y := fun y hy => (fm0 y fun hy2 => hy (hsub0 y (by simp [hy2]))).trans (F0 y hy)
    have ek1 : (kk + (cIntS x0 : Nat) : Int) = kk + ((cIntS x0 : Nat)) := by omega
    have G1 : ((mkTo meTerm ceTerm xs k j).set j ((mkIntS x0 (kk)), x1, x2))[j]? = some ((mkIntS x0 (kk)), x1, x2) := by rw [List.getElem?_set_self (by rw [mkTo_length]; exact hlt)]
    obtain ⟨b1, cs1, Bi1, bb1, of1, cur1, ty1, ea1, e1, w1, hb1, hin1, hbB1, hbn1, hsub1, hnd1, upd1, st1⟩ := Wp.at W1 hB G1 (by decide)
    cases ea1
    obtain ⟨a0q1, n0q1, c0q1, x0q1, x1q1, x2q1, B0q1, rfl, ex1, rfl, g0q1, g1q1, g2q1⟩ := openWTerm w1
    cases ex1
    refine And.intro b1 ?_
    refine helStore.mk (Int.natCast_nonneg j) hb1 (hin1 1 (by decide)) (by rw [Int.toNat_natCast]; rfl) trivial ?_
    have W2 : wTermS.W (h0m.set bb0 (.cells (cur1.setIfInBounds (of0 + (j * wTerm.sz + 1)) (.int .i64 (kk + (cIntS x0 : Nat)))) ty1 (0, 0))) [.slice (some ⟨bb0, of0, none⟩) xs.length c] ((mkTo meTerm ceTerm xs k j).set j ((mkIntS x0 (kk)), kk + (cIntS x0 : Nat), x2)) B := by have := st1 1 (.int .i64 (kk + (cIntS x0 : Nat))) ((mkIntS x0 (kk)), kk + (cIntS x0 : Nat), x2) (by decide) fun h' hf => closeWTerm (wIntS.frame g0q1 fun y hy => hf y (by simp [hy])) (in64 (by rw [ek1]; omega) (by rw [ek1]; omega)) g2q1; rwa [List.set_set] at this
    have F2 : ∀ y, y ∉ B → (h0m.set bb0 (.cells (cur1.setIfInBounds (of0 + (j * wTerm.sz + 1)) (.int .i64 (kk + (cIntS x0 : Nat)))) ty1 (0, 0))) y = h y := fun y hy => (Hp.set_other _ _ fun e => hy (by rw [e]; exact hbB1)).trans (F1 y hy)
    generalize (h0m.set bb0 (.cells (cur1.setIfInBounds (of0 + (j * wTerm.sz + 1)) (.int .i64 (kk + (cIntS x0 : Nat)))) ty1 (0, 0))) = kst1 at W2 F2 ⊢
    have ek2 : IntKind.i64.wrap (kk + (cIntS x0 : Nat) + 1) = kk + ((cIntS x0 : Nat) + 1) := by rw [w64 (by rw [ek1]; omega) (by rw [ek1]; omega)] <;> rw [ek1] <;> omega
    have G2 : ((mkTo meTerm ceTerm xs k j).set j ((mkIntS x0 (kk)), kk + (cIntS x0 : Nat), x2))[j]? = some ((mkIntS x0 (kk)), kk + (cIntS x0 : Nat), x2) := by rw [List.getElem?_set_self (by rw [mkTo_length]; exact hlt)]
    obtain ⟨b2, cs2, Bi2, bb2, of2, cur2, ty2, ea2, e2, w2, hb2, hin2, hbB2, hbn2, hsub2, hnd2, upd2, st2⟩ := Wp.at W2 hB G2 (by decide)
    cases ea2
    obtain ⟨a0q2, n0q2, c0q2, x0q2, x1q2, x2q2, B0q2, rfl, ex2, rfl, g0q2, g1q2, g2q2⟩ := openWTerm w2
    cases ex2
    refine And.intro b2 ?_
    refine helStore.mk (Int.natCast_nonneg j) hb2 (hin2 2 (by decide)) (by rw [Int.toNat_natCast]; rfl) trivial ?_
    have W3 : wTermS.W (kst1.set bb0 (.cells (cur2.setIfInBounds (of0 + (j * wTerm.sz + 2)) (.int .i64 (IntKind.i64.wrap (kk + (cIntS x0 : Nat) + 1)))) ty2 (0, 0))) [.slice (some ⟨bb0, of0, none⟩) xs.length c] ((mkTo meTerm ceTerm xs k j).set j ((mkIntS x0 (kk)), kk + (cIntS x0 : Nat), IntKind.i64.wrap (kk + (cIntS x0 : Nat) + 1))) B := by have := st2 2 (.int .i64 (IntKind.i64.wrap (kk + (cIntS x0 : Nat) + 1))) ((mkIntS x0 (kk)), kk + (cIntS x0 : Nat), IntKind.i64.wrap (kk + (cIntS x0 : Nat) + 1)) (by decide) fun h' hf => closeWTerm (wIntS.frame g0q2 fun y hy => hf y (by simp [hy])) g1q2 (in64 (by rw [ek2]; omega) (by rw [ek2]; omega)); rwa [List.set_set] at this
    have F3 : ∀ y, y ∉ B → (kst1.set bb0 (.cells (cur2.setIfInBounds (of0 + (j * wTerm.sz + 2)) (.int .i64 (IntKind.i64.wrap (kk + (cIntS x0 : Nat) + 1)))) ty2 (0, 0))) y = h y := fun y hy => (Hp.set_other _ _ fun e => hy (by rw [e]; exact hbB2)).trans (F2 y hy)
    generalize (kst1.set bb0 (.cells (cur2.setIfInBounds (of0 + (j * wTerm.sz + 2)) (.int .i64 (IntKind.i64.wrap (kk + (cIntS x0 : Nat) + 1)))) ty2 (0, 0))) = kst2 at W3 F3 ⊢
    have ek3 : IntKind.i64.wrap (IntKind.i64.wrap (kk + (cIntS x0 : Nat) + 1) + 1) = kk + ((cIntS x0 : Nat) + 1 + 1) := by rw [w64 (by rw [ek2]; omega) (by rw [ek2]; omega)] <;> rw [ek2] <;> omega
    have em : ((mkIntS x0 (kk)), kk + (cIntS x0 : Nat), IntKind.i64.wrap (kk + (cIntS x0 : Nat) + 1)) = meTerm (x0, x1, x2) kk := by
      simp only [meTerm, ceTerm]
      exact (congr (congrArg Prod.mk rfl) (congr (congrArg Prod.mk (by rw [ek1] <;> first | rfl | omega | (simp; omega))) (by rw [ek2] <;> first | rfl | omega | (simp; omega))))
    have eL : (mkTo meTerm ceTerm xs k j).set j ((mkIntS x0 (kk)), kk + (cIntS x0 : Nat), IntKind.i64.wrap (kk + (cIntS x0 : Nat) + 1)) = mkTo meTerm ceTerm xs k (j + 1) := by rw [em]; rw [hkk]; exact mkTo_set gx
    rw [eL] at W3
    refine And.intro rfl (And.intro (by first | exact trivial | exact And.intro rfl trivial | exact And.intro rfl (And.intro rfl trivial) | exact And.intro rfl (And.intro rfl (And.intro rfl trivial)) | exact And.intro rfl (And.intro rfl (And.intro rfl (And.intro rfl trivial)))) (And.intro (by first | exact trivial | exact And.intro rfl trivial | exact And.intro rfl (And.intro rfl trivial) | exact And.intro rfl (And.intro rfl (And.intro rfl trivial)) | exact And.intro rfl (And.intro rfl (And.intro rfl (And.intro rfl trivial)))) (And.intro ?_ ?_)))
    · refine ⟨j + 1, IntKind.i64.wrap (IntKind.i64.wrap (kk + (cIntS x0 : Nat) + 1) + 1), ?_, by omega, by rw [← hw], W3, F3⟩
      rw [ek3]; rw [hs1]; simp only [ceTerm]; omega
    · show ((xs.length : Int) - IntKind.i64.wrap ((j : Int) + 1)).toNat < ((xs.length : Int) - (j : Int)).toNat
      omega
  · have hj' : j = xs.length := by simp at hc2; omega
    subst hj'
    rw [List.take_length] at hkk
    rw [mkTo_all] at W0
    exact And.intro (congrArg (Value.int .i64) hkk) (And.intro W0 F0)

end Go.Proofs.Ytalidbmconldoaa
