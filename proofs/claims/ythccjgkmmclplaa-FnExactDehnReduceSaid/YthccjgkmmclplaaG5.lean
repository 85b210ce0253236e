/- What the laws' own helpers do: marks. -/
import Derived.Test.YthccjgkmmclplaaG1
namespace Go.Proofs.Ythccjgkmmclplaa
open Go.H
set_option linter.unusedVariables false
set_option linter.unusedSimpArgs false
set_option maxRecDepth 10000

theorem t_markIntS (h : Hp) (a : Option Addr) (n c : Nat) (xs : LIntS) (B : List Nat) (k : Int) (hx : wIntS.W h [.slice a n c] xs B) (hB : B.Nodup) (hk : 0 ≤ k ∧ k + (cIntS xs : Nat) ≤ 4611686018427387904) :
    Tr Try.prog 29 #[.slice a n c, .int .i64 k] h fun v h' => v = .int .i64 (k + (cIntS xs : Nat)) ∧ wIntS.W h' [.slice a n c] (mkIntS xs k) B ∧ ∀ y, y ∉ B → h' y = h y := by
  obtain ⟨rfl, hn⟩ := Sl.len (wIntS.toR hx)
  refine walk (args := [.slice a xs.length c, .int .i64 k]) (fn := Try.f29) rfl ?_
  refine Exists.intro { vars := [1, 5], boxes := [], owns := [] } (Exists.intro (fun vs _ h' => ∃ (j : Nat) (kk : Int), kk = k + (sumM (fun _ => 1) (xs.take j) : Nat) ∧ j ≤ xs.length ∧ vs = [.int .i64 kk, .int .i64 j] ∧ wIntS.W h' [.slice a xs.length c] (mkTo (fun _ k => k) (fun _ => 1) xs k j) B ∧ ∀ y, y ∉ B → h' y = h y) (Exists.intro (fun vs _ => match vs with | [_, .int _ j] => ((xs.length : Int) - j).toNat | _ => 0) ?_))
  refine And.intro ⟨0, k, by simp [sumM], by omega, rfl, by rw [mkTo_zero]; exact hx, fun _ _ => rfl⟩ ?_
  rintro _ _ h1 ⟨j, kk, hkk, hj, ⟨⟩, W0, F0⟩
  refine And.intro (fun hc2 => ?_) (fun hc2 => ?_)
  · have hlt : j < xs.length := by simpa using hc2
    obtain ⟨x, gx⟩ := has_get hlt
    have G0 := mkTo_get (mk := (fun _ k => k)) (c := (fun _ => 1)) (k := k) gx
    have hs1 : sumM (fun _ => 1) (xs.take (j + 1)) = sumM (fun _ => 1) (xs.take j) + 1 := sumM_snoc gx
    have hs2 := sumM_take (fun _ => 1) xs (j + 1)
    have hw := wsucc hlt hn
    have hkx : 0 ≤ kk ∧ kk + (1 : Nat) ≤ 4611686018427387904 := by
      have : (cIntS xs : Int) = (sumM (fun _ => 1) xs : Nat) := rfl
      omega
    obtain ⟨b0, cs0, Bi0, bb0, of0, cur0, ty0, ea0, e0, w0, hb0, hin0, hbB0, hbn0, hsub0, hnd0, upd0, st0⟩ := Wp.at W0 hB G0 (by decide)
    cases ea0
    obtain ⟨⟨rfl, _⟩, rfl⟩ := w0
    refine And.intro b0 ?_
    refine helStore.mk (Int.natCast_nonneg j) hb0 (hin0 0 (by decide)) (by rw [Int.toNat_natCast]; rfl) trivial ?_
    have W1 : wIntS.W (h1.set bb0 (.cells (cur0.setIfInBounds (of0 + (j * Wp.int.sz + 0)) (.int .i64 (kk))) ty0 (0, 0))) [.slice (some ⟨bb0, of0, none⟩) xs.length c] ((mkTo (fun _ k => k) (fun _ => 1) xs k j).set j (kk)) B := st0 0 (.int .i64 (kk)) (kk) (by decide) fun h' hf => ⟨⟨rfl, in64 (by omega) (by omega)⟩, rfl⟩
    have F1 : ∀ y, y ∉ B → (h1.set bb0 (.cells (cur0.setIfInBounds (of0 + (j * Wp.int.sz + 0)) (.int .i64 (kk))) ty0 (0, 0))) y = h y := fun y hy => (Hp.set_other _ _ fun e => hy (by rw [e]; exact hbB0)).trans (F0 y hy)
    generalize (h1.set bb0 (.cells (cur0.setIfInBounds (of0 + (j * Wp.int.sz + 0)) (.int .i64 (kk))) ty0 (0, 0))) = kst0 at W1 F1 ⊢
    have ek1 : IntKind.i64.wrap (kk + 1) = kk + (1) := by rw [w64 (by  omega) (by  omega)] <;> omega
    have em : kk = (fun _ k => k) x kk := rfl
    have eL : (mkTo (fun _ k => k) (fun _ => 1) xs k j).set j (kk) = mkTo (fun _ k => k) (fun _ => 1) xs k (j + 1) := by rw [hkk]; exact mkTo_set gx
    rw [eL] at W1
    refine And.intro rfl (And.intro (by first | exact trivial | exact And.intro rfl trivial | exact And.intro rfl (And.intro rfl trivial) | exact And.intro rfl (And.intro rfl (And.intro rfl trivial)) | exact And.intro rfl (And.intro rfl (And.intro rfl (And.intro rfl trivial)))) (And.intro (by first | exact trivial | exact And.intro rfl trivial | exact And.intro rfl (And.intro rfl trivial) | exact And.intro rfl (And.intro rfl (And.intro rfl trivial)) | exact And.intro rfl (And.intro rfl (And.intro rfl (And.intro rfl trivial)))) (And.intro ?_ ?_)))
    · refine ⟨j + 1, IntKind.i64.wrap (kk + 1), ?_, by omega, by rw [← hw], W1, F1⟩
      rw [ek1]; rw [hs1]; omega
    · show ((xs.length : Int) - IntKind.i64.wrap ((j : Int) + 1)).toNat < ((xs.length : Int) - (j : Int)).toNat
      omega
  · have hj' : j = xs.length := by simp at hc2; omega
    subst hj'
    rw [List.take_length] at hkk
    rw [mkTo_all] at W0
    exact And.intro (congrArg (Value.int .i64) hkk) (And.intro W0 F0)

theorem t_markIntSS (h : Hp) (a : Option Addr) (n c : Nat) (xs : LIntSS) (B : List Nat) (k : Int) (hx : wIntSS.W h [.slice a n c] xs B) (hB : B.Nodup) (hk : 0 ≤ k ∧ k + (cIntSS xs : Nat) ≤ 4611686018427387904) :
    Tr Try.prog 19 #[.slice a n c, .int .i64 k] h fun v h' => v = .int .i64 (k + (cIntSS xs : Nat)) ∧ wIntSS.W h' [.slice a n c] (mkIntSS xs k) B ∧ ∀ y, y ∉ B → h' y = h y := by
  obtain ⟨rfl, hn⟩ := Sl.len (wIntSS.toR hx)
  refine walk (args := [.slice a xs.length c, .int .i64 k]) (fn := Try.f19) rfl ?_
  refine Exists.intro { vars := [1, 5], boxes := [], owns := [] } (Exists.intro (fun vs _ h' => ∃ (j : Nat) (kk : Int), kk = k + (sumM cIntS (xs.take j) : Nat) ∧ j ≤ xs.length ∧ vs = [.int .i64 kk, .int .i64 j] ∧ wIntSS.W h' [.slice a xs.length c] (mkTo mkIntS cIntS xs k j) B ∧ ∀ y, y ∉ B → h' y = h y) (Exists.intro (fun vs _ => match vs with | [_, .int _ j] => ((xs.length : Int) - j).toNat | _ => 0) ?_))
  refine And.intro ⟨0, k, by simp [sumM], by omega, rfl, by rw [mkTo_zero]; exact hx, fun _ _ => rfl⟩ ?_
  rintro _ _ h1 ⟨j, kk, hkk, hj, ⟨⟩, W0, F0⟩
  refine And.intro (fun hc2 => ?_) (fun hc2 => ?_)
  · have hlt : j < xs.length := by simpa using hc2
    obtain ⟨x, gx⟩ := has_get hlt
    have G0 := mkTo_get (mk := mkIntS) (c := cIntS) (k := k) gx
    have hs1 : sumM cIntS (xs.take (j + 1)) = sumM cIntS (xs.take j) + cIntS x := sumM_snoc gx
    have hs2 := sumM_take cIntS xs (j + 1)
    have hw := wsucc hlt hn
    have hkx : 0 ≤ kk ∧ kk + (cIntS x : Nat) ≤ 4611686018427387904 := by
      have : (cIntSS xs : Int) = (sumM cIntS xs : Nat) := rfl
      omega
    obtain ⟨b0, cs0, Bi0, bb0, of0, cur0, ty0, ea0, e0, w0, hb0, hin0, hbB0, hbn0, hsub0, hnd0, upd0, st0⟩ := Wp.at W0 hB G0 (by decide)
    cases ea0
    obtain ⟨aq0, nq0, cq0, eq0⟩ := Wp.slice_cell (wIntS.toR w0)
    cases eq0
    refine And.intro b0 (Exists.intro _ (And.intro e0 ?_))
    refine Tr.mono (t_markIntS _ aq0 nq0 cq0 (x) Bi0 (kk) w0 hnd0 ⟨by omega, by omega⟩) ?_
    rintro v0 h0m ⟨rfl, wm0, fm0⟩
    have W1 : wIntSS.W h0m [.slice (some ⟨bb0, of0, none⟩) xs.length c] ((mkTo mkIntS cIntS xs k j).set j (mkIntS x (kk))) B := upd0 h0m (mkIntS x (kk)) (fm0) wm0
    have F1 : ∀ y, y ∉ B → h0m y = h y := fun y hy => (fm0 y fun hy2 => hy (hsub0 y (by simp [hy2]))).trans (F0 y hy)
    have ek1 : (kk + (cIntS x : Nat) : Int) = kk + ((cIntS x : Nat)) := by omega
    have em : (mkIntS x (kk)) = mkIntS x kk := rfl
    have eL : (mkTo mkIntS cIntS xs k j).set j (mkIntS x (kk)) = mkTo mkIntS cIntS xs k (j + 1) := by rw [hkk]; exact mkTo_set gx
    rw [eL] at W1
    refine And.intro rfl (And.intro (by first | exact trivial | exact And.intro rfl trivial | exact And.intro rfl (And.intro rfl trivial) | exact And.intro rfl (And.intro rfl (And.intro rfl trivial)) | exact And.intro rfl (And.intro rfl (And.intro rfl (And.intro rfl trivial)))) (And.intro (by first | exact trivial | exact And.intro rfl trivial | exact And.intro rfl (And.intro rfl trivial) | exact And.intro rfl (And.intro rfl (And.intro rfl trivial)) | exact And.intro rfl (And.intro rfl (And.intro rfl (And.intro rfl trivial)))) (And.intro ?_ ?_)))
    · refine ⟨j + 1, kk + (cIntS x : Nat), ?_, by omega, by rw [← hw], W1, F1⟩
      rw [ek1]; rw [hs1]; omega
    · show ((xs.length : Int) - IntKind.i64.wrap ((j : Int) + 1)).toNat < ((xs.length : Int) - (j : Int)).toNat
      omega
  · have hj' : j = xs.length := by simp at hc2; omega
    subst hj'
    rw [List.take_length] at hkk
    rw [mkTo_all] at W0
    exact And.intro (congrArg (Value.int .i64) hkk) (And.intro W0 F0)

theorem t_markPresentation (h : Hp) (cs : List Value) (x : LPresentation) (B : List Nat) (k : Int) (hx : wPresentation.W h cs x B) (hB : B.Nodup) (hk : 0 ≤ k ∧ k + (cvPresentation x : Nat) ≤ 4611686018427387904) :
    Tr Try.prog 18 #[.agg cs.toArray, .int .i64 k] h fun v h' => v = .int .i64 (k + (cvPresentation x : Nat)) ∧ wPresentation.W h' cs (mvPresentation x k) B ∧ ∀ y, y ∉ B → h' y = h y := by
  obtain ⟨x0, a1, n1, c1, x1, B1, rfl, rfl, rfl, h0, h1⟩ := openWPresentation hx
  simp only [cvPresentation] at hk
  refine walk (args := [.agg #[.int .i64 x0, .slice a1 n1 c1], .int .i64 k]) (fn := Try.f18) rfl ?_
  have hn1 : B.Nodup := by first | exact hB | (have := hB; simp only [List.nil_append, List.append_nil, List.nodup_append] at this; grind)
  refine Tr.mono (t_markIntSS _ a1 n1 c1 x1 B (k) h1 hn1 ⟨by omega, by omega⟩) ?_
  rintro v1 h1m ⟨rfl, wm1, fm1⟩
  have eK : (k + (cIntSS x1 : Nat) : Int) = k + (cvPresentation (x0, x1) : Nat) := by simp only [cvPresentation] <;> omega
  have WW : wPresentation.W h1m [.int .i64 x0, .slice a1 n1 c1] (x0, mkIntSS x1 (k)) (B) := ⟨[.int .i64 x0], [.slice a1 n1 c1], [], B, rfl, rfl, ⟨⟨rfl, h0⟩, rfl⟩, wm1⟩
  have em : (x0, mkIntSS x1 (k)) = mvPresentation (x0, x1) k := by
    unfold mvPresentation
    exact (congr (congrArg Prod.mk rfl) rfl)
  rw [em] at WW
  exact And.intro (congrArg (Value.int .i64) eK) (And.intro WW (fun y hy => fm1 y (fun hy2 => hy (by first | exact hy2 | (simp only [List.nil_append, List.append_nil, List.mem_append, List.not_mem_nil, false_or, or_false] at hy2 ⊢; grind)))))

end Go.Proofs.Ythccjgkmmclplaa
