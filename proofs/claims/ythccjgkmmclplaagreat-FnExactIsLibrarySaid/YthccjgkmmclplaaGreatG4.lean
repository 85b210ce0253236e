/- What the laws' own helpers do: copies. -/
import Derived.Test.YthccjgkmmclplaaGreatG1
namespace Go.Proofs.YthccjgkmmclplaaGreat
open Go.H
set_option linter.unusedVariables false
set_option linter.unusedSimpArgs false
set_option maxRecDepth 10000

theorem t_toEdge (h : Hp) (cs : List Value) (x : LEdge) (hx : wEdge.R h cs x) (hl : mEdge x ≤ 1048576) :
    Tr Tryz.prog 102 #[.agg cs.toArray] h fun v h' => ∃ cs', v = .agg cs'.toArray ∧ New wEdge h h' cs' x := by
  obtain ⟨x0, x1, x2, rfl, rfl, h0, h1, h2⟩ := openEdge hx
  refine walk (args := [.agg #[.int .i64 x0, .int .i64 x1, .int .i64 x2]]) (fn := Tryz.f102) rfl ?_
  exact Exists.intro _ (And.intro rfl (New.pair (New.int h0) (New.pair (New.int h1) (New.int h2))))

theorem t_toEdgeS (h : Hp) (a : Option Addr) (n c : Nat) (xs : LEdgeS) (hx : wEdgeS.R h [.slice a n c] xs) (hl : mEdgeS xs ≤ 1048576) :
    Tr Tryz.prog 60 #[.slice a n c] h fun v h' => New wEdgeS h h' [v] xs := by
  obtain ⟨rfl, hn⟩ := Sl.len hx
  have hl0 : xs.length ≤ 1048576 := by simp only [mEdgeS] at hl; omega
  refine walk (args := [.slice a xs.length c]) (fn := Tryz.f60) rfl ?_
  refine And.intro ?_ ?_
  · show 0 ≤ (xs.length : Int) ∧ (xs.length : Int) ≤ xs.length ∧ (xs.length : Int) * 24 ≤ 140737488355328 ∧ (xs.length : Int) ≤ 9223372036854775807
    omega
  refine Exists.intro { vars := [4], boxes := [], owns := [0], kept := [0] } (Exists.intro (fun vs os h' => ∃ (k : Nat) (L : List (List Value)) (Bs : List (List Nat)), k ≤ xs.length ∧ vs = [.int .i64 k] ∧ os = [fillR L xs.length [.int .i64 0, .int .i64 0, .int .i64 0]] ∧ L.length = k ∧
    F3 (wEdge.W h') L (xs.take k) Bs ∧ Sub h h' ∧ Fresh h Bs.flatten) (Exists.intro (fun vs _ => match vs with | [.int _ j] => ((xs.length : Int) - j).toNat | _ => 0) ?_))
  refine And.intro ⟨0, [], [], by omega, rfl, rfl, rfl, trivial, Sub.refl _, by simp [Fresh]⟩ ?_
  rintro _ _ h1 ⟨k, L, Bs, hk, ⟨⟩, ⟨⟩, hlk, hW, hsub, hfr⟩
  refine And.intro (fun hc2 => ?_) (fun hc2 => ?_)
  · have hlt : k < xs.length := by simpa using hc2
    obtain ⟨x, gx⟩ := has_get hlt
    obtain ⟨b1, cs1, e1, i1⟩ := Sl.get (Sl.mono hsub hx) gx (by decide)
    have hw := wsucc hlt hn
    obtain ⟨x0, x1, x2, rfl, rfl, g0, g1, g2⟩ := openEdge i1
    refine And.intro b1 (Exists.intro _ (And.intro e1 ?_))
    refine Tr.mono (t_toEdge h1 [.int .i64 x0, .int .i64 x1, .int .i64 x2] (x0, x1, x2) (closeEdge g0 g1 g2) (by simp only [mEdge]; omega)) ?_
    rintro v h2 ⟨cs2, rfl, B, hB1, hB2, hB3⟩
    obtain ⟨x0z, x1z, x2z, rfl, ez, _, _, _⟩ := openEdge (wEdge.toR hB1)
    refine And.intro ?_ ?_
    · show 0 ≤ (k : Int) ∧ (k : Int) < ((fillR L xs.length [.int .i64 0, .int .i64 0, .int .i64 0]).length : Nat)
      rw [fillR_length (by omega)]; omega
    refine Exists.intro [.int .i64 0, .int .i64 0, .int .i64 0] (And.intro (fillR_get hlk hlt) ?_)
    refine And.intro rfl (And.intro (by first | exact trivial | exact And.intro rfl trivial | exact And.intro rfl (And.intro rfl trivial) | exact And.intro rfl (And.intro rfl (And.intro rfl trivial)) | exact And.intro rfl (And.intro rfl (And.intro rfl (And.intro rfl trivial)))) (And.intro (by first | exact trivial | exact And.intro rfl trivial | exact And.intro rfl (And.intro rfl trivial) | exact And.intro rfl (And.intro rfl (And.intro rfl trivial)) | exact And.intro rfl (And.intro rfl (And.intro rfl (And.intro rfl trivial)))) (And.intro ?_ ?_)))
    · refine ⟨k + 1, L ++ [[.int .i64 x0z, .int .i64 x1z, .int .i64 x2z]], Bs ++ [B], by omega, by rw [← hw], ?_, by simp [hlk], ?_, hsub.trans hB3, ?_⟩
      · show [(fillR L xs.length [.int .i64 0, .int .i64 0, .int .i64 0]).set k [.int .i64 x0z, .int .i64 x1z, .int .i64 x2z]] = _
        rw [fillR_set hlk hlt]
      · rw [take_snoc gx]
        exact F3.snoc hB1 (newer hW hB3)
      · exact fresh_snoc hW hsub hfr hB2
    · show ((xs.length : Int) - IntKind.i64.wrap ((k : Int) + 1)).toNat < ((xs.length : Int) - (k : Int)).toNat
      omega
  · have hk : k = xs.length := by simp at hc2; omega
    intro v h' hf
    rw [fillR_all (by omega)] at hf
    rw [hk, List.take_length] at hW
    exact Froze.fresh (r := wEdge) hf hW hsub hfr

theorem t_toGraph (h : Hp) (cs : List Value) (x : LGraph) (hx : wGraph.R h cs x) (hl : mGraph x ≤ 1048576) :
    Tr Tryz.prog 24 #[.agg cs.toArray] h fun v h' => ∃ cs', v = .agg cs'.toArray ∧ New wGraph h h' cs' x := by
  obtain ⟨x0, x1, a2, n2, c2, x2, rfl, rfl, h0, h1, h2⟩ := openGraph hx
  simp only [mGraph] at hl
  refine walk (args := [.agg #[.int .i64 x0, .int .i64 x1, .slice a2 n2 c2]]) (fn := Tryz.f24) rfl ?_
  refine Tr.mono (t_toEdgeS h a2 n2 c2 x2 (Sl.mono (Sub.refl _) h2) (by omega)) ?_
  rintro v2 k2 N2
  obtain ⟨a2z, n2z, c2z, ez2⟩ := Wp.slice_cell N2.r
  cases ez2
  exact Exists.intro _ (And.intro rfl (New.pair (New.int h0) (New.pair (New.int h1) N2)))

theorem t_toIntS (h : Hp) (a : Option Addr) (n c : Nat) (xs : LIntS) (hx : wIntS.R h [.slice a n c] xs) (hl : mIntS xs ≤ 1048576) :
    Tr Tryz.prog 113 #[.slice a n c] h fun v h' => New wIntS h h' [v] xs := by
  obtain ⟨rfl, hn⟩ := Sl.len hx
  have hl0 : xs.length ≤ 1048576 := by simp only [mIntS] at hl; omega
  refine walk (args := [.slice a xs.length c]) (fn := Tryz.f113) rfl ?_
  refine And.intro ?_ ?_
  · show 0 ≤ (xs.length : Int) ∧ (xs.length : Int) ≤ xs.length ∧ (xs.length : Int) * 8 ≤ 140737488355328 ∧ (xs.length : Int) ≤ 9223372036854775807
    omega
  refine Exists.intro { vars := [4], boxes := [], owns := [0], kept := [0] } (Exists.intro (fun vs os h' => ∃ (k : Nat) (L : List (List Value)) (Bs : List (List Nat)), k ≤ xs.length ∧ vs = [.int .i64 k] ∧ os = [fillR L xs.length [.int .i64 0]] ∧ L.length = k ∧
    F3 (Wp.int.W h') L (xs.take k) Bs ∧ Sub h h' ∧ Fresh h Bs.flatten) (Exists.intro (fun vs _ => match vs with | [.int _ j] => ((xs.length : Int) - j).toNat | _ => 0) ?_))
  refine And.intro ⟨0, [], [], by omega, rfl, rfl, rfl, trivial, Sub.refl _, by simp [Fresh]⟩ ?_
  rintro _ _ h1 ⟨k, L, Bs, hk, ⟨⟩, ⟨⟩, hlk, hW, hsub, hfr⟩
  refine And.intro (fun hc2 => ?_) (fun hc2 => ?_)
  · have hlt : k < xs.length := by simpa using hc2
    obtain ⟨x, gx⟩ := has_get hlt
    obtain ⟨b1, cs1, e1, i1⟩ := Sl.get (Sl.mono hsub hx) gx (by decide)
    have hw := wsucc hlt hn
    obtain ⟨rfl, g1⟩ := i1
    refine And.intro b1 (Exists.intro _ (And.intro e1 ?_))
    obtain ⟨B, hB1, hB2, hB3⟩ := New.int (h := h1) g1
    refine And.intro ?_ ?_
    · show 0 ≤ (k : Int) ∧ (k : Int) < ((fillR L xs.length [.int .i64 0]).length : Nat)
      rw [fillR_length (by omega)]; omega
    refine Exists.intro [.int .i64 0] (And.intro (fillR_get hlk hlt) ?_)
    refine And.intro rfl (And.intro (by first | exact trivial | exact And.intro rfl trivial | exact And.intro rfl (And.intro rfl trivial) | exact And.intro rfl (And.intro rfl (And.intro rfl trivial)) | exact And.intro rfl (And.intro rfl (And.intro rfl (And.intro rfl trivial)))) (And.intro (by first | exact trivial | exact And.intro rfl trivial | exact And.intro rfl (And.intro rfl trivial) | exact And.intro rfl (And.intro rfl (And.intro rfl trivial)) | exact And.intro rfl (And.intro rfl (And.intro rfl (And.intro rfl trivial)))) (And.intro ?_ ?_)))
    · refine ⟨k + 1, L ++ [[.int .i64 x]], Bs ++ [B], by omega, by rw [← hw], ?_, by simp [hlk], ?_, hsub.trans hB3, ?_⟩
      · show [(fillR L xs.length [.int .i64 0]).set k [.int .i64 x]] = _
        rw [fillR_set hlk hlt]
      · rw [take_snoc gx]
        exact F3.snoc hB1 (newer hW hB3)
      · exact fresh_snoc hW hsub hfr hB2
    · show ((xs.length : Int) - IntKind.i64.wrap ((k : Int) + 1)).toNat < ((xs.length : Int) - (k : Int)).toNat
      omega
  · have hk : k = xs.length := by simp at hc2; omega
    intro v h' hf
    rw [fillR_all (by omega)] at hf
    rw [hk, List.take_length] at hW
    exact Froze.fresh (r := Wp.int) hf hW hsub hfr

theorem t_toIntSS (h : Hp) (a : Option Addr) (n c : Nat) (xs : LIntSS) (hx : wIntSS.R h [.slice a n c] xs) (hl : mIntSS xs ≤ 1048576) :
    Tr Tryz.prog 72 #[.slice a n c] h fun v h' => New wIntSS h h' [v] xs := by
  obtain ⟨rfl, hn⟩ := Sl.len hx
  have hl0 : xs.length ≤ 1048576 := by simp only [mIntSS] at hl; omega
  refine walk (args := [.slice a xs.length c]) (fn := Tryz.f72) rfl ?_
  refine And.intro ?_ ?_
  · show 0 ≤ (xs.length : Int) ∧ (xs.length : Int) ≤ xs.length ∧ (xs.length : Int) * 24 ≤ 140737488355328 ∧ (xs.length : Int) ≤ 9223372036854775807
    omega
  refine Exists.intro { vars := [4], boxes := [], owns := [0], kept := [0] } (Exists.intro (fun vs os h' => ∃ (k : Nat) (L : List (List Value)) (Bs : List (List Nat)), k ≤ xs.length ∧ vs = [.int .i64 k] ∧ os = [fillR L xs.length [.slice none 0 0]] ∧ L.length = k ∧
    F3 (wIntS.W h') L (xs.take k) Bs ∧ Sub h h' ∧ Fresh h Bs.flatten) (Exists.intro (fun vs _ => match vs with | [.int _ j] => ((xs.length : Int) - j).toNat | _ => 0) ?_))
  refine And.intro ⟨0, [], [], by omega, rfl, rfl, rfl, trivial, Sub.refl _, by simp [Fresh]⟩ ?_
  rintro _ _ h1 ⟨k, L, Bs, hk, ⟨⟩, ⟨⟩, hlk, hW, hsub, hfr⟩
  refine And.intro (fun hc2 => ?_) (fun hc2 => ?_)
  · have hlt : k < xs.length := by simpa using hc2
    obtain ⟨x, gx⟩ := has_get hlt
    obtain ⟨b1, cs1, e1, i1⟩ := Sl.get (Sl.mono hsub hx) gx (by decide)
    have hw := wsucc hlt hn
    obtain ⟨a1, n1, c1, rfl⟩ := Wp.slice_cell i1
    refine And.intro b1 (Exists.intro _ (And.intro e1 ?_))
    refine Tr.mono (t_toIntS h1 _ _ _ x i1 (by have := sumM_get (m := mIntS) gx; simp only [mIntSS] at hl; omega)) ?_
    rintro v h2 ⟨B, hB1, hB2, hB3⟩
    obtain ⟨a2, n2, c2, e2⟩ := Wp.slice_cell (wIntS.toR hB1)
    cases e2
    refine And.intro ?_ ?_
    · show 0 ≤ (k : Int) ∧ (k : Int) < ((fillR L xs.length [.slice none 0 0]).length : Nat)
      rw [fillR_length (by omega)]; omega
    refine Exists.intro [.slice none 0 0] (And.intro (fillR_get hlk hlt) ?_)
    refine And.intro rfl (And.intro (by first | exact trivial | exact And.intro rfl trivial | exact And.intro rfl (And.intro rfl trivial) | exact And.intro rfl (And.intro rfl (And.intro rfl trivial)) | exact And.intro rfl (And.intro rfl (And.intro rfl (And.intro rfl trivial)))) (And.intro (by first | exact trivial | exact And.intro rfl trivial | exact And.intro rfl (And.intro rfl trivial) | exact And.intro rfl (And.intro rfl (And.intro rfl trivial)) | exact And.intro rfl (And.intro rfl (And.intro rfl (And.intro rfl trivial)))) (And.intro ?_ ?_)))
    · refine ⟨k + 1, L ++ [[.slice a2 n2 c2]], Bs ++ [B], by omega, by rw [← hw], ?_, by simp [hlk], ?_, hsub.trans hB3, ?_⟩
      · show [(fillR L xs.length [.slice none 0 0]).set k [.slice a2 n2 c2]] = _
        rw [fillR_set hlk hlt]
      · rw [take_snoc gx]
        exact F3.snoc hB1 (newer hW hB3)
      · exact fresh_snoc hW hsub hfr hB2
    · show ((xs.length : Int) - IntKind.i64.wrap ((k : Int) + 1)).toNat < ((xs.length : Int) - (k : Int)).toNat
      omega
  · have hk : k = xs.length := by simp at hc2; omega
    intro v h' hf
    rw [fillR_all (by omega)] at hf
    rw [hk, List.take_length] at hW
    exact Froze.fresh (r := wIntS) hf hW hsub hfr

theorem t_toPresentation (h : Hp) (cs : List Value) (x : LPresentation) (hx : wPresentation.R h cs x) (hl : mPresentation x ≤ 1048576) :
    Tr Tryz.prog 30 #[.agg cs.toArray] h fun v h' => ∃ cs', v = .agg cs'.toArray ∧ New wPresentation h h' cs' x := by
  obtain ⟨x0, a1, n1, c1, x1, rfl, rfl, h0, h1⟩ := openPresentation hx
  simp only [mPresentation] at hl
  refine walk (args := [.agg #[.int .i64 x0, .slice a1 n1 c1]]) (fn := Tryz.f30) rfl ?_
  refine Tr.mono (t_toIntSS h a1 n1 c1 x1 (Sl.mono (Sub.refl _) h1) (by omega)) ?_
  rintro v1 k1 N1
  obtain ⟨a1z, n1z, c1z, ez1⟩ := Wp.slice_cell N1.r
  cases ez1
  exact Exists.intro _ (And.intro rfl (New.pair (New.int h0) N1))

theorem t_toEntry (h : Hp) (cs : List Value) (x : LEntry) (hx : wEntry.R h cs x) (hl : mEntry x ≤ 1048576) :
    Tr Tryz.prog 86 #[.agg cs.toArray] h fun v h' => ∃ cs', v = .agg cs'.toArray ∧ New wEntry h h' cs' x := by
  obtain ⟨x0, x1_0, x1_1, a1_2, n1_2, c1_2, x1_2, rfl, rfl, h0, h1_0, h1_1, h1_2⟩ := openEntry hx
  simp only [mEntry] at hl
  refine walk (args := [.agg #[.string x0, .int .i64 x1_0, .int .i64 x1_1, .slice a1_2 n1_2 c1_2]]) (fn := Tryz.f86) rfl ?_
  refine Tr.mono (t_toGraph h [.int .i64 x1_0, .int .i64 x1_1, .slice a1_2 n1_2 c1_2] (x1_0, x1_1, x1_2) (wGraph.mono (Sub.refl _) (closeGraph h1_0 h1_1 h1_2)) (by omega)) ?_
  rintro v1 k1 ⟨cs1, rfl, N1⟩
  obtain ⟨x1_0z, x1_1z, a1_2z, n1_2z, c1_2z, x1_2z, rfl, ez1, _, _, _⟩ := openGraph N1.r
  exact Exists.intro _ (And.intro rfl (New.pair (New.str h0) N1))

theorem t_toEntryS (h : Hp) (a : Option Addr) (n c : Nat) (xs : LEntryS) (hx : wEntryS.R h [.slice a n c] xs) (hl : mEntryS xs ≤ 1048576) :
    Tr Tryz.prog 39 #[.slice a n c] h fun v h' => New wEntryS h h' [v] xs := by
  obtain ⟨rfl, hn⟩ := Sl.len hx
  have hl0 : xs.length ≤ 1048576 := by simp only [mEntryS] at hl; omega
  refine walk (args := [.slice a xs.length c]) (fn := Tryz.f39) rfl ?_
  refine And.intro ?_ ?_
  · show 0 ≤ (xs.length : Int) ∧ (xs.length : Int) ≤ xs.length ∧ (xs.length : Int) * 56 ≤ 140737488355328 ∧ (xs.length : Int) ≤ 9223372036854775807
    omega
  refine Exists.intro { vars := [4], boxes := [], owns := [0], kept := [0] } (Exists.intro (fun vs os h' => ∃ (k : Nat) (L : List (List Value)) (Bs : List (List Nat)), k ≤ xs.length ∧ vs = [.int .i64 k] ∧ os = [fillR L xs.length [.string ⟨#[]⟩, .int .i64 0, .int .i64 0, .slice none 0 0]] ∧ L.length = k ∧
    F3 (wEntry.W h') L (xs.take k) Bs ∧ Sub h h' ∧ Fresh h Bs.flatten) (Exists.intro (fun vs _ => match vs with | [.int _ j] => ((xs.length : Int) - j).toNat | _ => 0) ?_))
  refine And.intro ⟨0, [], [], by omega, rfl, rfl, rfl, trivial, Sub.refl _, by simp [Fresh]⟩ ?_
  rintro _ _ h1 ⟨k, L, Bs, hk, ⟨⟩, ⟨⟩, hlk, hW, hsub, hfr⟩
  refine And.intro (fun hc2 => ?_) (fun hc2 => ?_)
  · have hlt : k < xs.length := by simpa using hc2
    obtain ⟨x, gx⟩ := has_get hlt
    obtain ⟨b1, cs1, e1, i1⟩ := Sl.get (Sl.mono hsub hx) gx (by decide)
    have hw := wsucc hlt hn
    obtain ⟨x0, x1_0, x1_1, a1_2, n1_2, c1_2, x1_2, rfl, rfl, g0, g1_0, g1_1, g1_2⟩ := openEntry i1
    refine And.intro b1 (Exists.intro _ (And.intro e1 ?_))
    refine Tr.mono (t_toEntry h1 [.string x0, .int .i64 x1_0, .int .i64 x1_1, .slice a1_2 n1_2 c1_2] (x0, (x1_0, x1_1, x1_2)) (closeEntry g0 g1_0 g1_1 g1_2) (by first | (have := sumM_get (m := mEntry) gx; simp only [mEntryS] at hl; omega) | (show mEntry _ ≤ _; simp only [mEntry]; omega))) ?_
    rintro v h2 ⟨cs2, rfl, B, hB1, hB2, hB3⟩
    obtain ⟨x0z, x1_0z, x1_1z, a1_2z, n1_2z, c1_2z, x1_2z, rfl, ez, _, _, _, _⟩ := openEntry (wEntry.toR hB1)
    refine And.intro ?_ ?_
    · show 0 ≤ (k : Int) ∧ (k : Int) < ((fillR L xs.length [.string ⟨#[]⟩, .int .i64 0, .int .i64 0, .slice none 0 0]).length : Nat)
      rw [fillR_length (by omega)]; omega
    refine Exists.intro [.string ⟨#[]⟩, .int .i64 0, .int .i64 0, .slice none 0 0] (And.intro (fillR_get hlk hlt) ?_)
    refine And.intro rfl (And.intro (by first | exact trivial | exact And.intro rfl trivial | exact And.intro rfl (And.intro rfl trivial) | exact And.intro rfl (And.intro rfl (And.intro rfl trivial)) | exact And.intro rfl (And.intro rfl (And.intro rfl (And.intro rfl trivial)))) (And.intro (by first | exact trivial | exact And.intro rfl trivial | exact And.intro rfl (And.intro rfl trivial) | exact And.intro rfl (And.intro rfl (And.intro rfl trivial)) | exact And.intro rfl (And.intro rfl (And.intro rfl (And.intro rfl trivial)))) (And.intro ?_ ?_)))
    · refine ⟨k + 1, L ++ [[.string x0z, .int .i64 x1_0z, .int .i64 x1_1z, .slice a1_2z n1_2z c1_2z]], Bs ++ [B], by omega, by rw [← hw], ?_, by simp [hlk], ?_, hsub.trans hB3, ?_⟩
      · show [(fillR L xs.length [.string ⟨#[]⟩, .int .i64 0, .int .i64 0, .slice none 0 0]).set k [.string x0z, .int .i64 x1_0z, .int .i64 x1_1z, .slice a1_2z n1_2z c1_2z]] = _
        rw [fillR_set hlk hlt]
      · rw [take_snoc gx]
        exact F3.snoc hB1 (newer hW hB3)
      · exact fresh_snoc hW hsub hfr hB2
    · show ((xs.length : Int) - IntKind.i64.wrap ((k : Int) + 1)).toNat < ((xs.length : Int) - (k : Int)).toNat
      omega
  · have hk : k = xs.length := by simp at hc2; omega
    intro v h' hf
    rw [fillR_all (by omega)] at hf
    rw [hk, List.take_length] at hW
    exact Froze.fresh (r := wEntry) hf hW hsub hfr

theorem t_toLibrary (h : Hp) (cs : List Value) (x : LLibrary) (hx : wLibrary.R h cs x) (hl : mLibrary x ≤ 1048576) :
    Tr Tryz.prog 10 #[.agg cs.toArray] h fun v h' => ∃ cs', v = .agg cs'.toArray ∧ New wLibrary h h' cs' x := by
  obtain ⟨x0, a1, n1, c1, x1, rfl, rfl, h0, h1⟩ := openLibrary hx
  simp only [mLibrary] at hl
  refine walk (args := [.agg #[.int .i64 x0, .slice a1 n1 c1]]) (fn := Tryz.f10) rfl ?_
  refine Tr.mono (t_toEntryS h a1 n1 c1 x1 (Sl.mono (Sub.refl _) h1) (by omega)) ?_
  rintro v1 k1 N1
  obtain ⟨a1z, n1z, c1z, ez1⟩ := Wp.slice_cell N1.r
  cases ez1
  exact Exists.intro _ (And.intro rfl (New.pair (New.int h0) N1))

end Go.Proofs.YthccjgkmmclplaaGreat
