/- What the laws' own helpers do: sizes. -/
import Derived.Test.YthccjgkmmclplaaGreatG1
namespace Go.Proofs.YthccjgkmmclplaaGreat
open Go.H
set_option linter.unusedVariables false
set_option linter.unusedSimpArgs false
set_option maxRecDepth 10000

theorem t_szEdgeS (h : Hp) (a : Option Addr) (n c : Nat) (xs : LEdgeS) (left : Int) (hx : wEdgeS.R h [.slice a n c] xs) (hl : 0 ≤ left ∧ left ≤ 1048576) :
    Tr Tryz.prog 59 #[.slice a n c, .int .i64 left] h fun v h' => v = .int .i64 (szR left (mEdgeS xs)) ∧ h' = h := by
  obtain ⟨rfl, hn⟩ := Sl.len hx
  have hw : IntKind.i64.wrap (left - (xs.length : Int)) = left - xs.length := w64 (by omega) (by omega)
  refine walk (args := [.slice a xs.length c, .int .i64 left]) (fn := Tryz.f59) rfl ?_
  refine And.intro (fun hc => ?_) (fun hc => ?_)
  · refine And.intro ?_ rfl
    simp [hw] at hc
    rw [mEdgeS, szR_lt (by omega)]
    rfl
  · refine And.intro ?_ rfl
    simp [hw] at hc
    rw [mEdgeS, szR_ge (by omega)]
    exact congrArg (Value.int .i64) hw

theorem t_szGraph (h : Hp) (cs : List Value) (x : LGraph) (left : Int) (hx : wGraph.R h cs x) (hl : 0 ≤ left ∧ left ≤ 1048576) :
    Tr Tryz.prog 22 #[.agg cs.toArray, .int .i64 left] h fun v h' => v = .int .i64 (szR left (mGraph x)) ∧ h' = h := by
  obtain ⟨x0, x1, a2, n2, c2, x2, rfl, rfl, h0, h1, h2⟩ := openGraph hx
  refine walk (args := [.agg #[.int .i64 x0, .int .i64 x1, .slice a2 n2 c2], .int .i64 left]) (fn := Tryz.f22) rfl ?_
  refine Tr.val (t_szEdgeS h a2 n2 c2 x2 (left) h2 hl) ?_
  refine And.intro (fun hc => ?_) (fun hc => ?_)
  · refine And.intro ?_ rfl
    rw [mGraph, szR_more (left := left) (a := ((mEdgeS x2 : Nat) : Int)) (by simpa using hc) hl.1 (by simp only []; omega)]
    rfl
  have q0 : 0 ≤ szR left ((mEdgeS x2 : Nat) : Int) := by simpa using hc
  have hl0 : 0 ≤ szR left ((mEdgeS x2 : Nat) : Int) ∧ szR left ((mEdgeS x2 : Nat) : Int) ≤ 1048576 := by
    have := szR_le q0
    omega
  exact And.intro rfl rfl

theorem t_szIntS (h : Hp) (a : Option Addr) (n c : Nat) (xs : LIntS) (left : Int) (hx : wIntS.R h [.slice a n c] xs) (hl : 0 ≤ left ∧ left ≤ 1048576) :
    Tr Tryz.prog 104 #[.slice a n c, .int .i64 left] h fun v h' => v = .int .i64 (szR left (mIntS xs)) ∧ h' = h := by
  obtain ⟨rfl, hn⟩ := Sl.len hx
  have hw : IntKind.i64.wrap (left - (xs.length : Int)) = left - xs.length := w64 (by omega) (by omega)
  refine walk (args := [.slice a xs.length c, .int .i64 left]) (fn := Tryz.f104) rfl ?_
  refine And.intro (fun hc => ?_) (fun hc => ?_)
  · refine And.intro ?_ rfl
    simp [hw] at hc
    rw [mIntS, szR_lt (by omega)]
    rfl
  · refine And.intro ?_ rfl
    simp [hw] at hc
    rw [mIntS, szR_ge (by omega)]
    exact congrArg (Value.int .i64) hw

theorem t_szIntSS (h : Hp) (a : Option Addr) (n c : Nat) (xs : LIntSS) (left : Int) (hx : wIntSS.R h [.slice a n c] xs) (hl : 0 ≤ left ∧ left ≤ 1048576) :
    Tr Tryz.prog 63 #[.slice a n c, .int .i64 left] h fun v h' => v = .int .i64 (szR left (mIntSS xs)) ∧ h' = h := by
  obtain ⟨rfl, hn⟩ := Sl.len hx
  have hw : IntKind.i64.wrap (left - (xs.length : Int)) = left - xs.length := w64 (by omega) (by omega)
  refine walk (args := [.slice a xs.length c, .int .i64 left]) (fn := Tryz.f63) rfl ?_
  refine And.intro (fun hc => ?_) (fun hc => ?_)
  · refine And.intro ?_ rfl
    simp [hw] at hc
    rw [mIntSS, szR_lt (by omega)]
    rfl
  simp [hw] at hc
  refine Exists.intro { vars := [1, 5], boxes := [], owns := [] } (Exists.intro (fun vs _ h' => ∃ k : Nat, k ≤ xs.length ∧ 0 ≤ szR left ((xs.length + sumM mIntS (xs.take k) : Nat) : Int) ∧ vs = [.int .i64 (szR left ((xs.length + sumM mIntS (xs.take k) : Nat) : Int)), .int .i64 k] ∧ h' = h) (Exists.intro (fun vs _ => match vs with | [_, .int _ j] => ((xs.length : Int) - j).toNat | _ => 0) ?_))
  have h0 : szR left ((xs.length + sumM mIntS (xs.take 0) : Nat) : Int) = left - xs.length := by rw [szR_ge (by simp [sumM]; omega)]; simp [sumM]
  refine And.intro ⟨0, by omega, by omega, by rw [h0]; exact congrArg (fun x => [Value.int .i64 x, Value.int .i64 0]) hw, rfl⟩ ?_
  rintro _ _ h1 ⟨k, hk, hpos, ⟨⟩, rfl⟩
  obtain ⟨q1, q2⟩ := szR_le hpos
  refine And.intro (fun hc2 => ?_) (fun hc2 => ?_)
  · have hlt : k < xs.length := by simpa using hc2
    obtain ⟨x, hgx⟩ := has_get hlt
    obtain ⟨b1, cs1, e1, i1⟩ := Sl.get hx hgx (by decide)
    have hw2 := wsucc hlt hn
    obtain ⟨a1, n1, c1, rfl⟩ := Wp.slice_cell i1
    refine And.intro b1 (Exists.intro _ (And.intro e1 ?_))
    refine Tr.val (t_szIntS _ a1 n1 c1 x _ i1 ⟨by omega, by omega⟩) ?_
    have hstep : szR (szR left ((xs.length + sumM mIntS (xs.take k) : Nat) : Int)) (mIntS x : Nat) = szR left ((xs.length + sumM mIntS (xs.take (k + 1)) : Nat) : Int) := by
      rw [szR_szR hpos (by omega) (by omega), sumM_snoc hgx]
      congr 1
      omega
    refine And.intro (fun hc3 => ?_) (fun hc3 => ?_)
    · refine And.intro ?_ rfl
      rw [hstep] at hc3
      have hneg2 : szR left ((xs.length + sumM mIntS (xs.take (k + 1)) : Nat) : Int) < 0 := by simpa using hc3
      have := sumM_take mIntS xs (k + 1)
      rw [mIntSS, szR_more hneg2 hl.1 (by omega)]
      rfl
    · rw [hstep] at hc3
      have hpos2 : 0 ≤ szR left ((xs.length + sumM mIntS (xs.take (k + 1)) : Nat) : Int) := by simpa using hc3
      refine And.intro rfl (And.intro (by first | exact trivial | exact And.intro rfl trivial | exact And.intro rfl (And.intro rfl trivial) | exact And.intro rfl (And.intro rfl (And.intro rfl trivial)) | exact And.intro rfl (And.intro rfl (And.intro rfl (And.intro rfl trivial)))) (And.intro (by first | exact trivial | exact And.intro rfl trivial | exact And.intro rfl (And.intro rfl trivial) | exact And.intro rfl (And.intro rfl (And.intro rfl trivial)) | exact And.intro rfl (And.intro rfl (And.intro rfl (And.intro rfl trivial)))) (And.intro ?_ ?_)))
      · refine ⟨k + 1, by omega, hpos2, ?_, rfl⟩
        rw [← hw2, ← hstep]
      · show ((xs.length : Int) - IntKind.i64.wrap ((k : Int) + 1)).toNat < ((xs.length : Int) - (k : Int)).toNat
        omega
  · have hk : k = xs.length := by simp at hc2; omega
    subst hk
    refine And.intro ?_ rfl
    rw [List.take_length]
    rfl

theorem t_szPresentation (h : Hp) (cs : List Value) (x : LPresentation) (left : Int) (hx : wPresentation.R h cs x) (hl : 0 ≤ left ∧ left ≤ 1048576) :
    Tr Tryz.prog 28 #[.agg cs.toArray, .int .i64 left] h fun v h' => v = .int .i64 (szR left (mPresentation x)) ∧ h' = h := by
  obtain ⟨x0, a1, n1, c1, x1, rfl, rfl, h0, h1⟩ := openPresentation hx
  refine walk (args := [.agg #[.int .i64 x0, .slice a1 n1 c1], .int .i64 left]) (fn := Tryz.f28) rfl ?_
  refine Tr.val (t_szIntSS h a1 n1 c1 x1 (left) h1 hl) ?_
  refine And.intro (fun hc => ?_) (fun hc => ?_)
  · refine And.intro ?_ rfl
    rw [mPresentation, szR_more (left := left) (a := ((mIntSS x1 : Nat) : Int)) (by simpa using hc) hl.1 (by simp only []; omega)]
    rfl
  have q0 : 0 ≤ szR left ((mIntSS x1 : Nat) : Int) := by simpa using hc
  have hl0 : 0 ≤ szR left ((mIntSS x1 : Nat) : Int) ∧ szR left ((mIntSS x1 : Nat) : Int) ≤ 1048576 := by
    have := szR_le q0
    omega
  exact And.intro rfl rfl

theorem t_szEntry (h : Hp) (cs : List Value) (x : LEntry) (left : Int) (hx : wEntry.R h cs x) (hl : 0 ≤ left ∧ left ≤ 1048576) :
    Tr Tryz.prog 84 #[.agg cs.toArray, .int .i64 left] h fun v h' => v = .int .i64 (szR left (mEntry x)) ∧ h' = h := by
  obtain ⟨x0, x1_0, x1_1, a1_2, n1_2, c1_2, x1_2, rfl, rfl, h0, h1_0, h1_1, h1_2⟩ := openEntry hx
  refine walk (args := [.agg #[.string x0, .int .i64 x1_0, .int .i64 x1_1, .slice a1_2 n1_2 c1_2], .int .i64 left]) (fn := Tryz.f84) rfl ?_
  have hw0 : IntKind.i64.wrap (left - (x0.size : Int)) = left - x0.size := w64 (by omega) (by omega)
  refine And.intro (fun hc => ?_) (fun hc => ?_)
  · simp [hw0] at hc
    refine And.intro ?_ rfl
    rw [mEntry, szR_lt (by simp only []; omega)]
    rfl
  simp [hw0] at hc
  have st0 : szR left ((x0.size : Nat) : Int) = left - x0.size := szR_ge (by omega)
  have q0 : 0 ≤ szR left ((x0.size : Nat) : Int) := by rw [st0]; omega
  have st0 : szR left ((x0.size : Nat) : Int) = IntKind.i64.wrap (left - (x0.size : Int)) := by rw [hw0]; exact st0
  have hl0 : 0 ≤ IntKind.i64.wrap (left - (x0.size : Int)) ∧ IntKind.i64.wrap (left - (x0.size : Int)) ≤ 1048576 := by
    rw [← st0]
    have := szR_le q0
    omega
  refine Tr.val (t_szGraph h [.int .i64 x1_0, .int .i64 x1_1, .slice a1_2 n1_2 c1_2] (x1_0, x1_1, x1_2) (IntKind.i64.wrap (left - (x0.size : Int))) (closeGraph h1_0 h1_1 h1_2) hl0) ?_
  refine And.intro (fun hc => ?_) (fun hc => ?_)
  · refine And.intro ?_ rfl
    have hc' : szR (IntKind.i64.wrap (left - (x0.size : Int))) ((mGraph (x1_0, x1_1, x1_2) : Nat) : Int) < 0 := by simpa using hc
    rw [← st0, szR_szR q0 (by omega) (by omega)] at hc'
    rw [mEntry, szR_more hc' hl.1 (by simp only []; omega)]
    rfl
  have hc' : 0 ≤ szR (IntKind.i64.wrap (left - (x0.size : Int))) ((mGraph (x1_0, x1_1, x1_2) : Nat) : Int) := by simpa using hc
  have st1 : szR left ((x0.size + mGraph (x1_0, x1_1, x1_2) : Nat) : Int) = szR (IntKind.i64.wrap (left - (x0.size : Int))) ((mGraph (x1_0, x1_1, x1_2) : Nat) : Int) := by rw [← st0, szR_szR q0 (by omega) (by omega)]; congr 1
  have q1 : 0 ≤ szR left ((x0.size + mGraph (x1_0, x1_1, x1_2) : Nat) : Int) := by rw [st1]; exact hc'
  clear hc'
  have hl1 : 0 ≤ szR (IntKind.i64.wrap (left - (x0.size : Int))) ((mGraph (x1_0, x1_1, x1_2) : Nat) : Int) ∧ szR (IntKind.i64.wrap (left - (x0.size : Int))) ((mGraph (x1_0, x1_1, x1_2) : Nat) : Int) ≤ 1048576 := by
    rw [← st1]
    have := szR_le q1
    omega
  exact And.intro (congrArg (Value.int .i64) (st1.symm.trans (by rw [mEntry]))) rfl

theorem t_szEntryS (h : Hp) (a : Option Addr) (n c : Nat) (xs : LEntryS) (left : Int) (hx : wEntryS.R h [.slice a n c] xs) (hl : 0 ≤ left ∧ left ≤ 1048576) :
    Tr Tryz.prog 35 #[.slice a n c, .int .i64 left] h fun v h' => v = .int .i64 (szR left (mEntryS xs)) ∧ h' = h := by
  obtain ⟨rfl, hn⟩ := Sl.len hx
  have hw : IntKind.i64.wrap (left - (xs.length : Int)) = left - xs.length := w64 (by omega) (by omega)
  refine walk (args := [.slice a xs.length c, .int .i64 left]) (fn := Tryz.f35) rfl ?_
  refine And.intro (fun hc => ?_) (fun hc => ?_)
  · refine And.intro ?_ rfl
    simp [hw] at hc
    rw [mEntryS, szR_lt (by omega)]
    rfl
  simp [hw] at hc
  refine Exists.intro { vars := [1, 5], boxes := [], owns := [] } (Exists.intro (fun vs _ h' => ∃ k : Nat, k ≤ xs.length ∧ 0 ≤ szR left ((xs.length + sumM mEntry (xs.take k) : Nat) : Int) ∧ vs = [.int .i64 (szR left ((xs.length + sumM mEntry (xs.take k) : Nat) : Int)), .int .i64 k] ∧ h' = h) (Exists.intro (fun vs _ => match vs with | [_, .int _ j] => ((xs.length : Int) - j).toNat | _ => 0) ?_))
  have h0 : szR left ((xs.length + sumM mEntry (xs.take 0) : Nat) : Int) = left - xs.length := by rw [szR_ge (by simp [sumM]; omega)]; simp [sumM]
  refine And.intro ⟨0, by omega, by omega, by rw [h0]; exact congrArg (fun x => [Value.int .i64 x, Value.int .i64 0]) hw, rfl⟩ ?_
  rintro _ _ h1 ⟨k, hk, hpos, ⟨⟩, rfl⟩
  obtain ⟨q1, q2⟩ := szR_le hpos
  refine And.intro (fun hc2 => ?_) (fun hc2 => ?_)
  · have hlt : k < xs.length := by simpa using hc2
    obtain ⟨x, hgx⟩ := has_get hlt
    obtain ⟨b1, cs1, e1, i1⟩ := Sl.get hx hgx (by decide)
    have hw2 := wsucc hlt hn
    obtain ⟨x0, x1_0, x1_1, a1_2, n1_2, c1_2, x1_2, rfl, rfl, g0, g1_0, g1_1, g1_2⟩ := openEntry i1
    refine And.intro b1 (Exists.intro _ (And.intro e1 ?_))
    refine Tr.val (t_szEntry _ [.string x0, .int .i64 x1_0, .int .i64 x1_1, .slice a1_2 n1_2 c1_2] (x0, (x1_0, x1_1, x1_2)) _ (closeEntry g0 g1_0 g1_1 g1_2) ⟨by omega, by omega⟩) ?_
    have hstep : szR (szR left ((xs.length + sumM mEntry (xs.take k) : Nat) : Int)) (mEntry (x0, (x1_0, x1_1, x1_2)) : Nat) = szR left ((xs.length + sumM mEntry (xs.take (k + 1)) : Nat) : Int) := by
      rw [szR_szR hpos (by omega) (by omega), sumM_snoc hgx]
      congr 1
      omega
    refine And.intro (fun hc3 => ?_) (fun hc3 => ?_)
    · refine And.intro ?_ rfl
      rw [hstep] at hc3
      have hneg2 : szR left ((xs.length + sumM mEntry (xs.take (k + 1)) : Nat) : Int) < 0 := by simpa using hc3
      have := sumM_take mEntry xs (k + 1)
      rw [mEntryS, szR_more hneg2 hl.1 (by omega)]
      rfl
    · rw [hstep] at hc3
      have hpos2 : 0 ≤ szR left ((xs.length + sumM mEntry (xs.take (k + 1)) : Nat) : Int) := by simpa using hc3
      refine And.intro rfl (And.intro (by first | exact trivial | exact And.intro rfl trivial | exact And.intro rfl (And.intro rfl trivial) | exact And.intro rfl (And.intro rfl (And.intro rfl trivial)) | exact And.intro rfl (And.intro rfl (And.intro rfl (And.intro rfl trivial)))) (And.intro (by first | exact trivial | exact And.intro rfl trivial | exact And.intro rfl (And.intro rfl trivial) | exact And.intro rfl (And.intro rfl (And.intro rfl trivial)) | exact And.intro rfl (And.intro rfl (And.intro rfl (And.intro rfl trivial)))) (And.intro ?_ ?_)))
      · refine ⟨k + 1, by omega, hpos2, ?_, rfl⟩
        rw [← hw2, ← hstep]
      · show ((xs.length : Int) - IntKind.i64.wrap ((k : Int) + 1)).toNat < ((xs.length : Int) - (k : Int)).toNat
        omega
  · have hk : k = xs.length := by simp at hc2; omega
    subst hk
    refine And.intro ?_ rfl
    rw [List.take_length]
    rfl

theorem t_szLibrary (h : Hp) (cs : List Value) (x : LLibrary) (left : Int) (hx : wLibrary.R h cs x) (hl : 0 ≤ left ∧ left ≤ 1048576) :
    Tr Tryz.prog 8 #[.agg cs.toArray, .int .i64 left] h fun v h' => v = .int .i64 (szR left (mLibrary x)) ∧ h' = h := by
  obtain ⟨x0, a1, n1, c1, x1, rfl, rfl, h0, h1⟩ := openLibrary hx
  refine walk (args := [.agg #[.int .i64 x0, .slice a1 n1 c1], .int .i64 left]) (fn := Tryz.f8) rfl ?_
  refine Tr.val (t_szEntryS h a1 n1 c1 x1 (left) h1 hl) ?_
  refine And.intro (fun hc => ?_) (fun hc => ?_)
  · refine And.intro ?_ rfl
    rw [mLibrary, szR_more (left := left) (a := ((mEntryS x1 : Nat) : Int)) (by simpa using hc) hl.1 (by simp only []; omega)]
    rfl
  have q0 : 0 ≤ szR left ((mEntryS x1 : Nat) : Int) := by simpa using hc
  have hl0 : 0 ≤ szR left ((mEntryS x1 : Nat) : Int) ∧ szR left ((mEntryS x1 : Nat) : Int) ≤ 1048576 := by
    have := szR_le q0
    omega
  exact And.intro rfl rfl

end Go.Proofs.YthccjgkmmclplaaGreat
