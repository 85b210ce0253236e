/- What LookUp does. -/
import Derived.Test.YtalidbmconldoaaG1
namespace Go.Proofs.Ytalidbmconldoaa
open Go.H
set_option linter.unusedVariables false
set_option linter.unusedSimpArgs false
set_option maxRecDepth 10000
open Lean Elab Tactic Meta in
elab "dbg" : tactic => withMainContext do
  let t ← instantiateMVars (← getMainTarget)
  let fmt ← ppExpr t
  let s := (toString fmt).toList.take 1800
  logInfo m!"{String.ofList s}"
open Lean Elab Tactic Meta in
elab "hn" : tactic => withMainContext do
  let g ← getMainGoal
  let t ← whnf (← instantiateMVars (← g.getType))
  replaceMainGoal [← g.replaceTargetDefEq t]
set_option pp.deepTerms false
set_option pp.maxSteps 6000


theorem strEq' {a b : ByteArray} (h : (a.toList == b.toList) = true) : a = b := strEq (by rw [h]; rfl)
theorem strNe' {a b : ByteArray} (h : (a.toList == b.toList) = false) : a ≠ b := strNe (by rw [h]; rfl)
theorem edgeRows {h h' : Hp} : ∀ {vs : List (List Value)} {xs : LEdgeS}, F2 (wEdge.R h) vs xs → F3 (wEdge.W h') vs xs (xs.map fun _ => [])
  | [], [], _ => trivial
  | v :: vs, x :: xs, h => by
    obtain ⟨x0, x1, x2, rfl, rfl, h0, h1, h2⟩ := openEdge h.1
    exact ⟨closeWEdge h0 h1 h2, edgeRows h.2⟩
  | [], _ :: _, h => h.elim
  | _ :: _, [], h => h.elim
theorem Froze.newEdges {h h' : Hp} {v : Value} {e : Nat} {nn : Bool} {vs : List (List Value)} {xs : LEdgeS} (f : Froze h h' v e 3 nn vs) (hx : F2 (wEdge.R h) vs xs) : New wEdgeS h h' [v] xs :=
  Froze.fresh (r := wEdge) (h0 := h) f (edgeRows hx) (Sub.refl _) (by rw [nil_flat]; exact Fresh.nil _)

def lookL : LEntryS → ByteArray → LGraph × Bool
  | [], s => ((0, 0, []), false)
  | e :: r, s => if e.1 = s then (e.2, true) else lookL r s
def F_LookUp (x : LLibrary) (s : ByteArray) : LGraph × Bool := lookL x.2 s
theorem lookL_skip {s : ByteArray} : ∀ {l : LEntryS} {k : Nat}, (∀ i e, i < k → l[i]? = some e → e.1 ≠ s) → lookL l s = lookL (l.drop k) s
  | l, 0, h => by simp
  | [], k + 1, h => by simp
  | e :: r, k + 1, h => by
    have h0 := h 0 e (by omega) rfl
    simp only [lookL, if_neg h0, List.drop_succ_cons]
    exact lookL_skip fun i e' hi he => h (i + 1) e' (by omega) (by simpa using he)
theorem lookL_hit {s : ByteArray} {l : LEntryS} {k : Nat} {g : LGraph} (h : ∀ i e, i < k → l[i]? = some e → e.1 ≠ s) (hk : l[k]? = some (s, g)) : lookL l s = (g, true) := by
  rw [lookL_skip h]
  obtain ⟨hi, hx⟩ := List.getElem?_eq_some_iff.1 hk
  rw [List.drop_eq_getElem_cons hi, hx]
  simp [lookL]
theorem lookL_miss {s : ByteArray} {l : LEntryS} (h : ∀ i e, i < l.length → l[i]? = some e → e.1 ≠ s) : lookL l s = ((0, 0, []), false) := by
  rw [lookL_skip h]
  simp [lookL]
theorem c_look : ∀ (l : LEntryS) (s : ByteArray), cvGraph (lookL l s).1 ≤ 16 * mEntryS l
  | [], s => by simp [lookL, cvGraph, cEdgeS, sumM]
  | e :: r, s => by
    simp only [lookL]
    split
    · have := cbGraph e.2
      simp only [mEntryS, sumM, mEntry, List.length_cons]
      omega
    · have := c_look r s
      simp only [mEntryS, sumM, List.length_cons] at *
      omega
theorem c_LookUp (x : LLibrary) (s : ByteArray) (hm : mLibrary x ≤ 1048576) (hs : s.size ≤ 1048576) : cvGraph (F_LookUp x s).1 ≤ 16777216 := by
  have := c_look x.2 s
  simp only [mLibrary] at hm
  unfold F_LookUp
  omega
theorem t_specCopy (h : Hp) (cs : List Value) (x : LGraph) (hx : wGraph.R h cs x) (hm : x.2.2.length ≤ 1048576) :
    Tr Try.prog 81 #[.agg cs.toArray] h fun v h' => ∃ cs', v = .agg cs'.toArray ∧ New wGraph h h' cs' x := by
  obtain ⟨x0, x1, a2, n2, c2, x2, rfl, rfl, h0, h1, h2⟩ := openGraph hx
  obtain ⟨_, _, _, vs, e1, e2, e3, e4, e5⟩ := id h2
  cases e1
  refine walk (args := [.agg #[.int .i64 x0, .int .i64 x1, .slice a2 n2 c2]]) (fn := Try.f81) rfl ?_
  refine Or.inr (Or.inr (And.intro (And.intro (by kernel_rfl) (by kernel_rfl)) (And.intro rfl ?_)))
  refine And.intro (by first | exact rfl | exact trivial) ?_
  refine Exists.intro vs (And.intro e4 (And.intro ?_ ?_))
  · have := e5.length
    show (0 + vs.length) * 24 ≤ 140737488355328
    have : x2.length ≤ 1048576 := hm
    omega
  refine And.intro (by first | exact rfl | exact trivial) ?_
  refine And.intro (by first | exact rfl | exact trivial) ?_
  refine And.intro (by first | exact rfl | exact trivial) ?_
  intro v h' hf
  exact Exists.intro [.int .i64 x0, .int .i64 x1, v] (And.intro rfl (New.pair (New.int h0) (New.pair (New.int h1) (Froze.newEdges hf e5))))
theorem t_implCopy (h : Hp) (cs : List Value) (x : LGraph) (hx : wGraph.R h cs x) (hm : x.2.2.length ≤ 1048576) :
    Tr Try.prog 83 #[.agg cs.toArray] h fun v h' => ∃ cs', v = .agg cs'.toArray ∧ New wGraph h h' cs' x := by
  obtain ⟨x0, x1, a2, n2, c2, x2, rfl, rfl, h0, h1, h2⟩ := openGraph hx
  obtain ⟨_, _, _, vs, e1, e2, e3, e4, e5⟩ := id h2
  cases e1
  refine walk (args := [.agg #[.int .i64 x0, .int .i64 x1, .slice a2 n2 c2]]) (fn := Try.f83) rfl ?_
  refine Or.inr (Or.inr (And.intro (And.intro (by kernel_rfl) (by kernel_rfl)) (And.intro rfl ?_)))
  refine And.intro (by first | exact rfl | exact trivial) ?_
  refine Exists.intro vs (And.intro e4 (And.intro ?_ ?_))
  · have := e5.length
    show (0 + vs.length) * 24 ≤ 140737488355328
    have : x2.length ≤ 1048576 := hm
    omega
  refine And.intro (by first | exact rfl | exact trivial) ?_
  refine And.intro (by first | exact rfl | exact trivial) ?_
  refine And.intro (by first | exact rfl | exact trivial) ?_
  intro v h' hf
  exact Exists.intro [.int .i64 x0, .int .i64 x1, v] (And.intro rfl (New.pair (New.int h0) (New.pair (New.int h1) (Froze.newEdges hf e5))))
theorem t_specLookUp (h : Hp) (cs : List Value) (x : LLibrary) (hx : wLibrary.R h cs x) (hm : mLibrary x ≤ 1048576) (s : ByteArray) (hs : s.size ≤ 9223372036854775807) (hs2 : s.size ≤ 1048576) :
    Tr Try.prog 31 #[.agg cs.toArray, .string s] h fun v h' => ∃ cs', v = .tuple #[.agg cs'.toArray, .bool (F_LookUp x s).2] ∧ wGraph.R h' cs' (F_LookUp x s).1 ∧ Sub h h' := by
  obtain ⟨x0, a1, n1, c1, x1, rfl, rfl, h0, h1⟩ := openLibrary hx
  obtain ⟨rfl, hn⟩ := Sl.len h1
  refine walk (args := [.agg #[.int .i64 x0, .slice a1 x1.length c1], .string s]) (fn := Try.f31) rfl ?_
  have hlen : x1.length ≤ 1048576 := by simp only [mLibrary, mEntryS] at hm; omega
  refine Exists.intro { vars := [6], boxes := [], owns := [] } (Exists.intro (fun vs _ h' => ∃ j : Nat, j ≤ x1.length ∧ (∀ i e, i < j → x1[i]? = some e → e.1 ≠ s) ∧ vs = [.int .i64 j] ∧ h' = h) (Exists.intro (fun vs _ => match vs with | [.int _ j] => ((x1.length : Int) - j).toNat | _ => 0) ?_))
  refine And.intro ⟨0, by omega, fun i e hi => by omega, rfl, rfl⟩ ?_
  rintro _ hh ⟨j, hj, hno, ⟨⟩, rfl⟩
  refine And.intro (fun hc2 => ?_) (fun hc2 => ?_)
  · have hlt : j < x1.length := by simpa using hc2
    obtain ⟨x, gx⟩ := has_get hlt
    obtain ⟨b1, cs1, e1, i1⟩ := Sl.get h1 gx (by decide)
    obtain ⟨s0, g0, g1, ga, gn, gc, g2, rfl, rfl, j0, j1, j2, j3⟩ := openEntry i1
    have hw := wsucc hlt hn
    refine And.intro b1 (Exists.intro _ (And.intro e1 ?_))
    refine And.intro (fun hc3 => ?_) (fun hc3 => ?_)
    · have hs0 : s0 = s := strEq' hc3
      subst hs0
      have hF : F_LookUp (x0, x1) s0 = ((g0, g1, g2), true) := lookL_hit hno gx
      rw [hF]
      have hsz : g2.length ≤ 1048576 := by
        have := sumM_get (m := mEntry) gx
        simp only [mLibrary, mEntryS] at hm
        simp only [mEntry, mGraph, mEdgeS] at this
        omega
      refine And.intro b1 (Exists.intro _ (And.intro e1 ?_))
      refine Tr.mono (t_specCopy _ [.int .i64 g0, .int .i64 g1, .slice ga gn gc] (g0, g1, g2) (closeGraph j1 j2 j3) hsz) ?_
      rintro v h2 ⟨cs2, rfl, n2⟩
      obtain ⟨z0, z1, za, zn, zc, z2, rfl, ez, _, _, _⟩ := openGraph n2.r
      exact Exists.intro [.int .i64 z0, .int .i64 z1, .slice za zn zc] (And.intro rfl (And.intro n2.r n2.sub))
    · have hne : s0 ≠ s := strNe' hc3
      refine And.intro rfl (And.intro (by first | exact trivial | exact And.intro rfl trivial | exact And.intro rfl (And.intro rfl trivial) | exact And.intro rfl (And.intro rfl (And.intro rfl trivial)) | exact And.intro rfl (And.intro rfl (And.intro rfl (And.intro rfl trivial)))) (And.intro (by first | exact trivial | exact And.intro rfl trivial | exact And.intro rfl (And.intro rfl trivial) | exact And.intro rfl (And.intro rfl (And.intro rfl trivial)) | exact And.intro rfl (And.intro rfl (And.intro rfl (And.intro rfl trivial)))) (And.intro ?_ ?_)))
      · refine ⟨j + 1, by omega, fun i e hi he => ?_, by rw [← hw], rfl⟩
        by_cases q : i = j
        · subst q; rw [gx] at he; cases he; exact hne
        · exact hno i e (by omega) he
      · show ((x1.length : Int) - IntKind.i64.wrap ((j : Int) + 1)).toNat < ((x1.length : Int) - (j : Int)).toNat
        omega
  · have hj' : j = x1.length := by simp at hc2; omega
    subst hj'
    have hF : F_LookUp (x0, x1) s = ((0, 0, []), false) := lookL_miss hno
    rw [hF]
    exact Exists.intro [.int .i64 0, .int .i64 0, .slice none 0 0] (And.intro rfl (And.intro (closeGraph (in64 (by decide) (by decide)) (in64 (by decide) (by decide)) (New.nilSlice (h := hh)).r) (Sub.refl _)))
theorem t_findLib (h : Hp) (cs : List Value) (x : LLibrary) (hx : wLibrary.R h cs x) (s : ByteArray) (hs : s.size ≤ 9223372036854775807) :
    Tr Try.prog 82 #[.agg cs.toArray, .string s] h fun v h' => ∃ k : Int, v = .int .i64 k ∧ h' = h ∧ ((k = -1 ∧ ∀ i e, i < x.2.length → x.2[i]? = some e → e.1 ≠ s) ∨ ∃ (j : Nat) (g : LGraph), k = j ∧ x.2[j]? = some (s, g) ∧ ∀ i e, i < j → x.2[i]? = some e → e.1 ≠ s) := by
  obtain ⟨x0, a1, n1, c1, x1, rfl, rfl, h0, h1⟩ := openLibrary hx
  obtain ⟨rfl, hn⟩ := Sl.len h1
  refine walk (args := [.agg #[.int .i64 x0, .slice a1 x1.length c1], .string s]) (fn := Try.f82) rfl ?_
  refine Exists.intro { vars := [10], boxes := [], owns := [] } (Exists.intro (fun vs _ h' => ∃ j : Nat, j ≤ x1.length ∧ (∀ i e, i < j → x1[i]? = some e → e.1 ≠ s) ∧ vs = [.int .i64 j] ∧ h' = h) (Exists.intro (fun vs _ => match vs with | [.int _ j] => ((x1.length : Int) - j).toNat | _ => 0) ?_))
  refine And.intro ⟨0, by omega, fun i e hi => by omega, rfl, rfl⟩ ?_
  rintro _ hh ⟨j, hj, hno, ⟨⟩, rfl⟩
  refine And.intro (fun hc2 => ?_) (fun hc2 => ?_)
  · have hlt : j < x1.length := by simpa using hc2
    obtain ⟨x, gx⟩ := has_get hlt
    obtain ⟨b1, cs1, e1, i1⟩ := Sl.get h1 gx (by decide)
    obtain ⟨s0, g0, g1, ga, gn, gc, g2, rfl, rfl, j0, j1, j2, j3⟩ := openEntry i1
    have hw := wsucc hlt hn
    refine And.intro b1 (Exists.intro _ (And.intro e1 ?_))
    refine And.intro (fun hc3 => ?_) (fun hc3 => ?_)
    · have hs0 : s0 = s := strEq' hc3
      subst hs0
      exact Exists.intro (j : Int) (And.intro rfl (And.intro rfl (Or.inr ⟨j, (g0, g1, g2), rfl, gx, hno⟩)))
    · have hne : s0 ≠ s := strNe' hc3
      refine And.intro rfl (And.intro (by first | exact trivial | exact And.intro rfl trivial | exact And.intro rfl (And.intro rfl trivial) | exact And.intro rfl (And.intro rfl (And.intro rfl trivial)) | exact And.intro rfl (And.intro rfl (And.intro rfl (And.intro rfl trivial)))) (And.intro (by first | exact trivial | exact And.intro rfl trivial | exact And.intro rfl (And.intro rfl trivial) | exact And.intro rfl (And.intro rfl (And.intro rfl trivial)) | exact And.intro rfl (And.intro rfl (And.intro rfl (And.intro rfl trivial)))) (And.intro ?_ ?_)))
      · refine ⟨j + 1, by omega, fun i e hi he => ?_, by rw [← hw], rfl⟩
        by_cases q : i = j
        · subst q; rw [gx] at he; cases he; exact hne
        · exact hno i e (by omega) he
      · show ((x1.length : Int) - IntKind.i64.wrap ((j : Int) + 1)).toNat < ((x1.length : Int) - (j : Int)).toNat
        omega
  · have hj' : j = x1.length := by simp at hc2; omega
    subst hj'
    exact Exists.intro (-1 : Int) (And.intro rfl (And.intro rfl (Or.inl ⟨rfl, hno⟩)))
theorem t_implLookUp (h : Hp) (cs : List Value) (x : LLibrary) (hx : wLibrary.R h cs x) (hm : mLibrary x ≤ 1048576) (s : ByteArray) (hs : s.size ≤ 9223372036854775807) (hs2 : s.size ≤ 1048576) :
    Tr Try.prog 32 #[.agg cs.toArray, .string s] h fun v h' => ∃ cs', v = .tuple #[.agg cs'.toArray, .bool (F_LookUp x s).2] ∧ New wGraph h h' cs' (F_LookUp x s).1 := by
  obtain ⟨x0, a1, n1, c1, x1, rfl, rfl, h0, h1⟩ := openLibrary hx
  obtain ⟨rfl, hn⟩ := Sl.len h1
  refine walk (args := [.agg #[.int .i64 x0, .slice a1 x1.length c1], .string s]) (fn := Try.f32) rfl ?_
  refine Tr.mono (t_findLib _ [.int .i64 x0, .slice a1 x1.length c1] (x0, x1) (closeLibrary h0 h1) s hs) ?_
  rintro v hh ⟨k, rfl, rfl, hk⟩
  refine And.intro (fun hc => ?_) (fun hc => ?_)
  · have hk0 : k < 0 := by simpa using hc
    rcases hk with ⟨_, hno⟩ | ⟨j, g, rfl, _⟩
    · have hF : F_LookUp (x0, x1) s = ((0, 0, []), false) := lookL_miss hno
      rw [hF]
      exact Exists.intro [.int .i64 0, .int .i64 0, .slice none 0 0] (And.intro rfl (New.pair (New.int (in64 (by decide) (by decide))) (New.pair (New.int (in64 (by decide) (by decide))) New.nilSlice)))
    · omega
  · have hk0 : 0 ≤ k := by simpa using hc
    rcases hk with ⟨rfl, _⟩ | ⟨j, g, rfl, gx, hno⟩
    · omega
    have hF : F_LookUp (x0, x1) s = (g, true) := lookL_hit hno gx
    rw [hF]
    obtain ⟨b1, cs1, e1, i1⟩ := Sl.get h1 gx (by decide)
    obtain ⟨s0, g0, g1, ga, gn, gc, g2, rfl, ex, j0, j1, j2, j3⟩ := openEntry i1
    cases ex
    have hsz : g2.length ≤ 1048576 := by
      have := sumM_get (m := mEntry) gx
      simp only [mLibrary, mEntryS] at hm
      simp only [mEntry, mGraph, mEdgeS] at this
      omega
    refine And.intro b1 (Exists.intro _ (And.intro e1 ?_))
    refine Tr.mono (t_implCopy _ [.int .i64 g0, .int .i64 g1, .slice ga gn gc] (g0, g1, g2) (closeGraph j1 j2 j3) hsz) ?_
    rintro v h2 ⟨cs2, rfl, n2⟩
    obtain ⟨z0, z1, za, zn, zc, z2, rfl, ez, _, _, _⟩ := openGraph n2.r
    exact Exists.intro [.int .i64 z0, .int .i64 z1, .slice za zn zc] (And.intro rfl n2)
end Go.Proofs.Ytalidbmconldoaa
