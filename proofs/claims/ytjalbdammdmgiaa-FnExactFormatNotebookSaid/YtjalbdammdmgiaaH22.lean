/- Plain laws over the model: how contracts are used, and how the last of them becomes a statement's own. -/
import Derived.Test.YtjalbdammdmgiaaH21
import Derived.ProofKit
namespace Go.H
open Go.RowKit Go.ChangeShapes Go.WideShapes Go.ChangeAt
set_option linter.unusedVariables false

theorem Tr.val {P : Program} {f : FuncId} {args : Array Value} {h : Hp} {x : Value} {T : Value → Hp → Prop} (t : Tr P f args h fun v h' => v = x ∧ h' = h) (hx : T x h) : Tr P f args h T :=
  t.mono fun _ _ ⟨e1, e2⟩ => by rw [e1, e2]; exact hx

theorem Tr.calls {P : Program} {f : FuncId} {args : Array Value} {W : World} {x : Value} (t : Tr P f args (fun b => W.heap[b]?) fun v h' => v = x ∧ ∀ b o, W.heap[b]? = some o → h' b = some o) :
    Calls P f args W fun e W' => e = .returned x ∧ Below W.heap.size W W' ∧ ∀ a, W'.frozen? a = W.frozen? a := by
  refine (t.run W (fun b o h => h)).mono ?_
  rintro e W' ⟨v, h', rfl, ⟨rfl, hh⟩, m⟩
  refine ⟨rfl, ⟨m.os, m.tape, m.output, m.size, fun k hk => ?_⟩, m.fz⟩
  have : W.heap[k]? = some W.heap[k] := by simp [hk]
  rw [this]
  exact m.vis _ _ (hh k _ this)
theorem Tr.calls' {P : Program} {f : FuncId} {args : Array Value} {W : World} {x : Value} (t : ∀ h, Tr P f args h fun v h' => v = x ∧ h' = h) :
    Calls P f args W fun e W' => e = .returned x ∧ Below W.heap.size W W' ∧ ∀ a, W'.frozen? a = W.frozen? a :=
  Tr.calls ((t _).mono fun _ _ ⟨e1, e2⟩ => ⟨e1, fun b o hb => by rw [e2]; exact hb⟩)

theorem w64 {x : Int} (h1 : -9223372036854775808 ≤ x) (h2 : x ≤ 9223372036854775807) : IntKind.i64.wrap x = x := by
  simp [IntKind.wrap, IntKind.signed, IntKind.bits]
  omega
theorem sz64 {n : Nat} (h : n ≤ maxLen) : n ≤ 9223372036854775807 := by
  simp [maxLen] at h
  omega
def In64 (x : Int) : Prop := -9223372036854775808 ≤ x ∧ x ≤ 9223372036854775807
theorem wf64 {x : Int} (h : (Lit.int .i64 x).wf = true) : In64 x := by
  simpa [Lit.wf, IntKind.min, IntKind.max, IntKind.signed, IntKind.bits, In64] using h

section
variable {H : Type} {enc : TypeId × Value → H} {P : Program}
theorem trodAll_below (hl : laidOutB P = true) {W W' : World} (hb : Below W.heap.size W W') {sp : Nat → Bool} : ∀ {ts : List TypeId} {vs : List Value} {ds : List (DataW H)} {ps : List MemPlace},
    (∀ t ∈ ts, P.readableRec t = true ∧ t < P.types.size) → DataW.TrodAll enc P W 0 (fun _ => true) true ts vs ds ps → (∀ p ∈ ps, p.block < W.heap.size) → (∀ p ∈ ps, sp p.block = true) →
    DataW.TrodAll enc P W' 0 sp true ts vs ds ps
  | [], vs, ds, ps, _, h, _, _ => by
    obtain ⟨rfl, rfl, rfl⟩ := trodAll_nil h
    exact rfl
  | t :: ts, vs, ds, ps, ht, h, hlt, hs => by
    obtain ⟨v, vs', d, ds', p, q, rfl, rfl, rfl, h1, h2⟩ := trodAll_cons h
    obtain ⟨r1, r2⟩ := ht t (List.mem_cons_self ..)
    refine ⟨p, q, WideElems.Trod_stays hl r1 r2 h1 (fun x hx => hb.same (hlt x (List.mem_append_left _ hx))) (fun x hx => hs x (List.mem_append_left _ hx)), ?_, rfl⟩
    exact trodAll_below hl hb (fun t ht' => ht t (List.mem_cons_of_mem _ ht')) h2 (fun x hx => hlt x (List.mem_append_right _ hx)) (fun x hx => hs x (List.mem_append_right _ hx))

theorem law_post {f : Func} {s : ChangeSpec} {apart fresh handsOn again : Bool} {W W' : World} {args : Array Value} {ds gs : List (DataW H)} {before : List MemPlace} {tb : TypeId}
    (hl : laidOutB P = true) (ht : ∀ t ∈ f.params.toList, P.readableRec t = true ∧ t < P.types.size) (hv : s.vars = []) (hfn : s.fn H (ds ++ gs) = { results := [.lit (.bool true)], args := ds })
    (hr : f.resultTypes = #[tb]) (htb : P.underlying tb = some .bool) (hW : DataW.Whole enc P f.params.toList s.vars apart W args.toList ds gs before)
    (hB : Below W.heap.size W W') (hfz : ∀ a, W'.frozen? a = W.frozen? a) : s.post enc P f apart fresh handsOn again W args (.bool true) W' := by
  have hlt := fun p hp => hW.lt (p := p) hp
  have hW' := hW
  obtain ⟨p, q, hA, hV, rfl, _, _⟩ := hW
  rw [hv] at hV
  obtain ⟨rfl, rfl⟩ := trodVars_none hV
  refine post_of_same (pa := p) (pv := []) hW' (fun _ _ _ => ?_) (fun sp hsp => ?_) (fun sp hsp => ?_) rfl (hB.frame _) hfz (ok_one hr rfl (okWide_bool_mk htb _))
  · rw [hfn, hr]
    exact trodAll_mk1 (shut_bool htb _)
  · rw [hfn]
    exact trodAll_below hl hB ht hA (fun x hx => hlt x (List.mem_append_left _ hx)) (fun x hx => hsp x (List.mem_append_left _ hx))
  · rw [hfn, hv]
    exact rfl
end
end Go.H
