/- Plain laws over the model: words for what a function computes, and how each of its steps reads the memory. -/
import Derived.Test.YtjalbdammdmgiaaH30
namespace Go.H
set_option linter.unusedVariables false

/-! ### words -/
def gi {α : Type} (xs : List α) (i : Int) : Option α := if 0 ≤ i then xs[i.toNat]? else none
def sgi (s : ByteArray) (i : Int) : Option UInt8 := if 0 ≤ i then s[i.toNat]? else none
def chk {α : Type} (c : Bool) (o : Option α) (d : α) : Option α := match c with
  | true => o
  | false => some d
def grd (p : Prop) [Decidable p] : Option Unit := if p then some () else none
def asr {α : Type} (p : Prop) [Decidable p] (x : α) : Option α := if p then some x else none
def cutL {α : Type} (xs : List α) (l m : Int) : Option (List α) := if 0 ≤ l ∧ l ≤ m ∧ m ≤ (xs.length : Int) then some ((xs.take m.toNat).drop l.toNat) else none
def outK {R S : Type} (x : R ⊕ S) (k : S → Option R) : Option R := match x with
  | .inl r => some r
  | .inr s => k s
def outL {R S T : Type} (x : R ⊕ S) (k : S → Option (R ⊕ T)) : Option (R ⊕ T) := match x with
  | .inl r => some (.inl r)
  | .inr s => k s
def FUEL : Nat := 9223372036854775808
def fuelOf : List Value → Nat
  | .int _ n :: _ => n.toNat
  | _ => 0
def seqB (a b : ByteArray) : Bool := a.toList == b.toList

theorem outK_inl {R S : Type} (r : R) (k : S → Option R) : outK (.inl r) k = some r := rfl
theorem outK_inr {R S : Type} (s : S) (k : S → Option R) : outK (.inr s) k = k s := rfl
theorem outL_inl {R S T : Type} (r : R) (k : S → Option (R ⊕ T)) : outL (.inl r) k = some (.inl r) := rfl
theorem outL_inr {R S T : Type} (s : S) (k : S → Option (R ⊕ T)) : outL (.inr s) k = k s := rfl
theorem bsome {α β : Type} {o : Option α} {k : α → Option β} {r : β} (h : o.bind k = some r) : ∃ x, o = some x ∧ k x = some r := Option.bind_eq_some_iff.1 h
theorem grd_some {p : Prop} [Decidable p] {u : Unit} (h : grd p = some u) : p := by
  unfold grd at h
  split at h
  · assumption
  · cases h
theorem asr_some {α : Type} {p : Prop} [Decidable p] {x y : α} (h : asr p x = some y) : p ∧ x = y := by
  unfold asr at h
  split at h
  · exact ⟨by assumption, Option.some.inj h⟩
  · cases h
theorem chk_some {α : Type} {c : Bool} {o : Option α} {d x : α} (h : chk c o d = some x) (hc : c = true) : o = some x := by rw [hc] at h; exact h
theorem bneT {b : Bool} (h : b = false) : ¬ b = true := by rw [h]; exact Bool.false_ne_true
theorem gi_some {α : Type} {xs : List α} {i : Int} {x : α} (h : gi xs i = some x) : 0 ≤ i ∧ xs[i.toNat]? = some x := by
  unfold gi at h
  split at h
  · exact ⟨by assumption, h⟩
  · cases h
theorem gi_nat {α : Type} (xs : List α) (n : Nat) : gi xs (n : Int) = xs[n]? := by simp [gi]
theorem sgi_some {s : ByteArray} {i : Int} {x : UInt8} (h : sgi s i = some x) : 0 ≤ i ∧ s[i.toNat]? = some x := by
  unfold sgi at h
  split at h
  · exact ⟨by assumption, h⟩
  · cases h
theorem cutL_some {α : Type} {xs ys : List α} {l m : Int} (h : cutL xs l m = some ys) : (0 ≤ l ∧ l ≤ m ∧ m ≤ (xs.length : Int)) ∧ ys = (xs.take m.toNat).drop l.toNat := by
  unfold cutL at h
  split at h
  · exact ⟨by assumption, (Option.some.inj h).symm⟩
  · cases h
theorem seqB_true {a b : ByteArray} : seqB a b = true ↔ a = b := by
  constructor
  · intro h
    have : a.toList = b.toList := by simpa [seqB] using h
    rw [ByteArray.toList_eq, ByteArray.toList_eq] at this
    have h2 : a.data = b.data := Array.toList_inj.1 this
    cases a; cases b; simp only at h2; rw [h2]
  · intro h; subst h; simp [seqB]
theorem seqB_dec (a b : ByteArray) : seqB a b = decide (a = b) := by
  by_cases h : a = b
  · rw [decide_eq_true h]; exact seqB_true.2 h
  · rw [decide_eq_false h]
    cases hs : seqB a b with
    | false => rfl
    | true => exact absurd (seqB_true.1 hs) h
theorem wrap64 (x : Int) : In64 (IntKind.i64.wrap x) := by
  simp only [In64, IntKind.wrap, IntKind.signed, IntKind.bits]
  simp
  omega
theorem len64 {n : Nat} (h : n ≤ 9223372036854775807) : In64 (n : Int) := ⟨by omega, by omega⟩
theorem c64 {x : Int} (h1 : -9223372036854775808 ≤ x) (h2 : x ≤ 9223372036854775807) : In64 x := ⟨h1, h2⟩
theorem tmod64 {x y : Int} (h : In64 x) : In64 (x.tmod y) := by
  have h1 := h.1
  have h2 := h.2
  have h3 : (x.tmod y).natAbs ≤ x.natAbs := by rw [Int.natAbs_tmod]; exact Nat.mod_le _ _
  by_cases h0 : 0 ≤ x
  · have := Int.tmod_nonneg y h0
    exact ⟨by omega, by omega⟩
  · have h4 : 0 ≤ (-x).tmod y := Int.tmod_nonneg y (by omega)
    rw [Int.neg_tmod] at h4
    exact ⟨by omega, by omega⟩
theorem cat_size {a b : ByteArray} (h : a.size + b.size ≤ 9223372036854775807) : (a ++ b).size ≤ 9223372036854775807 := by rw [ByteArray.size_append]; exact h
theorem ext_size {s : ByteArray} {i j : Nat} (h : s.size ≤ 9223372036854775807) : (s.extract i j).size ≤ 9223372036854775807 := by rw [ByteArray.size_extract]; omega

instance (x : Int) : Decidable (In64 x) := inferInstanceAs (Decidable (_ ∧ _))
theorem ite64 {p : Prop} [Decidable p] {x y : Int} (hx : In64 x) (hy : In64 y) : In64 (if p then x else y) := by split <;> assumption
theorem fdiv64 {x : Int} {n : Nat} (h : In64 x) : In64 (x.fdiv (2 ^ n)) := by
  have h1 := h.1
  have h2 := h.2
  have hp : (0 : Int) < 2 ^ n := Int.pow_pos (by decide)
  rw [Int.fdiv_eq_ediv_of_nonneg _ (by omega)]
  generalize (2 : Int) ^ n = y at hp ⊢
  refine ⟨?_, ?_⟩
  · rw [Int.le_ediv_iff_mul_le (by omega)]
    omega
  · by_cases h0 : 0 ≤ x
    · exact Int.le_trans (Int.ediv_le_self _ h0) h2
    · have := Int.ediv_neg_of_neg_of_pos (a := x) (b := y) (by omega) (by omega)
      omega
theorem u8_64 (c : UInt8) : In64 ((c.toNat : Nat) : Int) := by
  have := c.toNat_lt
  exact ⟨by omega, by omega⟩

/-! ### elements -/
theorem Sl.getI {α : Type} {r : Rp α} {h : Hp} {v : Value} {xs : List α} (e : Sl r h v xs) {i : Int} {x : α} (hx : gi xs i = some x) (hsz : 0 < r.sz) : InB v i ∧ ∃ cs, ElemAt h v r.sz i cs ∧ r.R h cs x := by
  obtain ⟨h0, hx⟩ := gi_some hx
  obtain ⟨n, rfl⟩ := Int.eq_ofNat_of_zero_le h0
  exact Sl.get e (by simpa using hx) hsz
theorem Sl.getG {α : Type} {r : Rp α} {h : Hp} {v : Value} {xs : List α} (e : Sl r h v xs) {c : Bool} {i : Int} {d x : α} (hx : chk c (gi xs i) d = some x) (hsz : 0 < r.sz) (hd : ∃ cs, r.R h cs d) :
    ∃ cs, (c = true → InB v i ∧ ElemAt h v r.sz i cs) ∧ r.R h cs x := by
  cases c with
  | true =>
    obtain ⟨h1, cs, h2, h3⟩ := Sl.getI e (chk_some hx rfl) hsz
    exact ⟨cs, fun _ => ⟨h1, h2⟩, h3⟩
  | false =>
    obtain ⟨cs, hd⟩ := hd
    cases hx
    exact ⟨cs, (fun h => nomatch h), hd⟩
theorem ElemAt.up {h h' : Hp} (s : Sub h h') {v : Value} {sz : Nat} {i : Int} {cs : List Value} (e : ElemAt h v sz i cs) : ElemAt h' v sz i cs := by
  obtain ⟨h1, h2, b, o, n, cp, h3, h4⟩ := e
  exact ⟨h1, h2, b, o, n, cp, h3, fun j v hj => s.cell (h4 j v hj)⟩
theorem tail0 {n : Nat} {fr : List (Nat × AV)} {bx : List BSt} {ow : List Own} : tailOw ⟨n, fr, bx, ow⟩ ⟨n, fr, bx, ow⟩ := ⟨rfl, rfl, rfl, [], (List.append_nil _).symm⟩
theorem Sl.rows {α : Type} {r : Rp α} {h : Hp} {a : Option Addr} {n c : Nat} {xs : List α} (e : Sl r h (.slice a n c) xs) : ∃ vs, SlE h r.sz (.slice a n c) vs ∧ F2 (r.R h) vs xs := by
  obtain ⟨a1, n1, c1, vs, e1, rfl, e3, e4, e5⟩ := e
  cases e1
  exact ⟨vs, e4, e5⟩
theorem Sl.cutI {α : Type} {r : Rp α} {h : Hp} {a : Option Addr} {n c : Nat} {xs ys : List α} (e : Sl r h (.slice a n c) xs) {l m : Int} (hc : cutL xs l m = some ys) :
    (0 ≤ l ∧ l ≤ m ∧ m ≤ (n : Int)) ∧ ∃ vs, SlE h r.sz (.slice a n c) vs ∧ ∀ v, SlE h r.sz v ((vs.take m.toNat).drop l.toNat) → ∃ a' c', v = .slice a' ys.length c' ∧ Sl r h (.slice a' ys.length c') ys := by
  obtain ⟨⟨h1, h2, h3⟩, rfl⟩ := cutL_some hc
  obtain ⟨rfl, _⟩ := Sl.len e
  obtain ⟨vs, g1, g2⟩ := Sl.cut e
  refine ⟨⟨h1, h2, h3⟩, vs, g1, fun v hv => ?_⟩
  obtain ⟨a', n', c', rfl, g3⟩ := g2 v l.toNat m.toNat (by omega) hv
  obtain ⟨e2, _⟩ := Sl.len g3
  subst e2
  exact ⟨a', c', rfl, g3⟩
theorem F2.up {α : Type} {r : Rp α} {h h' : Hp} (s : Sub h h') {vs : List (List Value)} {xs : List α} (f : F2 (r.R h) vs xs) : F2 (r.R h') vs xs := f.mono fun _ _ q => r.mono s q
/-- the call's own slice, handed on -/
theorem Froze.out {α : Type} {r : Rp α} {h h' : Hp} {v : Value} {e : Nat} {nn : Bool} {vs : List (List Value)} {xs : List α} (f : Froze h h' v e r.sz nn vs) (hr : F2 (r.R h) vs xs) :
    ∃ a c, v = .slice a xs.length c ∧ Sl r h' (.slice a xs.length c) xs ∧ Sub h h' ∧ xs.length ≤ 9223372036854775807 := by
  have h1 := Froze.sl f hr
  obtain ⟨a, c, rfl, hc⟩ := h1.slice
  exact ⟨a, c, rfl, h1, f.sub, hc⟩
theorem F2.rep {α β : Type} {p : α → β → Prop} {a : α} {b : β} (h : p a b) : ∀ n : Nat, F2 p (List.replicate n a) (List.replicate n b)
  | 0 => trivial
  | n + 1 => ⟨h, F2.rep h n⟩
def Rp.u8 : Rp Int := ⟨1, fun _ cs x => cs = [.int .u8 x], fun h => by rw [h]; rfl, fun h v hv => by rw [h] at hv; simp at hv; rw [hv]; rfl, fun _ h => h⟩
theorem F2.u8 {h : Hp} : ∀ {vs : List (List Value)} {xs : List Int}, F2 (Rp.u8.R h) vs xs → vs = xs.map fun n => [.int .u8 n]
  | [], [], _ => rfl
  | v :: vs, x :: xs, f => by rw [show v = [.int .u8 x] from f.1, F2.u8 f.2]; rfl
  | [], _ :: _, f => f.elim
  | _ :: _, [], f => f.elim
theorem room_of {n m by_ : Nat} {u : Unit} (g : grd (n * by_ ≤ 140737488355328) = some u) (e : m = n) : roomB m by_ := by
  subst e
  exact show m * by_ ≤ 140737488355328 from grd_some g
theorem oel_get {α : Type} {p : List Value → α → Prop} {vs : List (List Value)} {xs : List α} (f : F2 p vs xs) {i : Int} {x : α} (hx : gi xs i = some x) : (0 ≤ i ∧ i < (vs.length : Int)) ∧ ∃ cs, vs[i.toNat]? = some cs ∧ p cs x := by
  obtain ⟨h0, hx⟩ := gi_some hx
  obtain ⟨cs, g1, g2⟩ := f.get hx
  have := (List.getElem?_eq_some_iff.1 g1).1
  exact ⟨⟨h0, by omega⟩, cs, g1, g2⟩
theorem oel_getG {α : Type} {p : List Value → α → Prop} {vs : List (List Value)} {xs : List α} (f : F2 p vs xs) {c : Bool} {i : Int} {d x : α} (hx : chk c (gi xs i) d = some x) (hd : ∃ cs, p cs d) :
    ∃ cs, (c = true → (0 ≤ i ∧ i < (vs.length : Int)) ∧ vs[i.toNat]? = some cs) ∧ p cs x := by
  cases c with
  | true =>
    obtain ⟨h1, cs, h2, h3⟩ := oel_get f (chk_some hx rfl)
    exact ⟨cs, fun _ => ⟨h1, h2⟩, h3⟩
  | false =>
    obtain ⟨cs, hd⟩ := hd
    cases hx
    exact ⟨cs, (fun h => nomatch h), hd⟩
theorem F2.f3 {α : Type} {r : Wp α} {h h' : Hp} (hp : ∀ cs x, r.R h cs x → r.W h' cs x []) : ∀ {vs : List (List Value)} {xs : List α}, F2 (r.R h) vs xs → F3 (r.W h') vs xs (xs.map fun _ => [])
  | [], [], _ => trivial
  | _ :: _, _ :: _, f => ⟨hp _ _ f.1, F2.f3 hp f.2⟩
  | [], _ :: _, f => f.elim
  | _ :: _, [], f => f.elim
/-- the call's own slice of plain data, handed on -/
theorem Froze.newPlain {α : Type} {r : Wp α} {h h' : Hp} {v : Value} {e : Nat} {nn : Bool} {vs : List (List Value)} {xs : List α} (f : Froze h h' v e r.sz nn vs) (hr : F2 (r.R h) vs xs) (hp : ∀ cs x, r.R h cs x → r.W h cs x []) : New r.slice h h' [v] xs :=
  Froze.fresh (r := r) (h0 := h) f (F2.f3 hp hr) (Sub.refl _) (by rw [nil_flat]; exact Fresh.nil _)
theorem plInt (h : Hp) (cs : List Value) (x : Int) (q : Wp.int.R h cs x) : Wp.int.W h cs x [] := ⟨q, rfl⟩
theorem plBool (h : Hp) (cs : List Value) (x : Bool) (q : Wp.bool.R h cs x) : Wp.bool.W h cs x [] := ⟨q, rfl⟩
theorem plStr (h : Hp) (cs : List Value) (x : ByteArray) (q : Wp.str.R h cs x) : Wp.str.W h cs x [] := ⟨q, rfl⟩
theorem dfInt (h : Hp) : ∃ cs, Wp.int.R h cs 0 := ⟨_, rfl, by decide, by decide⟩
theorem dfBool (h : Hp) : ∃ cs, Wp.bool.R h cs false := ⟨_, rfl⟩
theorem dfStr (h : Hp) : ∃ cs, Wp.str.R h cs ⟨#[]⟩ := ⟨_, rfl, by decide⟩
theorem nilR {α : Type} (r : Wp α) (h : Hp) : r.slice.R h [.slice none 0 0] [] := New.nilSlice.r
theorem dfSl {α : Type} (r : Wp α) (h : Hp) : ∃ cs, r.slice.R h cs [] := ⟨_, nilR r h⟩
end Go.H
