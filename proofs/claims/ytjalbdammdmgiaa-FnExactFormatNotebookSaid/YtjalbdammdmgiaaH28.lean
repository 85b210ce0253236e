/- Plain laws over the model: sizes of data, marks laid into data, and pairs of fresh data. -/
import Derived.Test.YtjalbdammdmgiaaH27
import Derived.Laws.Strings
namespace Go.H
set_option linter.unusedVariables false

/-- what is left of a bound -/
def szR (left s : Int) : Int := if s ≤ left then left - s else -1
theorem szR_szR {left a b : Int} (h : 0 ≤ szR left a) (ha : 0 ≤ a) (hb : 0 ≤ b) : szR (szR left a) b = szR left (a + b) := by
  unfold szR at *
  split at h
  · rename_i h1
    rw [if_pos h1]
    by_cases h2 : b ≤ left - a
    · rw [if_pos h2, if_pos (by omega)]; omega
    · rw [if_neg h2, if_neg (by omega)]
  · omega
theorem szR_neg {left a : Int} (h : szR left a < 0) (hl : 0 ≤ left) : left < a ∧ szR left a = -1 := by
  unfold szR at *
  split at h
  · omega
  · rename_i h1; exact ⟨by omega, if_neg h1⟩
theorem szR_le {left a : Int} (h : 0 ≤ szR left a) : a ≤ left ∧ szR left a = left - a := by
  unfold szR at *
  split at h
  · rename_i h1; exact ⟨h1, if_pos h1⟩
  · omega
theorem szR_more {left a b : Int} (h : szR left a < 0) (hl : 0 ≤ left) (hb : a ≤ b) : szR left b = -1 := by
  obtain ⟨h1, _⟩ := szR_neg h hl
  unfold szR
  rw [if_neg (by omega)]
theorem szR_lt {left a : Int} (h : left < a) : szR left a = -1 := by
  unfold szR
  rw [if_neg (by omega)]
theorem szR_ge {left a : Int} (h : a ≤ left) : szR left a = left - a := by
  unfold szR
  rw [if_pos h]

theorem wsucc {n : Nat} {m : Nat} (h : n < m) (hm : m ≤ 9223372036854775807) : IntKind.i64.wrap ((n : Int) + 1) = ((n + 1 : Nat) : Int) := by
  rw [w64 (by omega) (by omega)]; omega
theorem take_succ_getD {α : Type} (d : α) (l : List α) (k : Nat) (h : k < l.length) : l.take (k + 1) = l.take k ++ [l.getD k d] := by
  rw [List.take_add_one, getD_some d h]; rfl
theorem take_snoc {α : Type} {l : List α} {k : Nat} {x : α} (h : l[k]? = some x) : l.take (k + 1) = l.take k ++ [x] := by
  rw [List.take_add_one, h]; rfl
theorem has_get {α : Type} {l : List α} {k : Nat} (h : k < l.length) : ∃ x, l[k]? = some x := ⟨_, List.getElem?_eq_getElem h⟩

theorem castK {P : Int → Prop} {a b : Int} (h : P a) (e : a = b) : P b := e ▸ h
theorem not_dec {p : Prop} [Decidable p] (h : (!decide p) = true) : ¬ p := by simpa using h
theorem not_dec' {p : Prop} [Decidable p] (h : (!decide p) = false) : p := by simpa using h
theorem strEq {a b : ByteArray} (h : (!(a.toList == b.toList)) = false) : a = b := by
  have : a.toList = b.toList := by simpa using h
  rw [ByteArray.toList_eq, ByteArray.toList_eq] at this
  have h2 : a.data = b.data := Array.toList_inj.1 this
  cases a; cases b; simp only at h2; rw [h2]
theorem strNe {a b : ByteArray} (h : (!(a.toList == b.toList)) = true) : a ≠ b := fun e => by subst e; simp at h
/-- a measure, summed up -/
def sumM {α : Type} (m : α → Nat) : List α → Nat
  | [] => 0
  | x :: r => m x + sumM m r
theorem sumM_append {α : Type} (m : α → Nat) : ∀ a b, sumM m (a ++ b) = sumM m a + sumM m b
  | [], b => by simp [sumM]
  | x :: r, b => by simp only [List.cons_append, sumM, sumM_append m r b]; omega
theorem sumM_snoc {α : Type} {m : α → Nat} {l : List α} {k : Nat} {x : α} (h : l[k]? = some x) : sumM m (l.take (k + 1)) = sumM m (l.take k) + m x := by
  rw [take_snoc h, sumM_append]; simp [sumM]
theorem sumM_take {α : Type} (m : α → Nat) (l : List α) (k : Nat) : sumM m (l.take k) ≤ sumM m l := by
  have h1 := sumM_append m (l.take k) (l.drop k)
  rw [List.take_append_drop] at h1
  omega
theorem sumM_mem {α : Type} {m : α → Nat} : ∀ {l : List α} {x : α}, x ∈ l → m x ≤ sumM m l
  | y :: r, x, h => by
    simp only [sumM]
    rcases List.mem_cons.1 h with rfl | h
    · omega
    · have := sumM_mem (m := m) h; omega
theorem sumM_get {α : Type} {m : α → Nat} {l : List α} {k : Nat} {x : α} (h : l[k]? = some x) : m x ≤ sumM m l := sumM_mem (List.mem_of_getElem? h)
theorem sumM_one {α : Type} : ∀ l : List α, sumM (fun _ => 1) l = l.length
  | [] => rfl
  | x :: r => by simp only [sumM, sumM_one r, List.length_cons]; omega

/-- marks laid into a list, one element behind the other -/
def mkL {α : Type} (mk : α → Int → α) (c : α → Nat) : List α → Int → List α
  | [], _ => []
  | x :: r, k => mk x k :: mkL mk c r (k + c x)
theorem mkL_length {α : Type} (mk : α → Int → α) (c : α → Nat) : ∀ (l : List α) (k : Int), (mkL mk c l k).length = l.length
  | [], k => rfl
  | x :: r, k => by simp [mkL, mkL_length mk c r]
theorem mkL_append {α : Type} (mk : α → Int → α) (c : α → Nat) : ∀ (a b : List α) (k : Int), mkL mk c (a ++ b) k = mkL mk c a k ++ mkL mk c b (k + sumM c a)
  | [], b, k => by simp [mkL, sumM]
  | x :: r, b, k => by
    simp only [List.cons_append, mkL, mkL_append mk c r b, sumM]
    rw [show k + (c x : Int) + (sumM c r : Int) = k + ((c x + sumM c r : Nat) : Int) from by omega]
theorem mkL_get {α : Type} {mk : α → Int → α} {c : α → Nat} : ∀ {l : List α} {k : Int} {i : Nat} {x : α}, l[i]? = some x → (mkL mk c l k)[i]? = some (mk x (k + sumM c (l.take i)))
  | y :: r, k, 0, x, h => by
    simp at h
    subst h
    simp [mkL, sumM]
  | y :: r, k, i + 1, x, h => by
    simp only [List.getElem?_cons_succ] at h
    have := mkL_get (mk := mk) (c := c) (k := k + c y) h
    simp only [mkL, List.getElem?_cons_succ, List.take_succ_cons, sumM, this]
    rw [show k + (c y : Int) + (sumM c (r.take i) : Int) = k + ((c y + sumM c (r.take i) : Nat) : Int) from by omega]
/-- the first so many are marked -/
def mkTo {α : Type} (mk : α → Int → α) (c : α → Nat) (l : List α) (k : Int) (i : Nat) : List α := mkL mk c (l.take i) k ++ l.drop i
theorem mkTo_zero {α : Type} {mk : α → Int → α} {c : α → Nat} {l : List α} {k : Int} : mkTo mk c l k 0 = l := by simp [mkTo, mkL]
theorem mkTo_all {α : Type} {mk : α → Int → α} {c : α → Nat} {l : List α} {k : Int} : mkTo mk c l k l.length = mkL mk c l k := by simp [mkTo]
theorem mkTo_length {α : Type} {mk : α → Int → α} {c : α → Nat} {l : List α} {k : Int} {i : Nat} : (mkTo mk c l k i).length = l.length := by
  simp [mkTo, mkL_length]; omega
theorem mkTo_get {α : Type} {mk : α → Int → α} {c : α → Nat} {l : List α} {k : Int} {i : Nat} {x : α} (h : l[i]? = some x) : (mkTo mk c l k i)[i]? = some x := by
  obtain ⟨hi, hx⟩ := List.getElem?_eq_some_iff.1 h
  unfold mkTo
  rw [List.getElem?_append_right (by simp [mkL_length]; omega)]
  simp only [mkL_length, List.length_take, List.getElem?_drop]
  rw [show i + (i - min i l.length) = i from by omega]
  exact h
theorem mkTo_set {α : Type} {mk : α → Int → α} {c : α → Nat} {l : List α} {k : Int} {i : Nat} {x : α} (h : l[i]? = some x) : (mkTo mk c l k i).set i (mk x (k + sumM c (l.take i))) = mkTo mk c l k (i + 1) := by
  obtain ⟨hi, hx⟩ := List.getElem?_eq_some_iff.1 h
  unfold mkTo
  rw [take_snoc h, mkL_append, List.set_append_right (h := by simp [mkL_length]; omega)]
  simp only [mkL_length, List.length_take, mkL, List.append_assoc, List.cons_append, List.nil_append]
  rw [show i - min i l.length = 0 from by omega, List.drop_eq_getElem_cons hi, List.set_cons_zero]

/-! ### fresh data -/
theorem Fresh.nil (h : Hp) : Fresh h [] := ⟨List.nodup_nil, fun b hb => nomatch hb⟩
theorem New.pair {α β : Type} {r : Wp α} {q : Wp β} {h h1 h2 : Hp} {c1 c2 : List Value} {x : α} {y : β} (a : New r h h1 c1 x) (b : New q h1 h2 c2 y) : New (r.pair q) h h2 (c1 ++ c2) (x, y) := by
  obtain ⟨B1, w1, f1, s1⟩ := a
  obtain ⟨B2, w2, f2, s2⟩ := b
  refine ⟨B1 ++ B2, ⟨c1, c2, B1, B2, rfl, rfl, Wp.sub w1 s2, w2⟩, ⟨?_, fun z hz => ?_⟩, s1.trans s2⟩
  · rw [List.nodup_append]
    refine ⟨f1.1, f2.1, fun u hu v hv e => ?_⟩
    have := r.dom w1 u hu
    rw [e] at this
    exact this (f2.2 v hv)
  · rcases List.mem_append.1 hz with hz | hz
    · exact f1.2 z hz
    · have := f2.2 z hz
      cases ho : h z with
      | none => rfl
      | some o => rw [s1 z o ho] at this; cases this
theorem New.int {h : Hp} {x : Int} (hx : In64 x) : New Wp.int h h [.int .i64 x] x := ⟨[], ⟨⟨rfl, hx⟩, rfl⟩, Fresh.nil h, Sub.refl h⟩
theorem New.str {h : Hp} {x : ByteArray} (hx : x.size ≤ 9223372036854775807) : New Wp.str h h [.string x] x := ⟨[], ⟨⟨rfl, hx⟩, rfl⟩, Fresh.nil h, Sub.refl h⟩
theorem New.bool {h : Hp} {x : Bool} : New Wp.bool h h [.bool x] x := ⟨[], ⟨rfl, rfl⟩, Fresh.nil h, Sub.refl h⟩
theorem New.nilSlice {α : Type} {r : Wp α} {h : Hp} : New r.slice h h [.slice none 0 0] [] := ⟨[], ⟨_, [], [], [], rfl, ⟨by simp, .inl ⟨rfl, rfl, rfl⟩⟩, trivial, rfl⟩, Fresh.nil h, Sub.refl h⟩

theorem Wp.slice_cell {α : Type} {r : Rp α} {h : Hp} {cs : List Value} {xs : List α} (hx : r.slice.R h cs xs) : ∃ a n c, cs = [.slice a n c] := by
  obtain ⟨a, n, c, vs, rfl, _⟩ := hx
  exact ⟨a, n, c, rfl⟩

/-- a cell is written -/
theorem F3.get {α β γ : Type} {p : α → β → γ → Prop} : ∀ {as : List α} {bs : List β} {cs : List γ} {i : Nat} {b : β}, F3 p as bs cs → bs[i]? = some b → ∃ a c, as[i]? = some a ∧ cs[i]? = some c ∧ p a b c
  | a :: as, b :: bs, c :: cs, 0, b', h, hb => by cases hb; exact ⟨a, c, rfl, rfl, h.1⟩
  | a :: as, b :: bs, c :: cs, i + 1, b', h, hb => by
    obtain ⟨x, y, h1, h2, h3⟩ := F3.get (i := i) h.2 (by simpa using hb)
    exact ⟨x, y, by simpa using h1, by simpa using h2, h3⟩
  | [], [], [], i, b', h, hb => by simp at hb
  | [], [], _ :: _, _, _, h, _ => h.elim
  | [], _ :: _, _, _, _, h, _ => h.elim
  | _ :: _, [], _, _, _, h, _ => h.elim
  | _ :: _, _ :: _, [], _, _, h, _ => h.elim
theorem F3.lens {α β γ : Type} {p : α → β → γ → Prop} : ∀ {as : List α} {bs : List β} {cs : List γ}, F3 p as bs cs → as.length = bs.length ∧ cs.length = bs.length
  | [], [], [], _ => ⟨rfl, rfl⟩
  | _ :: as, _ :: bs, _ :: cs, h => by have := F3.lens h.2; simp [this]
  | [], [], _ :: _, h => h.elim
  | [], _ :: _, _, h => h.elim
  | _ :: _, [], _, h => h.elim
  | _ :: _, _ :: _, [], h => h.elim
/-- one row anew, the others as they were in blocks of their own -/
theorem F3.step {α β : Type} {p q : α → β → List Nat → Prop} : ∀ {as : List α} {bs : List β} {Bs : List (List Nat)} {i : Nat} {a : α} {b : β} {c : List Nat}, F3 p as bs Bs → Bs.flatten.Nodup → Bs[i]? = some c → q a b c →
    (∀ a b d, d ∈ Bs → (∀ y ∈ d, y ∉ c) → p a b d → q a b d) → F3 q (as.set i a) (bs.set i b) Bs
  | a0 :: as, b0 :: bs, c0 :: cs, 0, a, b, c, h, hn, hc, hq, hpq => by
    cases hc
    rw [List.flatten_cons, List.nodup_append] at hn
    exact ⟨hq, h.2.mono fun a' b' d hd hp => hpq a' b' d (List.mem_cons_of_mem _ hd) (fun y hy hy' => hn.2.2 y hy' y (List.mem_flatten.2 ⟨d, hd, hy⟩) rfl) hp⟩
  | a0 :: as, b0 :: bs, c0 :: cs, i + 1, a, b, c, h, hn, hc, hq, hpq => by
    rw [List.flatten_cons, List.nodup_append] at hn
    have hc' : cs[i]? = some c := by simpa using hc
    refine ⟨hpq _ _ _ (List.mem_cons_self ..) (fun y hy hy' => hn.2.2 y hy y (List.mem_flatten.2 ⟨c, List.mem_of_getElem? hc', hy'⟩) rfl) h.1, F3.step h.2 hn.2.1 hc' hq fun a b d hd => hpq a b d (List.mem_cons_of_mem _ hd)⟩
  | [], [], [], i, _, _, _, h, _, hc, _, _ => by simp at hc
  | [], [], _ :: _, _, _, _, _, h, _, _, _, _ => h.elim
  | [], _ :: _, _, _, _, _, _, h, _, _, _, _ => h.elim
  | _ :: _, [], _, _, _, _, _, h, _, _, _, _ => h.elim
  | _ :: _, _ :: _, [], _, _, _, _, h, _, _, _, _ => h.elim

theorem flat_set {sz : Nat} : ∀ (vs : List (List Value)) (i k : Nat) (x : List Value) (u : Value), (∀ y ∈ vs, y.length = sz) → vs[i]? = some x → k < sz → (vs.set i (x.set k u)).flatten = vs.flatten.set (i * sz + k) u
  | y :: r, 0, k, x, u, hall, hi, hk => by
    cases hi
    have hy := hall _ (List.mem_cons_self ..)
    rw [List.set_cons_zero, List.flatten_cons, List.flatten_cons, Nat.zero_mul, Nat.zero_add, List.set_append_left (h := by omega)]
  | y :: r, i + 1, k, x, u, hall, hi, hk => by
    have hy := hall y (List.mem_cons_self ..)
    have hi' : r[i]? = some x := by simpa using hi
    rw [List.set_cons_succ, List.flatten_cons, List.flatten_cons, flat_set r i k x u (fun z hz => hall z (List.mem_cons_of_mem _ hz)) hi' hk, List.set_append_right (h := by rw [hy, Nat.succ_mul]; omega), hy]
    congr 2
    rw [Nat.succ_mul]; omega
  | [], i, k, x, u, _, hi, _ => by simp at hi

/-- A ROW OF A SLICE OPEN TO WRITING -/
theorem Wp.at {α : Type} {r : Wp α} {h : Hp} {a : Option Addr} {n c : Nat} {xs : List α} {B : List Nat} (w : r.slice.W h [.slice a n c] xs B) (hB : B.Nodup) {i : Nat} {x : α} (hx : xs[i]? = some x) (h0 : 0 < r.sz) :
    InB (.slice a n c) i ∧ ∃ cs Bi b of cur ty, a = some ⟨b, of, none⟩ ∧ ElemAt h (.slice a n c) r.sz i cs ∧ r.W h cs x Bi ∧ h b = some (.cells cur ty (0, 0)) ∧ (∀ k, k < r.sz → of + (i * r.sz + k) < cur.size) ∧ b ∈ B ∧ b ∉ Bi ∧ (∀ y ∈ Bi, y ∈ B) ∧ Bi.Nodup ∧
      (∀ h' x', (∀ y, y ∉ Bi → h' y = h y) → r.W h' cs x' Bi → r.slice.W h' [.slice a n c] (xs.set i x') B) ∧
      (∀ k u x', k < r.sz → (∀ h', (∀ y ∈ Bi, h' y = h y) → r.W h' (cs.set k u) x' Bi) → r.slice.W (h.set b (.cells (cur.setIfInBounds (of + (i * r.sz + k)) u) ty (0, 0))) [.slice a n c] (xs.set i x') B) := by
  have hR : r.slice.R h [.slice a n c] xs := r.slice.toR w
  obtain ⟨hib, _⟩ := Sl.get (r := r.toRp) hR hx h0
  refine ⟨hib, ?_⟩
  obtain ⟨v, vs, B1, Bs, e1, ⟨hall, hrow⟩, h2, rfl⟩ := w
  cases e1
  obtain ⟨cs, Bi, g1, g2, g3⟩ := h2.get hx
  obtain ⟨hl1, hl2⟩ := h2.lens
  have hcs : cs.length = r.sz := r.len (r.toR g3)
  rcases hrow with ⟨e, rfl, _⟩ | ⟨b, of, cc, cur, ty, e, k1, k2, k3, rfl, k4⟩
  · simp at g1
  cases e
  rw [List.nodup_append] at hB
  obtain ⟨_, hBs, hdis⟩ := hB
  have hBi : ∀ y ∈ Bi, y ∈ Bs.flatten := fun y hy => List.mem_flatten.2 ⟨Bi, List.mem_of_getElem? g2, hy⟩
  have hbs : b ∉ Bs.flatten := fun hb => hdis b (List.mem_singleton.2 rfl) b hb rfl
  have hcell : ∀ j u, cs[j]? = some u → cur[of + (i * r.sz + j)]? = some u := fun j u hj => k4.1 _ _ (flat_get vs i cs (fun x hx => (hall x hx).1) g1 j u hj)
  have hin : ∀ k, k < r.sz → of + (i * r.sz + k) < cur.size := fun k hk => by
    have := hcell k cs[k] (List.getElem?_eq_getElem (by omega))
    exact (Array.getElem?_eq_some_iff.1 this).1
  have nodupBi : Bi.Nodup := by
    have : ∀ (l : List (List Nat)), l.flatten.Nodup → ∀ z ∈ l, z.Nodup := by
      intro l
      induction l with
      | nil => intro _ z hz; cases hz
      | cons y l ih =>
        intro hn z hz
        rw [List.flatten_cons, List.nodup_append] at hn
        rcases List.mem_cons.1 hz with rfl | hz
        · exact hn.1
        · exact ih hn.2.1 z hz
    exact this Bs hBs Bi (List.mem_of_getElem? g2)
  refine ⟨cs, Bi, b, of, cur, ty, rfl, ⟨hcs, by omega, b, of, _, _, rfl, fun j u hj => ?_⟩, g3, k3, hin, by simp, fun hb => hbs (hBi b hb), fun y hy => List.mem_append_right _ (hBi y hy), nodupBi, ?_, ?_⟩
  · have := hcell j u hj
    simpa [Hp.cell, k3, Nat.add_assoc] using this
  · intro h' x' hf hw
    have hb : h' b = h b := hf b fun hb => hbs (hBi b hb)
    refine ⟨_, vs, [b], Bs, rfl, ⟨hall, .inr ⟨b, of, _, cur, ty, rfl, k1, k2, by rw [hb]; exact k3, rfl, k4⟩⟩, ?_, rfl⟩
    have := F3.step (q := r.W h') h2 hBs g2 hw fun a' b' d _ hd hp => r.frame hp fun y hy => hf y (hd y hy)
    rwa [show vs.set i cs = vs from by obtain ⟨hi, e⟩ := List.getElem?_eq_some_iff.1 g1; rw [← e]; exact List.set_getElem_self hi] at this
  · intro k u x' hk hw
    have hset : ∀ y ∈ Bs.flatten, (h.set b (.cells (cur.setIfInBounds (of + (i * r.sz + k)) u) ty (0, 0))) y = h y := fun y hy => Hp.set_other h _ fun e => hbs (by rw [← e]; exact hy)
    have hwr := hw (h.set b (.cells (cur.setIfInBounds (of + (i * r.sz + k)) u) ty (0, 0))) fun y hy => hset y (hBi y hy)
    refine ⟨_, vs.set i (cs.set k u), [b], Bs, rfl, ⟨fun z hz => ?_, .inr ⟨b, of, _, _, ty, by simp, by simpa using k1, k2, Hp.set_same _ _ _, rfl, fun j z hj => ?_, by simpa using k4.2⟩⟩, ?_, rfl⟩
    · rcases List.mem_or_eq_of_mem_set hz with hz | rfl
      · exact hall z hz
      · exact ⟨r.len (r.toR hwr), r.one (r.toR hwr)⟩
    · rw [flat_set vs i k cs u (fun x hx => (hall x hx).1) g1 hk] at hj
      rw [Array.getElem?_setIfInBounds]
      rw [List.getElem?_set] at hj
      by_cases ej : i * r.sz + k = j
      · subst ej
        rw [if_pos rfl] at hj
        rw [if_pos rfl, if_pos (hin k hk)]
        split at hj
        · exact hj
        · cases hj
      · rw [if_neg ej] at hj
        rw [if_neg (by omega)]
        exact k4.1 j z hj
    · exact F3.step (q := r.W _) h2 hBs g2 hwr fun a' b' d hm hd hp => r.frame hp fun y hy => hset y (List.mem_flatten.2 ⟨d, hm, hy⟩)
/-- what was there before stays behind marks laid into fresh data -/
theorem subMark {h hp hc hm : Hp} {B : List Nat} (s1 : Sub h hp) (f : ∀ b ∈ B, hp b = none) (s2 : Sub h hc) (fr : ∀ y, y ∉ B → hm y = hc y) : Sub h hm := fun b o e => by
  rw [fr b fun hb => by have := f b hb; rw [s1 b o e] at this; cases this]
  exact s2 b o e
theorem keepMark {α : Type} {r : Wp α} {hp hc hm : Hp} {cs : List Value} {x : α} {Bg B : List Nat} (w : r.W hc cs x Bg) (fg : ∀ b ∈ Bg, hp b = none) (dom : ∀ b ∈ B, hp b ≠ none) (fr : ∀ y, y ∉ B → hm y = hc y) : r.W hm cs x Bg :=
  r.frame w fun b hb => fr b fun hB => dom b hB (fg b hb)
theorem sumM_le {α : Type} {c m : α → Nat} (h : ∀ x, c x ≤ 16 + 16 * m x) : ∀ l : List α, sumM c l ≤ 16 * (l.length + sumM m l)
  | [] => by simp [sumM]
  | x :: r => by
    have h1 := h x
    have h2 := sumM_le h r
    simp only [sumM, List.length_cons]
    omega
theorem sumM_le0 {α : Type} {c : α → Nat} (h : ∀ x, c x ≤ 16) : ∀ l : List α, sumM c l ≤ 16 * l.length
  | [] => by simp [sumM]
  | x :: r => by
    have h1 := h x
    have h2 := sumM_le0 h r
    simp only [sumM, List.length_cons]
    omega
end Go.H
