/- Plain laws over the model: the head of a loop: what is written and what stays. -/
import Derived.Test.YtjalbdammdmgiaaH17
namespace Go.H
set_option linter.unusedVariables false
set_option linter.unusedSimpArgs false

theorem memN_iff (x : Nat) : ∀ l : List Nat, memN x l = true ↔ x ∈ l
  | [] => by simp [memN]
  | y :: r => by
    simp only [memN]
    cases h : Nat.beq x y with
    | true => simp [Nat.eq_of_beq_eq_true h]
    | false => simp [memN_iff x r, Nat.ne_of_beq_eq_false h]
theorem memN_false {x : Nat} {l : List Nat} (h : memN x l = false) : x ∉ l := fun hm => by rw [(memN_iff x l).2 hm] at h; cases h

theorem forceN_eq : ∀ (l : List Nat) (K : List Nat → Prop), forceN l K = K l
  | [], K => rfl
  | x :: r, K => by simp only [forceN, forceN_eq r]
theorem forallV_elim : ∀ (n : Nat) {K : List Value → Prop}, forallV n K → ∀ vs : List Value, vs.length = n → K vs
  | 0, K, h, vs, hl => by rw [List.length_eq_zero_iff.1 hl]; exact h
  | n + 1, K, h, [], hl => by cases hl
  | n + 1, K, h, v :: vs, hl => forallV_elim n (h v) vs (by simpa using hl)
theorem forallO_elim : ∀ (n : Nat) {K : List (List (List Value)) → Prop}, forallO n K → ∀ os : List (List (List Value)), os.length = n → K os
  | 0, K, h, vs, hl => by rw [List.length_eq_zero_iff.1 hl]; exact h
  | n + 1, K, h, [], hl => by cases hl
  | n + 1, K, h, v :: vs, hl => forallO_elim n (h v) vs (by simpa using hl)
theorem splitV_app {α : Type} : ∀ (a b : List α) (K : List α → List α → Prop), splitV a.length (a ++ b) K = K a b
  | [], b, K => rfl
  | x :: a, b, K => by simp only [List.length_cons, List.cons_append, splitV, splitV_app a b]
theorem splitV_elim {α : Type} : ∀ (n : Nat) (l : List α) (K : List α → List α → Prop), splitV n l K → ∃ a b, l = a ++ b ∧ a.length = n ∧ K a b
  | 0, l, K, h => ⟨[], l, rfl, rfl, h⟩
  | n + 1, x :: l, K, h => by
    obtain ⟨a, b, h1, h2, h3⟩ := splitV_elim n l _ h
    exact ⟨x :: a, b, by rw [h1]; rfl, by simp [h2], h3⟩
  | n + 1, [], K, h => h.elim

theorem getV_spec (e : St) : ∀ (l : List Nat) {K : List Value → Prop}, getV l e K → ∃ vs, vs.length = l.length ∧ K vs ∧
    ∀ acc t, (look (zipV l vs acc) t = look acc t ∧ t ∉ l) ∨ (∃ v, look (zipV l vs acc) t = .val v ∧ rdA e (look e.fr t) = .val v)
  | [], K, h => ⟨[], rfl, h, fun acc t => .inl ⟨rfl, by simp⟩⟩
  | s :: r, K, h => by
    simp only [getV] at h
    split at h
    · rename_i v hv
      obtain ⟨vs, h1, h2, h3⟩ := getV_spec e r h
      refine ⟨v :: vs, by simp [h1], h2, fun acc t => ?_⟩
      rcases h3 ((s, .val v) :: acc) t with ⟨h4, h5⟩ | h4
      · by_cases e' : s = t
        · subst e'
          exact .inr ⟨v, by simp only [zipV, h4, look_cons, if_true], hv⟩
        · exact .inl ⟨by simp only [zipV, h4, look_cons, if_neg e'], by simp [h5, Ne.symm e']⟩
      · exact .inr h4
    · exact h.elim
theorem look_zip : ∀ (l : List Nat) (vs : List Value) (acc : List (Nat × AV)) (t : Nat), t ∉ l → look (zipV l vs acc) t = look acc t
  | [], vs, acc, t, _ => by cases vs <;> rfl
  | s :: r, [], acc, t, _ => rfl
  | s :: r, v :: vs, acc, t, h => by
    simp only [List.mem_cons, not_or] at h
    simp only [zipV]
    rw [look_zip r vs _ t h.2, look_cons, if_neg (Ne.symm h.1)]

/-! ### cells -/
def AllOwn (B : Nat → Nat → Prop) : List Cell → Prop
  | [] => True
  | .val _ :: r => AllOwn B r
  | .own i k :: r => B i k ∧ AllOwn B r
def ShC (e : St) : List Cell → List Cell → Prop
  | [], [] => True
  | .val _ :: r, .val _ :: r' => ShC e r r'
  | .own i _ :: r, .own j k' :: r' => i = j ∧ (∃ b, rdA e (.own j k') = .own j b) ∧ ShC e r r'
  | _, _ => False
def EqC (e : St) : List Cell → List Cell → Prop
  | [], [] => True
  | .val v :: r, .val v' :: r' => v = v' ∧ EqC e r r'
  | .own i _ :: r, .own j k' :: r' => i = j ∧ (∃ b, rdA e (.own j k') = .own j b) ∧ EqC e r r'
  | _, _ => False
theorem EqC.sh {e : St} : ∀ {cs cs' : List Cell}, EqC e cs cs' → ShC e cs cs'
  | [], [], _ => trivial
  | .val _ :: r, .val _ :: r', h => EqC.sh (cs := r) (cs' := r') h.2
  | .own i _ :: r, .own j k' :: r', h => ⟨h.1, h.2.1, EqC.sh (cs := r) (cs' := r') h.2.2⟩
  | [], _ :: _, h => h.elim
  | .val _ :: _, [], h => h.elim
  | .own _ _ :: _, [], h => h.elim
  | .val _ :: _, .own _ _ :: _, h => h.elim
  | .own _ _ :: _, .val _ :: _, h => h.elim

theorem rdA_own_same {e : St} {i k a b : Nat} (h : rdA e (.own i k) = .own a b) : a = i ∧ b = k := by
  simp only [rdA] at h
  split at h
  · split at h
    · split at h
      · cases h; exact ⟨rfl, rfl⟩
      · cases h
    · cases h
  · cases h

theorem sameCells_sh {hd e : St} : ∀ (cs cs' : List Cell), sameCells hd e cs cs' = true → ShC e cs cs'
  | [], [], _ => trivial
  | .val _ :: r, .val _ :: r', h => sameCells_sh r r' h
  | .own i _ :: r, .own j k' :: r', h => by
    simp only [sameCells] at h
    split at h
    · rename_i a b hb hr
      obtain ⟨rfl, _⟩ := rdA_own_same hr
      exact ⟨Nat.eq_of_beq_eq_true hb, ⟨_, hr⟩, sameCells_sh r r' h⟩
    · cases h
  | [], _ :: _, h => by cases h
  | .val _ :: _, [], h => by cases h
  | .own _ _ :: _, [], h => by cases h
  | .val _ :: _, .own _ _ :: _, h => by cases h
  | .own _ _ :: _, .val _ :: _, h => by cases h

theorem cell_turn (e : St) : ∀ (cs cs' : List Cell), ShC e cs cs' → ∀ {K : List Value → Prop}, cellV cs' e K → ∃ vs, K vs ∧ ∃ cs2, (∀ (rest : List Value) (K2 : List Cell → List Value → Prop), cellSet cs (vs ++ rest) K2 = K2 cs2 rest) ∧ EqC e cs2 cs' ∧
    (∀ B, AllOwn B cs → AllOwn B cs2)
  | [], [], _, K, h => ⟨[], h, [], fun _ _ => rfl, trivial, fun _ h => h⟩
  | .val _ :: r, .val v :: r', hs, K, h => by
    obtain ⟨vs, h1, cs2, h2, h3, h4⟩ := cell_turn e r r' hs (K := fun vs => K (v :: vs)) h
    exact ⟨v :: vs, h1, .val v :: cs2, fun rest K2 => by simp only [List.cons_append, cellSet, h2], ⟨rfl, h3⟩, fun B hB => h4 B hB⟩
  | .own i k :: r, .own j k' :: r', hs, K, h => by
    obtain ⟨vs, h1, cs2, h2, h3, h4⟩ := cell_turn e r r' hs.2.2 (K := K) h
    exact ⟨vs, h1, .own i k :: cs2, fun rest K2 => by simp only [cellSet, h2], ⟨hs.1, hs.2.1, h3⟩, fun B hB => ⟨hB.1, h4 B hB.2⟩⟩
  | [], _ :: _, h, _, _ => h.elim
  | .val _ :: _, [], h, _, _ => h.elim
  | .own _ _ :: _, [], h, _, _ => h.elim
  | .val _ :: _, .own _ _ :: _, h, _, _ => h.elim
  | .own _ _ :: _, .val _ :: _, h, _, _ => h.elim

theorem cell_self (e : St) : ∀ (cs : List Cell) {K : List Value → Prop}, cellV cs e K → ∃ vs, K vs ∧ ∀ (rest : List Value) (K2 : List Cell → List Value → Prop), cellSet cs (vs ++ rest) K2 = K2 cs rest
  | [], K, h => ⟨[], h, fun _ _ => rfl⟩
  | .val v :: r, K, h => by
    obtain ⟨vs, h1, h2⟩ := cell_self e r (K := fun vs => K (v :: vs)) h
    exact ⟨v :: vs, h1, fun rest K2 => by simp only [List.cons_append, cellSet, h2]⟩
  | .own i k :: r, K, h => by
    obtain ⟨vs, h1, h2⟩ := cell_self e r (K := K) h
    exact ⟨vs, h1, fun rest K2 => by simp only [cellSet, h2]⟩

theorem updN_same {α : Type} (l : List α) (i : Nat) (x : α) (h : nth l i = some x) : updN l i x = l := by
  rw [nth_eq] at h
  obtain ⟨hi, hx⟩ := List.getElem?_eq_some_iff.1 h
  rw [updN_eq, ← hx]
  exact List.set_getElem_self hi

theorem bx_self (e : St) : ∀ (is : List Nat) {K : List Value → Prop}, getBx is e K → ∃ ws, K ws ∧ ∀ K2, setBx is ws e.bx K2 = K2 e.bx
  | [], K, h => ⟨[], h, fun _ => rfl⟩
  | i :: r, K, h => by
    simp only [getBx] at h
    split at h
    · rename_i cs ty hn
      obtain ⟨vs, h1, h2⟩ := cell_self e cs h
      obtain ⟨ws, h3, h4⟩ := bx_self e r h1
      refine ⟨vs ++ ws, h3, fun K2 => ?_⟩
      simp only [setBx, hn, h2, updN_same _ _ _ hn, h4]
    · exact h.elim
theorem ow_self (e : St) : ∀ (is : List Nat) {K : List (List (List Value)) → Prop}, getOw is e K → ∃ os, os.length = is.length ∧ K os ∧ ∀ K2, setOw is os e.ow K2 = K2 e.ow
  | [], K, h => ⟨[], rfl, h, fun _ => rfl⟩
  | i :: r, K, h => by
    simp only [getOw] at h
    split at h
    · rename_i s ty sz by_ nn xs hn
      obtain ⟨ws, h2, h3, h4⟩ := ow_self e r h
      refine ⟨xs :: ws, by simp [h2], h3, fun K2 => ?_⟩
      simp only [setOw, hn, updN_same _ _ _ hn, h4]
    · exact h.elim

theorem bx_turn (e : St) : ∀ (is : List Nat) (bx : List BSt), (∀ i ∈ is, ∃ cs ty cs', nth bx i = some (.live cs ty) ∧ nth e.bx i = some (.live cs' ty) ∧ ShC e cs cs') → ∀ {K : List Value → Prop}, getBx is e K →
    ∃ ws, K ws ∧ ∃ bx2, (∀ K2, setBx is ws bx K2 = K2 bx2) ∧ bx2.length = bx.length ∧ (∀ i, i ∉ is → nth bx2 i = nth bx i) ∧
      (∀ i ∈ is, ∃ cs2 ty cs', nth bx2 i = some (.live cs2 ty) ∧ nth e.bx i = some (.live cs' ty) ∧ EqC e cs2 cs') ∧
      (∀ B, (∀ i cs ty, nth bx i = some (.live cs ty) → AllOwn B cs) → (∀ i cs ty, nth bx2 i = some (.live cs ty) → AllOwn B cs))
  | [], bx, _, K, h => ⟨[], h, bx, fun _ => rfl, rfl, fun _ _ => rfl, by simp, fun _ h => h⟩
  | i :: r, bx, hs, K, h => by
    obtain ⟨cs, ty, cs', h1, h2, h3⟩ := hs i (List.mem_cons_self ..)
    simp only [getBx, h2] at h
    obtain ⟨vs, k1, cs2, k2, k3, k4⟩ := cell_turn e cs cs' h3 h
    have hlt := nth_lt h1
    have hs1 : ∀ j ∈ r, ∃ cs1 ty1 cs1', nth (updN bx i (.live cs2 ty)) j = some (.live cs1 ty1) ∧ nth e.bx j = some (.live cs1' ty1) ∧ ShC e cs1 cs1' := fun j hj => by
      rw [nth_updN _ _ _ hlt]
      by_cases ej : j = i
      · subst ej
        rw [if_pos rfl]
        exact ⟨cs2, ty, cs', rfl, h2, k3.sh⟩
      · rw [if_neg ej]
        exact hs j (List.mem_cons_of_mem _ hj)
    obtain ⟨ws, m1, bx2, m2, m3, m4, m5, m6⟩ := bx_turn e r _ hs1 k1
    refine ⟨vs ++ ws, m1, bx2, fun K2 => by simp only [setBx, h1, k2, m2], by rw [m3, length_updN], fun j hj => ?_, fun j hj => ?_, fun B hB => m6 B fun j cs3 ty3 hj => ?_⟩
    · simp only [List.mem_cons, not_or] at hj
      rw [m4 j hj.2, nth_updN _ _ _ hlt, if_neg hj.1]
    · by_cases hr : j ∈ r
      · exact m5 j hr
      · rcases List.mem_cons.1 hj with rfl | hj
        · refine ⟨cs2, ty, cs', ?_, h2, k3⟩
          rw [m4 j hr, nth_updN _ _ _ hlt, if_pos rfl]
        · exact absurd hj hr
    · rw [nth_updN _ _ _ hlt] at hj
      split at hj
      · cases hj
        exact k4 B (hB i cs ty h1)
      · exact hB j cs3 ty3 hj

theorem ow_turn (en : St) : ∀ (is : List Nat) (ow : List Own), (∀ i ∈ is, ∃ s e sz by_ nn xs0 s' nn' xs, nth ow i = some ⟨s, .live e sz by_ nn xs0⟩ ∧ nth en.ow i = some ⟨s', .live e sz by_ nn' xs⟩ ∧ (nn = true → nn' = true)) →
    ∀ {K : List (List (List Value)) → Prop}, getOw is en K → ∃ os, os.length = is.length ∧ K os ∧ ∃ ow2, (∀ K2, setOw is os ow K2 = K2 ow2) ∧ (∀ i, i ∉ is → nth ow2 i = nth ow i) ∧
      (∀ i ∈ is, ∃ s e sz by_ nn s' nn' xs, nth ow2 i = some ⟨s, .live e sz by_ nn xs⟩ ∧ nth en.ow i = some ⟨s', .live e sz by_ nn' xs⟩ ∧ (nn = true → nn' = true)) ∧
      (∀ i, (nth ow2 i).map (·.stamp) = (nth ow i).map (·.stamp))
  | [], ow, _, K, h => ⟨[], rfl, h, ow, fun _ => rfl, fun _ _ => rfl, by simp, fun _ => rfl⟩
  | i :: r, ow, hs, K, h => by
    obtain ⟨s, e, sz, by_, nn, xs0, s', nn', xs, h1, h2, h3⟩ := hs i (List.mem_cons_self ..)
    simp only [getOw, h2] at h
    have hlt := nth_lt h1
    have hs1 : ∀ j ∈ r, ∃ s0 e0 sz0 by0 nn0 xs0 s' nn' xs', nth (updN ow i ⟨s, .live e sz by_ nn xs⟩) j = some ⟨s0, .live e0 sz0 by0 nn0 xs0⟩ ∧ nth en.ow j = some ⟨s', .live e0 sz0 by0 nn' xs'⟩ ∧ (nn0 = true → nn' = true) := fun j hj => by
      rw [nth_updN _ _ _ hlt]
      by_cases ej : j = i
      · subst ej
        rw [if_pos rfl]
        exact ⟨s, e, sz, by_, nn, xs, s', nn', xs, rfl, h2, h3⟩
      · rw [if_neg ej]
        exact hs j (List.mem_cons_of_mem _ hj)
    obtain ⟨os, m0, m1, ow2, m2, m4, m5, m6⟩ := ow_turn en r _ hs1 h
    refine ⟨xs :: os, by simp [m0], m1, ow2, fun K2 => by simp only [setOw, h1, m2], fun j hj => ?_, fun j hj => ?_, fun j => ?_⟩
    · simp only [List.mem_cons, not_or] at hj
      rw [m4 j hj.2, nth_updN _ _ _ hlt, if_neg hj.1]
    · by_cases hr : j ∈ r
      · exact m5 j hr
      · rcases List.mem_cons.1 hj with rfl | hj
        · refine ⟨s, e, sz, by_, nn, s', nn', xs, ?_, h2, h3⟩
          rw [m4 j hr, nth_updN _ _ _ hlt, if_pos rfl]
        · exact absurd hj hr
    · rw [m6 j, nth_updN _ _ _ hlt]
      split
      · rename_i e'; subst e'; rw [h1]; rfl
      · rfl

theorem sameBx_spec {A : Ann} {hd e : St} : ∀ (i : Nat) (bx bx' : List BSt), sameBx A hd e i bx bx' → ∀ k b, nth bx k = some b →
    (i + k ∈ A.boxes ∧ ∃ cs ty cs', b = .live cs ty ∧ nth bx' k = some (.live cs' ty) ∧ ShC e cs cs') ∨ (i + k ∉ A.boxes ∧ nth bx' k = some b ∧ clearB A.owns b = true)
  | i, [], _, _, k, b, hk => by cases k <;> cases hk
  | i, x :: r, [], h, _, _, _ => by cases h
  | i, x :: r, y :: r', h, k, b, hk => by
    simp only [sameBx] at h
    split at h
    · rename_i hm
      split at h
      · rename_i cs ty cs' ty'
        split at h
        · rename_i hb hc
          have := Nat.eq_of_beq_eq_true hb
          subst this
          cases k with
          | zero => cases hk; exact .inl ⟨(memN_iff _ _).1 hm, cs, ty, cs', rfl, rfl, sameCells_sh _ _ hc⟩
          | succ k => have := sameBx_spec (i + 1) r r' h k b hk; rwa [show i + 1 + k = i + (k + 1) from by omega] at this
        · exact h.elim
      · exact h.elim
    · rename_i hm
      split at h
      · rename_i hcl
        obtain ⟨rfl, h⟩ := h
        cases k with
        | zero => cases hk; exact .inr ⟨memN_false hm, rfl, hcl⟩
        | succ k => have := sameBx_spec (i + 1) r r' h k b hk; rwa [show i + 1 + k = i + (k + 1) from by omega] at this
      · exact h.elim

theorem sameOw_spec {A : Ann} : ∀ (i : Nat) (ow ow' : List Own), sameOw A i ow ow' → ∀ k b, nth ow k = some b →
    (i + k ∈ A.owns ∧ ∃ s e sz by_ nn xs0 s' nn' xs, b = ⟨s, .live e sz by_ nn xs0⟩ ∧ nth ow' k = some ⟨s', .live e sz by_ nn' xs⟩ ∧ (nn = true → nn' = true) ∧ (i + k ∈ A.kept → s = s')) ∨ (i + k ∉ A.owns ∧ nth ow' k = some b)
  | i, [], _, _, k, b, hk => by cases k <;> cases hk
  | i, x :: r, [], h, _, _, _ => by cases h
  | i, x :: r, y :: r', h, k, b, hk => by
    simp only [sameOw] at h
    split at h
    · rename_i hm
      split at h
      · rename_i s e sz by_ nn xs0 s' e' sz' by' nn' xs
        split at h
        · rename_i hb1 hb2 hb3 hb4 hb5
          have := Nat.eq_of_beq_eq_true hb1
          subst this
          have := Nat.eq_of_beq_eq_true hb2
          subst this
          have := Nat.eq_of_beq_eq_true hb3
          subst this
          cases k with
          | zero => cases hk; exact .inl ⟨(memN_iff _ _).1 hm, _, _, _, _, _, _, _, _, _, rfl, rfl, (fun h => by subst h; exact hb4), fun h => by rw [show memN i A.kept = true from (memN_iff _ _).2 h] at hb5; exact Nat.eq_of_beq_eq_true hb5⟩
          | succ k => have := sameOw_spec (i + 1) r r' h k b hk; rwa [show i + 1 + k = i + (k + 1) from by omega] at this
        · exact h.elim
      · exact h.elim
    · rename_i hm
      obtain ⟨rfl, h⟩ := h
      cases k with
      | zero => cases hk; exact .inr ⟨memN_false hm, rfl⟩
      | succ k => have := sameOw_spec (i + 1) r r' h k b hk; rwa [show i + 1 + k = i + (k + 1) from by omega] at this
end Go.H
