/- Plain laws: names and libraries, by either road. -/
import Derived.Test.YthccjgkmmclplaaGreatP14
namespace Go.Proofs.YthccjgkmmclplaaGreat
open Go.H
set_option linter.unusedVariables false
set_option linter.unusedSimpArgs false

/-! ### names -/
theorem sgi_nat {s : ByteArray} {k : Nat} (h : k < s.size) : ∃ c, sgi s (k : Int) = some c := by
  unfold sgi
  rw [if_pos (by omega), Int.toNat_natCast]
  exact ⟨_, getElem?_pos s k h⟩
def chB (s : ByteArray) (k : Nat) : Nat := match sgi s (k : Int) with
  | some c => c.toNat
  | none => 0
def badC (c k : Nat) : Bool := !(decide (97 ≤ c) && decide (c ≤ 122)) && (decide (k = 0) || !(decide (48 ≤ c) && decide (c ≤ 57)))
def okN (s : ByteArray) : Nat → Nat → Bool
  | 0, k => true
  | d + 1, k => bif badC (chB s k) k then false else okN s d (k + 1)
def F_IsName (s : ByteArray) : Bool := inR 1 8 ((s.size : Nat) : Int) && okN s s.size 0
theorem L_sName (s : ByteArray) (hl : s.size ≤ 9223372036854775807) : ∀ (d k fuel : Nat), k + d = s.size → d < fuel →
    L_spec_IsName_0 s fuel (k : Int) = some (bif okN s d k then .inr () else .inl false)
  | d, k, 0, hd, hf => by omega
  | 0, k, fuel + 1, hd, hf => by
    rw [L_spec_IsName_0_succ, if_neg (by simp; omega)]; rfl
  | d + 1, k, fuel + 1, hd, hf => by
    have hk : k < s.size := by omega
    obtain ⟨c, hc⟩ := sgi_nat hk
    have ih := L_sName s hl d (k + 1) fuel (by omega) (by omega)
    have hb : chB s k = c.toNat := by unfold chB; rw [hc]
    rw [L_spec_IsName_0_succ, if_pos (by simp; omega), hc]
    simp only [Option.bind_some, okN, hb, badC, wsucc hk hl, ih]
    have nd : ∀ (p q : Prop) [Decidable p] [Decidable q], (p ↔ ¬ q) → decide p = !decide q := fun p q _ _ h => by
      by_cases c : q
      · rw [decide_eq_true c, decide_eq_false (fun hp => h.1 hp c)]; rfl
      · rw [decide_eq_false c, decide_eq_true (h.2 c)]; rfl
    have t1 : decide (((c.toNat : Nat) : Int) < 97) = !decide (97 ≤ c.toNat) := nd _ _ (by omega)
    have t2 : decide (((c.toNat : Nat) : Int) > 122) = !decide (c.toNat ≤ 122) := nd _ _ (by omega)
    have t3 : decide (((c.toNat : Nat) : Int) < 48) = !decide (48 ≤ c.toNat) := nd _ _ (by omega)
    have t4 : decide (((c.toNat : Nat) : Int) > 57) = !decide (c.toNat ≤ 57) := nd _ _ (by omega)
    have t5 : decide ((k : Int) = 0) = decide (k = 0) := by congr 1; simp
    have fin : ∀ (b : Bool) (x y : Option (Bool ⊕ Unit)), (if b = true then x else y) = bif b then x else y := fun b x y => by cases b <;> rfl
    have hz : decide (((0 : UInt8).toNat : Int) > 122) = false := rfl
    rw [t1, t5]
    cases h1 : decide (97 ≤ c.toNat) <;> cases h2 : decide (c.toNat ≤ 122) <;> cases h3 : decide (48 ≤ c.toNat) <;> cases h4 : decide (c.toNat ≤ 57) <;>
      simp only [chk_true, chk_false, Option.bind_some, t2, t3, t4, h2, h3, h4, cond_true, cond_false, Bool.not_true, Bool.not_false, Bool.false_and, Bool.true_and, Bool.and_true, Bool.and_false, Bool.and_self, Bool.true_or, Bool.false_or, Bool.or_true, Bool.or_false, fin] <;>
      cases decide (k = 0) <;> cases okN s d (k + 1) <;> rfl
theorem L_iName (s : ByteArray) (hl : s.size ≤ 9223372036854775807) : ∀ (d k fuel : Nat), k + d = s.size → d < fuel →
    L_impl_IsName_0 s fuel (k : Int) = some (bif okN s d k then .inr () else .inl false)
  | d, k, 0, hd, hf => by omega
  | 0, k, fuel + 1, hd, hf => by
    rw [L_impl_IsName_0_succ, if_neg (by simp; omega)]; rfl
  | d + 1, k, fuel + 1, hd, hf => by
    have hk : k < s.size := by omega
    obtain ⟨c, hc⟩ := sgi_nat hk
    have ih := L_iName s hl d (k + 1) fuel (by omega) (by omega)
    have hb : chB s k = c.toNat := by unfold chB; rw [hc]
    rw [L_impl_IsName_0_succ, if_pos (by simp; omega), hc]
    simp only [Option.bind_some, okN, hb, badC, wsucc hk hl, ih]
    have t1 : decide (((c.toNat : Nat) : Int) ≥ 97) = decide (97 ≤ c.toNat) := by congr 1; simp; omega
    have t2 : decide (((c.toNat : Nat) : Int) ≤ 122) = decide (c.toNat ≤ 122) := by congr 1; simp; omega
    have t3 : decide (((c.toNat : Nat) : Int) ≥ 48) = decide (48 ≤ c.toNat) := by congr 1; simp; omega
    have t4 : decide (((c.toNat : Nat) : Int) ≤ 57) = decide (c.toNat ≤ 57) := by congr 1; simp; omega
    have t5 : decide ((k : Int) = 0) = decide (k = 0) := by congr 1; simp
    rw [t1, t3, t5]
    have fin : ∀ (b : Bool) (x y : Option (Bool ⊕ Unit)), (if b = true then x else y) = bif b then x else y := fun b x y => by cases b <;> rfl
    cases h1 : decide (97 ≤ c.toNat) <;> cases h3 : decide (48 ≤ c.toNat) <;> cases h5 : decide (k = 0) <;>
      simp only [chk_true, chk_false, Option.bind_some, t2, t4, cond_true, cond_false, Bool.not_true, Bool.not_false, Bool.false_and, Bool.true_and, Bool.true_or, Bool.false_or, Bool.and_true, fin] <;>
      cases decide (c.toNat ≤ 122) <;> cases decide (c.toNat ≤ 57) <;> cases okN s d (k + 1) <;> rfl
theorem m_specIsName (s : ByteArray) (hl : s.size ≤ 9223372036854775807) : M_spec_IsName s = some (F_IsName s) := by
  unfold M_spec_IsName F_IsName
  have h := L_sName s hl s.size 0 FUEL (by omega) (by unfold FUEL; omega)
  rw [show ((0 : Nat) : Int) = 0 from rfl] at h
  rw [h, Option.bind_some]
  cases okN s s.size 0
  · simp [outK]
  · simp [outK, m_l1In]
theorem m_implIsName (s : ByteArray) (hl : s.size ≤ 9223372036854775807) : M_impl_IsName s = some (F_IsName s) := by
  unfold M_impl_IsName F_IsName
  have h := L_iName s hl s.size 0 FUEL (by omega) (by unfold FUEL; omega)
  rw [show ((0 : Nat) : Int) = 0 from rfl] at h
  rw [m_within, Option.bind_some]
  cases inR 1 8 ((s.size : Nat) : Int)
  · rfl
  · rw [if_neg (by simp), h, Option.bind_some]
    cases okN s s.size 0 <;> simp [outK]

/-! ### libraries -/
def badL (r : Int) (l : LEntryS) (k : Nat) : Bool := match l[k]? with
  | some e => bif F_IsName e.1 then (bif F_IsCore e.2 then (bif decide (e.2.1 = r) then (bif decide (0 < k) then (match l[k - 1]? with
    | some e' => !sltB e'.1 e.1
    | none => false) else false) else true) else true) else true
  | none => false
def okL (r : Int) (l : LEntryS) : Nat → Nat → Bool
  | 0, k => true
  | d + 1, k => bif badL r l k then false else okL r l d (k + 1)
def F_IsLibrary (x : LLibrary) : Bool := inR 1 3 x.1 && (decide (x.2.length ≤ 16) && okL x.1 x.2 x.2.length 0)
def entsOk (l : LEntryS) : Prop := l.length ≤ 140737488355328 ∧ ∀ e ∈ l, e.1.size ≤ 140737488355328 ∧ e.2.2.2.length ≤ 140737488355328
theorem badL_eq {r : Int} {l : LEntryS} {k : Nat} {e : LEntry} (he : l[k]? = some e) : badL r l k = bif F_IsName e.1 then (bif F_IsCore e.2 then (bif decide (e.2.1 = r) then (bif decide (0 < k) then (match l[k - 1]? with
    | some e' => !sltB e'.1 e.1
    | none => false) else false) else true) else true) else true := by unfold badL; rw [he]
theorem L_iLib (r : Int) (l : LEntryS) (hl : entsOk l) : ∀ (d k fuel : Nat), k + d = l.length → d < fuel →
    L_impl_IsLibrary_0 l r fuel (k : Int) = some (bif okL r l d k then .inr () else .inl false)
  | d, k, 0, hd, hf => by omega
  | 0, k, fuel + 1, hd, hf => by
    rw [L_impl_IsLibrary_0_succ, if_neg (by simp; omega)]; rfl
  | d + 1, k, fuel + 1, hd, hf => by
    have hk : k < l.length := by omega
    have he := getk hk
    have hin := hl.2 _ (List.mem_of_getElem? he)
    have hlen := hl.1
    generalize l[k] = e at he hin
    obtain ⟨nm, r2, n, es⟩ := e
    simp only at hin
    have ih := L_iLib r l hl d (k + 1) fuel (by omega) (by omega)
    rw [L_impl_IsLibrary_0_succ, if_pos (by simp; omega)]
    simp only [gi_at he, Option.bind_some, m_implIsName nm (by omega), wsucc hk (show l.length ≤ 9223372036854775807 by omega), ih, okL, badL_eq he]
    have hC := m_implIsCore (r2, n, es) hin.2
    have fin : ∀ (b : Bool) (x y : Option (Bool ⊕ Unit)), (if b = true then x else y) = bif b then x else y := fun b x y => by cases b <;> rfl
    have fo : ∀ b : Bool, (b || true) = true := fun b => by cases b <;> rfl
    cases hN : F_IsName nm
    · simp only [Bool.not_false, Bool.not_true, Bool.and_false, chk_false, Option.bind_some, cond_true, cond_false, if_true]
    · by_cases hk0 : k = 0
      · subst hk0
        have e0 : decide (((0 : Nat) : Int) > 0) = false := rfl
        have e0' : decide (0 < 0) = false := rfl
        simp only [e0, e0', Bool.not_true, Bool.not_false, Bool.false_and, chk_false, Option.bind_some, cond_true, cond_false, fin]
        cases hR : decide (r2 = r)
        · simp only [Bool.not_false, chk_false, Bool.not_true, Option.bind_some, cond_true, cond_false]
          cases F_IsCore (r2, n, es) <;> rfl
        · simp only [Bool.not_true, Bool.not_false, chk_true, hC, Option.bind_some, cond_true, cond_false]
          cases F_IsCore (r2, n, es) <;> cases okL r l d (0 + 1) <;> rfl
      · have hk1 : k - 1 < l.length := by omega
        have he1 := getk hk1
        generalize l[k - 1] = e' at he1
        obtain ⟨nm', r', n', es'⟩ := e'
        have e0 : decide ((k : Int) > 0) = true := decide_eq_true (by omega)
        have e0' : decide (0 < k) = true := decide_eq_true (by omega)
        simp only [e0, e0', Bool.not_true, Bool.not_false, Bool.true_and, chk_true, wpred (show 0 < k by omega) (show k ≤ 9223372036854775807 by omega), gi_at he1, he1, Option.bind_some, cond_true, cond_false, fin]
        cases hS : sltB nm' nm
        · simp only [Bool.not_false, chk_false, Bool.not_true, Option.bind_some, cond_true, cond_false]
          cases F_IsCore (r2, n, es) <;> cases decide (r2 = r) <;> rfl
        · cases hR : decide (r2 = r)
          · simp only [Bool.not_false, chk_false, Bool.not_true, Option.bind_some, cond_true, cond_false]
            cases F_IsCore (r2, n, es) <;> rfl
          · simp only [Bool.not_true, Bool.not_false, chk_true, hC, Option.bind_some, cond_true, cond_false]
            cases F_IsCore (r2, n, es) <;> cases okL r l d (k + 1) <;> rfl
theorem L_sLib (r : Int) (l : LEntryS) (hl : entsOk l) : ∀ (d k fuel : Nat), k + d = l.length → d < fuel →
    L_spec_IsLibrary_0 l r fuel (k : Int) = some (bif okL r l d k then .inr () else .inl false)
  | d, k, 0, hd, hf => by omega
  | 0, k, fuel + 1, hd, hf => by
    rw [L_spec_IsLibrary_0_succ, if_neg (by simp; omega)]; rfl
  | d + 1, k, fuel + 1, hd, hf => by
    have hk : k < l.length := by omega
    have he := getk hk
    have hin := hl.2 _ (List.mem_of_getElem? he)
    have hlen := hl.1
    generalize l[k] = e at he hin
    obtain ⟨nm, r2, n, es⟩ := e
    simp only at hin
    have ih := L_sLib r l hl d (k + 1) fuel (by omega) (by omega)
    have hC : M_spec_IsSubgroup (r2, n, es) = some (F_IsCore (r2, n, es)) := by
      unfold M_spec_IsSubgroup
      simp only [m_specIsCore (r2, n, es) hin.2, Option.bind_some]
    rw [L_spec_IsLibrary_0_succ, if_pos (by simp; omega)]
    simp only [gi_at he, Option.bind_some, m_specIsName nm (by omega), wsucc hk (show l.length ≤ 9223372036854775807 by omega), ih, okL, badL_eq he]
    have fin : ∀ (b : Bool) (x y : Option (Bool ⊕ Unit)), (if b = true then x else y) = bif b then x else y := fun b x y => by cases b <;> rfl
    cases hN : F_IsName nm
    · simp only [Bool.not_false, Bool.not_true, Bool.and_false, chk_false, Option.bind_some, cond_true, cond_false, if_true]
    · simp only [Bool.not_true, Bool.not_false, chk_true, hC, Option.bind_some, cond_false, cond_true]
      cases hQ : F_IsCore (r2, n, es)
      · simp only [Bool.not_false, Bool.not_true, Bool.and_false, chk_false, Option.bind_some, cond_true, cond_false, if_true]
      · cases hR : decide (r2 = r)
        · simp only [Bool.not_false, Bool.not_true, Bool.and_false, chk_false, Option.bind_some, cond_true, cond_false, if_true]
        · by_cases hk0 : k = 0
          · subst hk0
            have e0 : decide (((0 : Nat) : Int) > 0) = false := rfl
            have e0' : decide (0 < 0) = false := rfl
            simp only [e0, e0', Bool.not_true, Bool.not_false, Bool.false_and, chk_false, Option.bind_some, cond_true, cond_false, fin]
            try (cases okL r l d (0 + 1) <;> rfl)
          · have hk1 : k - 1 < l.length := by omega
            have he1 := getk hk1
            generalize l[k - 1] = e' at he1
            obtain ⟨nm', r', n', es'⟩ := e'
            have e0 : decide ((k : Int) > 0) = true := decide_eq_true (by omega)
            have e0' : decide (0 < k) = true := decide_eq_true (by omega)
            simp only [e0, e0', Bool.not_true, Bool.not_false, Bool.and_true, Bool.true_and, chk_true, wpred (show 0 < k by omega) (show k ≤ 9223372036854775807 by omega), gi_at he1, he1, Option.bind_some, cond_true, cond_false, fin]
            cases sltB nm' nm <;> cases okL r l d (k + 1) <;> rfl
theorem m_implIsLibrary (x : LLibrary) (hl : entsOk x.2) : M_impl_IsLibrary x = some (F_IsLibrary x) := by
  obtain ⟨r, l⟩ := x
  have h := L_iLib r l hl l.length 0 FUEL (by omega) (FUEL_big hl.1)
  rw [show ((0 : Nat) : Int) = 0 from rfl] at h
  unfold M_impl_IsLibrary F_IsLibrary
  simp only [m_within, Option.bind_some]
  have t1 : decide (((l.length : Nat) : Int) > 16) = !decide (l.length ≤ 16) := by
    by_cases c : l.length ≤ 16
    · rw [decide_eq_true c, decide_eq_false (by omega)]; rfl
    · rw [decide_eq_false c, decide_eq_true (by omega)]; rfl
  rw [t1]
  cases inR 1 3 r
  · rfl
  · cases decide (l.length ≤ 16)
    · rfl
    · simp only [Bool.not_true, cond_false, Bool.false_eq_true, if_false, h, Option.bind_some, Bool.true_and]
      cases okL r l l.length 0 <;> rfl
theorem m_specIsLibrary (x : LLibrary) (hl : entsOk x.2) : M_spec_IsLibrary x = some (F_IsLibrary x) := by
  obtain ⟨r, l⟩ := x
  have h := L_sLib r l hl l.length 0 FUEL (by omega) (FUEL_big hl.1)
  rw [show ((0 : Nat) : Int) = 0 from rfl] at h
  unfold M_spec_IsLibrary F_IsLibrary
  simp only [m_l1In, h, Option.bind_some]
  have t1 : decide (((l.length : Nat) : Int) ≤ 16) = decide (l.length ≤ 16) := by
    by_cases c : l.length ≤ 16
    · rw [decide_eq_true c, decide_eq_true (by omega)]
    · rw [decide_eq_false c, decide_eq_false (by omega)]
  rw [t1]
  cases okL r l l.length 0
  · cases inR 1 3 r <;> cases decide (l.length ≤ 16) <;> rfl
  · cases inR 1 3 r <;> cases decide (l.length ≤ 16) <;> rfl
end Go.Proofs.YthccjgkmmclplaaGreat
