/- Plain laws: words and presentations in letters. -/
import Derived.Test.YtjalbdammdmgiaaP2
namespace Go.Proofs.Ytjalbdammdmgiaa
open Go.H
set_option linter.unusedVariables false
set_option linter.unusedSimpArgs false
set_option maxRecDepth 10000

abbrev B (l : List UInt8) : ByteArray := ⟨l.toArray⟩
theorem seqB_nil (l : List UInt8) : seqB (B l) ⟨#[]⟩ = l.isEmpty := by
  rw [seqB_dec]
  cases l with
  | nil => rfl
  | cons x r =>
    rw [decide_eq_false (fun e => by have := congrArg ByteArray.size e; simp [B, ByteArray.size] at this)]
    rfl
def isLet (x : Int) : Bool := !(x == 0) && inR (-3) 3 x
def chL (x : Int) : UInt8 := if x < 0 then UInt8.ofNat (64 + x.natAbs) else UInt8.ofNat (96 + x.natAbs)
theorem isLet_cases {x : Int} (hx : isLet x = true) : x = -3 ∨ x = -2 ∨ x = -1 ∨ x = 1 ∨ x = 2 ∨ x = 3 := by
  simp only [isLet, inR, Bool.and_eq_true, Bool.not_eq_true', beq_eq_false_iff_ne, decide_eq_true_eq] at hx
  omega
theorem m_l2Letter (x : Int) : M_spec_l2Letter x = some (isLet x) := by
  unfold M_spec_l2Letter isLet
  rw [m_l1In]
  by_cases h : x = 0 <;> simp [h, chk]
theorem m_l2Char (x : Int) (hx : isLet x = true) : M_spec_l2Char x = some (B [chL x]) := by
  rcases isLet_cases hx with rfl | rfl | rfl | rfl | rfl | rfl <;> rfl
theorem m_letterText (x : Int) : M_impl_letterText x = some (bif isLet x then B [chL x] else B []) := by
  cases hx : isLet x with
  | true => rcases isLet_cases hx with rfl | rfl | rfl | rfl | rfl | rfl <;> rfl
  | false =>
    unfold M_impl_letterText
    rw [m_within, m_within]
    have h1 : inR 1 3 x = false := by
      simp only [isLet, inR, Bool.and_eq_false_iff, Bool.not_eq_false', beq_iff_eq, decide_eq_false_iff_not] at hx ⊢
      omega
    have h2 : inR (-3) (-1) x = false := by
      simp only [isLet, inR, Bool.and_eq_false_iff, Bool.not_eq_false', beq_iff_eq, decide_eq_false_iff_not] at hx ⊢
      omega
    rw [h1, h2]
    rfl
def allLet : List Int → Bool
  | [] => true
  | x :: r => isLet x && allLet r
def wl (w : List Int) : List UInt8 := match w with
  | [] => [49]
  | x :: r => (x :: r).map chL
def F_word (w : List Int) : ByteArray := bif allLet w then B (wl w) else B []
theorem wl_ne (w : List Int) : (wl w).isEmpty = false := by cases w <;> rfl
theorem wl_len (w : List Int) : (wl w).length ≤ w.length + 1 := by cases w <;> simp [wl]
theorem F_word_size (w : List Int) : (F_word w).size ≤ w.length + 1 := by
  unfold F_word
  cases allLet w with
  | false => show 0 ≤ _; omega
  | true => rw [cond_true, bsize]; exact wl_len w
theorem F_word_nil (w : List Int) : seqB (F_word w) ⟨#[]⟩ = !allLet w := by
  unfold F_word
  cases allLet w with
  | false => rw [cond_false, seqB_nil]; rfl
  | true => rw [cond_true, seqB_nil, wl_ne]; rfl

theorem L_spec_FormatWord_eq (w : List Int) (hl : w.length ≤ 140737488355328) : ∀ (d k fuel : Nat) (acc : List UInt8), k + d = w.length → d < fuel → acc.length + d ≤ 140737488355328 →
    L_spec_FormatWord_0 w fuel (B acc) (k : Int) = some (bif allLet (w.drop k) then .inr (B (acc ++ (w.drop k).map chL)) else .inl (B []))
  | d, k, 0, acc, hk, hf, ha => by omega
  | 0, k, fuel + 1, acc, hk, hf, ha => by
    rw [L_spec_FormatWord_0_succ, if_neg (by simp; omega), drop_done (by omega)]
    simp [allLet]
  | d + 1, k, fuel + 1, acc, hk, hf, ha => by
    have hkl : k < w.length := by omega
    have hx := getk hkl
    generalize w[k] = x at hx
    have next := L_spec_FormatWord_eq w hl d (k + 1) fuel (acc ++ [chL x]) (by omega) (by omega) (by simp only [List.length_append, List.length_singleton]; omega)
    rw [drop_get hx, L_spec_FormatWord_0_succ, if_pos (by simp; omega), gi_at hx, Option.bind_some, m_l2Letter, Option.bind_some]
    simp only [allLet]
    cases hlx : isLet x with
    | false => rfl
    | true =>
      rw [if_neg (by simp), Option.bind_some, m_l2Char x hlx, Option.bind_some, grd_true (by rw [bsize]; simp), Option.bind_some, grd_true (by rw [bsize, bsize]; simp only [List.length_singleton]; omega), Option.bind_some,
        bcat, wsucc hkl (by omega : w.length ≤ 9223372036854775807), next]
      simp
theorem m_specFormatWord (w : List Int) (hl : w.length ≤ 140737488355) : M_spec_FormatWord w = some (F_word w) := by
  unfold M_spec_FormatWord
  have h := L_spec_FormatWord_eq w (by omega) w.length 0 FUEL [] (by omega) (FUEL_big (by omega)) (by simp only [List.length_nil]; omega)
  rw [show ((0 : Nat) : Int) = 0 from rfl, List.drop_zero, List.nil_append] at h
  rw [show (⟨#[]⟩ : ByteArray) = B [] from rfl, h, Option.bind_some]
  unfold F_word
  cases allLet w with
  | false => rfl
  | true =>
    rw [cond_true, outK_inr, show (B [] : ByteArray) = ⟨#[]⟩ from rfl, seqB_nil]
    cases w <;> rfl
theorem L_impl_FormatWord_eq (w : List Int) (hl : w.length ≤ 140737488355328) : ∀ (d k fuel : Nat) (acc : List UInt8), k + d = w.length → d < fuel → acc.length + d ≤ 140737488355328 →
    L_impl_FormatWord_0 w fuel (B acc) (k : Int) = some (bif allLet (w.drop k) then .inr (B (acc ++ (w.drop k).map chL)) else .inl (B []))
  | d, k, 0, acc, hk, hf, ha => by omega
  | 0, k, fuel + 1, acc, hk, hf, ha => by
    rw [L_impl_FormatWord_0_succ, if_neg (by simp; omega), drop_done (by omega)]
    simp [allLet]
  | d + 1, k, fuel + 1, acc, hk, hf, ha => by
    have hkl : k < w.length := by omega
    have hx := getk hkl
    generalize w[k] = x at hx
    have next := L_impl_FormatWord_eq w hl d (k + 1) fuel (acc ++ [chL x]) (by omega) (by omega) (by simp only [List.length_append, List.length_singleton]; omega)
    rw [drop_get hx, L_impl_FormatWord_0_succ, if_pos (by simp; omega), gi_at hx, Option.bind_some, m_letterText, Option.bind_some]
    simp only [allLet]
    cases hlx : isLet x with
    | false => rw [cond_false, grd_true (by rw [bsize]; simp), Option.bind_some, seqB_nil]; rfl
    | true =>
      rw [cond_true, grd_true (by rw [bsize]; simp), Option.bind_some, seqB_nil, if_neg (by simp), grd_true (by rw [bsize, bsize]; simp only [List.length_singleton]; omega), Option.bind_some,
        bcat, wsucc hkl (by omega : w.length ≤ 9223372036854775807), next]
      simp
theorem m_implFormatWord (w : List Int) (hl : w.length ≤ 140737488355) : M_impl_FormatWord w = some (F_word w) := by
  unfold M_impl_FormatWord
  by_cases h0 : w.length = 0
  · have : w = [] := List.length_eq_zero_iff.1 h0
    subst this
    rfl
  · have h := L_impl_FormatWord_eq w (by omega) w.length 0 FUEL [] (by omega) (FUEL_big (by omega)) (by simp only [List.length_nil]; omega)
    rw [show ((0 : Nat) : Int) = 0 from rfl, List.drop_zero, List.nil_append] at h
    rw [if_neg (by simp; exact fun e => h0 (by rw [e]; rfl)), show (⟨#[]⟩ : ByteArray) = B [] from rfl, h, Option.bind_some]
    unfold F_word
    cases allLet w with
    | false => rfl
    | true =>
      cases w with
      | nil => simp at h0
      | cons x r => rfl

/-! ### several words -/
def tailB (sep : UInt8) : List (List UInt8) → List UInt8
  | [] => []
  | x :: r => sep :: x ++ tailB sep r
def joinB (sep : UInt8) : List (List UInt8) → List UInt8
  | [] => []
  | x :: r => x ++ tailB sep r
def allLets : List (List Int) → Bool
  | [] => true
  | w :: r => allLet w && allLets r
def F_words (ws : List (List Int)) : ByteArray := bif allLets ws then (match ws with
  | [] => B [110, 111, 110, 101]
  | w :: r => B (joinB 44 ((w :: r).map wl))) else B []
def wsz : List (List Int) → Nat
  | [] => 0
  | w :: r => w.length + 2 + wsz r
theorem tailB_len : ∀ ws : List (List Int), (tailB 44 (ws.map wl)).length ≤ wsz ws
  | [] => by simp [tailB, wsz]
  | w :: r => by
    have := tailB_len r
    have := wl_len w
    simp only [List.map_cons, tailB, wsz, List.length_cons, List.length_append]
    omega
theorem wsz_mem {w : List Int} : ∀ {ws : List (List Int)}, w ∈ ws → w.length ≤ wsz ws
  | x :: r, h => by
    rcases List.mem_cons.1 h with rfl | h
    · simp only [wsz]; omega
    · have := wsz_mem h; simp only [wsz]; omega
theorem wsz_drop (ws : List (List Int)) : ∀ k, wsz (ws.drop k) ≤ wsz ws := by
  induction ws with
  | nil => intro k; simp
  | cons w r ih =>
    intro k
    cases k with
    | zero => simp
    | succ k => have := ih k; simp only [List.drop_succ_cons, wsz]; omega
theorem wsz_len : ∀ ws : List (List Int), ws.length ≤ wsz ws
  | [] => by simp
  | w :: r => by have := wsz_len r; simp only [wsz, List.length_cons]; omega
theorem L_spec_FormatWords_eq (ws : List (List Int)) (hl : wsz ws ≤ 140737488) : ∀ (d k fuel : Nat) (acc : List UInt8), k + d = ws.length → d < fuel → 0 < k → acc.length + wsz (ws.drop k) ≤ 140737488355328 →
    L_spec_FormatWords_0 ws fuel (B acc) (k : Int) = some (bif allLets (ws.drop k) then .inr (B (acc ++ tailB 44 ((ws.drop k).map wl))) else .inl (B []))
  | d, k, 0, acc, hk, hf, h0, ha => by omega
  | 0, k, fuel + 1, acc, hk, hf, h0, ha => by
    rw [L_spec_FormatWords_0_succ, if_neg (by simp; omega), drop_done (by omega)]
    simp [allLets, tailB]
  | d + 1, k, fuel + 1, acc, hk, hf, h0, ha => by
    have hkl : k < ws.length := by omega
    have hx := getk hkl
    have hlen := wsz_len ws
    have hxl := wsz_mem (List.mem_of_getElem? hx)
    generalize ws[k] = x at hx hxl
    rw [drop_get hx] at ha ⊢
    simp only [wsz] at ha
    have hwl := wl_len x
    have next := L_spec_FormatWords_eq ws hl d (k + 1) fuel (acc ++ [44] ++ wl x) (by omega) (by omega) (by omega) (by simp only [List.length_append, List.length_singleton]; omega)
    rw [L_spec_FormatWords_0_succ, if_pos (by simp; omega), if_pos (by simp; omega), grd_true (by rw [bsize]; show _ + 1 ≤ _; omega), Option.bind_some, gi_at hx, Option.bind_some, m_specFormatWord x (by omega), Option.bind_some,
      grd_true (by have := F_word_size x; omega), Option.bind_some, F_word_nil]
    simp only [allLets]
    cases hlx : allLet x with
    | false => rfl
    | true =>
      have hF : F_word x = B (wl x) := by unfold F_word; rw [hlx]; rfl
      rw [if_neg (by simp), hF, show (⟨#[44]⟩ : ByteArray) = B [44] from rfl, bcat, grd_true (by rw [bsize, bsize]; simp only [List.length_append, List.length_singleton]; omega), Option.bind_some, bcat,
        wsucc hkl (by omega : ws.length ≤ 9223372036854775807), next]
      simp [tailB]
theorem m_specFormatWords (ws : List (List Int)) (hl : wsz ws ≤ 140737488) : M_spec_FormatWords ws = some (F_words ws) := by
  unfold M_spec_FormatWords F_words
  cases ws with
  | nil => rw [show FUEL = (FUEL - 1) + 1 from rfl, L_spec_FormatWords_0_succ, if_neg (by simp), Option.bind_some, outK_inr, if_pos (seqB_true.2 rfl)]; rfl
  | cons x r =>
    have hwl := wl_len x
    have hdr : wsz r ≤ 140737488 := by simp only [wsz] at hl; omega
    have hxl : x.length ≤ 140737488 := by simp only [wsz] at hl; omega
    have next := L_spec_FormatWords_eq (x :: r) hl r.length 1 (FUEL - 1) (wl x) (by simp only [List.length_cons]; omega) (by have := wsz_len r; unfold FUEL; omega) (by omega) (by simp only [List.drop_succ_cons, List.drop_zero]; omega)
    rw [show FUEL = (FUEL - 1) + 1 from rfl, L_spec_FormatWords_0_succ, if_pos (by simp), if_neg (by simp), gi_at0 (x := x) rfl, Option.bind_some, m_specFormatWord x (by omega), Option.bind_some,
      grd_true (by have := F_word_size x; omega), Option.bind_some, F_word_nil]
    simp only [allLets]
    cases hlx : allLet x with
    | false => rfl
    | true =>
      have hF : F_word x = B (wl x) := by unfold F_word; rw [hlx]; rfl
      rw [if_neg (by simp), hF, show (⟨#[]⟩ : ByteArray) = B [] from rfl, bcat, List.nil_append, grd_true (by rw [bsize, bsize]; simp only [List.length_nil]; omega), Option.bind_some,
        show IntKind.i64.wrap (0 + 1) = ((1 : Nat) : Int) by decide, next]
      simp only [List.drop_succ_cons, List.drop_zero, Bool.true_and, Option.bind_some]
      cases allLets r with
      | false => rfl
      | true =>
        rw [cond_true, outK_inr, show (B [] : ByteArray) = ⟨#[]⟩ from rfl, seqB_nil]
        have : (wl x ++ tailB 44 (List.map wl r)).isEmpty = false := by cases x <;> rfl
        rw [this]
        rfl
/-! ### the code: the parts, then glued -/
theorem L_impl_FormatWords_eq (ws : List (List Int)) (hl : wsz ws ≤ 140737488) : ∀ (d k fuel : Nat) (acc : List ByteArray), k + d = ws.length → d < fuel → acc.length = k →
    L_impl_FormatWords_0 ws fuel (k : Int) acc = some (bif allLets (ws.drop k) then .inr (acc ++ (ws.drop k).map fun w => B (wl w)) else .inl (B []))
  | d, k, 0, acc, hk, hf, ha => by omega
  | 0, k, fuel + 1, acc, hk, hf, ha => by
    rw [L_impl_FormatWords_0_succ, if_neg (by simp; omega), drop_done (by omega)]
    simp [allLets]
  | d + 1, k, fuel + 1, acc, hk, hf, ha => by
    have hkl : k < ws.length := by omega
    have hx := getk hkl
    have hlen := wsz_len ws
    have hxl := wsz_mem (List.mem_of_getElem? hx)
    generalize ws[k] = x at hx hxl
    have next := L_impl_FormatWords_eq ws hl d (k + 1) fuel (acc ++ [B (wl x)]) (by omega) (by omega) (by simp only [List.length_append, List.length_singleton]; omega)
    rw [drop_get hx, L_impl_FormatWords_0_succ, if_pos (by simp; omega), gi_at hx, Option.bind_some, m_implFormatWord x (by omega), Option.bind_some,
      grd_true (by have := F_word_size x; omega), Option.bind_some, F_word_nil]
    simp only [allLets]
    cases hlx : allLet x with
    | false => rfl
    | true =>
      have hF : F_word x = B (wl x) := by unfold F_word; rw [hlx]; rfl
      rw [if_neg (by simp), hF, grd_true (by simp only [List.length_singleton]; omega), Option.bind_some, wsucc hkl (by omega : ws.length ≤ 9223372036854775807), next]
      simp
def bsz : List (List UInt8) → Nat
  | [] => 0
  | x :: r => x.length + 1 + bsz r
theorem bsz_len : ∀ xs : List (List UInt8), xs.length ≤ bsz xs
  | [] => by simp
  | w :: r => by have := bsz_len r; simp only [bsz, List.length_cons]; omega
theorem L_impl_glued_eq (sep : UInt8) (xs : List (List UInt8)) (hl : bsz xs ≤ 140737488355328) : ∀ (d k fuel : Nat) (acc : List UInt8), k + d = xs.length → d < fuel → acc.length + bsz (xs.drop k) ≤ 140737488355328 →
    L_impl_glued_0 (xs.map B) (B [sep]) fuel (B acc) (k : Int) = some (B (acc ++ tailB sep (xs.drop k)))
  | d, k, 0, acc, hk, hf, ha => by omega
  | 0, k, fuel + 1, acc, hk, hf, ha => by
    rw [L_impl_glued_0_succ, if_neg (by simp; omega), drop_done (by omega)]
    simp [tailB]
  | d + 1, k, fuel + 1, acc, hk, hf, ha => by
    have hkl : k < xs.length := by omega
    have hx := getk hkl
    have hlen := bsz_len xs
    generalize xs[k] = x at hx
    rw [drop_get hx] at ha ⊢
    simp only [bsz] at ha
    have next := L_impl_glued_eq sep xs hl d (k + 1) fuel (acc ++ [sep] ++ x) (by omega) (by omega) (by simp only [List.length_append, List.length_singleton]; omega)
    rw [L_impl_glued_0_succ, if_pos (by simp; omega), gi_at (x := B x) (by rw [List.getElem?_map, hx]; rfl), Option.bind_some, grd_true (by rw [bsize, bsize]; simp only [List.length_singleton]; omega), Option.bind_some, bcat,
      grd_true (by rw [bsize, bsize]; simp only [List.length_append, List.length_singleton]; omega), Option.bind_some, bcat, wsucc hkl (by omega : xs.length ≤ 9223372036854775807), next]
    simp [tailB]
def F_glued (sep : UInt8) (e : ByteArray) : List (List UInt8) → ByteArray
  | [] => e
  | x :: r => B (joinB sep (x :: r))
theorem m_glued (sep : UInt8) (e : ByteArray) (xs : List (List UInt8)) (hl : bsz xs ≤ 140737488355328) : M_impl_glued (xs.map B) (B [sep]) e = some (F_glued sep e xs) := by
  unfold M_impl_glued
  cases xs with
  | nil => rfl
  | cons x r =>
    simp only [bsz] at hl
    have hlen := bsz_len r
    have h := L_impl_glued_eq sep r (by omega) r.length 0 FUEL x (by omega) (FUEL_big (by omega)) (by rw [List.drop_zero]; omega)
    rw [show ((0 : Nat) : Int) = 0 from rfl, List.drop_zero] at h
    rw [if_neg (by simp; omega), gi_at0 (x := B x) rfl, Option.bind_some, cutL, if_pos (by simp; omega), Option.bind_some]
    have e1 : (List.drop (1 : Int).toNat (List.take ((((x :: r).map B).length : Nat) : Int).toNat ((x :: r).map B))) = r.map B := by
      rw [Int.toNat_natCast, List.take_length]; rfl
    rw [e1, h]
    rfl
theorem bsz_wl : ∀ ws : List (List Int), bsz (ws.map wl) ≤ wsz ws
  | [] => by simp [bsz, wsz]
  | w :: r => by
    have := bsz_wl r
    have := wl_len w
    simp only [List.map_cons, bsz, wsz]
    omega
theorem F_words_size (ws : List (List Int)) : (F_words ws).size ≤ wsz ws + 4 := by
  unfold F_words
  cases allLets ws with
  | false => show 0 ≤ _; omega
  | true =>
    cases ws with
    | nil => show 4 ≤ _; omega
    | cons w r =>
      simp only [cond_true]
      rw [bsize]
      have := tailB_len r
      have := wl_len w
      simp only [List.map_cons, joinB, wsz, List.length_append]
      omega
theorem m_implFormatWords (ws : List (List Int)) (hl : wsz ws ≤ 140737488) : M_impl_FormatWords ws = some (F_words ws) := by
  unfold M_impl_FormatWords
  have hlen := wsz_len ws
  have h := L_impl_FormatWords_eq ws hl ws.length 0 FUEL [] (by omega) (FUEL_big (by omega)) rfl
  rw [show ((0 : Nat) : Int) = 0 from rfl, List.drop_zero, List.nil_append] at h
  rw [h, Option.bind_some]
  have hsz := F_words_size ws
  unfold F_words at hsz ⊢
  cases hall : allLets ws with
  | false => rfl
  | true =>
    rw [hall] at hsz
    rw [cond_true, outK_inr, show (ws.map fun w => B (wl w)) = (ws.map wl).map B by simp, show (⟨#[44]⟩ : ByteArray) = B [44] from rfl, m_glued 44 _ _ (by have := bsz_wl ws; omega), Option.bind_some]
    cases ws with
    | nil => rfl
    | cons w r =>
      simp only [cond_true, List.map_cons, F_glued] at hsz ⊢
      rw [grd_true (by omega), Option.bind_some]

def F_pres (x : LPresentation) : ByteArray := bif F_IsPres x then fmtI x.1 ++ B [32] ++ F_words x.2 else B []
theorem fmtI_size (n : Int) : (fmtI n).size ≤ 21 := by
  unfold fmtI
  have := digs_len 20 n.natAbs []
  simp only [List.length_nil] at this
  split
  · show 1 ≤ _; omega
  · split
    · rw [bsize]; simp only [List.length_cons]; omega
    · rw [bsize]; omega
theorem wsz_tot : ∀ ws : List (List Int), wsz ws = tot ws + 2 * ws.length
  | [] => rfl
  | w :: r => by have := wsz_tot r; simp only [wsz, tot, List.length_cons]; omega
theorem pres_wsz {x : LPresentation} (h : F_IsPres x = true) : wsz x.2 ≤ 60 ∧ In64 x.1 := by
  simp only [F_IsPres, F_AreWords, inR, Bool.and_eq_true, decide_eq_true_eq] at h
  rw [wsz_tot]
  refine ⟨by omega, ?_⟩
  constructor <;> omega
theorem m_specFormatPresentation (x : LPresentation) (hl : x.2.length ≤ 140737488355328) (hs : wordsShort x.2) : M_spec_FormatPresentation x = some (F_pres x) := by
  have hp := m_specIsPresentation x hl hs
  obtain ⟨r, ws⟩ := x
  unfold M_spec_FormatPresentation F_pres
  simp only [hp, Option.bind_some]
  cases h : F_IsPres (r, ws) with
  | false => rfl
  | true =>
    obtain ⟨h1, h2⟩ := pres_wsz h
    have a1 := fmtI_size r
    have a2 := F_words_size ws
    simp only at h1 h2
    have e1 : (⟨#[32]⟩ : ByteArray).size = 1 := rfl
    rw [if_neg (by simp), m_specFormatInt r h2, Option.bind_some, grd_true (by omega), Option.bind_some, grd_true (by omega), Option.bind_some, m_specFormatWords ws (by omega), Option.bind_some, grd_true (by omega), Option.bind_some,
      grd_true (by rw [ByteArray.size_append]; omega), Option.bind_some]
    rfl
theorem m_implFormatPresentation (x : LPresentation) (hl : x.2.length ≤ 140737488355328) (hs : wordsShort x.2) : M_impl_FormatPresentation x = some (F_pres x) := by
  have hp := m_implIsPresentation x hl hs
  obtain ⟨r, ws⟩ := x
  unfold M_impl_FormatPresentation F_pres
  simp only [hp, Option.bind_some]
  cases h : F_IsPres (r, ws) with
  | false => rfl
  | true =>
    obtain ⟨h1, h2⟩ := pres_wsz h
    have a1 := fmtI_size r
    have a2 := F_words_size ws
    simp only at h1 h2
    have e1 : (⟨#[32]⟩ : ByteArray).size = 1 := rfl
    rw [if_neg (by simp), m_implFormatInt r h2, Option.bind_some, grd_true (by omega), Option.bind_some, grd_true (by omega), Option.bind_some, m_implFormatWords ws (by omega), Option.bind_some, grd_true (by omega), Option.bind_some,
      grd_true (by rw [ByteArray.size_append]; omega), Option.bind_some]
    rfl
end Go.Proofs.Ytjalbdammdmgiaa
