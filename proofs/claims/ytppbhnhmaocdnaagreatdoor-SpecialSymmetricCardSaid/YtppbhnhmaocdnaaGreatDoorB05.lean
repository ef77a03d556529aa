/- Whole numbers as lists of groups of four decimal digits, and as decimal numerals: plain facts, of no program. -/
import Derived.Lib.ItoaLen
import Derived.Lib.Atoi
set_option linter.unusedVariables false
set_option linter.unusedSimpArgs false
namespace Go.Proofs.YtppbhnhmaocdnaaGreatDoor
open Go.Lib

def digs (n : Nat) : List Nat := if h : n = 0 then [] else n % 10000 :: digs (n / 10000)
  termination_by n
  decreasing_by omega

theorem digs_zero : digs 0 = [] := by rw [digs]; simp
theorem digs_pos {n : Nat} (h : n ≠ 0) : digs n = n % 10000 :: digs (n / 10000) := by rw [digs]; simp [h]

def ofD : List Nat → Nat
  | [] => 0
  | d :: l => d + 10000 * ofD l

theorem ofD_digs (n : Nat) : ofD (digs n) = n := by
  induction n using Nat.strongRecOn with
  | _ n ih =>
    by_cases h : n = 0
    · subst h; rw [digs_zero]; rfl
    · rw [digs_pos h, ofD, ih (n / 10000) (by omega)]; omega

def Small (l : List Nat) : Prop := ∀ d ∈ l, d < 10000

theorem digs_small (n : Nat) : Small (digs n) := by
  induction n using Nat.strongRecOn with
  | _ n ih =>
    by_cases h : n = 0
    · subst h; rw [digs_zero]; intro d hd; cases hd
    · rw [digs_pos h]
      intro d hd
      rcases List.mem_cons.1 hd with rfl | hd
      · omega
      · exact ih _ (by omega) d hd

def trimL (l : List Nat) : List Nat := match l with
  | [] => []
  | d :: r => match trimL r with
    | [] => if d = 0 then [] else [d]
    | e :: s => d :: e :: s

theorem digs_eq_nil {n : Nat} : digs n = [] ↔ n = 0 := by
  constructor
  · intro h
    by_cases h0 : n = 0
    · exact h0
    · rw [digs_pos h0] at h; cases h
  · rintro rfl; exact digs_zero

theorem trimL_eq : ∀ (l : List Nat), Small l → trimL l = digs (ofD l)
  | [], _ => by rw [ofD, digs_zero]; rfl
  | d :: r, h => by
    have hd : d < 10000 := h d (by simp)
    have ih := trimL_eq r (fun x hx => h x (by simp [hx]))
    rw [trimL, ofD]
    by_cases h0 : ofD r = 0
    · rw [ih, h0, digs_zero]
      by_cases d0 : d = 0
      · subst d0; simp [digs_zero]
      · simp only [if_neg d0]
        rw [digs_pos (by omega)]
        have e1 : (d + 10000 * 0) % 10000 = d := by omega
        have e2 : (d + 10000 * 0) / 10000 = 0 := by omega
        rw [e1, e2, digs_zero]
    · have hne : d + 10000 * ofD r ≠ 0 := by omega
      rw [digs_pos hne]
      have e1 : (d + 10000 * ofD r) % 10000 = d := by omega
      have e2 : (d + 10000 * ofD r) / 10000 = ofD r := by omega
      rw [e1, e2, ih]
      cases hc : digs (ofD r) with
      | nil => exact absurd (digs_eq_nil.1 hc) h0
      | cons e s => rfl

theorem trimL_snoc_zero (l : List Nat) : trimL (l ++ [0]) = trimL l := by
  induction l with
  | nil => rfl
  | cons d r ih => simp only [List.cons_append, trimL, ih]

theorem trimL_snoc (l : List Nat) (d : Nat) (h : d ≠ 0) : trimL (l ++ [d]) = l ++ [d] := by
  induction l with
  | nil => simp [trimL, h]
  | cons e r ih =>
    simp only [List.cons_append, trimL, ih]
    cases hc : r ++ [d] with
    | nil => simp at hc
    | cons a b => rfl

theorem ofD_append (a b : List Nat) : ofD (a ++ b) = ofD a + 10000 ^ a.length * ofD b := by
  induction a with
  | nil => simp [ofD]
  | cons d r ih =>
    simp only [List.cons_append, ofD, ih, List.length_cons, Nat.pow_succ]
    rw [Nat.mul_add]
    have : 10000 * (10000 ^ r.length * ofD b) = 10000 ^ r.length * 10000 * ofD b := by
      rw [← Nat.mul_assoc, Nat.mul_comm 10000 (10000 ^ r.length)]
    omega

theorem ofD_lt (l : List Nat) (h : Small l) : ofD l < 10000 ^ l.length := by
  induction l with
  | nil => simp [ofD]
  | cons d r ih =>
    have h1 := ih (fun x hx => h x (by simp [hx]))
    have h2 := h d (by simp)
    simp only [ofD, List.length_cons, Nat.pow_succ]
    omega

theorem digs_length_le (n k : Nat) (h : n < 10000 ^ k) : (digs n).length ≤ k := by
  induction k generalizing n with
  | zero => simp at h; subst h; rw [digs_zero]; simp
  | succ k ih =>
    by_cases h0 : n = 0
    · subst h0; rw [digs_zero]; simp
    · rw [digs_pos h0]
      rw [Nat.pow_succ] at h
      have := ih (n / 10000) (by omega)
      simp; omega

theorem digs_length_le_iff (n k : Nat) : (digs n).length ≤ k ↔ n < 10000 ^ k := by
  constructor
  · intro h
    have := ofD_lt (digs n) (digs_small n)
    rw [ofD_digs] at this
    exact Nat.lt_of_lt_of_le this (Nat.pow_le_pow_right (by omega) h)
  · exact digs_length_le n k

theorem digs_shift (n : Nat) (h : n ≠ 0) : digs (10000 * n) = 0 :: digs n := by
  rw [digs_pos (by omega)]
  have e1 : 10000 * n % 10000 = 0 := by omega
  have e2 : 10000 * n / 10000 = n := by omega
  rw [e1, e2]

theorem digs_getD (n i : Nat) : (digs n).getD i 0 = n / 10000 ^ i % 10000 := by
  induction i generalizing n with
  | zero =>
    by_cases h : n = 0
    · subst h; rw [digs_zero]; simp
    · rw [digs_pos h]; simp
  | succ i ih =>
    by_cases h : n = 0
    · subst h; rw [digs_zero]; simp
    · rw [digs_pos h]
      simp only [List.getD_cons_succ]
      rw [ih, Nat.pow_succ, Nat.mul_comm, ← Nat.div_div_eq_div_mul]

/-! ### decimal numerals -/

def pad4 (r : Nat) : List UInt8 := [UInt8.ofNat (48 + r / 1000), UInt8.ofNat (48 + r / 100 % 10), UInt8.ofNat (48 + r / 10 % 10), UInt8.ofNat (48 + r % 10)]

theorem dec_big {u : Nat} (h : 10 ≤ u) : decDigits u = decDigits (u / 10) ++ [UInt8.ofNat (48 + u % 10)] := by
  rw [decDigits, dif_neg (by omega)]
theorem dec_small {u : Nat} (h : u < 10) : decDigits u = [UInt8.ofNat (48 + u)] := by rw [decDigits, dif_pos h]

theorem dec_pad {q r : Nat} (hq : 0 < q) (hr : r < 10000) : decDigits (10000 * q + r) = decDigits q ++ pad4 r := by
  rw [dec_big (by omega), dec_big (u := (10000 * q + r) / 10) (by omega), dec_big (u := (10000 * q + r) / 10 / 10) (by omega), dec_big (u := (10000 * q + r) / 10 / 10 / 10) (by omega)]
  have e0 : (10000 * q + r) / 10 / 10 / 10 / 10 = q := by omega
  have e1 : (10000 * q + r) / 10 / 10 / 10 % 10 = r / 1000 := by omega
  have e2 : (10000 * q + r) / 10 / 10 % 10 = r / 100 % 10 := by omega
  have e3 : (10000 * q + r) / 10 % 10 = r / 10 % 10 := by omega
  have e4 : (10000 * q + r) % 10 = r % 10 := by omega
  rw [e0, e1, e2, e3, e4]
  simp [pad4]

theorem pad4_eq {r : Nat} (hr : r < 10000) : pad4 r = List.replicate (4 - (decDigits r).length) 48 ++ decDigits r := by
  by_cases h1 : r < 10
  · rw [dec_small h1]
    have a : r / 1000 = 0 := by omega
    have b : r / 100 % 10 = 0 := by omega
    have c : r / 10 % 10 = 0 := by omega
    have d : r % 10 = r := by omega
    simp [pad4, a, b, c, d, List.replicate]
  · by_cases h2 : r < 100
    · rw [dec_big (by omega), dec_small (u := r / 10) (by omega)]
      have a : r / 1000 = 0 := by omega
      have b : r / 100 % 10 = 0 := by omega
      have c : r / 10 % 10 = r / 10 := by omega
      simp [pad4, a, b, c, List.replicate]
    · by_cases h3 : r < 1000
      · rw [dec_big (by omega), dec_big (u := r / 10) (by omega), dec_small (u := r / 10 / 10) (by omega)]
        have a : r / 1000 = 0 := by omega
        have b : r / 10 / 10 = r / 100 := by omega
        have c : r / 100 % 10 = r / 100 := by omega
        simp [pad4, a, b, c]
      · rw [dec_big (by omega), dec_big (u := r / 10) (by omega), dec_big (u := r / 10 / 10) (by omega), dec_small (u := r / 10 / 10 / 10) (by omega)]
        have a : r / 10 / 10 / 10 = r / 1000 := by omega
        have b : r / 10 / 10 % 10 = r / 100 % 10 := by omega
        rw [a, b]
        rfl

theorem pad4_length (r : Nat) : (pad4 r).length = 4 := rfl

theorem digitVal_of {d : Nat} (h : d < 10) : digitVal (UInt8.ofNat (48 + d)) = some d := by
  unfold digitVal
  have : (UInt8.ofNat (48 + d)).toNat = 48 + d := by simp; omega
  rw [this, if_pos (by omega)]
  simp

theorem decFrom_append (a b : List UInt8) (acc : Nat) : decFrom acc (a ++ b) = (decFrom acc a).bind fun m => decFrom m b := by
  induction a generalizing acc with
  | nil => rfl
  | cons c r ih =>
    simp only [List.cons_append, decFrom]
    cases digitVal c with
    | none => rfl
    | some d => exact ih _

theorem decFrom_dec (u : Nat) : decFrom 0 (decDigits u) = some u := by
  induction u using Nat.strongRecOn with
  | _ u ih =>
    by_cases h : u < 10
    · rw [dec_small h]; simp only [decFrom, digitVal_of h, Nat.zero_mul, Nat.zero_add]
    · rw [dec_big (by omega), decFrom_append, ih (u / 10) (by omega)]
      simp only [Option.bind_some, decFrom, digitVal_of (show u % 10 < 10 by omega)]
      congr 1; omega

theorem decFrom_pad (r : Nat) (hr : r < 10000) : decFrom 0 (pad4 r) = some r := by
  simp only [pad4, decFrom, digitVal_of (show r / 1000 < 10 by omega), digitVal_of (show r / 100 % 10 < 10 by omega), digitVal_of (show r / 10 % 10 < 10 by omega), digitVal_of (show r % 10 < 10 by omega)]
  congr 1; omega

theorem dec_ne_nil (u : Nat) : decDigits u ≠ [] := by
  by_cases h : u < 10
  · rw [dec_small h]; simp
  · rw [dec_big (by omega)]; simp

theorem dec_digit (u : Nat) : ∀ b ∈ decDigits u, 48 ≤ b.toNat ∧ b.toNat ≤ 57 := by
  induction u using Nat.strongRecOn with
  | _ u ih =>
    by_cases h : u < 10
    · rw [dec_small h]; intro b hb; simp at hb; subst hb; simp; omega
    · rw [dec_big (by omega)]
      intro b hb
      rcases List.mem_append.1 hb with hb | hb
      · exact ih _ (by omega) b hb
      · simp at hb; subst hb; simp; omega

theorem dec_head {u : Nat} (h0 : 0 < u) : ∃ b r, decDigits u = b :: r ∧ 49 ≤ b.toNat ∧ b.toNat ≤ 57 := by
  induction u using Nat.strongRecOn with
  | _ u ih =>
    by_cases h : u < 10
    · rw [dec_small h]; exact ⟨_, [], rfl, by simp; omega, by simp; omega⟩
    · rw [dec_big (by omega)]
      obtain ⟨b, r, e, h1, h2⟩ := ih (u / 10) (by omega) (by omega)
      exact ⟨b, r ++ [_], by rw [e]; rfl, h1, h2⟩

theorem nDigits_pow (m u : Nat) (h1 : 1 ≤ m) (h : nDigits u = m + 1) : 10 ^ m ≤ u := by
  induction m generalizing u with
  | zero => omega
  | succ m ih =>
    by_cases hu : u < 10
    · rw [nDigits_small hu] at h; omega
    · rw [nDigits_big hu] at h
      rcases Nat.eq_zero_or_pos m with h0 | h0
      · subst h0; simp; omega
      · have := ih (u / 10) h0 (by omega)
        rw [Nat.pow_succ]; omega

theorem dec_length_le (u k : Nat) (hk : 0 < k) : (decDigits u).length ≤ k ↔ u < 10 ^ k := by
  rw [decDigits_length]
  constructor
  · intro h
    exact Nat.lt_of_lt_of_le (lt_pow_nDigits u) (Nat.pow_le_pow_right (by omega) h)
  · intro h
    rcases Nat.lt_or_ge k (nDigits u) with h1 | h1
    · exfalso
      obtain ⟨m, hm⟩ : ∃ m, nDigits u = m + 1 := ⟨nDigits u - 1, by omega⟩
      have : 10 ^ m ≤ u := nDigits_pow m u (by omega) hm
      have h3 : 10 ^ k ≤ 10 ^ m := Nat.pow_le_pow_right (by omega) (by omega)
      omega
    · exact h1

end Go.Proofs.YtppbhnhmaocdnaaGreatDoor
