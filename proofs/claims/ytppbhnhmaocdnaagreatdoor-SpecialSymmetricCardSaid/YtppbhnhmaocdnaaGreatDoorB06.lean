/- Whole numbers as strings: which strings are integers of at most 200 digits. -/
import Derived.Test.YtppbhnhmaocdnaaGreatDoorB05
import Derived.Lib.SlTrimSet
import Derived.Lib.Strings
set_option linter.unusedVariables false
set_option linter.unusedSimpArgs false
namespace Go.Proofs.YtppbhnhmaocdnaaGreatDoor
open Go.Lib

def isDig (b : UInt8) : Bool := decide (48 ≤ b.toNat) && decide (b.toNat ≤ 57)

def big : Nat := 10 ^ 200
theorem big_eq : big = 10 ^ 200 := rfl
theorem big_pos : 0 < big := Nat.pow_pos (by omega)

def body (l : List UInt8) : List UInt8 := trimPrefix l [45]

def vld (l : List UInt8) : Bool := !(body l).isEmpty && decide ((body l).length ≤ 200) && (body l).all isDig && (l == [48] || !((body l).head? == some 48))

theorem isDig_iff (b : UInt8) : isDig b = true ↔ 48 ≤ b.toNat ∧ b.toNat ≤ 57 := by simp [isDig]

theorem hasPrefix_dash (b : UInt8) (r : List UInt8) : hasPrefix (b :: r) [45] = (b == 45) := by
  simp only [hasPrefix, List.isPrefixOf]
  cases h : (b == 45)
  · have h2 : ((45 : UInt8) == b) = false := by rw [← h]; exact BEq.comm
    rw [h2]; rfl
  · have h2 : ((45 : UInt8) == b) = true := by rw [← h]; exact BEq.comm
    rw [h2]; rfl

theorem body_dash (r : List UInt8) : body (45 :: r) = r := by
  unfold body trimPrefix
  rw [hasPrefix_dash]; rfl
theorem body_plain {b : UInt8} {r : List UInt8} (h : b ≠ 45) : body (b :: r) = b :: r := by
  unfold body trimPrefix
  rw [hasPrefix_dash]
  have : (b == 45) = false := by simpa using h
  rw [this]; rfl
theorem body_dec (u : Nat) : body (decDigits u) = decDigits u := by
  cases h : decDigits u with
  | nil => rfl
  | cons b r =>
    have := dec_digit u b (by rw [h]; exact List.mem_cons_self)
    refine body_plain ?_
    intro e; subst e; revert this; decide

theorem itoa_nonneg {n : Int} (h : 0 ≤ n) : itoa n = decDigits n.toNat := by unfold itoa; rw [if_neg (by omega)]
theorem itoa_neg {n : Int} (h : n < 0) : itoa n = 45 :: decDigits n.natAbs := by unfold itoa; rw [if_pos h]
theorem itoa_nat (n : Nat) : itoa (n : Int) = decDigits n := by rw [itoa_nonneg (by omega), Int.toNat_natCast]

theorem body_itoa (n : Int) : body (itoa n) = decDigits n.natAbs := by
  rcases Int.lt_or_le n 0 with h | h
  · rw [itoa_neg h, body_dash]
  · rw [itoa_nonneg h, body_dec]
    congr 1; omega

theorem itoa_zero : itoa 0 = [48] := by rw [show (0 : Int) = ((0 : Nat) : Int) from rfl, itoa_nat, dec_small (by omega)]; rfl

theorem dec_inj {a b : Nat} (h : decDigits a = decDigits b) : a = b := by
  have h1 := decFrom_dec a
  rw [h, decFrom_dec b] at h1
  exact (Option.some.inj h1).symm

theorem dec_head_digit (u : Nat) : ∃ b r, decDigits u = b :: r ∧ 48 ≤ b.toNat ∧ b.toNat ≤ 57 := by
  cases h : decDigits u with
  | nil => exact absurd h (dec_ne_nil u)
  | cons b r =>
    have := dec_digit u b (by rw [h]; exact List.mem_cons_self)
    exact ⟨b, r, rfl, this⟩

theorem itoa_inj {a b : Int} (h : itoa a = itoa b) : a = b := by
  have h1 : a.natAbs = b.natAbs := dec_inj (by rw [← body_itoa, ← body_itoa, h])
  rcases Int.lt_or_le a 0 with ha | ha <;> rcases Int.lt_or_le b 0 with hb | hb
  · omega
  · rw [itoa_neg ha, itoa_nonneg hb] at h
    obtain ⟨c, r, e, h2, h3⟩ := dec_head_digit b.toNat
    rw [e] at h
    have : (45 : UInt8) = c := (List.cons.inj h).1
    subst this; exact absurd h2 (by decide)
  · rw [itoa_nonneg ha, itoa_neg hb] at h
    obtain ⟨c, r, e, h2, h3⟩ := dec_head_digit a.toNat
    rw [e] at h
    have : c = (45 : UInt8) := (List.cons.inj h).1
    subst this; exact absurd h2 (by decide)
  · omega

theorem vld_itoa (n : Int) : vld (itoa n) = decide (n.natAbs < big) := by
  unfold vld
  rw [body_itoa]
  have h1 : (decDigits n.natAbs).isEmpty = false := by
    cases h : decDigits n.natAbs with
    | nil => exact absurd h (dec_ne_nil _)
    | cons => rfl
  have h2 : (decDigits n.natAbs).all isDig = true := List.all_eq_true.2 (fun b hb => (isDig_iff b).2 (dec_digit _ b hb))
  have h3 : (itoa n == [48] || !((decDigits n.natAbs).head? == some 48)) = true := by
    rcases Nat.eq_zero_or_pos n.natAbs with h0 | h0
    · have : n = 0 := by omega
      subst this; rw [itoa_zero]; rfl
    · obtain ⟨b, r, e, h4, h5⟩ := dec_head h0
      have h6 : ((decDigits n.natAbs).head? == some 48) = false := by
        rw [e]
        show (some b == some 48) = false
        have : b ≠ 48 := by intro e; subst e; exact absurd h4 (by decide)
        simpa using this
      rw [h6]; simp
  rw [h1, h2, h3]
  simp only [Bool.not_false, Bool.true_and, Bool.and_true]
  congr 1
  exact propext (dec_length_le n.natAbs 200 (by omega))

theorem dropWhile_nil_iff {α : Type} (p : α → Bool) (l : List α) : l.dropWhile p = [] ↔ ∀ b ∈ l, p b = true := by
  induction l with
  | nil => simp
  | cons a l ih =>
    by_cases h : p a = true
    · simp [h, ih]
    · simp [h]

theorem trimS_nil (l cs : List UInt8) : trimS l cs = [] ↔ ∀ b ∈ l, cs.contains b = true := by
  unfold trimS trimLeftS
  rw [dropWhile_nil_iff]
  constructor
  · intro h
    have h1 : trimRightS l cs = [] := by
      cases hr : l.reverse.dropWhile (cs.contains ·) with
      | nil => unfold trimRightS; rw [hr]; rfl
      | cons c r =>
        exfalso
        have hc : cs.contains c = true := h c (by unfold trimRightS; rw [hr]; simp)
        have := List.head_dropWhile_not (cs.contains ·) (l := l.reverse) (by rw [hr]; simp)
        simp only [hr, List.head_cons] at this
        rw [hc] at this; cases this
    unfold trimRightS at h1
    rw [List.reverse_eq_nil_iff, dropWhile_nil_iff] at h1
    intro b hb
    exact h1 b (List.mem_reverse.2 hb)
  · intro h
    have h1 : trimRightS l cs = [] := by
      unfold trimRightS
      rw [List.reverse_eq_nil_iff, dropWhile_nil_iff]
      intro b hb; exact h b (List.mem_reverse.1 hb)
    rw [h1]; intro b hb; cases hb

def cut10 : List UInt8 := [48, 49, 50, 51, 52, 53, 54, 55, 56, 57]
theorem cut10_contains (b : UInt8) : cut10.contains b = isDig b := by
  have key : ∀ i : Fin 256, cut10.contains (UInt8.ofNat i.val) = isDig (UInt8.ofNat i.val) := by decide +kernel
  have := key ⟨b.toNat, b.toNat_lt⟩
  simpa using this

theorem trim_digits (l : List UInt8) : trimS l cut10 = [] ↔ l.all isDig = true := by
  rw [trimS_nil, List.all_eq_true]
  constructor
  · intro h b hb; rw [← cut10_contains]; exact h b hb
  · intro h b hb; rw [cut10_contains]; exact h b hb

def str (n : Int) : ByteArray := ⟨(itoa n).toArray⟩
theorem str_list (n : Int) : (str n).data.toList = itoa n := rfl
theorem str_inj {a b : Int} (h : str a = str b) : a = b := itoa_inj (by rw [← str_list, h, str_list])

end Go.Proofs.YtppbhnhmaocdnaaGreatDoor
