/- Whole numbers as strings: which strings are integers of at most 200 digits. -/
import Derived.Test.YtppbhnhmaocdnaaGreatDoorB05
import Derived.Lib.SlTrimSet
import Derived.Lib.Strings
set_option linter.unusedVariables false
set_option linter.unusedSimpArgs false
namespace Go.Proofs.YtppbhnhmaocdnaaGreatDoor
open Go.Lib

def isDig (b : UInt8) : Bool := decide (48 ≤ b.toNat) && decide (b.toNat ≤ 57)

/-- The greatest size, 10 to the power of 200. -/
def big : Nat := 10 ^ 200
theorem big_eq : big = 10 ^ 200 := rfl
theorem big_pos : 0 < big := Nat.pow_pos (by omega)

/-- What stands behind a sign. -/
def body (l : List UInt8) : List UInt8 := trimPrefix l [45]

/-- Is it an integer? -/
def vld (l : List UInt8) : Bool := !(body l).isEmpty && decide ((body l).length ≤ 200) && (body l).all isDig && (l == [48] || !((body l).head? == some 48))

theorem isDig_iff (b : UInt8) : isDig b = true ↔ 48 ≤ b.toNat ∧ b.toNat ≤ 57 := by simp [isDig]

theorem hasPrefix_dash (b : UInt8) (r : List UInt8) : hasPrefix (b :: r) [45] = (b == 45) := by
  simp only [hasPrefix, List.isPrefixOf]
  cases h : (b == 45)
  · have h2 : ((45 : UInt8) == b) = false := by rw [← h]; exact BEq.comm
    rw [h2]; rfl
  · have h2 : ((45 : UInt8) == b) = true := by rw [← h]; exact BEq.comm
    rw [h2]; rfl

theorem body_dash (r : List UInt8) : body (45 :: r) = r := by
  unfold body trimPrefix
  rw [hasPrefix_dash]; rfl
theorem body_plain {b : UInt8} {r : List UInt8} (h : b ≠ 45) : body (b :: r) = b :: r := by
  unfold body trimPrefix
  rw [hasPrefix_dash]
  have : (b == 45) = false := by simpa using h
  rw [this]; rfl
theorem body_nil : body [] = [] := rfl

theorem body_dec (u : Nat) : body (decDigits u) = decDigits u := by
  cases h : decDigits u with
  | nil => rfl
  | cons b r =>
    have := dec_digit u b (by rw [h]; exact List.mem_cons_self)
    refine body_plain ?_
    intro e; subst e; revert this; decide

theorem itoa_nonneg {n : Int} (h : 0 ≤ n) : itoa n = decDigits n.toNat := by unfold itoa; rw [if_neg (by omega)]
theorem itoa_neg {n : Int} (h : n < 0) : itoa n = 45 :: decDigits n.natAbs := by unfold itoa; rw [if_pos h]
theorem itoa_nat (n : Nat) : itoa (n : Int) = decDigits n := by rw [itoa_nonneg (by omega), Int.toNat_natCast]

theorem body_itoa (n : Int) : body (itoa n) = decDigits n.natAbs := by
  rcases Int.lt_or_le n 0 with h | h
  · rw [itoa_neg h, body_dash]
  · rw [itoa_nonneg h, body_dec]
    congr 1; omega

theorem itoa_zero : itoa 0 = [48] := by rw [show (0 : Int) = ((0 : Nat) : Int) from rfl, itoa_nat, dec_small (by omega)]; rfl

theorem dec_inj {a b : Nat} (h : decDigits a = decDigits b) : a = b := by
  have h1 := decFrom_dec a
  rw [h, decFrom_dec b] at h1
  exact (Option.some.inj h1).symm

theorem dec_head_digit (u : Nat) : ∃ b r, decDigits u = b :: r ∧ 48 ≤ b.toNat ∧ b.toNat ≤ 57 := by
  cases h : decDigits u with
  | nil => exact absurd h (dec_ne_nil u)
  | cons b r =>
    have := dec_digit u b (by rw [h]; exact List.mem_cons_self)
    exact ⟨b, r, rfl, this⟩

theorem itoa_inj {a b : Int} (h : itoa a = itoa b) : a = b := by
  have h1 : a.natAbs = b.natAbs := dec_inj (by rw [← body_itoa, ← body_itoa, h])
  rcases Int.lt_or_le a 0 with ha | ha <;> rcases Int.lt_or_le b 0 with hb | hb
  · omega
  · rw [itoa_neg ha, itoa_nonneg hb] at h
    obtain ⟨c, r, e, h2, h3⟩ := dec_head_digit b.toNat
    rw [e] at h
    have : (45 : UInt8) = c := (List.cons.inj h).1
    subst this; exact absurd h2 (by decide)
  · rw [itoa_nonneg ha, itoa_neg hb] at h
    obtain ⟨c, r, e, h2, h3⟩ := dec_head_digit a.toNat
    rw [e] at h
    have : c = (45 : UInt8) := (List.cons.inj h).1
    subst this; exact absurd h2 (by decide)
  · omega

theorem vld_itoa (n : Int) : vld (itoa n) = decide (n.natAbs < big) := by
  unfold vld
  rw [body_itoa]
  have h1 : (decDigits n.natAbs).isEmpty = false := by
    cases h : decDigits n.natAbs with
    | nil => exact absurd h (dec_ne_nil _)
    | cons => rfl
  have h2 : (decDigits n.natAbs).all isDig = true := List.all_eq_true.2 (fun b hb => (isDig_iff b).2 (dec_digit _ b hb))
  have h3 : (itoa n == [48] || !((decDigits n.natAbs).head? == some 48)) = true := by
    rcases Nat.eq_zero_or_pos n.natAbs with h0 | h0
    · have : n = 0 := by omega
      subst this; rw [itoa_zero]; rfl
    · obtain ⟨b, r, e, h4, h5⟩ := dec_head h0
      have h6 : ((decDigits n.natAbs).head? == some 48) = false := by
        rw [e]
        show (some b == some 48) = false
        have : b ≠ 48 := by intro e; subst e; exact absurd h4 (by decide)
        simpa using this
      rw [h6]; simp
  rw [h1, h2, h3]
  simp only [Bool.not_false, Bool.true_and, Bool.and_true]
  congr 1
  exact propext (dec_length_le n.natAbs 200 (by omega))

theorem dec_of_digits (d : List UInt8) (h1 : ∀ b ∈ d, isDig b = true) (h2 : d ≠ []) (h3 : d.head? ≠ some 48) : ∃ m, 0 < m ∧ decDigits m = d := by
  have key : ∀ (r : List UInt8), (∀ b ∈ r, isDig b = true) → r ≠ [] → r.reverse.head? ≠ some 48 → ∃ m, 0 < m ∧ decDigits m = r.reverse := by
    intro r
    induction r with
    | nil => intro _ h; exact absurd rfl h
    | cons c r ih =>
      intro h1 _ h3
      have hc := (isDig_iff c).1 (h1 c List.mem_cons_self)
      have ec : UInt8.ofNat (48 + (c.toNat - 48)) = c := by
        have : 48 + (c.toNat - 48) = c.toNat := by omega
        rw [this]; simp
      by_cases hr : r = []
      · subst hr
        have hne : c ≠ 48 := by intro e; subst e; exact h3 rfl
        have hne2 : c.toNat ≠ 48 := fun e => hne (UInt8.toNat_inj.1 e)
        exact ⟨c.toNat - 48, by omega, by rw [dec_small (by omega), ec]; rfl⟩
      · rw [List.reverse_cons] at h3
        have h4 : r.reverse.head? ≠ some 48 := by
          intro e
          apply h3
          rw [List.head?_append, e]; rfl
        obtain ⟨m, hm, e⟩ := ih (fun b hb => h1 b (List.mem_cons_of_mem _ hb)) hr h4
        refine ⟨10 * m + (c.toNat - 48), by omega, ?_⟩
        rw [dec_big (by omega), List.reverse_cons, ← e]
        have e1 : (10 * m + (c.toNat - 48)) / 10 = m := by omega
        have e2 : (10 * m + (c.toNat - 48)) % 10 = c.toNat - 48 := by omega
        rw [e1, e2, ec]
  have := key d.reverse (fun b hb => h1 b (List.mem_reverse.1 hb)) (by simpa using h2) (by simpa using h3)
  simpa using this

theorem vld_elim {l : List UInt8} (h : vld l = true) : ∃ n : Int, l = itoa n ∧ n.natAbs < big := by
  have h0 := h
  unfold vld at h
  simp only [Bool.and_eq_true, Bool.not_eq_true', decide_eq_true_eq, Bool.or_eq_true, List.all_eq_true, beq_iff_eq] at h
  obtain ⟨⟨⟨h1, h2⟩, h3⟩, h4⟩ := h
  have hne : body l ≠ [] := by intro e; rw [e] at h1; simp at h1
  suffices ∃ n : Int, l = itoa n by
    obtain ⟨n, e⟩ := this
    refine ⟨n, e, ?_⟩
    rw [e, vld_itoa] at h0
    simpa using h0
  rcases h4 with h4 | h4
  · exact ⟨0, by rw [h4, itoa_zero]⟩
  · have h5 : (body l).head? ≠ some 48 := by simpa using h4
    obtain ⟨m, hm, e⟩ := dec_of_digits (body l) h3 hne h5
    cases l with
    | nil => exact absurd rfl hne
    | cons b r =>
      by_cases hb : b = 45
      · subst hb
        rw [body_dash] at e
        exact ⟨-(m : Int), by rw [itoa_neg (by omega), ← e]; congr 2; omega⟩
      · rw [body_plain hb] at e
        exact ⟨(m : Int), by rw [itoa_nat, e]⟩

theorem dropWhile_nil_iff {α : Type} (p : α → Bool) (l : List α) : l.dropWhile p = [] ↔ ∀ b ∈ l, p b = true := by
  induction l with
  | nil => simp
  | cons a l ih =>
    by_cases h : p a = true
    · simp [h, ih]
    · simp [h]

/-- Nothing is left by Trim just where every byte is in the cutset. -/
theorem trimS_nil (l cs : List UInt8) : trimS l cs = [] ↔ ∀ b ∈ l, cs.contains b = true := by
  unfold trimS trimLeftS
  rw [dropWhile_nil_iff]
  constructor
  · intro h
    have h1 : trimRightS l cs = [] := by
      cases hr : l.reverse.dropWhile (cs.contains ·) with
      | nil => unfold trimRightS; rw [hr]; rfl
      | cons c r =>
        exfalso
        have hc : cs.contains c = true := h c (by unfold trimRightS; rw [hr]; simp)
        have := List.head_dropWhile_not (cs.contains ·) (l := l.reverse) (by rw [hr]; simp)
        simp only [hr, List.head_cons] at this
        rw [hc] at this; cases this
    unfold trimRightS at h1
    rw [List.reverse_eq_nil_iff, dropWhile_nil_iff] at h1
    intro b hb
    exact h1 b (List.mem_reverse.2 hb)
  · intro h
    have h1 : trimRightS l cs = [] := by
      unfold trimRightS
      rw [List.reverse_eq_nil_iff, dropWhile_nil_iff]
      intro b hb; exact h b (List.mem_reverse.1 hb)
    rw [h1]; intro b hb; cases hb

def cut10 : List UInt8 := [48, 49, 50, 51, 52, 53, 54, 55, 56, 57]
theorem cut10_contains (b : UInt8) : cut10.contains b = isDig b := by
  have key : ∀ i : Fin 256, cut10.contains (UInt8.ofNat i.val) = isDig (UInt8.ofNat i.val) := by decide +kernel
  have := key ⟨b.toNat, b.toNat_lt⟩
  simpa using this

theorem trim_digits (l : List UInt8) : trimS l cut10 = [] ↔ l.all isDig = true := by
  rw [trimS_nil, List.all_eq_true]
  constructor
  · intro h b hb; rw [← cut10_contains]; exact h b hb
  · intro h b hb; rw [cut10_contains]; exact h b hb

/-- An integer as a string. -/
def str (n : Int) : ByteArray := ⟨(itoa n).toArray⟩
theorem str_list (n : Int) : (str n).data.toList = itoa n := rfl
theorem str_inj {a b : Int} (h : str a = str b) : a = b := itoa_inj (by rw [← str_list, h, str_list])

end Go.Proofs.YtppbhnhmaocdnaaGreatDoor
