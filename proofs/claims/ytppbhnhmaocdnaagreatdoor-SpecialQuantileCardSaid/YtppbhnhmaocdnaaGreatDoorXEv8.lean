/- SpecialBounds: what the kernel checks of each exp and each log. -/
import Derived.Test.YtppbhnhmaocdnaaGreatDoorB27
set_option linter.unusedVariables false
set_option linter.unusedSimpArgs false
namespace Go.Proofs.YtppbhnhmaocdnaaGreatDoor
open Go.RowKit Go.Shelf

/-- For all i < k. -/
noncomputable def allN (f : Nat → Bool) (k : Nat) : Bool := Nat.rec (motive := fun _ => Bool) true (fun i ih => Bool.rec (motive := fun _ => Bool) false ih (f i)) k
theorem allN_spec {f : Nat → Bool} {k : Nat} (h : allN f k = true) : ∀ i, i < k → f i = true := by
  induction k with
  | zero => intro i hi; exact absurd hi (Nat.not_lt_zero _)
  | succ k ih =>
    intro i hi
    change Bool.rec (motive := fun _ => Bool) false (allN f k) (f k) = true at h
    cases hf : f k with
    | false => rw [hf] at h; cases h
    | true =>
      rw [hf] at h
      rcases Nat.lt_or_ge i k with g | g
      · exact ih h i g
      · obtain rfl : i = k := by omega
        exact hf
/-- Both tests, the second only behind the first. -/
noncomputable def andB (a b : Bool) : Bool := Bool.rec (motive := fun _ => Bool) false b a
theorem andB_spec {a b : Bool} (h : andB a b = true) : a = true ∧ b = true := by
  cases a with
  | false => cases h
  | true => exact ⟨rfl, h⟩
noncomputable def ifB (c a b : Bool) : Bool := Bool.rec (motive := fun _ => Bool) b a c
theorem ifB_true (a b : Bool) : ifB true a b = a := rfl
theorem ifB_false (a b : Bool) : ifB false a b = b := rfl
theorem ifB_gcd {n d : Nat} {a : Bool} (h : ifB (Nat.beq (Nat.gcd n d) 1) a true = true) (hg : Nat.gcd n d = 1) : a = true := by
  rw [hg, show Nat.beq 1 1 = true from rfl, ifB_true] at h
  exact h

/-- The cell is one cell; and what else is asked of its ends. -/
noncomputable def cellB (a b : Nat) (f : Nat → Nat → Bool) : Bool :=
  andB (Nat.ble (cdN b (10 ^ 15)) (a / 10 ^ 15 + 1)) (f (a / 10 ^ 15) (cdN b (10 ^ 15)))
theorem cellB_spec {a b : Nat} {f : Nat → Nat → Bool} (h : cellB a b f = true) : cdN b (10 ^ 15) ≤ a / 10 ^ 15 + 1 ∧ f (a / 10 ^ 15) (cdN b (10 ^ 15)) = true := by
  obtain ⟨h1, h2⟩ := andB_spec h
  exact ⟨Nat.le_of_ble_eq_true h1, h2⟩

/-- exp at n / d and at -n / d. -/
noncomputable def chkE (d n : Nat) : Bool :=
  ck (nExp 25 (nOf 25 n d).1 (nOf 25 n d).2) fun a b =>
    andB (cellB a b fun _ U => Nat.ble ((d + n) * 10000000000) (U * d))
      (andB (Nat.ble 1 a)
        (cellB (nOver 25 (10 ^ 25, 10 ^ 25) (a, b)).1 (nOver 25 (10 ^ 25, 10 ^ 25) (a, b)).2 fun _ U => Nat.ble (d * 10000000000) (n * 10000000000 + U * d)))
theorem chkE_spec {d n : Nat} (h : chkE d n = true) : ∃ a b : Nat, nExp 25 (nOf 25 n d).1 (nOf 25 n d).2 = some (a, b) ∧ cdN b (10 ^ 15) ≤ a / 10 ^ 15 + 1 ∧ (d + n) * 10000000000 ≤ cdN b (10 ^ 15) * d ∧ 0 < a ∧
    cdN (nOver 25 (10 ^ 25, 10 ^ 25) (a, b)).2 (10 ^ 15) ≤ (nOver 25 (10 ^ 25, 10 ^ 25) (a, b)).1 / 10 ^ 15 + 1 ∧ d * 10000000000 ≤ n * 10000000000 + cdN (nOver 25 (10 ^ 25, 10 ^ 25) (a, b)).2 (10 ^ 15) * d := by
  obtain ⟨⟨a, b⟩, h1, h2⟩ := ck_spec h
  dsimp only at h2
  obtain ⟨h3, h4⟩ := andB_spec h2
  obtain ⟨h5, h6⟩ := andB_spec h4
  obtain ⟨c1, c2⟩ := cellB_spec h3
  obtain ⟨d1, d2⟩ := cellB_spec h6
  exact ⟨a, b, h1, c1, Nat.le_of_ble_eq_true c2, Nat.le_of_ble_eq_true h5, d1, Nat.le_of_ble_eq_true d2⟩
noncomputable def rowE (d : Nat) : Bool := allN (fun n => ifB (Nat.beq (Nat.gcd (n + 1) d) 1) (chkE d (n + 1)) true) (Nat.mul 19 d)
theorem rowE_spec {d : Nat} (h : rowE d = true) {n : Nat} (h0 : 0 < n) (h19 : n ≤ 19 * d) (hg : Nat.gcd n d = 1) : chkE d n = true := by
  have : ifB (Nat.beq (Nat.gcd (n - 1 + 1) d) 1) (chkE d (n - 1 + 1)) true = true := allN_spec h (n - 1) (by show n - 1 < 19 * d; omega)
  rw [show n - 1 + 1 = n by omega] at this
  exact ifB_gcd this hg

/-- log at n / d. -/
noncomputable def chkL (d n : Nat) : Bool :=
  ifB (Nat.beq n d) true
    (ifB (Nat.blt d n)
      (ck (nLog 25 n d 6931471805599453094172270 6931471805599453094172390) fun a b => cellB a b fun L _ => Nat.ble (L * d + d * 10000000000) (n * 10000000000))
      (ck (nLog 25 d n 6931471805599453094172270 6931471805599453094172390) fun a b => cellB a b fun _ U => Nat.ble (d * 10000000000) (U * d + n * 10000000000)))
theorem chkL_hi {d n : Nat} (h : chkL d n = true) (hn : d < n) : ∃ r : Nat × Nat, nLog 25 n d 6931471805599453094172270 6931471805599453094172390 = some r ∧ cdN r.2 (10 ^ 15) ≤ r.1 / 10 ^ 15 + 1 ∧ r.1 / 10 ^ 15 * d + d * 10000000000 ≤ n * 10000000000 := by
  unfold chkL at h
  have e1 : Nat.beq n d = false := by
    cases h : Nat.beq n d with
    | false => rfl
    | true => have := Nat.eq_of_beq_eq_true h; omega
  have e2 : Nat.blt d n = true := by simpa [Nat.blt_eq] using hn
  rw [e1, e2, ifB_false, ifB_true] at h
  obtain ⟨r, h1, h2⟩ := ck_spec h
  obtain ⟨c1, c2⟩ := cellB_spec h2
  exact ⟨r, h1, c1, Nat.le_of_ble_eq_true c2⟩
theorem chkL_lo {d n : Nat} (h : chkL d n = true) (hn : n < d) : ∃ r : Nat × Nat, nLog 25 d n 6931471805599453094172270 6931471805599453094172390 = some r ∧ cdN r.2 (10 ^ 15) ≤ r.1 / 10 ^ 15 + 1 ∧ d * 10000000000 ≤ cdN r.2 (10 ^ 15) * d + n * 10000000000 := by
  unfold chkL at h
  have e1 : Nat.beq n d = false := by
    cases h : Nat.beq n d with
    | false => rfl
    | true => have := Nat.eq_of_beq_eq_true h; omega
  have e2 : Nat.blt d n = false := by
    cases h : Nat.blt d n with
    | false => rfl
    | true => have : d < n := by simpa [Nat.blt_eq] using h
              omega
  rw [e1, e2, ifB_false, ifB_false] at h
  obtain ⟨r, h1, h2⟩ := ck_spec h
  obtain ⟨c1, c2⟩ := cellB_spec h2
  exact ⟨r, h1, c1, Nat.le_of_ble_eq_true c2⟩
noncomputable def rowL (d : Nat) : Bool := allN (fun n => ifB (Nat.beq (Nat.gcd (n + 1) d) 1) (chkL d (n + 1)) true) 999
theorem rowL_spec {d : Nat} (h : rowL d = true) {n : Nat} (h0 : 0 < n) (h9 : n ≤ 999) (hg : Nat.gcd n d = 1) : chkL d n = true := by
  have : ifB (Nat.beq (Nat.gcd (n - 1 + 1) d) 1) (chkL d (n - 1 + 1)) true = true := allN_spec h (n - 1) (by omega)
  rw [show n - 1 + 1 = n by omega] at this
  exact ifB_gcd this hg
theorem th25 : Third 25 6931471805599453094172270 6931471805599453094172390 := by unfold Third; decide +kernel
end Go.Proofs.YtppbhnhmaocdnaaGreatDoor
