/- Fractions with denominators up to 50, in their order: a function's cells grow. -/
import Derived.Test.YtppbhnhmaocdnaaGreatDoorXEv10
set_option linter.unusedVariables false
set_option linter.unusedSimpArgs false
namespace Go.Proofs.YtppbhnhmaocdnaaGreatDoor
open Go.RowKit Go.Shelf

theorem farey_gap {a b c d n e : Nat} (nb : b * c = a * d + 1) (s : 50 < b + d) (he : e ≤ 50) (h1 : a * e < n * b) (h2 : n * d < c * e) : False := by
  obtain ⟨u, hu⟩ : ∃ u, n * b = a * e + 1 + u := ⟨n * b - a * e - 1, by omega⟩
  obtain ⟨v, hv⟩ : ∃ v, c * e = n * d + 1 + v := ⟨c * e - n * d - 1, by omega⟩
  have h3 : e * (b * c) = e * (a * d) + e := by rw [nb]; grind
  have h4 : b * (c * e) = b * (n * d) + b + b * v := by rw [hv]; grind
  have h5 : d * (n * b) = d * (a * e) + d + d * u := by rw [hu]; grind
  have h6 : b * (c * e) = e * (b * c) := by grind
  have h7 : b * (n * d) = d * (n * b) := by grind
  have h8 : d * (a * e) = e * (a * d) := by grind
  have h9 : 0 ≤ b * v := Nat.zero_le _
  have h10 : 0 ≤ d * u := Nat.zero_le _
  omega
theorem frac_eq {n e c d : Nat} (hd : 0 < d) (g1 : Nat.gcd n e = 1) (g2 : Nat.gcd c d = 1) (h : n * d = c * e) : n = c ∧ e = d := by
  have d1 : e ∣ d := by
    have : e ∣ n * d := ⟨c, by rw [h, Nat.mul_comm]⟩
    exact Nat.Coprime.dvd_of_dvd_mul_left (k := e) (m := n) (n := d) (by rw [Nat.Coprime, Nat.gcd_comm]; exact g1) this
  have d2 : d ∣ e := by
    have : d ∣ c * e := ⟨n, by rw [← h, Nat.mul_comm]⟩
    exact Nat.Coprime.dvd_of_dvd_mul_left (k := d) (m := c) (n := e) (by rw [Nat.Coprime, Nat.gcd_comm]; exact g2) this
  have e1 := Nat.dvd_antisymm d1 d2
  subst e1
  exact ⟨Nat.eq_of_mul_eq_mul_right hd h, rfl⟩
structure Fr (n e : Nat) : Prop where
  n0 : 0 < n
  e0 : 0 < e
  e5 : e ≤ 50
  g : Nat.gcd n e = 1
structure FInv (V : Nat → Nat → Option (Nat × Nat)) (fv a b c d lo hi : Nat) : Prop where
  nb : b * c = a * d + 1
  b0 : 0 < b
  b5 : b ≤ 50
  d0 : 0 < d
  d5 : d ≤ 50
  s : 50 < b + d
  all : ∀ n e, Fr n e → n * b ≤ a * e → ∃ l h, V n e = some (l, h) ∧ l ≤ lo ∧ h ≤ hi ∧ h ≤ fv ∧ l + 1 ≤ fv
  mono : ∀ n e n' e', Fr n e → Fr n' e' → n * e' < n' * e → n' * b ≤ a * e' → ∀ l h l' h', V n e = some (l, h) → V n' e' = some (l', h') → l ≤ l' ∧ h ≤ h'
theorem FInv.start (V : Nat → Nat → Option (Nat × Nat)) (fv : Nat) : FInv V fv 0 1 1 50 0 0 :=
  ⟨by decide, by decide, by decide, by decide, by decide, by decide, fun n e h h1 => by have := h.n0; omega, fun n e n' e' _ h' _ h2 => by have := h'.n0; omega⟩
theorem FInv.cases {V : Nat → Nat → Option (Nat × Nat)} {fv a b c d lo hi n e : Nat} (h : FInv V fv a b c d lo hi) (hf : Fr n e) (hle : n * d ≤ c * e) : n * b ≤ a * e ∨ (n = c ∧ e = d) := by
  rcases Nat.lt_or_ge (a * e) (n * b) with g | g
  · rcases Nat.lt_or_ge (n * d) (c * e) with k | k
    · exact (farey_gap h.nb h.s hf.e5 g k).elim
    · have hcd : Nat.gcd c d = 1 := by
        have h1 := Nat.gcd_dvd_left c d
        have h2 := Nat.gcd_dvd_right c d
        have h3 : Nat.gcd c d ∣ b * c := Nat.dvd_trans h1 (Nat.dvd_mul_left c b)
        have h4 : Nat.gcd c d ∣ a * d := Nat.dvd_trans h2 (Nat.dvd_mul_left d a)
        rw [h.nb] at h3
        exact Nat.dvd_one.1 ((Nat.dvd_add_right h4).1 h3)
      exact .inr (frac_eq h.d0 hf.g hcd (by omega))
  · exact .inl g
theorem FInv.step {V : Nat → Nat → Option (Nat × Nat)} {fv a b c d lo hi l h k : Nat} (I : FInv V fv a b c d lo hi) (hV : V c d = some (l, h)) (h1 : lo ≤ l) (h2 : hi ≤ h) (h3 : h ≤ fv) (h4 : l + 1 ≤ fv) (hk : k = (50 + b) / d) :
    FInv V fv c d (k * c - a) (k * d - b) l h := by
  have k1 : k * d ≤ 50 + b := by rw [hk]; exact Nat.div_mul_le_self _ _
  have k2 : 50 + b < k * d + d := by rw [hk]; exact Nat.lt_div_mul_add I.d0
  have hb := I.b0
  have hd := I.d0
  have hd5 := I.d5
  have hkd : b < k * d := by omega
  have hac : a * d < b * c := by have := I.nb; omega
  -- a < k c
  have hka : a < k * c := by
    refine Nat.lt_of_mul_lt_mul_right (a := d) ?_
    have h5 : b * c ≤ k * d * c := Nat.mul_le_mul_right c (Nat.le_of_lt hkd)
    have h6 : k * d * c = k * c * d := by grind
    omega
  refine ⟨?_, hd, hd5, by omega, by omega, by omega, ?_, ?_⟩
  · obtain ⟨u, hu⟩ : ∃ u, k * c = a + u := ⟨k * c - a, by omega⟩
    obtain ⟨v, hv⟩ : ∃ v, k * d = b + v := ⟨k * d - b, by omega⟩
    have e1 : k * c - a = u := by omega
    have e2 : k * d - b = v := by omega
    rw [e1, e2]
    have e3 : d * (k * c) = c * (k * d) := by grind
    rw [hu, hv] at e3
    have e4 : d * (a + u) = a * d + d * u := by grind
    have e5 : c * (b + v) = b * c + c * v := by grind
    have := I.nb
    omega
  · intro n e hf hle
    rcases I.cases hf hle with g | ⟨rfl, rfl⟩
    · obtain ⟨l', h', q1, q2, q3, q4, q5⟩ := I.all n e hf g
      exact ⟨l', h', q1, by omega, by omega, q4, q5⟩
    · exact ⟨l, h, hV, Nat.le_refl _, Nat.le_refl _, h3, h4⟩
  · intro n e n' e' hf hf' hlt hle l1 g1 l2 g2 v1 v2
    rcases I.cases hf' hle with g | ⟨rfl, rfl⟩
    · exact I.mono n e n' e' hf hf' hlt g l1 g1 l2 g2 v1 v2
    · rw [hV] at v2
      have e2 := some_inj' v2
      have el : l2 = l := congrArg Prod.fst e2
      have eh : g2 = h := congrArg Prod.snd e2
      -- n / e is not n' / e', so it lies up to a / b
      rcases I.cases hf (Nat.le_of_lt hlt) with g | ⟨rfl, rfl⟩
      · obtain ⟨l', h', q1, q2, q3, _⟩ := I.all n e hf g
        rw [v1] at q1
        have e3 := some_inj' q1
        have el' : l' = l1 := congrArg Prod.fst e3
        have eh' : h' = g1 := congrArg Prod.snd e3
        omega
      · exact absurd hlt (Nat.lt_irrefl _)
noncomputable def fRun (V : Nat → Nat → Option (Nat × Nat)) (fv : Nat) (fin : Nat → Nat → Nat → Nat → Nat → Nat → Bool) (m : Nat) : Nat → Nat → Nat → Nat → Nat → Nat → Bool :=
  Nat.rec (motive := fun _ => Nat → Nat → Nat → Nat → Nat → Nat → Bool) fin
    (fun _ ih a b c d lo hi => ck (V c d) fun l h => andB (Nat.ble lo l) (andB (Nat.ble hi h) (andB (Nat.ble h fv) (andB (Nat.ble (l + 1) fv) (ih c d ((50 + b) / d * c - a) ((50 + b) / d * d - b) l h))))) m
noncomputable def fFin (a' b' c' d' lo' hi' a b c d lo hi : Nat) : Bool := andB (Nat.beq a a') (andB (Nat.beq b b') (andB (Nat.beq c c') (andB (Nat.beq d d') (andB (Nat.beq lo lo') (Nat.beq hi hi')))))
theorem fRun_spec {V : Nat → Nat → Option (Nat × Nat)} {fv a' b' c' d' lo' hi' : Nat} : ∀ (m a b c d lo hi : Nat), fRun V fv (fFin a' b' c' d' lo' hi') m a b c d lo hi = true → FInv V fv a b c d lo hi → FInv V fv a' b' c' d' lo' hi' := by
  intro m
  induction m with
  | zero =>
    intro a b c d lo hi h I
    change fFin a' b' c' d' lo' hi' a b c d lo hi = true at h
    unfold fFin at h
    obtain ⟨h1, h⟩ := andB_spec h
    obtain ⟨h2, h⟩ := andB_spec h
    obtain ⟨h3, h⟩ := andB_spec h
    obtain ⟨h4, h⟩ := andB_spec h
    obtain ⟨h5, h6⟩ := andB_spec h
    rw [← Nat.eq_of_beq_eq_true h1, ← Nat.eq_of_beq_eq_true h2, ← Nat.eq_of_beq_eq_true h3, ← Nat.eq_of_beq_eq_true h4, ← Nat.eq_of_beq_eq_true h5, ← Nat.eq_of_beq_eq_true h6]
    exact I
  | succ m ih =>
    intro a b c d lo hi h I
    change ck (V c d) (fun l h => andB (Nat.ble lo l) (andB (Nat.ble hi h) (andB (Nat.ble h fv) (andB (Nat.ble (l + 1) fv) (fRun V fv (fFin a' b' c' d' lo' hi') m c d ((50 + b) / d * c - a) ((50 + b) / d * d - b) l h))))) = true at h
    obtain ⟨⟨l, u⟩, h1, h2⟩ := ck_spec h
    dsimp only at h2
    obtain ⟨q1, h2⟩ := andB_spec h2
    obtain ⟨q2, h2⟩ := andB_spec h2
    obtain ⟨q3, h2⟩ := andB_spec h2
    obtain ⟨q4, h2⟩ := andB_spec h2
    exact ih _ _ _ _ _ _ h2 (I.step h1 (Nat.le_of_ble_eq_true q1) (Nat.le_of_ble_eq_true q2) (Nat.le_of_ble_eq_true q3) (Nat.le_of_ble_eq_true q4) rfl)
end Go.Proofs.YtppbhnhmaocdnaaGreatDoor
