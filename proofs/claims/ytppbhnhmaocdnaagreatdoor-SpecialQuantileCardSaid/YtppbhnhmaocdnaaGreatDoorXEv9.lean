/- SpecialQuantile: what the kernel checks of each probability. -/
import Derived.Test.YtppbhnhmaocdnaaGreatDoorXEv8
set_option linter.unusedVariables false
set_option linter.unusedSimpArgs false
namespace Go.Proofs.YtppbhnhmaocdnaaGreatDoor
open Go.RowKit Go.Shelf

def ob2 (x : Option (Nat × Nat)) (f : Nat → Nat → Option (Nat × Nat)) : Option (Nat × Nat) :=
  match x with
  | none => none
  | some (a, b) => f a b
theorem ob2_spec {x : Option (Nat × Nat)} {f : Nat → Nat → Option (Nat × Nat)} {r : Nat × Nat} (h : ob2 x f = some r) : ∃ a b, x = some (a, b) ∧ f a b = some r := by
  cases x with
  | none => cases h
  | some q => exact ⟨q.1, q.2, rfl, h⟩
noncomputable def ifO (c : Bool) (a b : Option (Nat × Nat)) : Option (Nat × Nat) := Bool.rec (motive := fun _ => Option (Nat × Nat)) b a c
theorem ifO_spec {c : Bool} {a b : Option (Nat × Nat)} {r : Nat × Nat} (h : ifO c a b = some r) : (c = true ∧ a = some r) ∨ (c = false ∧ b = some r) := by
  cases c with
  | false => exact .inr ⟨rfl, h⟩
  | true => exact .inl ⟨rfl, h⟩
theorem some_inj' {r : Nat × Nat} {a b : Nat} (h : some (a, b) = some r) : r = (a, b) := by injection h with h; exact h.symm
/-- N at (m' - 5 T) / T, with ten places. hf is 10^25 / 2, fv is 10^10 / 2. -/
noncomputable def nN10 (T r1 r2 hf fv m' : Nat) : Option (Nat × Nat) :=
  ifO (Nat.beq m' (5 * T)) (some (fv, fv))
    (ifO (Nat.ble (5 * T) m')
      (ob2 (nHalf 25 ((m' - 5 * T) / Nat.gcd (m' - 5 * T) T) (T / Nat.gcd (m' - 5 * T) T) r1 r2) fun a b => ifO (Nat.ble (cdN (hf + b) (10 ^ 15)) ((hf + a) / 10 ^ 15 + 1)) (some ((hf + a) / 10 ^ 15, cdN (hf + b) (10 ^ 15))) none)
      (ob2 (nHalf 25 ((5 * T - m') / Nat.gcd (5 * T - m') T) (T / Nat.gcd (5 * T - m') T) r1 r2) fun a b => ifO (andB (Nat.ble (cdN b (10 ^ 15)) (a / 10 ^ 15 + 1)) (Nat.ble (cdN b (10 ^ 15)) fv)) (some (fv - cdN b (10 ^ 15), fv - a / 10 ^ 15)) none))
theorem nN10_spec {T r1 r2 hf fv m' L U : Nat} (hT : 0 < T) (hT2 : 10 * T < 10 ^ 12) (hm : m' ≤ 10 * T) (hrt : RtPi (10 + 15) r1 r2) (hh : 10 ^ (10 + 15) / 2 = hf) (hfv : 10 ^ 10 / 2 = fv) (h : nN10 T r1 r2 hf fv m' = some (L, U)) (W : World) (hW : TabOf W) :
    Calls Tryz.prog 20 #[NV (rnum ((m' : Int) - 5 * (T : Int)) (T : Int), rden ((m' : Int) - 5 * (T : Int)) (T : Int)), .int .i64 10] W (GPost 10 (L : Int) (U : Int) W) := by
  unfold nN10 at h
  rcases ifO_spec h with ⟨hc, h⟩ | ⟨hc, h⟩
  · have e := Nat.eq_of_beq_eq_true hc
    have e2 := some_inj' h
    have eL : L = fv := congrArg Prod.fst e2
    have eU : U = fv := congrArg Prod.snd e2
    rw [eL, eU]
    have hz : (m' : Int) - 5 * (T : Int) = 0 := by omega
    rw [hz]
    have z1 : rnum 0 (T : Int) = 0 := by unfold rnum; split <;> simp
    have z2 : rden 0 (T : Int) = 1 := by unfold rden; rw [if_neg (by omega)]; simp; exact Int.ediv_self (by omega)
    rw [z1, z2]
    have := Normal_at 10 W (by omega) (by decide +kernel) ⟨⟨isQ_h, isQ_h, by decide⟩, by decide, by decide +kernel, by decide +kernel, by decide +kernel⟩ hW
    have hv : fv = 5000000000 := by rw [← hfv]
    rw [hv]
    have e1 : gnum false 1 2 10 = (gC 10 (5000000000 : Nat)).1 := by decide +kernel
    have e2 : gden false 1 2 10 = (gC 10 (5000000000 : Nat)).2 := by decide +kernel
    have e3 : gnum true 1 2 10 = (gC 10 (5000000000 : Nat)).1 := by decide +kernel
    have e4 : gden true 1 2 10 = (gC 10 (5000000000 : Nat)).2 := by decide +kernel
    unfold AtPost at this
    dsimp only at this
    rw [e1, e2, e3, e4] at this
    exact this
  · have hne : m' ≠ 5 * T := fun g => by rw [g] at hc; rw [show Nat.beq (5 * T) (5 * T) = true from Nat.beq_refl _] at hc; cases hc
    rcases ifO_spec h with ⟨hd, h⟩ | ⟨hd, h⟩
    · have hle : 5 * T ≤ m' := Nat.le_of_ble_eq_true hd
      obtain ⟨a, b, hN, hk⟩ := ob2_spec h
      clear h
      have e : (m' : Int) - 5 * (T : Int) = ((m' - 5 * T : Nat) : Int) := by omega
      rw [e, rnum_nat, rden_nat]
      have hx : Red ((m' - 5 * T) / Nat.gcd (m' - 5 * T) T) (T / Nat.gcd (m' - 5 * T) T) := red_div hT (by omega) (by omega)
      have hg := Nat.gcd_pos_of_pos_right (m' - 5 * T) hT
      have e1 := Nat.div_mul_cancel (Nat.gcd_dvd_left (m' - 5 * T) T)
      have e2 := Nat.div_mul_cancel (Nat.gcd_dvd_right (m' - 5 * T) T)
      have h8 : (m' - 5 * T) / Nat.gcd (m' - 5 * T) T < 8 * (T / Nat.gcd (m' - 5 * T) T) := by
        refine Nat.lt_of_mul_lt_mul_right (a := Nat.gcd (m' - 5 * T) T) ?_
        rw [e1, Nat.mul_assoc, e2]; omega
      have h0 : 0 < (m' - 5 * T) / Nat.gcd (m' - 5 * T) T := Nat.div_pos (Nat.le_of_dvd (by omega) (Nat.gcd_dvd_left _ _)) hg
      clear e1 e2
      generalize (m' - 5 * T) / Nat.gcd (m' - 5 * T) T = n at *
      generalize T / Nat.gcd (m' - 5 * T) T = d at *
      rcases ifO_spec hk with ⟨hw, hk⟩ | ⟨_, hk⟩
      · have e2 := some_inj' hk
        have eL : L = (hf + a) / 10 ^ 15 := congrArg Prod.fst e2
        have eU : U = cdN (hf + b) (10 ^ 15) := congrArg Prod.snd e2
        rw [eL, eU, ← hh]
        exact Norm_pos (p := 10) (by omega) hx h0 h8 hrt hN (by dsimp only; rw [hh]; exact Nat.le_of_ble_eq_true hw) W hW
      · cases hk
    · have hlt : m' < 5 * T := by
        rcases Nat.lt_or_ge m' (5 * T) with g | g
        · exact g
        · rw [show Nat.ble (5 * T) m' = true from Nat.ble_eq_true_of_le g] at hd; cases hd
      obtain ⟨a, b, hN, hk⟩ := ob2_spec h
      clear h
      have e : (m' : Int) - 5 * (T : Int) = -((5 * T - m' : Nat) : Int) := by omega
      rw [e, rnum_neg, rden_neg]
      have hx : Red ((5 * T - m') / Nat.gcd (5 * T - m') T) (T / Nat.gcd (5 * T - m') T) := red_div hT (by omega) (by omega)
      have hg := Nat.gcd_pos_of_pos_right (5 * T - m') hT
      have e1 := Nat.div_mul_cancel (Nat.gcd_dvd_left (5 * T - m') T)
      have e2 := Nat.div_mul_cancel (Nat.gcd_dvd_right (5 * T - m') T)
      have h8 : (5 * T - m') / Nat.gcd (5 * T - m') T < 8 * (T / Nat.gcd (5 * T - m') T) := by
        refine Nat.lt_of_mul_lt_mul_right (a := Nat.gcd (5 * T - m') T) ?_
        rw [e1, Nat.mul_assoc, e2]; omega
      have h0 : 0 < (5 * T - m') / Nat.gcd (5 * T - m') T := Nat.div_pos (Nat.le_of_dvd (by omega) (Nat.gcd_dvd_left _ _)) hg
      clear e1 e2
      generalize (5 * T - m') / Nat.gcd (5 * T - m') T = n at *
      generalize T / Nat.gcd (5 * T - m') T = d at *
      rcases ifO_spec hk with ⟨hw, hk⟩ | ⟨_, hk⟩
      · obtain ⟨hw1, hw2⟩ := andB_spec hw
        have hw1' := Nat.le_of_ble_eq_true hw1
        have hw2' := Nat.le_of_ble_eq_true hw2
        have e2 := some_inj' hk
        have eL : L = fv - cdN b (10 ^ 15) := congrArg Prod.fst e2
        have eU : U = fv - a / 10 ^ 15 := congrArg Prod.snd e2
        have := Norm_neg (p := 10) (by omega) (by omega) hx h0 h8 hrt hN hw1' W hW
        obtain ⟨_, _, _, _, _, q3, _⟩ := norm_neg (k := 10 + 15) (by omega) (by omega) hx.pos h0 hx.n40 hx.d40 (Nat.le_of_lt h8) hrt hN
        have hab : a / 10 ^ 15 ≤ cdN b (10 ^ 15) := div_le_cdN _ q3
        rw [hfv] at this
        dsimp only at this
        generalize cdN b (10 ^ 15) = cb at *
        generalize a / 10 ^ 15 = ca at *
        rw [eL, eU, Int.ofNat_sub hw2', Int.ofNat_sub (Nat.le_trans hab hw2')]
        exact this
      · cases hk

/-- The quantile of n / 1000: its cell [lo, lo + 1] / T (moved by 5 T); the one of 1 - n / 1000 is its mirror; N at the ends. -/
noncomputable def chkQ (T s1 s2 h15 r1 r2 hf fv n : Nat) : Bool :=
  ck (quL T (nOf 15 (n / Nat.gcd n 1000) (1000 / Nat.gcd n 1000)).1 (nOf 15 (n / Nat.gcd n 1000) (1000 / Nat.gcd n 1000)).2 s1 s2 h15 60 0 (10 * T)) fun lo hi =>
    andB (Nat.beq hi (lo + 1)) (andB (Nat.ble hi (10 * T))
      (andB (ck (quL T (nOf 15 ((1000 - n) / Nat.gcd (1000 - n) 1000) (1000 / Nat.gcd (1000 - n) 1000)).1 (nOf 15 ((1000 - n) / Nat.gcd (1000 - n) 1000) (1000 / Nat.gcd (1000 - n) 1000)).2 s1 s2 h15 60 0 (10 * T)) fun lo' hi' => andB (Nat.beq (lo' + hi) (10 * T)) (Nat.beq (hi' + lo) (10 * T)))
        (andB (ck (nN10 T r1 r2 hf fv lo) fun L _ => Nat.ble (L * 1000) (n * 10000000000)) (ck (nN10 T r1 r2 hf fv hi) fun _ U => andB (Nat.ble (n * 10000000000) (U * 1000)) (Nat.ble U 10000000000)))))
theorem chkQ_spec {T s1 s2 h15 r1 r2 hf fv n : Nat} (h : chkQ T s1 s2 h15 r1 r2 hf fv n = true) : ∃ lo : Nat,
    quL T (nOf 15 (n / Nat.gcd n 1000) (1000 / Nat.gcd n 1000)).1 (nOf 15 (n / Nat.gcd n 1000) (1000 / Nat.gcd n 1000)).2 s1 s2 h15 60 0 (10 * T) = some (lo, lo + 1) ∧ lo + 1 ≤ 10 * T ∧
    (∃ lo' hi' : Nat, quL T (nOf 15 ((1000 - n) / Nat.gcd (1000 - n) 1000) (1000 / Nat.gcd (1000 - n) 1000)).1 (nOf 15 ((1000 - n) / Nat.gcd (1000 - n) 1000) (1000 / Nat.gcd (1000 - n) 1000)).2 s1 s2 h15 60 0 (10 * T) = some (lo', hi') ∧ lo' + (lo + 1) = 10 * T ∧ hi' + lo = 10 * T) ∧
    (∃ L U : Nat, nN10 T r1 r2 hf fv lo = some (L, U) ∧ L * 1000 ≤ n * 10000000000) ∧ (∃ L U : Nat, nN10 T r1 r2 hf fv (lo + 1) = some (L, U) ∧ n * 10000000000 ≤ U * 1000 ∧ U ≤ 10000000000) := by
  obtain ⟨⟨lo, hi⟩, h1, h2⟩ := ck_spec h
  dsimp only at h2
  obtain ⟨h3, h4⟩ := andB_spec h2
  obtain rfl : hi = lo + 1 := Nat.eq_of_beq_eq_true h3
  obtain ⟨h5, h6⟩ := andB_spec h4
  obtain ⟨h7, h8⟩ := andB_spec h6
  obtain ⟨⟨lo', hi'⟩, g1, g2⟩ := ck_spec h7
  dsimp only at g2
  obtain ⟨g3, g4⟩ := andB_spec g2
  obtain ⟨h9, h10⟩ := andB_spec h8
  obtain ⟨⟨L1, U1⟩, k1, k2⟩ := ck_spec h9
  obtain ⟨⟨L2, U2⟩, k3, k4⟩ := ck_spec h10
  dsimp only at k2 k4
  obtain ⟨k5, k6⟩ := andB_spec k4
  exact ⟨lo, h1, Nat.le_of_ble_eq_true h5, ⟨lo', hi', g1, Nat.eq_of_beq_eq_true g3, Nat.eq_of_beq_eq_true g4⟩, ⟨L1, U1, k1, Nat.le_of_ble_eq_true k2⟩, ⟨L2, U2, k3, Nat.le_of_ble_eq_true k5, Nat.le_of_ble_eq_true k6⟩⟩
/-- A hundred probabilities from 100 c on, one half left out. -/
noncomputable def rowQ (T c : Nat) : Bool := allN (fun i => ifB (Nat.beq (100 * c + i) 500) true (ifB (Nat.beq (100 * c + i) 0) true (chkQ T 2506628274631000 2506628274631000 500000000000000 25066282746310005024157652 25066282746310005024157652 5000000000000000000000000 5000000000 (100 * c + i)))) 100
theorem ifB_skip {c a : Bool} (h : ifB c true a = true) (hc : c = false) : a = true := by rw [hc, ifB_false] at h; exact h
theorem rowQ_spec {T c : Nat} (h : rowQ T c = true) {n : Nat} (hn : n / 100 = c) (h0 : n ≠ 0) (h5 : n ≠ 500) : chkQ T 2506628274631000 2506628274631000 500000000000000 25066282746310005024157652 25066282746310005024157652 5000000000000000000000000 5000000000 n = true := by
  have := allN_spec h (n % 100) (Nat.mod_lt _ (by omega))
  have e : 100 * c + n % 100 = n := by omega
  rw [e] at this
  have f1 : Nat.beq n 500 = false := by
    cases g : Nat.beq n 500 with
    | false => rfl
    | true => exact absurd (Nat.eq_of_beq_eq_true g) h5
  have f2 : Nat.beq n 0 = false := by
    cases g : Nat.beq n 0 with
    | false => rfl
    | true => exact absurd (Nat.eq_of_beq_eq_true g) h0
  exact ifB_skip (ifB_skip this f1) f2
theorem rt25 : RtPi (10 + 15) 25066282746310005024157652 25066282746310005024157652 := ⟨by decide +kernel, by decide +kernel⟩
theorem h25 : 10 ^ (10 + 15) / 2 = 5000000000000000000000000 := by decide +kernel
theorem h10 : 10 ^ 10 / 2 = 5000000000 := by decide +kernel
end Go.Proofs.YtppbhnhmaocdnaaGreatDoor
