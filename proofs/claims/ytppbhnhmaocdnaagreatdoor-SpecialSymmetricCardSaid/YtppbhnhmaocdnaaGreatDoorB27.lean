/- Walks and lemmas: tail, computed. The exported functions at arguments whose bounds were computed. isUnder and Quantile, computed. law06: sane holds. Boxes that are kept through a walk. -/
import Derived.Test.YtppbhnhmaocdnaaGreatDoorB26
set_option linter.unusedVariables false
set_option linter.unusedSimpArgs false
namespace Go.Proofs.YtppbhnhmaocdnaaGreatDoor

def tlP : Nat → Nat
  | 0 => 1
  | i + 1 => cdN (100 * tlP i) (2 * i + 3)
def tlPs : Nat → Bool
  | 0 => true
  | i + 1 => tlPs i && Nat.ble (tlP i) (10 ^ 25)
theorem tlPs_le {n : Nat} (h : tlPs n = true) {i : Nat} (hi : i < n) : tlP i ≤ 10 ^ 25 := by
  induction n with
  | zero => omega
  | succ n ih =>
    unfold tlPs at h
    rw [Bool.and_eq_true] at h
    rcases Nat.lt_or_ge i n with g | g
    · exact ih h.1 g
    · obtain rfl : i = n := by omega
      exact Nat.le_of_ble_eq_true h.2
theorem tlP_le (i : Nat) : tlP i ≤ 10 ^ 25 := by
  have h0 : tlPs 52 = true := by decide +kernel
  have h : ∀ j, tlP (51 + j) ≤ 10 ^ 25 := fun j => by
    induction j with
    | zero => exact tlPs_le h0 (by omega)
    | succ j ih =>
      refine Nat.le_trans ?_ ih
      show cdN (100 * tlP (51 + j)) (2 * (51 + j) + 3) ≤ tlP (51 + j)
      refine (cdN_le (by omega)).2 ?_
      rw [Nat.mul_comm]
      exact Nat.mul_le_mul_left _ (by omega)
  rcases Nat.lt_or_ge i 52 with g | g
  · exact tlPs_le h0 g
  · have := h (i - 51); rw [show 51 + (i - 51) = i by omega] at this; exact this
theorem cdN_mul {a c d : Nat} (hd : 0 < d) : cdN (a * c) d ≤ cdN a d * c := by
  refine (cdN_le hd).2 ?_
  rw [Nat.mul_right_comm]
  exact Nat.mul_le_mul_right _ (cdN_ge hd)
theorem cdN_anti {a d e : Nat} (hd : 0 < d) (h : d ≤ e) : cdN a e ≤ cdN a d := (cdN_le (by omega)).2 (Nat.le_trans (cdN_ge hd) (Nat.mul_le_mul_left _ h))
def tlD (f i : Nat) : Nat := Nat.add f (Nat.mul 2 (Nat.succ i))
theorem tail_bd {k f : Nat} {y : Nat × Nat} (hf : 1 ≤ f) (hy : y.2 ≤ 50 * 10 ^ k) (i : Nat) : (serT k y (fun _ => 2) (tlD f) (10 ^ k, 10 ^ k) i).2 ≤ tlP i * 10 ^ k := by
  induction i with
  | zero => show 10 ^ k ≤ 1 * 10 ^ k; omega
  | succ i ih =>
    show (nBy (nTimes k (serT k y (fun _ => 2) (tlD f) (10 ^ k, 10 ^ k) i) y) 2 (tlD f i)).2 ≤ cdN (100 * tlP i) (2 * i + 3) * 10 ^ k
    generalize serT k y (fun _ => 2) (tlD f) (10 ^ k, 10 ^ k) i = a at *
    have h1 := nTimes_mul (k := k) (a := a) hy
    have h2 : (nTimes k a y).2 * 2 ≤ 100 * tlP i * 10 ^ k := by
      have := Nat.mul_le_mul_left 100 ih
      rw [← Nat.mul_assoc] at this
      omega
    have hd : 2 * i + 3 ≤ tlD f i := by show 2 * i + 3 ≤ f + 2 * (i + 1); omega
    exact Nat.le_trans (cdN_mono _ h2) (Nat.le_trans (cdN_anti (by omega) hd) (cdN_mul (by omega)))

noncomputable def newt (N : Nat) (fuel : Nat) : Nat → Nat :=
  Nat.rec (motive := fun _ => Nat → Nat) (fun s => s) (fun _ ih s => Bool.rec (motive := fun _ => Nat) s (ih (Nat.div (Nat.add s (Nat.div N s)) 2)) (Nat.blt (Nat.div (Nat.add s (Nat.div N s)) 2) s)) fuel
noncomputable def nSqrt (N : Nat) : Nat := newt N 30 (Nat.pow 2 (Nat.succ (Nat.div (Nat.log2 N) 2)))

def nAB (k : Nat) (y : Nat × Nat) (f : Nat) (ab : Nat × Nat) : Nat → Nat × Nat
  | 0 => ab
  | j + 1 => if 1 < f - 2 * j then nTimes k (nAB k y f ab j) y else nAB k y f ab j
def nBE (f : Nat) (be : Nat × Nat) : Nat → Nat × Nat
  | 0 => be
  | j + 1 => nBy (nBE f be j) (f - 2 * j) 2
theorem ab_cast {k f : Nat} {y ab : Nat × Nat} {J : Nat} (hJ : 2 * J < f + 2) : ∀ j, j ≤ J → tlAB k (ip y) (f : Int) (ip ab) j = ip (nAB k y f ab j) := by
  intro j
  induction j with
  | zero => intro _; rfl
  | succ j ih =>
    intro hj
    show (if 1 < (f : Int) - 2 * (j : Int) then pTimes k (tlAB k (ip y) f (ip ab) j) (ip y) else tlAB k (ip y) f (ip ab) j) = ip (if 1 < f - 2 * j then nTimes k (nAB k y f ab j) y else nAB k y f ab j)
    rw [ih (by omega), pTimes_ip]
    by_cases h : 1 < f - 2 * j
    · rw [if_pos h, if_pos (by omega)]
    · rw [if_neg h, if_neg (by omega)]
theorem be_cast {f : Nat} {be : Nat × Nat} {J : Nat} (hJ : 2 * J < f + 2) : ∀ j, j ≤ J → tlBE (f : Int) (ip be) j = ip (nBE f be j) := by
  intro j
  induction j with
  | zero => intro _; rfl
  | succ j ih =>
    intro hj
    show pBy (tlBE (f : Int) (ip be) j) ((f : Int) - 2 * (j : Int)) 2 = ip (nBy (nBE f be j) (f - 2 * j) 2)
    rw [ih (by omega), show (f : Int) - 2 * (j : Int) = ((f - 2 * j : Nat) : Int) by omega]
    exact pBy_ip _ _ 2 (by omega)
theorem ab_lo {k f : Nat} {y ab : Nat × Nat} (h : ab.1 ≤ ab.2) (hy : y.1 ≤ y.2) (j : Nat) : (nAB k y f ab j).1 ≤ (nAB k y f ab j).2 := by
  induction j with
  | zero => exact h
  | succ j ih =>
    show (if 1 < f - 2 * j then nTimes k (nAB k y f ab j) y else nAB k y f ab j).1 ≤ (if 1 < f - 2 * j then nTimes k (nAB k y f ab j) y else nAB k y f ab j).2
    split
    · exact nTimes_le k ih hy
    · exact ih
theorem be_lo {f : Nat} {be : Nat × Nat} (h : be.1 ≤ be.2) (j : Nat) : (nBE f be j).1 ≤ (nBE f be j).2 := by
  induction j with
  | zero => exact h
  | succ j ih => exact nBy_le ih _ 2
theorem ab_bd {k f : Nat} {y ab : Nat × Nat} (hy : y.2 ≤ 50 * 10 ^ k) (j : Nat) : (nAB k y f ab j).2 ≤ 50 ^ j * ab.2 := by
  induction j with
  | zero => show ab.2 ≤ _; rw [Nat.pow_zero, Nat.one_mul]; exact Nat.le_refl _
  | succ j ih =>
    have h3 := Nat.mul_le_mul_left 50 ih
    rw [← Nat.mul_assoc, Nat.mul_comm 50 (50 ^ j), ← Nat.pow_succ] at h3
    show (if 1 < f - 2 * j then nTimes k (nAB k y f ab j) y else nAB k y f ab j).2 ≤ _
    split
    · exact Nat.le_trans (nTimes_mul hy) h3
    · exact Nat.le_trans (by omega) h3
theorem be_bd {f : Nat} {be : Nat × Nat} (hf : f ≤ 20) (j : Nat) : (nBE f be j).2 ≤ 10 ^ j * be.2 := by
  induction j with
  | zero => show be.2 ≤ _; rw [Nat.pow_zero, Nat.one_mul]; exact Nat.le_refl _
  | succ j ih =>
    have h3 := Nat.mul_le_mul_left 10 ih
    rw [← Nat.mul_assoc, Nat.mul_comm 10 (10 ^ j), ← Nat.pow_succ] at h3
    refine Nat.le_trans ((cdN_le (by omega)).2 ?_) h3
    show (nBE f be j).2 * (f - 2 * j) ≤ 10 * (nBE f be j).2 * 2
    rw [Nat.mul_comm 10, Nat.mul_assoc]
    exact Nat.mul_le_mul_left _ (by omega)
noncomputable def tlL (one om yl yh : Nat) (fuel : Nat) : Nat → Nat → Nat → Nat → Nat → (Nat × Nat) × (Nat × Nat) :=
  Nat.rec (motive := fun _ => Nat → Nat → Nat → Nat → Nat → (Nat × Nat) × (Nat × Nat)) (fun _ al ah bl bh => ((al, ah), (bl, bh)))
    (fun _ ih a al ah bl bh =>
      Bool.rec (motive := fun _ => (Nat × Nat) × (Nat × Nat))
        (ih (Nat.sub a 2) al ah (Nat.div (Nat.mul bl a) 2) (Nat.div (Nat.succ (Nat.mul bh a)) 2))
        (ih (Nat.sub a 2) (Nat.div (Nat.mul al yl) one) (Nat.div (Nat.add (Nat.mul ah yh) om) one) (Nat.div (Nat.mul bl a) 2) (Nat.div (Nat.succ (Nat.mul bh a)) 2))
        (Nat.blt 1 a)) fuel
theorem tlL_spec {k f : Nat} {y ab be : Nat × Nat} : ∀ fuel j, tlL (10 ^ k) (10 ^ k - 1) y.1 y.2 fuel (f - 2 * j) (nAB k y f ab j).1 (nAB k y f ab j).2 (nBE f be j).1 (nBE f be j).2 = (nAB k y f ab (j + fuel), nBE f be (j + fuel)) := by
  intro fuel
  induction fuel with
  | zero => intro j; rfl
  | succ fuel ih =>
    intro j
    have e := ih (j + 1)
    have e2 : f - 2 * j - 2 = f - 2 * (j + 1) := by omega
    have e3 : j + 1 + fuel = j + (fuel + 1) := by omega
    rw [e3] at e
    rw [← e, ← e2]
    show Bool.rec (motive := fun _ => (Nat × Nat) × (Nat × Nat)) _ _ (Nat.blt 1 (f - 2 * j)) = _
    have e4 : nAB k y f ab (j + 1) = if 1 < f - 2 * j then nTimes k (nAB k y f ab j) y else nAB k y f ab j := rfl
    cases h : Nat.blt 1 (f - 2 * j) with
    | true =>
      have hb : 1 < f - 2 * j := by simpa [Nat.blt_eq] using h
      rw [e4, if_pos hb]
      rfl
    | false =>
      have hb : ¬ 1 < f - 2 * j := fun g => by
        have : Nat.blt 1 (f - 2 * j) = true := by simpa [Nat.blt_eq] using g
        rw [h] at this; cases this
      rw [e4, if_neg hb]
      rfl

noncomputable def nOverC (k al ah bl bh B : Nat) : Option (Nat × Nat) :=
  Bool.rec (motive := fun _ => Option (Nat × Nat)) none
    (Bool.rec (motive := fun _ => Option (Nat × Nat)) none (some (Nat.div (Nat.mul al (10 ^ k)) bh, Nat.div (Nat.add (Nat.mul ah (10 ^ k)) (Nat.sub bl 1)) bl)) (Nat.ble (Nat.div (Nat.add (Nat.mul ah (10 ^ k)) (Nat.sub bl 1)) bl) B))
    (Nat.ble 1 bl)
theorem nOverC_spec {k B : Nat} {a b r : Nat × Nat} (h : nOverC k a.1 a.2 b.1 b.2 B = some r) : 0 < b.1 ∧ r = nOver k a b ∧ r.2 ≤ B := by
  unfold nOverC at h
  cases h1 : Nat.ble 1 b.1 with
  | false => rw [h1] at h; cases h
  | true =>
    rw [h1] at h
    dsimp only at h
    cases h2 : Nat.ble (Nat.div (Nat.add (Nat.mul a.2 (10 ^ k)) (Nat.sub b.1 1)) b.1) B with
    | false => rw [h2] at h; cases h
    | true =>
      rw [h2] at h
      injection h with h
      subst h
      exact ⟨Nat.le_of_ble_eq_true h1, rfl, Nat.le_of_ble_eq_true h2⟩
noncomputable def nTailV (k f yl yh p1 p2 : Nat) : Option (Nat × Nat) :=
  match nSer k (yl, yh) (fun _ => 2) (tlD f) (10 ^ k, 10 ^ k) with
  | none => none
  | some (a, b) =>
    match nExp k yl yh with
    | none => none
    | some (el, eh) =>
      Bool.rec (motive := fun _ => Option (Nat × Nat))
        (match tlL (10 ^ k) (10 ^ k - 1) yl yh (Nat.div (Nat.succ f) 2) f a b el eh with
          | ((al, ah), (bl, bh)) => nOverC k al ah bl bh (10 ^ (k + 1)))
        (Bool.rec (motive := fun _ => Option (Nat × Nat)) none
          (match tlL (10 ^ k) (10 ^ k - 1) yl yh (Nat.div (Nat.succ f) 2) f (Nat.div (Nat.mul a (nSqrt (Nat.mul yl (10 ^ k)))) (10 ^ k)) (Nat.div (Nat.add (Nat.mul b (Nat.succ (nSqrt (Nat.mul yh (10 ^ k))))) (10 ^ k - 1)) (10 ^ k)) (Nat.div (Nat.mul el p1) (10 ^ k)) (Nat.div (Nat.add (Nat.mul eh (Nat.succ p2)) (10 ^ k - 1)) (10 ^ k)) with
            | ((al, ah), (bl, bh)) => nOverC k al ah bl bh (10 ^ (k + 1)))
          (Nat.ble 1 yl && isRt (Nat.mul yl (10 ^ k)) (nSqrt (Nat.mul yl (10 ^ k))) && isRt (Nat.mul yh (10 ^ k)) (nSqrt (Nat.mul yh (10 ^ k)))))
        (Nat.beq (Nat.mod f 2) 1)
noncomputable def nTail (k n d f p1 p2 : Nat) : Option (Nat × Nat) :=
  nTailV k f (Nat.div (Nat.div (Nat.mul n (10 ^ k)) d) 2) (Nat.div (Nat.succ (Nat.div (Nat.add (Nat.mul n (10 ^ k)) (Nat.sub d 1)) d)) 2) p1 p2
structure RtPi1 (k p1 p2 : Nat) : Prop where
  a : isRt (piN k * 10 ^ k) p1 = true
  b : isRt ((piN k + 1) * 10 ^ k) p2 = true

set_option maxHeartbeats 1000000 in
theorem tail_ev {k n d f p1 p2 : Nat} {r : Nat × Nat} (hk : k ≤ 55) (hd : 0 < d) (hn : n ≤ 10 ^ 40) (hd2 : d ≤ 10 ^ 40) (h100 : n ≤ 100 * d) (hf1 : 1 ≤ f) (hf2 : f ≤ 20) (hrt : RtPi1 k p1 p2) (h : nTail k n d f p1 p2 = some r) :
    ∃ M H M2 r1 r2 J, TailOk k ((n : Int), (d : Int)) (f : Int) M H M2 r1 r2 p1 p2 J ∧ pTail k ((n : Int), (d : Int)) (f : Int) M H M2 r1 r2 p1 p2 J = (((10 ^ k : Nat) : Int) - (r.2 : Int), ((10 ^ k : Nat) : Int) - (r.1 : Int)) ∧ r.1 ≤ r.2 ∧ r.2 ≤ 10 ^ (k + 1) := by
  have ht := tens hk
  have ht1 : 10 ^ (k + 1) ≤ 10 ^ 56 := Nat.pow_le_pow_right (by omega) (by omega)
  have e95 : 10 ^ (k + 40) ≤ 10 ^ 95 := Nat.pow_le_pow_right (by omega) (by omega)
  have hv := pOf_ip k n d hd
  have hvl := nOf_le k n d
  have hvb := nOf_bd (k := k) hd h100
  have hY : tailY k ((n : Int), (d : Int)) = ip (nBy (nOf k n d) 1 2) := by unfold tailY; dsimp only; rw [hv]; exact pBy_ip _ 1 2 (by omega)
  have hyl : (nBy (nOf k n d) 1 2).1 ≤ (nBy (nOf k n d) 1 2).2 := nBy_le hvl 1 2
  have hyb : (nBy (nOf k n d) 1 2).2 ≤ 50 * 10 ^ k := by
    refine (cdN_le (by omega)).2 ?_
    rw [Nat.mul_one]; omega
  have hh : nTail k n d f p1 p2 = nTailV k f (nBy (nOf k n d) 1 2).1 (nBy (nOf k n d) 1 2).2 p1 p2 := by
    have e1 : (nBy (nOf k n d) 1 2).1 = (nOf k n d).1 / 2 := by show (nOf k n d).1 * 1 / 2 = _; rw [Nat.mul_one]
    have e2 : (nBy (nOf k n d) 1 2).2 = ((nOf k n d).2 + 1) / 2 := by show ((nOf k n d).2 * 1 + 1) / 2 = _; rw [Nat.mul_one]
    rw [e1, e2]; rfl
  rw [hh] at h
  have hoy : ByOk (pOf k (n : Int) (d : Int)) 1 2 := by
    rw [hv]
    have h1 : (nOf k n d).2 ≤ 100 * 10 ^ 55 := Nat.le_trans hvb (Nat.mul_le_mul_left 100 ht)
    exact byOk_ip (n := 1) (d := 2) hvl (by omega) (by omega) (by omega) (saf_of h1 (by decide +kernel)) (by rw [Nat.mul_one]; exact saf_of h1 (by decide +kernel))
  generalize nBy (nOf k n d) 1 2 = y at *
  obtain ⟨yl, yh⟩ := y
  dsimp only at h hyl hyb
  have hyb' : yh ≤ 50 * 10 ^ 55 := Nat.le_trans hyb (Nat.mul_le_mul_left 50 ht)
  unfold nTailV at h
  cases hS : nSer k (yl, yh) (fun _ => 2) (tlD f) (10 ^ k, 10 ^ k) with
  | none => rw [hS] at h; cases h
  | some s =>
    obtain ⟨a, b⟩ := s
    rw [hS] at h
    dsimp only at h
    cases hE : nExp k yl yh with
    | none => rw [hE] at h; cases h
    | some e =>
      obtain ⟨el, eh⟩ := e
      rw [hE] at h
      dsimp only at h
      obtain ⟨M, m1, m2, m3, m4⟩ := nSer_spec hS
      obtain ⟨H, M2, e1, e2, e3, e4⟩ := exp_ev hk hyl (Nat.le_trans hyb' (Nat.le_of_ble_eq_true (by decide +kernel))) hE
      dsimp only at e3 e4
      have hbd := tail_bd (k := k) (f := f) (y := (yl, yh)) hf1 hyb
      have htl := ser_le (k := k) (y := (yl, yh)) (t0 := (10 ^ k, 10 ^ k)) (nf := fun _ => 2) (df := tlD f) (Nat.le_refl _) hyl
      have hDc : ∀ i : Nat, ((tlD f i : Nat) : Int) = (f : Int) + 2 * ((i : Int) + 1) := fun i => by show ((f + 2 * (i + 1) : Nat) : Int) = _; push_cast; rfl
      have htc : ∀ i, tailT k (ip (yl, yh)) (f : Int) i = ip (serT k (yl, yh) (fun _ => 2) (tlD f) (10 ^ k, 10 ^ k) i) := fun i => by
        refine ser_cast (T := tailT k (ip (yl, yh)) (f : Int)) (whole_one k) (fun i => ?_) (fun i => by show 0 < f + 2 * (i + 1); omega) i
        rw [hDc]; rfl
      generalize serT k (yl, yh) (fun _ => 2) (tlD f) (10 ^ k, 10 ^ k) = t at *
      have htb : ∀ i, (t i).2 ≤ 10 ^ 25 * 10 ^ 55 := fun i => Nat.le_trans (hbd i) (Nat.mul_le_mul (tlP_le i) ht)
      have hsum : sumP (tailT k (ip (yl, yh)) (f : Int)) (M + 1) = ip (a, b) := by rw [sum_cast htc, ← m4]
      have hs1 : a ≤ b := by have := sum_le htl M; rw [← m4] at this; exact this
      have hs2 : b ≤ 10 ^ 84 := by
        have := sum_bd htb (m := M) (by omega); rw [← m4] at this
        exact Nat.le_trans this (Nat.le_of_ble_eq_true (by decide +kernel))
      have hJ0 : f ≤ 2 * ((f + 1) / 2) ∧ 2 * ((f + 1) / 2) < f + 2 := by omega
      -- roots of pi
      have q1 := isRt_of hrt.a
      have q2 := isRt_of hrt.b
      have hpi := piN_le hk
      have hp0 : 0 < piN k := by
        unfold piN
        refine Nat.div_pos ?_ (ten_pos _)
        exact Nat.le_trans (Nat.pow_le_pow_right (by omega) (show 80 - k ≤ 80 by omega)) (Nat.le_of_ble_eq_true (by decide +kernel))
      have hN2 : (piN k + 1) * 10 ^ k ≤ 10 ^ 57 * 10 ^ 55 := Nat.mul_le_mul hpi ht
      have hN1 : piN k * 10 ^ k ≤ (piN k + 1) * 10 ^ k := Nat.mul_le_mul_right _ (Nat.le_succ _)
      have hp2 : p2 < 10 ^ 57 := root_lt q2 (Nat.lt_of_le_of_lt hN2 (by decide +kernel))
      have hp12 : p1 ≤ p2 := root_mono q1 q2 hN1
      have hrp : RootOk k (pPi k) p1 p2 := by
        rw [pi_cast]
        refine ⟨by omega, rfl, rfl, ?_, ?_, ?_, ?_, ?_, ?_, ?_, ?_, ?_⟩
        · show 0 < piN k; omega
        · show 0 < piN k + 1; omega
        · show piN k < big; exact lt_big (A := 10 ^ 57) (by omega) (by decide +kernel)
        · show piN k + 1 < big; exact lt_big (A := 10 ^ 57) (by omega) (by decide +kernel)
        · show piN k * 10 ^ k < big; exact lt_big (Nat.le_trans hN1 hN2) (by decide +kernel)
        · show (piN k + 1) * 10 ^ k < big; exact lt_big hN2 (by decide +kernel)
        · exact q1
        · exact q2
        · exact lt_big (A := 10 ^ 57) (by omega) (by decide +kernel)
      have hTb : TimesOk k (ip (el, eh)) (ip (p1, p2 + 1)) :=
        timesOk_ip (by omega) e3 (show p1 ≤ p2 + 1 by omega) (saf_of (Nat.le_trans e4 e95) (by decide +kernel)) (saf_of (show p2 + 1 ≤ 10 ^ 57 by omega) (by decide +kernel)) (saf_of (Nat.mul_le_mul (Nat.le_trans e4 e95) (show p2 + 1 ≤ 10 ^ 57 by omega)) (by decide +kernel))
      -- the end, for any heads of the loops
      have fin : ∀ (r1 r2 : Nat) (AB BE : Nat × Nat), AB.1 ≤ AB.2 → BE.1 ≤ BE.2 → AB.2 ≤ 10 ^ 100 → BE.2 ≤ 10 ^ 120 →
          tailA k ((n : Int), (d : Int)) (f : Int) (M + 1) r1 r2 = ip AB → tailB k ((n : Int), (d : Int)) (f : Int) H M2 p1 p2 = ip BE →
          ((f : Int) % 2 = 1 → RootOk k (ip (yl, yh)) r1 r2) → ((f : Int) % 2 = 1 → TimesOk k (ip (a, b)) (pRoot r1 r2)) →
          (match tlL (10 ^ k) (10 ^ k - 1) yl yh (Nat.div (Nat.succ f) 2) f AB.1 AB.2 BE.1 BE.2 with
            | ((al, ah), (bl, bh)) => nOverC k al ah bl bh (10 ^ (k + 1))) = some r →
          ∃ M H M2 r1 r2 J, TailOk k ((n : Int), (d : Int)) (f : Int) M H M2 r1 r2 p1 p2 J ∧ pTail k ((n : Int), (d : Int)) (f : Int) M H M2 r1 r2 p1 p2 J = (((10 ^ k : Nat) : Int) - (r.2 : Int), ((10 ^ k : Nat) : Int) - (r.1 : Int)) ∧ r.1 ≤ r.2 ∧ r.2 ≤ 10 ^ (k + 1) := by
        intro r1 r2 AB BE l1 l2 l3 l4 l5 l6 l7 l8 l9
        have hloop := tlL_spec (k := k) (f := f) (y := (yl, yh)) (ab := AB) (be := BE) ((f + 1) / 2) 0
        rw [Nat.mul_zero, Nat.sub_zero, Nat.zero_add] at hloop
        change tlL (10 ^ k) (10 ^ k - 1) yl yh (Nat.div (Nat.succ f) 2) f AB.1 AB.2 BE.1 BE.2 = _ at hloop
        rw [hloop] at l9
        have cA := ab_cast (k := k) (f := f) (y := (yl, yh)) (ab := AB) (J := (f + 1) / 2) hJ0.2
        have cB := be_cast (f := f) (be := BE) (J := (f + 1) / 2) hJ0.2
        have lA := ab_lo (k := k) (f := f) (y := (yl, yh)) (ab := AB) l1 hyl
        have lB := be_lo (f := f) (be := BE) l2
        have bA : ∀ j, j ≤ 10 → (nAB k (yl, yh) f AB j).2 ≤ 10 ^ 120 := fun j hj =>
          Nat.le_trans (ab_bd hyb j) (Nat.le_trans (Nat.mul_le_mul (Nat.pow_le_pow_right (by omega) hj) l3) (Nat.le_of_ble_eq_true (by decide +kernel)))
        have bB : ∀ j, j ≤ 10 → (nBE f BE j).2 ≤ 10 ^ 130 := fun j hj =>
          Nat.le_trans (be_bd hf2 j) (Nat.le_trans (Nat.mul_le_mul (Nat.pow_le_pow_right (by omega) hj) l4) (Nat.le_of_ble_eq_true (by decide +kernel)))
        obtain ⟨z1, z2, z3⟩ := nOverC_spec (k := k) (a := nAB k (yl, yh) f AB ((f + 1) / 2)) (b := nBE f BE ((f + 1) / 2)) l9
        have hJ10 : (f + 1) / 2 ≤ 10 := by omega
        have hov := pOver_ip k (nAB k (yl, yh) f AB ((f + 1) / 2)) (nBE f BE ((f + 1) / 2)) z1
        have hrl : r.1 ≤ r.2 := by rw [z2]; exact nOver_le k (lA _) (lB _) z1
        have hmi : pMinus (pWhole k 1) (ip r) = (((10 ^ k : Nat) : Int) - (r.2 : Int), ((10 ^ k : Nat) : Int) - (r.1 : Int)) := by rw [whole_one]; unfold pMinus ip; dsimp only
        refine ⟨M + 1, H, M2, r1, r2, (f + 1) / 2, ⟨by omega, by omega, by omega, by omega, ofOk_nat hk hd hn hd2, hoy, ?_, ?_, ?_, ?_, ?_, ?_, ?_, fun _ => hrp, ?_, ?_, ?_, ?_, ?_⟩, ?_, hrl, z3⟩
        · rw [whole_one]; exact fit_ip (Nat.le_refl _) (saf_of ht (by decide +kernel))
        · rw [hY]; exact sumB_of htc htl htb (by decide +kernel) (by omega) m2 m3
        · intro i _; rw [hY, htc]
          exact timesOk_ip (by omega) (htl i) hyl (saf_of (htb i) (by decide +kernel)) (saf_of hyb' (by decide +kernel)) (saf_of (Nat.mul_le_mul (htb i) hyb') (by decide +kernel))
        · intro i hi; rw [hY, htc, pTimes_ip, ← hDc]
          have h1 : (nTimes k (t i) (yl, yh)).2 ≤ 50 * (10 ^ 25 * 10 ^ 55) := Nat.le_trans (nTimes_mul (k := k) (a := t i) hyb) (Nat.mul_le_mul_left 50 (htb i))
          exact byOk_ip (n := 2) (nTimes_le k (htl i) hyl) (by omega) (show f + 2 * (i + 1) ≤ _ by omega) (show 0 < f + 2 * (i + 1) by omega) (saf_of h1 (by decide +kernel)) (saf_of (Nat.mul_le_mul_right 2 h1) (by decide +kernel))
        · rw [hY]; exact e1
        · rw [hY]; exact l7
        · rw [hY, hsum]; exact l8
        · intro _; rw [hY, e2, root_cast]; exact hTb
        · intro j hj
          rw [l6, cB j (by omega), show (f : Int) - 2 * (j : Int) = ((f - 2 * j : Nat) : Int) by omega]
          exact byOk_ip (d := 2) (lB j) (by omega) (by omega) (by omega) (saf_of (bB j (by omega)) (by decide +kernel)) (saf_of (Nat.mul_le_mul (bB j (by omega)) (show f - 2 * j ≤ 20 by omega)) (by decide +kernel))
        · intro j hj
          rw [l5, hY, cA j (by omega)]
          exact timesOk_ip (by omega) (lA j) hyl (saf_of (bA j (by omega)) (by decide +kernel)) (saf_of hyb' (by decide +kernel)) (saf_of (Nat.mul_le_mul (bA j (by omega)) hyb') (by decide +kernel))
        · rw [l5, l6, hY, cA _ (Nat.le_refl _), cB _ (Nat.le_refl _)]
          exact overOk_ip (by omega) (lA _) (lB _) z1 (saf_of (bA _ hJ10) (by decide +kernel)) (saf_of (bB _ hJ10) (by decide +kernel)) (saf_of (Nat.mul_le_mul (bA _ hJ10) ht) (by decide +kernel))
        · rw [l5, l6, hY, cA _ (Nat.le_refl _), cB _ (Nat.le_refl _), hov, ← z2]
          refine ⟨by rw [whole_one]; exact fit_ip (Nat.le_refl _) (saf_of ht (by decide +kernel)), fit_ip hrl (saf_of (Nat.le_trans z3 ht1) (by decide +kernel)), ?_⟩
          rw [hmi]
          generalize 10 ^ k = u at *
          exact ⟨lt_big (A := 10 ^ 57) (by show ((u : Int) - (r.2 : Int)).natAbs ≤ _; omega) (by decide +kernel), lt_big (A := 10 ^ 57) (by show ((u : Int) - (r.1 : Int)).natAbs ≤ _; omega) (by decide +kernel)⟩
        · unfold pTail
          rw [l5, l6, hY, cA _ (Nat.le_refl _), cB _ (Nat.le_refl _), hov, ← z2, hmi]
      cases hodd : Nat.beq (Nat.mod f 2) 1 with
      | false =>
        rw [hodd] at h
        have hev : ¬ (f : Int) % 2 = 1 := fun g => by
          have : f % 2 = 1 := by omega
          have : Nat.beq (f % 2) 1 = true := by rw [this]; rfl
          rw [show Nat.mod f 2 = f % 2 from rfl, this] at hodd; cases hodd
        refine fin 0 0 (a, b) (el, eh) hs1 e3 (Nat.le_trans hs2 (Nat.le_of_ble_eq_true (by decide +kernel))) (Nat.le_trans (Nat.le_trans e4 e95) (Nat.le_of_ble_eq_true (by decide +kernel))) ?_ ?_ (fun g => absurd g hev) (fun g => absurd g hev) h
        · unfold tailA; rw [if_neg hev, hY, hsum]
        · unfold tailB; rw [if_neg hev, hY, e2]
      | true =>
        rw [hodd] at h
        have hod : (f : Int) % 2 = 1 := by
          have : f % 2 = 1 := Nat.eq_of_beq_eq_true hodd
          omega
        dsimp only at h
        cases hc : (Nat.ble 1 yl && isRt (Nat.mul yl (10 ^ k)) (nSqrt (Nat.mul yl (10 ^ k))) && isRt (Nat.mul yh (10 ^ k)) (nSqrt (Nat.mul yh (10 ^ k)))) with
        | false => rw [hc] at h; cases h
        | true =>
          rw [hc] at h
          rw [Bool.and_eq_true, Bool.and_eq_true] at hc
          have hy0 : 0 < yl := Nat.le_of_ble_eq_true hc.1.1
          have s1 := isRt_of hc.1.2
          have s2 := isRt_of hc.2
          change IsRoot (yl * 10 ^ k) _ at s1
          change IsRoot (yh * 10 ^ k) _ at s2
          dsimp only at h
          generalize nSqrt (Nat.mul yl (10 ^ k)) = r1 at *
          generalize nSqrt (Nat.mul yh (10 ^ k)) = r2 at *
          have hM2 : yh * 10 ^ k ≤ 50 * 10 ^ 55 * 10 ^ 55 := Nat.mul_le_mul hyb' ht
          have hM1 : yl * 10 ^ k ≤ yh * 10 ^ k := Nat.mul_le_mul_right _ hyl
          have hr2 : r2 < 10 ^ 57 := root_lt s2 (Nat.lt_of_le_of_lt hM2 (by decide +kernel))
          have hr12 : r1 ≤ r2 := root_mono s1 s2 hM1
          have hTa : TimesOk k (ip (a, b)) (ip (r1, r2 + 1)) :=
            timesOk_ip (by omega) hs1 (show r1 ≤ r2 + 1 by omega) (saf_of hs2 (by decide +kernel)) (saf_of (show r2 + 1 ≤ 10 ^ 57 by omega) (by decide +kernel)) (saf_of (Nat.mul_le_mul hs2 (show r2 + 1 ≤ 10 ^ 57 by omega)) (by decide +kernel))
          have hsl : r2 + 1 ≤ 10 ^ (k + 1) := by
            have hlt : r2 < 10 ^ (k + 1) := root_lt s2 (by
              have h1 : yh * 10 ^ k ≤ 50 * 10 ^ k * 10 ^ k := Nat.mul_le_mul_right _ hyb
              have h2 : 10 ^ (k + 1) * 10 ^ (k + 1) = 100 * 10 ^ k * 10 ^ k := by rw [Nat.pow_succ]; grind
              have h3 := Nat.mul_pos (ten_pos k) (ten_pos k)
              rw [h2, Nat.mul_assoc]
              rw [Nat.mul_assoc] at h1
              omega)
            exact hlt
          have hsl2 : p2 + 1 ≤ 10 ^ (k + 2) := by
            have hpk : piN k + 1 ≤ 10 ^ (k + 2) := by
              have h' : piN k < 10 ^ (k + 1) := by
                unfold piN
                refine Nat.div_lt_of_lt_mul ?_
                rw [← Nat.pow_add, show 80 - k + (k + 1) = 81 by omega]
                decide +kernel
              have := Nat.pow_le_pow_right (show 0 < 10 by omega) (show k + 1 ≤ k + 2 by omega)
              omega
            have hlt : p2 < 10 ^ (k + 2) := root_lt q2 (by
              have h1 : (piN k + 1) * 10 ^ k ≤ 10 ^ (k + 2) * 10 ^ k := Nat.mul_le_mul_right _ hpk
              have h2 : 10 ^ (k + 2) * 10 ^ k < 10 ^ (k + 2) * 10 ^ (k + 2) := Nat.mul_lt_mul_of_pos_left (Nat.pow_lt_pow_right (by omega) (by omega)) (ten_pos _)
              omega)
            exact hlt
          refine fin r1 r2 (nTimes k (a, b) (r1, r2 + 1)) (nTimes k (el, eh) (p1, p2 + 1)) (nTimes_le k hs1 (show r1 ≤ r2 + 1 by omega)) (nTimes_le k e3 (show p1 ≤ p2 + 1 by omega)) ?_ ?_ ?_ ?_ (fun _ => ?_) (fun _ => by rw [root_cast]; exact hTa) h
          · have := nTimes_mul (k := k) (c := 10) (a := (a, b)) (y := (r1, r2 + 1)) (by show r2 + 1 ≤ _; rw [Nat.mul_comm, ← Nat.pow_succ]; exact hsl)
            exact Nat.le_trans this (Nat.le_trans (Nat.mul_le_mul_left 10 hs2) (Nat.le_of_ble_eq_true (by decide +kernel)))
          · have := nTimes_mul (k := k) (c := 100) (a := (el, eh)) (y := (p1, p2 + 1)) (by show p2 + 1 ≤ _; rw [Nat.pow_succ, Nat.pow_succ] at hsl2; omega)
            exact Nat.le_trans this (Nat.le_trans (Nat.mul_le_mul_left 100 (Nat.le_trans e4 e95)) (Nat.le_of_ble_eq_true (by decide +kernel)))
          · unfold tailA; rw [if_pos hod, hY, hsum, root_cast, pTimes_ip]
          · unfold tailB; rw [if_pos hod, hY, e2, root_cast, pTimes_ip]
          · refine ⟨by omega, rfl, rfl, ?_, ?_, ?_, ?_, ?_, ?_, ?_, ?_, ?_⟩
            · exact hy0
            · show 0 < yh; omega
            · show yl < big; exact lt_big (A := 50 * 10 ^ 55) (by omega) (by decide +kernel)
            · show yh < big; exact lt_big hyb' (by decide +kernel)
            · show yl * 10 ^ k < big; exact lt_big (Nat.le_trans hM1 hM2) (by decide +kernel)
            · show yh * 10 ^ k < big; exact lt_big hM2 (by decide +kernel)
            · exact s1
            · exact s2
            · exact lt_big (A := 10 ^ 57) (by omega) (by decide +kernel)
end Go.Proofs.YtppbhnhmaocdnaaGreatDoor
namespace Go.Proofs.YtppbhnhmaocdnaaGreatDoor
open Go.RowKit Go.Shelf

structure Red (n d : Nat) : Prop where
  pos : 0 < d
  g : Nat.gcd n d = 1
  hn : n < 10 ^ 12
  hd : d < 10 ^ 12
theorem Red.isR {n d : Nat} (h : Red n d) : IsR (n : Int) (d : Int) := by
  refine ⟨nat_abs_le (A := 10 ^ 12) (Nat.le_of_lt h.hn) (by decide +kernel), nat_abs_le (A := 10 ^ 12) (Nat.le_of_lt h.hd) (by decide +kernel), ?_⟩
  have h1 : (0 : Int) < d := by have := h.pos; omega
  have h2 : Int.gcd (n : Int) (d : Int) = 1 := by rw [Int.gcd_natCast_natCast]; exact h.g
  unfold RatOk
  rw [decide_eq_true h1, decide_eq_true h2]; rfl
theorem Red.isN {n d : Nat} (h : Red n d) : IsR (-(n : Int)) (d : Int) := by
  refine ⟨by rw [Int.natAbs_neg]; exact nat_abs_le (A := 10 ^ 12) (Nat.le_of_lt h.hn) (by decide +kernel), nat_abs_le (A := 10 ^ 12) (Nat.le_of_lt h.hd) (by decide +kernel), ?_⟩
  have h1 : (0 : Int) < d := by have := h.pos; omega
  have h2 : Int.gcd (-(n : Int)) (d : Int) = 1 := by rw [Int.neg_gcd, Int.gcd_natCast_natCast]; exact h.g
  unfold RatOk
  rw [decide_eq_true h1, decide_eq_true h2]; rfl
theorem Red.short {n d : Nat} (h : Red n d) : ShortQ (n : Int) (d : Int) := ⟨h.isR, by rw [Int.natAbs_natCast]; exact h.hn, by rw [Int.natAbs_natCast]; exact h.hd⟩
theorem Red.shortN {n d : Nat} (h : Red n d) : ShortQ (-(n : Int)) (d : Int) := ⟨h.isN, by rw [Int.natAbs_neg, Int.natAbs_natCast]; exact h.hn, by rw [Int.natAbs_natCast]; exact h.hd⟩
theorem Red.rnum {n d : Nat} (h : Red n d) : rnum (n : Int) (d : Int) = n := by
  have h1 := rnum_mul (n := (n : Int)) (d := (d : Int)) (by have := h.pos; omega)
  rw [Int.gcd_natCast_natCast, h.g] at h1
  omega
theorem Red.rden {n d : Nat} (h : Red n d) : rden (n : Int) (d : Int) = d := by
  have h1 := rden_mul (n := (n : Int)) (d := (d : Int)) (by have := h.pos; omega)
  rw [Int.gcd_natCast_natCast, h.g] at h1
  omega
theorem Red.n40 {n d : Nat} (h : Red n d) : n ≤ 10 ^ 40 := Nat.le_trans (Nat.le_of_lt h.hn) (Nat.le_of_ble_eq_true (by decide +kernel))
theorem Red.d40 {n d : Nat} (h : Red n d) : d ≤ 10 ^ 40 := Nat.le_trans (Nat.le_of_lt h.hd) (Nat.le_of_ble_eq_true (by decide +kernel))

def GPost (p : Nat) (L U : Int) (w : World) : Ending → World → Prop := IvPost (gC p L).1 (gC p L).2 (gC p U).1 (gC p U).2 w
theorem gpost_of {p : Nat} {b : Int × Int} {L U : Int} (w : World) (h1 : pCl (p + 15) p b = gC p L) (h2 : pCh (p + 15) p b = gC p U) : CellPost (p + 15) p b w = GPost p L U w := by
  unfold CellPost GPost
  rw [h1, h2]
theorem sub15 (p : Nat) : p + 15 - p = 15 := by omega
theorem cellN {p : Nat} {r : Nat × Nat} (hp : p ≤ 12) (hl : r.1 ≤ r.2) (hb : r.2 ≤ 10 ^ 150) (hw : cdN r.2 (10 ^ 15) ≤ r.1 / 10 ^ 15 + 1) :
    CellOk (p + 15) p (ip r) ∧ pCl (p + 15) p (ip r) = gC p ((r.1 / 10 ^ 15 : Nat) : Int) ∧ pCh (p + 15) p (ip r) = gC p ((cdN r.2 (10 ^ 15) : Nat) : Int) := by
  refine cell_ev (by omega) hp (by omega) (by show (r.1 : Int) ≤ (r.2 : Int); omega) (by show ((r.1 : Int)).natAbs ≤ _; omega) (by show ((r.2 : Int)).natAbs ≤ _; omega) ?_ ?_ ?_ ?_
  · rw [sub15]; show _ = (r.1 : Int) / _; rw [← Int.natCast_ediv]
  · rw [sub15]; show _ = cdv (r.2 : Int) _; rw [cdv_cast _ _ (ten_pos 15)]
  · have := div_le_cdN (10 ^ 15) hl; exact Int.ofNat_le.2 this
  · exact_mod_cast hw
theorem cdv_neg (a b : Nat) (hb : 0 < b) : cdv (-(a : Int)) (b : Int) = -((a / b : Nat) : Int) := by
  unfold cdv
  have h1 := Int.mul_ediv_add_emod (a : Int) (b : Int)
  have hb' : (0 : Int) < b := by omega
  by_cases h : (a : Int) % (b : Int) = 0
  · have hd : (b : Int) ∣ (a : Int) := Int.dvd_of_emod_eq_zero h
    rw [if_pos (Int.emod_eq_zero_of_dvd (Int.dvd_neg.2 hd)), Int.neg_ediv_of_dvd hd, Int.natCast_ediv]
  · have h2 : ¬ -(a : Int) % (b : Int) = 0 := fun g => h (Int.emod_eq_zero_of_dvd (Int.dvd_neg.1 (Int.dvd_of_emod_eq_zero g)))
    rw [if_neg h2, Int.neg_ediv, if_neg (fun g => h (Int.emod_eq_zero_of_dvd g)), Int.sign_eq_one_of_pos hb', Int.natCast_ediv]
    omega
theorem div_neg (a b : Nat) (hb : 0 < b) : -(a : Int) / (b : Int) = -((cdN a b : Nat) : Int) := by
  have hb' : (0 : Int) < b := by omega
  rw [Int.neg_ediv, cdN_eq a b hb]
  by_cases h : a % b = 0
  · rw [if_pos h, if_pos (Int.dvd_of_emod_eq_zero (by exact_mod_cast h)), Int.natCast_ediv]; omega
  · rw [if_neg h, if_neg (fun g => h (by have := Int.emod_eq_zero_of_dvd g; exact_mod_cast this)), Int.sign_eq_one_of_pos hb']
    push_cast
    omega
theorem cellM {p : Nat} {r : Nat × Nat} (hp : p ≤ 12) (hl : r.1 ≤ r.2) (hb : r.2 ≤ 10 ^ 150) (hw : cdN r.2 (10 ^ 15) ≤ r.1 / 10 ^ 15 + 1) :
    CellOk (p + 15) p (-(r.2 : Int), -(r.1 : Int)) ∧ pCl (p + 15) p (-(r.2 : Int), -(r.1 : Int)) = gC p (-((cdN r.2 (10 ^ 15) : Nat) : Int)) ∧ pCh (p + 15) p (-(r.2 : Int), -(r.1 : Int)) = gC p (-((r.1 / 10 ^ 15 : Nat) : Int)) := by
  refine cell_ev (by omega) hp (by omega) (by dsimp only; omega) (by dsimp only; omega) (by dsimp only; omega) ?_ ?_ ?_ ?_
  · rw [sub15]; show _ = -(r.2 : Int) / _; rw [div_neg _ _ (ten_pos 15)]
  · rw [sub15]; show _ = cdv (-(r.1 : Int)) _; rw [cdv_neg _ _ (ten_pos 15)]
  · have := div_le_cdN (10 ^ 15) hl; omega
  · omega

theorem rightB_of {lo hi x : Int × Int} {p : Nat} (hp : p ≤ 12) (h1 : lo.1 * x.2 ≤ x.1 * lo.2) (h2 : x.1 * hi.2 ≤ hi.1 * x.2) : rightB lo hi x (p : Int) = true := by
  unfold rightB cmpQ
  rw [decide_eq_true (show (0 : Int) ≤ (p : Int) by omega), decide_eq_true (show (p : Int) ≤ 12 by omega), decide_eq_true (cI_nonneg.2 h1), decide_eq_true (cI_nonpos.2 h2)]
  rfl

theorem Exp_pos {p n d : Nat} {r : Nat × Nat} (hp : p ≤ 12) (hx : Red n d) (h0 : 0 < n) (h20 : n ≤ 20 * d) (h : nExp (p + 15) (nOf (p + 15) n d).1 (nOf (p + 15) n d).2 = some r) (hw : cdN r.2 (10 ^ 15) ≤ r.1 / 10 ^ 15 + 1) (w : World) (ht : TabOf w) :
    Calls Tryz.prog 13 #[NV ((n : Int), (d : Int)), .int .i64 p] w (GPost p ((r.1 / 10 ^ 15 : Nat) : Int) ((cdN r.2 (10 ^ 15) : Nat) : Int) w) := by
  have ho := nOf_bd (k := p + 15) hx.pos h20
  have h27 : 10 ^ (p + 15) ≤ 10 ^ 27 := Nat.pow_le_pow_right (by omega) (by omega)
  obtain ⟨H, M, e1, e2, e3, e4⟩ := exp_ev (by omega) (nOf_le _ _ _) (Nat.le_trans ho (Nat.le_trans (Nat.mul_le_mul_left 20 h27) (Nat.le_of_ble_eq_true (by decide +kernel)))) h
  have hb : r.2 ≤ 10 ^ 150 := Nat.le_trans e4 (Nat.pow_le_pow_right (by omega) (by omega))
  obtain ⟨c1, c2, c3⟩ := cellN hp e3 hb hw
  have hof : pOf (p + 15) (((n : Int).natAbs : Nat) : Int) (d : Int) = ip ((nOf (p + 15) n d).1, (nOf (p + 15) n d).2) := by rw [Int.natAbs_natCast]; exact pOf_ip _ n d hx.pos
  have heq : pExpB (p + 15) ((n : Int), (d : Int)) H M = ip r := by
    unfold pExpB
    dsimp only
    rw [if_neg (by omega), hof, e2]
  have hok : ExpBOk (p + 15) ((n : Int), (d : Int)) H M := by
    refine ⟨?_, ?_, ?_, fun g => absurd g (by dsimp only; omega)⟩
    · dsimp only; rw [Int.natAbs_natCast]; exact ofOk_nat (by omega) hx.pos hx.n40 hx.d40
    · dsimp only; rw [hof]; exact e1
    · rw [whole_one]; exact fit_ip (Nat.le_refl _) (saf_of h27 (by decide +kernel))
  have := Exp_in ((n : Int), (d : Int)) p H M w hx.short hp (rightB_of hp (by dsimp only; omega) (by dsimp only; omega)) (fun g => by have := congrArg Prod.fst g; dsimp only at this; omega) hok (by rw [heq]; exact c1) ht
  rw [heq, gpost_of w c2 c3] at this
  exact this
def Third (k hl hh : Nat) : Prop := nArt k (10 ^ k / 3) ((10 ^ k + 2) / 3) = some (hl, hh)
theorem Log_lo {p n d hl hh : Nat} {r : Nat × Nat} (hp : p ≤ 12) (hx : Red n d) (hn : 0 < n) (h0 : n < d) (h3 : Third (p + 15) hl hh) (h : nLog (p + 15) d n hl hh = some r) (hw : cdN r.2 (10 ^ 15) ≤ r.1 / 10 ^ 15 + 1) (w : World) (ht : TabOf w) :
    Calls Tryz.prog 16 #[NV ((n : Int), (d : Int)), .int .i64 p] w (GPost p (-((cdN r.2 (10 ^ 15) : Nat) : Int)) (-((r.1 / 10 ^ 15 : Nat) : Int)) w) := by
  have hd14 : d ≤ 10 ^ 14 := Nat.le_trans (Nat.le_of_lt hx.hd) (Nat.le_of_ble_eq_true (by decide +kernel))
  have hx' : Red d n := ⟨hn, by rw [Nat.gcd_comm]; exact hx.g, hx.hd, hx.hn⟩
  obtain ⟨D, M1, M2, e1, e2, e3, e4⟩ := log_ev (by omega) hn (Nat.le_of_lt h0) hd14 hx'.rnum hx'.rden h3 h
  obtain ⟨c1, c2, c3⟩ := cellM hp e3 (Nat.le_trans e4 (Nat.le_of_ble_eq_true (by decide +kernel))) hw
  have hc : cmpQ (n : Int) (d : Int) 1 1 < 0 := cI_neg.2 (by omega)
  have heq : pLogB (p + 15) ((n : Int), (d : Int)) D M1 M2 = (-(r.2 : Int), -(r.1 : Int)) := by
    unfold pLogB; dsimp only; rw [if_pos hc, e2]; unfold ip; dsimp only; rw [Int.zero_sub, Int.zero_sub]
  have hok : LogBOk (p + 15) ((n : Int), (d : Int)) D M1 M2 := ⟨hx.isR, fun _ => ⟨e1, by dsimp only; rw [e2]; exact fit_ip e3 (saf_of e4 (by decide +kernel))⟩, fun g => absurd hc g⟩
  have h12 := hx.hd
  have := Log_in ((n : Int), (d : Int)) p D M1 M2 w hx.short hp (rightB_of hp (by dsimp only; omega) (by dsimp only; omega)) (fun g => by have g1 := congrArg Prod.fst g; have g2 := congrArg Prod.snd g; dsimp only at g1 g2; omega) hok (by rw [heq]; exact c1) ht
  rw [heq, gpost_of w c2 c3] at this
  exact this

theorem cellI {p : Nat} {b : Int × Int} {L U : Int} (hp : p ≤ 12) (hl : b.1 ≤ b.2) (h1 : b.1.natAbs ≤ 10 ^ 150) (h2 : b.2.natAbs ≤ 10 ^ 150) (hL : L * ((10 ^ 15 : Nat) : Int) ≤ b.1) (hU : b.2 ≤ U * ((10 ^ 15 : Nat) : Int)) (hL2 : b.1 < (L + 1) * ((10 ^ 15 : Nat) : Int)) (hU2 : (U - 1) * ((10 ^ 15 : Nat) : Int) < b.2) (hw : U ≤ L + 1) :
    CellOk (p + 15) p b ∧ pCl (p + 15) p b = gC p L ∧ pCh (p + 15) p b = gC p U := by
  have hT := tens_pos 15
  have eL : L = b.1 / ((10 ^ 15 : Nat) : Int) := by
    refine (Int.le_antisymm ?_ ?_)
    · exact (Int.le_ediv_iff_mul_le hT).2 hL
    · have := (Int.ediv_lt_iff_lt_mul hT).2 hL2; omega
  have eU : U = cdv b.2 ((10 ^ 15 : Nat) : Int) := by
    have k1 := Int.mul_ediv_add_emod b.2 ((10 ^ 15 : Nat) : Int)
    have k2 := Int.emod_nonneg b.2 (show ((10 ^ 15 : Nat) : Int) ≠ 0 by omega)
    have k3 := Int.emod_lt_of_pos b.2 hT
    have k4 : b.2 / ((10 ^ 15 : Nat) : Int) ≤ U := by
      have : b.2 / ((10 ^ 15 : Nat) : Int) ≤ U * ((10 ^ 15 : Nat) : Int) / ((10 ^ 15 : Nat) : Int) := Int.ediv_le_ediv hT hU
      rw [Int.mul_ediv_cancel _ (by omega)] at this; exact this
    have k5 : U - 1 ≤ b.2 / ((10 ^ 15 : Nat) : Int) := (Int.le_ediv_iff_mul_le hT).2 (Int.le_of_lt hU2)
    unfold cdv
    by_cases h : b.2 % ((10 ^ 15 : Nat) : Int) = 0
    · rw [if_pos h]
      generalize b.2 / ((10 ^ 15 : Nat) : Int) = q at *
      rcases Int.lt_or_le q U with g | g
      · obtain rfl : q = U - 1 := by omega
        rw [Int.mul_comm] at k1; omega
      · omega
    · rw [if_neg h]
      generalize b.2 / ((10 ^ 15 : Nat) : Int) = q at *
      rcases Int.lt_or_le q U with g | g
      · omega
      · obtain rfl : q = U := by omega
        rw [Int.mul_comm] at k1; omega
  refine cell_ev (by omega) hp (by omega) hl h1 h2 (by rw [sub15]; exact eL) (by rw [sub15]; exact eU) ?_ hw
  have : L * ((10 ^ 15 : Nat) : Int) ≤ U * ((10 ^ 15 : Nat) : Int) := by omega
  exact Int.le_of_mul_le_mul_right this hT
theorem Norm_neg {p n d r1 r2 : Nat} {r : Nat × Nat} (hp0 : 0 < p) (hp : p ≤ 12) (hx : Red n d) (h0 : 0 < n) (h8 : n < 8 * d) (hrt : RtPi (p + 15) r1 r2) (h : nHalf (p + 15) n d r1 r2 = some r)
    (hw : cdN r.2 (10 ^ 15) ≤ r.1 / 10 ^ 15 + 1) (w : World) (ht : TabOf w) :
    Calls Tryz.prog 20 #[NV (-(n : Int), (d : Int)), .int .i64 p] w (GPost p (((10 ^ p / 2 : Nat) : Int) - ((cdN r.2 (10 ^ 15) : Nat) : Int)) (((10 ^ p / 2 : Nat) : Int) - ((r.1 / 10 ^ 15 : Nat) : Int)) w) := by
  obtain ⟨M, H, M2, e1, e2, e3, e4⟩ := norm_neg (by omega) (by omega) hx.pos h0 hx.n40 hx.d40 (Nat.le_of_lt h8) hrt h
  have h27 : 10 ^ (p + 15) ≤ 10 ^ 27 := Nat.pow_le_pow_right (by omega) (by omega)
  have h2750 : 2 * 10 ^ 27 ≤ 10 ^ 150 := Nat.le_of_ble_eq_true (by decide +kernel)
  have hh := half_le (p + 15)
  have hhalf : ((10 ^ (p + 15) / 2 : Nat) : Int) = ((10 ^ p / 2 : Nat) : Int) * ((10 ^ 15 : Nat) : Int) := by
    obtain ⟨j, rfl⟩ : ∃ j, p = j + 1 := ⟨p - 1, by omega⟩
    have e1 : 10 ^ (j + 1) / 2 = 5 * 10 ^ j := by rw [Nat.pow_succ]; omega
    have e2 : 10 ^ (j + 1 + 15) / 2 = 5 * 10 ^ j * 10 ^ 15 := by rw [Nat.pow_add, Nat.pow_succ]; omega
    rw [e1, e2, Int.natCast_mul]
  have m1 := Nat.div_mul_le_self r.1 (10 ^ 15)
  have m2 := Nat.lt_div_mul_add (a := r.1) (ten_pos 15)
  have m3 := cdN_ge (a := r.2) (ten_pos 15)
  have m4 : cdN r.2 (10 ^ 15) * 10 ^ 15 < r.2 + 10 ^ 15 := by
    have := Nat.div_mul_le_self (r.2 + (10 ^ 15 - 1)) (10 ^ 15)
    have h2 : cdN r.2 (10 ^ 15) * 10 ^ 15 ≤ r.2 + (10 ^ 15 - 1) := this
    have := ten_pos 15
    omega
  generalize hcU : cdN r.2 (10 ^ 15) = cU at *
  generalize hcL : r.1 / 10 ^ 15 = cL at *
  have hT : ((10 ^ 15 : Nat) : Int) = 1000000000000000 := by decide
  have hTn : 10 ^ 15 = 1000000000000000 := by decide
  rw [hTn] at m1 m2 m3 m4
  obtain ⟨c1, c2, c3⟩ := cellI (p := p) (b := (((10 ^ (p + 15) / 2 : Nat) : Int) - (r.2 : Int), ((10 ^ (p + 15) / 2 : Nat) : Int) - (r.1 : Int))) (L := ((10 ^ p / 2 : Nat) : Int) - (cU : Int)) (U := ((10 ^ p / 2 : Nat) : Int) - (cL : Int)) hp
    (by dsimp only; omega) (by dsimp only; omega) (by dsimp only; omega) (by dsimp only; rw [hhalf, hT]; omega) (by dsimp only; rw [hhalf, hT]; omega) (by dsimp only; rw [hhalf, hT]; omega) (by dsimp only; rw [hhalf, hT]; omega) (by omega)
  have hd12 := hx.hd
  have hn12 := hx.hn
  have hd0 := hx.pos
  have := Normal_in (-(n : Int), (d : Int)) p M H M2 r1 r2 w hx.shortN hp (cI_pos.2 (by dsimp only; omega)) (cI_neg.2 (by dsimp only; omega)) (rightB_of hp (by dsimp only; omega) (by dsimp only; omega)) (fun g => by have g1 := congrArg Prod.fst g; dsimp only at g1; omega) e1 (by dsimp only; rw [e2]; exact c1) ht
  dsimp only at this
  rw [e2, gpost_of w c2 c3] at this
  exact this

theorem Chi_pos {p n d f p1 p2 : Nat} {r : Nat × Nat} {L U : Int} (hp : p ≤ 12) (hx : Red n d) (h0 : 0 < n) (h100 : n ≤ 100 * d) (hf1 : 1 ≤ f) (hf2 : f ≤ 20) (hrt : RtPi1 (p + 15) p1 p2) (h : nTail (p + 15) n d f p1 p2 = some r)
    (hL : L * ((10 ^ 15 : Nat) : Int) ≤ ((10 ^ (p + 15) : Nat) : Int) - (r.2 : Int)) (hU : ((10 ^ (p + 15) : Nat) : Int) - (r.1 : Int) ≤ U * ((10 ^ 15 : Nat) : Int)) (hL2 : ((10 ^ (p + 15) : Nat) : Int) - (r.2 : Int) < (L + 1) * ((10 ^ 15 : Nat) : Int)) (hU2 : (U - 1) * ((10 ^ 15 : Nat) : Int) < ((10 ^ (p + 15) : Nat) : Int) - (r.1 : Int)) (hw : U ≤ L + 1) (w : World) (ht : TabOf w) :
    Calls Tryz.prog 26 #[NV ((n : Int), (d : Int)), .int .i64 f, .int .i64 p] w (GPost p L U w) := by
  obtain ⟨M, H, M2, r1, r2, J, e1, e2, e3, e4⟩ := tail_ev (by omega) hx.pos hx.n40 hx.d40 h100 hf1 hf2 hrt h
  have h28 : 10 ^ (p + 15 + 1) ≤ 10 ^ 28 := Nat.pow_le_pow_right (by omega) (by omega)
  have h27 : 10 ^ (p + 15) ≤ 10 ^ 27 := Nat.pow_le_pow_right (by omega) (by omega)
  have h2750 : 2 * 10 ^ 28 ≤ 10 ^ 150 := Nat.le_of_ble_eq_true (by decide +kernel)
  obtain ⟨c1, c2, c3⟩ := cellI (p := p) (b := (((10 ^ (p + 15) : Nat) : Int) - (r.2 : Int), ((10 ^ (p + 15) : Nat) : Int) - (r.1 : Int))) (L := L) (U := U) hp (by dsimp only; omega) (by dsimp only; omega) (by dsimp only; omega) hL hU hL2 hU2 hw
  have := Chi_in ((n : Int), (d : Int)) (f : Int) p M H M2 r1 r2 p1 p2 J w hx.short hp (rightB_of hp (by dsimp only; omega) (by dsimp only; omega)) (fun g => by have g1 := congrArg Prod.fst g; dsimp only at g1; omega) e1 (by rw [e2]; exact c1) ht
  rw [e2, gpost_of w c2 c3] at this
  exact this
end Go.Proofs.YtppbhnhmaocdnaaGreatDoor
namespace Go.Proofs.YtppbhnhmaocdnaaGreatDoor
open Go.RowKit Go.Shelf

noncomputable def dec2 (a b c d : Nat) : Option Bool :=
  Bool.rec (motive := fun _ => Option Bool) (Bool.rec (motive := fun _ => Option Bool) none (some false) (Nat.blt c d)) (some true) (Nat.blt a b)
theorem dec2_spec {a b c d : Nat} {r : Bool} (h : dec2 a b c d = some r) : (a < b ∧ r = true) ∨ (¬ a < b ∧ c < d ∧ r = false) := by
  unfold dec2 at h
  cases h1 : Nat.blt a b with
  | true => rw [h1] at h; injection h with h; exact .inl ⟨by simpa [Nat.blt_eq] using h1, h.symm⟩
  | false =>
    rw [h1] at h
    dsimp only at h
    have g : ¬ a < b := fun g => by
      have : Nat.blt a b = true := by simpa [Nat.blt_eq] using g
      rw [h1] at this; cases this
    cases h2 : Nat.blt c d with
    | true => rw [h2] at h; injection h with h; exact .inr ⟨g, by simpa [Nat.blt_eq] using h2, h.symm⟩
    | false => rw [h2] at h; cases h
def ob (x : Option (Nat × Nat)) (f : Nat → Nat → Option Bool) : Option Bool :=
  match x with
  | none => none
  | some (a, b) => f a b
theorem ob_spec {x : Option (Nat × Nat)} {f : Nat → Nat → Option Bool} {r : Bool} (h : ob x f = some r) : ∃ q, x = some q ∧ f q.1 q.2 = some r := by
  cases x with
  | none => cases h
  | some q => exact ⟨q, rfl, h⟩
noncomputable def nUnd (T ql qh r1 r2 hf m' : Nat) : Option Bool :=
  Bool.rec (motive := fun _ => Option Bool)
    (ob (nHalf 15 (Nat.div (Nat.sub (Nat.mul 5 T) m') (Nat.gcd (Nat.sub (Nat.mul 5 T) m') T)) (Nat.div T (Nat.gcd (Nat.sub (Nat.mul 5 T) m') T)) r1 r2) (fun a b => dec2 hf (Nat.add ql a) (Nat.add qh b) hf))
    (ob (nHalf 15 (Nat.div (Nat.sub m' (Nat.mul 5 T)) (Nat.gcd (Nat.sub m' (Nat.mul 5 T)) T)) (Nat.div T (Nat.gcd (Nat.sub m' (Nat.mul 5 T)) T)) r1 r2) (fun a b => dec2 (Nat.add hf b) ql qh (Nat.add hf a)))
    (Nat.ble (Nat.mul 5 T) m')
theorem nUnd_eq {T ql qh r1 r2 hf m' : Nat} {b : Bool} (h : nUnd T ql qh r1 r2 hf m' = some b) :
    (5 * T ≤ m' ∧ ∃ q, nHalf 15 ((m' - 5 * T) / Nat.gcd (m' - 5 * T) T) (T / Nat.gcd (m' - 5 * T) T) r1 r2 = some q ∧ dec2 (hf + q.2) ql qh (hf + q.1) = some b) ∨
    (m' < 5 * T ∧ ∃ q, nHalf 15 ((5 * T - m') / Nat.gcd (5 * T - m') T) (T / Nat.gcd (5 * T - m') T) r1 r2 = some q ∧ dec2 hf (ql + q.1) (qh + q.2) hf = some b) := by
  unfold nUnd at h
  cases hs : Nat.ble (Nat.mul 5 T) m' with
  | true =>
    rw [hs] at h
    exact .inl ⟨Nat.le_of_ble_eq_true hs, ob_spec h⟩
  | false =>
    rw [hs] at h
    refine .inr ⟨?_, ob_spec h⟩
    rcases Nat.lt_or_ge m' (5 * T) with g | g
    · exact g
    · rw [show Nat.ble (Nat.mul 5 T) m' = true from Nat.ble_eq_true_of_le g] at hs; cases hs

theorem red_div {n T : Nat} (hT : 0 < T) (hn : n < 10 ^ 12) (hT2 : T < 10 ^ 12) : Red (n / Nat.gcd n T) (T / Nat.gcd n T) := by
  have hg := Nat.gcd_pos_of_pos_right n hT
  refine ⟨Nat.div_pos (Nat.le_of_dvd hT (Nat.gcd_dvd_right n T)) hg, ?_, Nat.lt_of_le_of_lt (Nat.div_le_self _ _) hn, Nat.lt_of_le_of_lt (Nat.div_le_self _ _) hT2⟩
  exact Nat.gcd_div_gcd_div_gcd_of_pos_right hT
theorem rnum_nat {n T : Nat} : rnum (n : Int) (T : Int) = ((n / Nat.gcd n T : Nat) : Int) := by
  unfold rnum
  rw [if_neg (by omega), Int.gcd_natCast_natCast, Int.natCast_ediv]
theorem rden_nat {n T : Nat} : rden (n : Int) (T : Int) = ((T / Nat.gcd n T : Nat) : Int) := by
  unfold rden
  rw [if_neg (by omega), Int.gcd_natCast_natCast, Int.natCast_ediv]
theorem rnum_neg {n T : Nat} : rnum (-(n : Int)) (T : Int) = -((n / Nat.gcd n T : Nat) : Int) := by
  unfold rnum
  have hd : ((Nat.gcd n T : Nat) : Int) ∣ (n : Int) := Int.natCast_dvd_natCast.2 (Nat.gcd_dvd_left n T)
  rw [if_neg (by omega), Int.neg_gcd, Int.gcd_natCast_natCast, Int.neg_ediv_of_dvd hd, Int.natCast_ediv]
theorem rden_neg {n T : Nat} : rden (-(n : Int)) (T : Int) = ((T / Nat.gcd n T : Nat) : Int) := by
  unfold rden
  rw [if_neg (by omega), Int.neg_gcd, Int.gcd_natCast_natCast, Int.natCast_ediv]

theorem undD_true {n q : Int × Int} (h : n.2 < q.1) : undD n q = some true := by unfold undD; rw [if_pos (cI_neg.2 h)]
theorem undD_false {n q : Int × Int} (h1 : ¬ n.2 < q.1) (h : q.2 < n.1) : undD n q = some false := by
  unfold undD; rw [if_neg (fun g => h1 (cI_neg.1 g)), if_pos (cI_pos.2 h)]
theorem nUnd_spec {T r1 r2 hf m' pn pd : Nat} {b : Bool} (hT : 0 < T) (hT2 : 10 * T < 10 ^ 12) (hm : m' ≤ 10 * T) (hp : Red pn pd) (hp1 : pn ≤ pd) (hrt : RtPi 15 r1 r2) (hh : 10 ^ 15 / 2 = hf)
    (h : nUnd T (nOf 15 pn pd).1 (nOf 15 pn pd).2 r1 r2 hf m' = some b) (w : World) (ht : TabOf w) :
    Calls Tryz.prog 58 #[NV (rnum ((m' : Int) - 5 * (T : Int)) (T : Int), rden ((m' : Int) - 5 * (T : Int)) (T : Int)), NV ((pn : Int), (pd : Int))] w (UndPost b w) := by
  have hq : pOf 15 (pn : Int) (pd : Int) = ip (nOf 15 pn pd) := pOf_ip 15 pn pd hp.pos
  have hql := nOf_le 15 pn pd
  have hqb := nOf_bd (k := 15) (c := 1) hp.pos (by omega : pn ≤ 1 * pd)
  have hob : OfOk 15 (pn : Int) (pd : Int) := ofOk_nat (by omega) hp.pos hp.n40 hp.d40
  have hs : 1 * 10 ^ 15 ≤ saf := Nat.le_of_ble_eq_true (by decide +kernel)
  have hfq : Fit (ip (nOf 15 pn pd)) := fit_ip hql (Nat.le_trans hqb hs)
  have hfb : hf ≤ 10 ^ 15 := by rw [← hh]; exact Nat.div_le_self _ _
  have hs2 : 2 * 10 ^ 15 ≤ saf := Nat.le_of_ble_eq_true (by decide +kernel)
  generalize nOf 15 pn pd = q at *
  rcases nUnd_eq h with ⟨hle, ⟨a, c⟩, hN, h⟩ | ⟨hlt, ⟨a, c⟩, hN, h⟩
  · dsimp only at h
    have e : (m' : Int) - 5 * (T : Int) = ((m' - 5 * T : Nat) : Int) := by omega
    rw [e, rnum_nat, rden_nat]
    have hx : Red ((m' - 5 * T) / Nat.gcd (m' - 5 * T) T) (T / Nat.gcd (m' - 5 * T) T) := red_div hT (by omega) (by omega)
    have h8 : (m' - 5 * T) / Nat.gcd (m' - 5 * T) T ≤ 8 * (T / Nat.gcd (m' - 5 * T) T) := by
      have hg := Nat.gcd_pos_of_pos_right (m' - 5 * T) hT
      have e1 := Nat.div_mul_cancel (Nat.gcd_dvd_left (m' - 5 * T) T)
      have e2 := Nat.div_mul_cancel (Nat.gcd_dvd_right (m' - 5 * T) T)
      refine Nat.le_of_mul_le_mul_right ?_ hg
      rw [e1, Nat.mul_assoc, e2]; omega
    generalize (m' - 5 * T) / Nat.gcd (m' - 5 * T) T = n at *
    generalize T / Nat.gcd (m' - 5 * T) T = d at *
    · obtain ⟨M, H, M2, e1, e2, e3, e4⟩ := norm_pos (by omega) (by omega) hx.pos hx.n40 hx.d40 h8 hrt hN
      rw [hh] at e2
      dsimp only at e2 e3 e4
      have hft : Fit (ip (hf + a, hf + c)) := fit_ip (Nat.add_le_add_left e3 _) (by show hf + c ≤ saf; omega)
      refine und15_in ((n : Int), (d : Int)) ((pn : Int), (pd : Int)) _ _ b w (undAt_of (x := ((n : Int), (d : Int))) (p := ((pn : Int), (pd : Int))) e1 hob (by dsimp only; rw [e2]; exact hft) (by dsimp only; rw [hq]; exact hfq)) ?_ ht
      dsimp only
      rw [e2, hq]
      rcases dec2_spec h with ⟨g1, g2⟩ | ⟨g1, g2, g3⟩
      · rw [g2]; exact undD_true (by show ((hf + c : Nat) : Int) < (q.1 : Int); omega)
      · rw [g3]; exact undD_false (by show ¬ ((hf + c : Nat) : Int) < (q.1 : Int); omega) (by show (q.2 : Int) < ((hf + a : Nat) : Int); omega)
  · dsimp only at h
    have e : (m' : Int) - 5 * (T : Int) = -((5 * T - m' : Nat) : Int) := by omega
    rw [e, rnum_neg, rden_neg]
    have hx : Red ((5 * T - m') / Nat.gcd (5 * T - m') T) (T / Nat.gcd (5 * T - m') T) := red_div hT (by omega) (by omega)
    have hg := Nat.gcd_pos_of_pos_right (5 * T - m') hT
    have h8 : (5 * T - m') / Nat.gcd (5 * T - m') T ≤ 8 * (T / Nat.gcd (5 * T - m') T) := by
      have e1 := Nat.div_mul_cancel (Nat.gcd_dvd_left (5 * T - m') T)
      have e2 := Nat.div_mul_cancel (Nat.gcd_dvd_right (5 * T - m') T)
      refine Nat.le_of_mul_le_mul_right ?_ hg
      rw [e1, Nat.mul_assoc, e2]; omega
    have hn0 : 0 < (5 * T - m') / Nat.gcd (5 * T - m') T := Nat.div_pos (Nat.le_of_dvd (by omega) (Nat.gcd_dvd_left _ _)) hg
    generalize (5 * T - m') / Nat.gcd (5 * T - m') T = n at *
    generalize T / Nat.gcd (5 * T - m') T = d at *
    · obtain ⟨M, H, M2, e1, e2, e3, e4⟩ := norm_neg (by omega) (by omega) hx.pos hn0 hx.n40 hx.d40 h8 hrt hN
      rw [hh] at e2
      dsimp only at e2 e3 e4
      have hft : Fit (((hf : Nat) : Int) - (c : Int), ((hf : Nat) : Int) - (a : Int)) :=
        ⟨lt_big (A := 2 * 10 ^ 15) (by dsimp only; omega) (by decide +kernel), lt_big (A := 2 * 10 ^ 15) (by dsimp only; omega) (by decide +kernel)⟩
      refine und15_in (-(n : Int), (d : Int)) ((pn : Int), (pd : Int)) _ _ b w (undAt_of (x := (-(n : Int), (d : Int))) (p := ((pn : Int), (pd : Int))) e1 hob (by dsimp only; rw [e2]; exact hft) (by dsimp only; rw [hq]; exact hfq)) ?_ ht
      dsimp only
      rw [e2, hq]
      rcases dec2_spec h with ⟨g1, g2⟩ | ⟨g1, g2, g3⟩
      · rw [g2]; exact undD_true (by show ((hf : Nat) : Int) - (a : Int) < (q.1 : Int); omega)
      · rw [g3]; exact undD_false (by show ¬ ((hf : Nat) : Int) - (a : Int) < (q.1 : Int); omega) (by show (q.2 : Int) < ((hf : Nat) : Int) - (c : Int); omega)

noncomputable def quL (T ql qh r1 r2 hf : Nat) (fuel : Nat) : Nat → Nat → Option (Nat × Nat) :=
  Nat.rec (motive := fun _ => Nat → Nat → Option (Nat × Nat)) (fun _ _ => none)
    (fun _ ih lo hi =>
      Bool.rec (motive := fun _ => Option (Nat × Nat)) (some (lo, hi))
        (match nUnd T ql qh r1 r2 hf (Nat.div (Nat.add lo hi) 2) with
          | none => none
          | some b => Bool.rec (motive := fun _ => Option (Nat × Nat)) (ih lo (Nat.div (Nat.add lo hi) 2)) (ih (Nat.div (Nat.add lo hi) 2) hi) b)
        (Nat.blt 1 (Nat.sub hi lo))) fuel
def qst (s : Nat × Nat) : List Bool → Nat × Nat
  | [] => s
  | b :: l => qst (if b then ((s.1 + s.2) / 2, s.2) else (s.1, (s.1 + s.2) / 2)) l
def qok (T ql qh r1 r2 hf : Nat) (s : Nat × Nat) : List Bool → Prop
  | [] => s.2 - s.1 ≤ 1
  | b :: l => 1 < s.2 - s.1 ∧ nUnd T ql qh r1 r2 hf ((s.1 + s.2) / 2) = some b ∧ qok T ql qh r1 r2 hf (if b then ((s.1 + s.2) / 2, s.2) else (s.1, (s.1 + s.2) / 2)) l
theorem quL_spec {T ql qh r1 r2 hf : Nat} {r : Nat × Nat} : ∀ fuel (s : Nat × Nat), quL T ql qh r1 r2 hf fuel s.1 s.2 = some r → ∃ l : List Bool, qok T ql qh r1 r2 hf s l ∧ r = qst s l := by
  intro fuel
  induction fuel with
  | zero => intro s h; exact absurd h (by show ¬ (none = some r); exact fun h => by cases h)
  | succ fuel ih =>
    intro s h
    change Bool.rec (motive := fun _ => Option (Nat × Nat)) (some (s.1, s.2))
        (match nUnd T ql qh r1 r2 hf ((s.1 + s.2) / 2) with
          | none => none
          | some b => Bool.rec (motive := fun _ => Option (Nat × Nat)) (quL T ql qh r1 r2 hf fuel s.1 ((s.1 + s.2) / 2)) (quL T ql qh r1 r2 hf fuel ((s.1 + s.2) / 2) s.2) b)
        (Nat.blt 1 (s.2 - s.1)) = some r at h
    cases hs : Nat.blt 1 (s.2 - s.1) with
    | false =>
      rw [hs] at h
      injection h with h
      refine ⟨[], ?_, h.symm⟩
      show s.2 - s.1 ≤ 1
      rcases Nat.lt_or_ge 1 (s.2 - s.1) with g | g
      · rw [show Nat.blt 1 (s.2 - s.1) = true by simpa [Nat.blt_eq] using g] at hs; cases hs
      · exact g
    | true =>
      rw [hs] at h
      have g : 1 < s.2 - s.1 := by simpa [Nat.blt_eq] using hs
      dsimp only at h
      cases hu : nUnd T ql qh r1 r2 hf ((s.1 + s.2) / 2) with
      | none => rw [hu] at h; cases h
      | some b =>
        rw [hu] at h
        dsimp only at h
        cases b with
        | false =>
          obtain ⟨l, h1, h2⟩ := ih (s.1, (s.1 + s.2) / 2) h
          exact ⟨false :: l, ⟨g, hu, h1⟩, h2⟩
        | true =>
          obtain ⟨l, h1, h2⟩ := ih ((s.1 + s.2) / 2, s.2) h
          exact ⟨true :: l, ⟨g, hu, h1⟩, h2⟩
theorem qst_take (l : List Bool) : ∀ (s : Nat × Nat) (i : Nat), i < l.length → qst s (l.take (i + 1)) = (if l.getD i false then (((qst s (l.take i)).1 + (qst s (l.take i)).2) / 2, (qst s (l.take i)).2) else ((qst s (l.take i)).1, ((qst s (l.take i)).1 + (qst s (l.take i)).2) / 2)) := by
  induction l with
  | nil => intro s i h; exact absurd h (Nat.not_lt_zero _)
  | cons b l ih =>
    intro s i h
    cases i with
    | zero => rfl
    | succ i =>
      have := ih (if b then ((s.1 + s.2) / 2, s.2) else (s.1, (s.1 + s.2) / 2)) i (by simpa using h)
      exact this
theorem qok_at {T ql qh r1 r2 hf : Nat} (l : List Bool) : ∀ (s : Nat × Nat), qok T ql qh r1 r2 hf s l → (∀ i, i < l.length → 1 < (qst s (l.take i)).2 - (qst s (l.take i)).1 ∧ nUnd T ql qh r1 r2 hf (((qst s (l.take i)).1 + (qst s (l.take i)).2) / 2) = some (l.getD i false)) ∧ (qst s l).2 - (qst s l).1 ≤ 1 := by
  induction l with
  | nil => intro s h; exact ⟨fun i hi => absurd hi (Nat.not_lt_zero _), h⟩
  | cons b l ih =>
    intro s h
    obtain ⟨h1, h2, h3⟩ := h
    obtain ⟨k1, k2⟩ := ih _ h3
    refine ⟨fun i hi => ?_, k2⟩
    cases i with
    | zero => exact ⟨h1, h2⟩
    | succ i => exact k1 i (by simpa using hi)
theorem qst_bd (T : Nat) (l : List Bool) : ∀ (s : Nat × Nat), s.1 ≤ s.2 → s.2 ≤ 10 * T → (qst s l).1 ≤ (qst s l).2 ∧ (qst s l).2 ≤ 10 * T := by
  induction l with
  | nil => intro s h1 h2; exact ⟨h1, h2⟩
  | cons b l ih =>
    intro s h1 h2
    cases b with
    | true => exact ih ((s.1 + s.2) / 2, s.2) (by dsimp only; omega) h2
    | false => exact ih (s.1, (s.1 + s.2) / 2) (by dsimp only; omega) (by dsimp only; omega)
theorem qu_cast {p : Nat} (l : List Bool) : ∀ i, i ≤ l.length → quSt p (fun i => l.getD i false) i = (((qst (0, 10 * 10 ^ p) (l.take i)).1 : Int) - 5 * ((10 ^ p : Nat) : Int), ((qst (0, 10 * 10 ^ p) (l.take i)).2 : Int) - 5 * ((10 ^ p : Nat) : Int)) := by
  intro i
  induction i with
  | zero =>
    intro _
    rw [List.take_zero]
    show (-5 * ((10 ^ p : Nat) : Int), 5 * ((10 ^ p : Nat) : Int)) = (((0 : Nat) : Int) - 5 * ((10 ^ p : Nat) : Int), ((10 * 10 ^ p : Nat) : Int) - 5 * ((10 ^ p : Nat) : Int))
    generalize 10 ^ p = t
    refine Prod.ext ?_ ?_
    · show -5 * (t : Int) = _; omega
    · show 5 * (t : Int) = ((10 * t : Nat) : Int) - 5 * (t : Int); omega
  | succ i ih =>
    intro hi
    have := ih (by omega)
    rw [qst_take l (0, 10 * 10 ^ p) i (by omega)]
    show (if l.getD i false then (((quSt p (fun i => l.getD i false) i).1 + (quSt p (fun i => l.getD i false) i).2) / 2, (quSt p (fun i => l.getD i false) i).2) else ((quSt p (fun i => l.getD i false) i).1, ((quSt p (fun i => l.getD i false) i).1 + (quSt p (fun i => l.getD i false) i).2) / 2)) = _
    rw [this]
    generalize qst (0, 10 * 10 ^ p) (l.take i) = s
    generalize 10 ^ p = t
    dsimp only
    cases l.getD i false with
    | true =>
      rw [if_pos rfl, if_pos rfl]
      refine Prod.ext ?_ rfl
      show ((s.1 : Int) - 5 * (t : Int) + ((s.2 : Int) - 5 * (t : Int))) / 2 = (((s.1 + s.2) / 2 : Nat) : Int) - 5 * (t : Int)
      omega
    | false =>
      rw [if_neg (by decide), if_neg (by decide)]
      refine Prod.ext rfl ?_
      show ((s.1 : Int) - 5 * (t : Int) + ((s.2 : Int) - 5 * (t : Int))) / 2 = (((s.1 + s.2) / 2 : Nat) : Int) - 5 * (t : Int)
      omega
theorem Qu_ev {p pn pd r1 r2 hf : Nat} {r : Nat × Nat} (hp : p ≤ 10) (hx : Red pn pd) (h1 : pd ≤ 1000000 * pn) (h2 : 1000000 * pn ≤ 999999 * pd) (hne : ¬ (pn = 1 ∧ pd = 2)) (hrt : RtPi 15 r1 r2) (hh : 10 ^ 15 / 2 = hf)
    (h : quL (10 ^ p) (nOf 15 pn pd).1 (nOf 15 pn pd).2 r1 r2 hf 60 0 (10 * 10 ^ p) = some r) (w : World) (ht : TabOf w) :
    Calls Tryz.prog 18 #[NV ((pn : Int), (pd : Int)), .int .i64 p] w (GPost p ((r.1 : Int) - 5 * ((10 ^ p : Nat) : Int)) ((r.2 : Int) - 5 * ((10 ^ p : Nat) : Int)) w) := by
  obtain ⟨l, k1, k2⟩ := quL_spec 60 (0, 10 * 10 ^ p) h
  obtain ⟨g1, g2⟩ := qok_at l _ k1
  have hc := qu_cast (p := p) l
  have hT10 : 10 * 10 ^ p < 10 ^ 12 := by
    have : 10 ^ p ≤ 10 ^ 10 := Nat.pow_le_pow_right (by omega) hp
    have : 10 * 10 ^ 10 < 10 ^ 12 := by decide
    omega
  have hbd := fun i => qst_bd (10 ^ p) (l.take i) (0, 10 * 10 ^ p) (Nat.zero_le _) (Nat.le_refl _)
  have hfin : quSt p (fun i => l.getD i false) l.length = ((r.1 : Int) - 5 * ((10 ^ p : Nat) : Int), (r.2 : Int) - 5 * ((10 ^ p : Nat) : Int)) := by
    rw [hc _ (Nat.le_refl _), List.take_length, ← k2]
  have := qu_in p ((pn : Int), (pd : Int)) (fun i => l.getD i false) l.length w ⟨by omega, hx.short, rightB_of (by omega) (by dsimp only; omega) (by dsimp only; omega), fun g => hne ⟨by have := g.1; dsimp only at this; omega, by have := g.2; dsimp only at this; omega⟩, ?_, ?_, ?_⟩ ht
  · rw [hfin] at this
    exact this
  · intro i hi
    rw [hc i (by omega)]
    have := (g1 i hi).1
    dsimp only
    omega
  · rw [hc _ (Nat.le_refl _), List.take_length]
    dsimp only
    omega
  · intro i hi W hW
    have h3 := (g1 i hi).2
    have h4 := hbd i
    have hm : quMid p (fun i => l.getD i false) i = ((((qst (0, 10 * 10 ^ p) (l.take i)).1 + (qst (0, 10 * 10 ^ p) (l.take i)).2) / 2 : Nat) : Int) - 5 * ((10 ^ p : Nat) : Int) := by
      unfold quMid
      rw [hc i (by omega)]
      dsimp only
      omega
    rw [hm]
    exact nUnd_spec (ten_pos p) hT10 (by omega) hx (by omega) hrt hh h3 W hW
end Go.Proofs.YtppbhnhmaocdnaaGreatDoor
namespace Go.Proofs.YtppbhnhmaocdnaaGreatDoor
open Go.RowKit Go.Shelf

def ck (x : Option (Nat × Nat)) (f : Nat → Nat → Bool) : Bool :=
  match x with
  | none => false
  | some (a, b) => f a b
theorem ck_spec {x : Option (Nat × Nat)} {f : Nat → Nat → Bool} (h : ck x f = true) : ∃ q, x = some q ∧ f q.1 q.2 = true := by
  cases x with
  | none => cases h
  | some q => exact ⟨q, rfl, h⟩
def isCell (L U a b : Nat) : Bool := Nat.beq (Nat.div a 1000000000000000) L && Nat.beq (Nat.div (Nat.add b 999999999999999) 1000000000000000) U
theorem isCell_spec {L U a b : Nat} (h : isCell L U a b = true) : a / 10 ^ 15 = L ∧ cdN b (10 ^ 15) = U := by
  unfold isCell at h
  rw [Bool.and_eq_true] at h
  exact ⟨Nat.eq_of_beq_eq_true h.1, Nat.eq_of_beq_eq_true h.2⟩
theorem eval_cell {x : Option (Nat × Nat)} {L U : Nat} (h : ck x (isCell L U) = true) : ∃ q, x = some q ∧ q.1 / 10 ^ 15 = L ∧ cdN q.2 (10 ^ 15) = U := by
  obtain ⟨q, h1, h2⟩ := ck_spec h
  exact ⟨q, h1, isCell_spec h2⟩

theorem rt15 : RtPi 15 2506628274631000 2506628274631000 := ⟨by decide +kernel, by decide +kernel⟩
theorem rt21 : RtPi 21 2506628274631000502415 2506628274631000502415 := ⟨by decide +kernel, by decide +kernel⟩
theorem rq21 : RtPi1 21 1772453850905516027297 1772453850905516027298 := ⟨by decide +kernel, by decide +kernel⟩
theorem th21 : Third 21 693147180559945309376 693147180559945309470 := by unfold Third; decide +kernel
theorem h15 : 10 ^ 15 / 2 = 500000000000000 := by decide +kernel

theorem sn_exp : ck (nExp 18 (nOf 18 1 1).1 (nOf 18 1 1).2) (isCell 2718 2719) = true := by decide +kernel
theorem sn_log : ck (nLog 21 2 1 693147180559945309376 693147180559945309470) (isCell 693147 693148) = true := by decide +kernel
theorem sn_norm : ck (nHalf 21 3 1 2506628274631000502415 2506628274631000502415) (isCell 498650 498651) = true := by decide +kernel
theorem sn_chi : ck (nTail 21 1 1 1 1772453850905516027297 1772453850905516027298) (isCell 682689 682690) = true := by decide +kernel
theorem sn_qu : ck (quL (10 ^ 3) (nOf 15 39 40).1 (nOf 15 39 40).2 2506628274631000 2506628274631000 500000000000000 60 0 (10 * 10 ^ 3)) (fun a b => Nat.beq a 6959 && Nat.beq b 6960) = true := by decide +kernel

theorem red11 : Red 1 1 := ⟨by decide, by decide, by decide, by decide⟩
theorem red12 : Red 1 2 := ⟨by decide, by decide, by decide, by decide⟩
theorem red31 : Red 3 1 := ⟨by decide, by decide, by decide, by decide⟩
theorem red39 : Red 39 40 := ⟨by decide, by decide, by decide, by decide⟩

theorem lof_ok (n d a b : Int) (h1 : rnum n d = a) (h2 : rden n d = b) (hn : n.natAbs ≤ 1000000000000000000) (hd : d.natAbs ≤ 1000000000000000000) (hd0 : d ≠ 0) (w : World) (ht : TabOf w) :
    Calls Tryz.prog 12 #[.int .i64 n, .int .i64 d] w (OfPost (str a) (str b) w) := by
  have := lof_in n d w (fun W h => of_in n d W hn hd hd0 h) ht
  rw [h1, h2] at this
  exact this

theorem lsane_in (w : World) (ht : TabOf w) : Calls Tryz.prog 9 #[] w (TruePost w) := by
  refine lsane_raw w ht (str 0) (str 1) (str 2) (str (-3)) (str 39) (str 40) _ _ _ _ _ _ _ _ _ _ _ _ _ _ _ _ _ _ _ _ _ _ _ _ _ _ _ _
    (fun W h => lof_ok 1 1 1 1 (by decide +kernel) (by decide +kernel) (by decide) (by decide) (by decide) W h)
    (fun W h => lof_ok 1 2 1 2 (by decide +kernel) (by decide +kernel) (by decide) (by decide) (by decide) W h)
    (fun W h => lof_ok (-3) 1 (-3) 1 (by decide +kernel) (by decide +kernel) (by decide) (by decide) (by decide) W h)
    (fun W h => lof_ok 39 40 39 40 (by decide +kernel) (by decide +kernel) (by decide) (by decide) (by decide) W h)
    (fun W h => lof_ok 0 1 0 1 (by decide +kernel) (by decide +kernel) (by decide) (by decide) (by decide) W h)
    (fun W h => ?_) (fun W h => ?_) (fun W h => ?_) (fun W h => ?_) (fun W h => ?_) (fun W h => ?_) (fun W h => Log_err (0, 1) 6 W short_0 (by decide) (by decide) (by decide +kernel) h) (fun W h => Exp_err (1, 1) 13 W short_1 (by decide) (by decide) (by decide +kernel) h)
    (fun W h => lcell_in 2718 3 W (by decide) (by decide) h) (fun W h => lcell_in (-693148) 6 W (by decide) (by decide) h) (fun W h => lcell_in 1349 6 W (by decide) (by decide) h) (fun W h => lcell_in 317310 6 W (by decide) (by decide) h) (fun W h => lcell_in 1959 3 W (by decide) (by decide) h)
  · obtain ⟨q, h1, h2, h3⟩ := eval_cell sn_exp
    have := Exp_pos (p := 3) (by decide) red11 (by decide) (by decide) h1 (by rw [h2, h3]; decide) W h
    rw [h2, h3] at this
    exact this
  · obtain ⟨q, h1, h2, h3⟩ := eval_cell sn_log
    have := Log_lo (p := 6) (by decide) red12 (by decide) (by decide) th21 h1 (by rw [h2, h3]; decide) W h
    rw [h2, h3] at this
    exact this
  · obtain ⟨q, h1, h2, h3⟩ := eval_cell sn_norm
    have := Norm_neg (p := 6) (by decide) (by decide) red31 (by decide) (by decide) rt21 h1 (by rw [h2, h3]; decide) W h
    rw [h2, h3] at this
    exact this
  · obtain ⟨q, h1, h2, h3⟩ := eval_cell sn_chi
    have hT : ((10 ^ 15 : Nat) : Int) = 1000000000000000 := by decide +kernel
    have hK : ((10 ^ (6 + 15) : Nat) : Int) = 1000000000000000000000 := by decide +kernel
    have m1 := Nat.div_mul_le_self q.1 (10 ^ 15)
    have m2 := Nat.lt_div_mul_add (a := q.1) (ten_pos 15)
    have m3 := cdN_ge (a := q.2) (ten_pos 15)
    have m4 : cdN q.2 (10 ^ 15) * 10 ^ 15 ≤ q.2 + (10 ^ 15 - 1) := Nat.div_mul_le_self (q.2 + (10 ^ 15 - 1)) (10 ^ 15)
    rw [h2] at m1 m2
    rw [h3] at m3 m4
    exact Chi_pos (p := 6) (f := 1) (L := 317310) (U := 317311) (by decide) red11 (by decide) (by decide) (by decide) (by decide) rq21 h1 (by rw [hT, hK]; omega) (by rw [hT, hK]; omega) (by rw [hT, hK]; omega) (by rw [hT, hK]; omega) (by decide) W h
  · obtain ⟨q, h1, h2⟩ := ck_spec sn_qu
    rw [Bool.and_eq_true] at h2
    have e1 : q.1 = 6959 := Nat.eq_of_beq_eq_true h2.1
    have e2 : q.2 = 6960 := Nat.eq_of_beq_eq_true h2.2
    have := Qu_ev (p := 3) (by decide) red39 (by decide) (by decide) (by decide) rt15 h15 h1 W h
    rw [e1, e2] at this
    exact this
  · have := Normal_at 2 W (by decide) (by decide +kernel) ⟨⟨isQ_h, isQ_h, by decide⟩, by decide, by decide +kernel, by decide +kernel, by decide +kernel⟩ h
    have e1 : gnum false 1 2 2 = 1 := by decide +kernel
    have e2 : gden false 1 2 2 = 2 := by decide +kernel
    have e3 : gnum true 1 2 2 = 1 := by decide +kernel
    have e4 : gden true 1 2 2 = 2 := by decide +kernel
    unfold AtPost at this
    dsimp only at this
    rw [e1, e2, e3, e4] at this
    exact this
end Go.Proofs.YtppbhnhmaocdnaaGreatDoor
namespace Go.Proofs.YtppbhnhmaocdnaaGreatDoor
open Go.RowKit Go.Shelf

structure Bc (w : World) (l : List (Nat × Nat × Value)) (W : World) : Prop where
  b : Below w.heap.size w W
  k : ∀ x, x ∈ l → W.cell? ⟨x.1, x.2.1, none⟩ = some x.2.2
theorem Bc.below {w : World} {l : List (Nat × Nat × Value)} {W W' : World} (h : Bc w l W) (hb : Below W.heap.size W W') : Bc w l W' :=
  ⟨h.b.trans (hb.mono h.b.size), fun x hx => Below.get hb (h.k x hx)⟩
theorem Bc.drew {w : World} {l : List (Nat × Nat × Value)} {W : World} (h : Bc w l W) : Bc w l W.drew := h.below (Below.refl _ W).drew
theorem Bc.new {w : World} {l : List (Nat × Nat × Value)} {W : World} (h : Bc w l W) (o : Obj) : Bc w l (W.alloc o) := h.below (belowNew W o)
theorem Bc.push2 {w : World} {l : List (Nat × Nat × Value)} {W : World} (h : Bc w l W) (T : TypeId) (a b : Value) :
    Bc w (l ++ [(W.heap.size, 0, a), (W.heap.size, 1, b)]) (W.alloc (.cells #[a, b] T)) := by
  refine ⟨(h.new _).b, fun x hx => ?_⟩
  rw [List.mem_append] at hx
  rcases hx with hx | hx
  · exact (h.new _).k x hx
  · have r := RC.new W T a b
    simp only [List.mem_cons, List.not_mem_nil, or_false] at hx
    rcases hx with rfl | rfl
    · exact r.c00
    · exact r.c01
theorem Bc.push4 {w : World} {l : List (Nat × Nat × Value)} {W : World} (h : Bc w l W) (T : TypeId) (a b c d : Value) :
    Bc w (l ++ [(W.heap.size, 0, a), (W.heap.size, 1, b), (W.heap.size, 2, c), (W.heap.size, 3, d)]) (W.alloc (.cells #[a, b, c, d] T)) := by
  refine ⟨(h.new _).b, fun x hx => ?_⟩
  rw [List.mem_append] at hx
  rcases hx with hx | hx
  · exact (h.new _).k x hx
  · have r := R4.new W T a b c d
    simp only [List.mem_cons, List.not_mem_nil, or_false] at hx
    rcases hx with rfl | rfl | rfl | rfl
    · exact r.c0
    · exact r.c1
    · exact r.c2
    · exact r.c3
theorem Bc.put2 {w : World} {l : List (Nat × Nat × Value)} {W : World} (h : Bc w l W) (T : TypeId) (z1 z2 a b : Value) :
    Bc w (l ++ [(W.heap.size, 0, a), (W.heap.size, 1, b)]) (((W.alloc (.cells #[z1, z2] T)).setCell ⟨W.heap.size, 0, none⟩ a).setCell ⟨W.heap.size, 1, none⟩ b) := by
  have hn := h.new (.cells #[z1, z2] T)
  have r := (RC.new W T z1 z2).put a b
  refine ⟨below_put2 hn.b a b h.b.size, fun x hx => ?_⟩
  rw [List.mem_append] at hx
  rcases hx with hx | hx
  · have hlt := ltOf (h.k x hx)
    exact cell_put2 (hn.k x hx) (by omega) a b
  · simp only [List.mem_cons, List.not_mem_nil, or_false] at hx
    rcases hx with rfl | rfl
    · exact r.c00
    · exact r.c01
theorem Bc.left {w : World} {l m : List (Nat × Nat × Value)} {W : World} (h : Bc w (l ++ m) W) : Bc w l W := ⟨h.b, fun x hx => h.k x (List.mem_append_left m hx)⟩
structure Bn (w : World) (l : List (Nat × Nat × Value)) (R : Nat) (z1 z2 : Value) (W : World) : Prop where
  b : Bc w l W
  n : RC R W z1 z2
  ne : ∀ x, x ∈ l → x.1 ≠ R
  ge : w.heap.size ≤ R
theorem Bc.ne {w : World} {l : List (Nat × Nat × Value)} {W : World} (h : Bc w l W) (x : Nat × Nat × Value) (hx : x ∈ l) : x.1 ≠ W.heap.size := by
  have := ltOf (h.k x hx)
  omega
theorem Bn.start {w : World} {l : List (Nat × Nat × Value)} {W : World} (h : Bc w l W) (T : TypeId) (z1 z2 : Value) : Bn w l W.heap.size z1 z2 (W.alloc (.cells #[z1, z2] T)) :=
  ⟨h.new _, RC.new W T z1 z2, h.ne, h.b.size⟩
theorem Bn.below {w : World} {l : List (Nat × Nat × Value)} {R : Nat} {z1 z2 : Value} {W W' : World} (h : Bn w l R z1 z2 W) (hb : Below W.heap.size W W') : Bn w l R z1 z2 W' :=
  ⟨h.b.below hb, h.n.below hb, h.ne, h.ge⟩
theorem Bn.put {w : World} {l : List (Nat × Nat × Value)} {R : Nat} {z1 z2 : Value} {W : World} (h : Bn w l R z1 z2 W) (a b : Value) :
    Bc w (l ++ [(R, 0, a), (R, 1, b)]) ((W.setCell ⟨R, 0, none⟩ a).setCell ⟨R, 1, none⟩ b) := by
  have r := h.n.put a b
  refine ⟨below_put2 h.b.b a b h.ge, fun x hx => ?_⟩
  rw [List.mem_append] at hx
  rcases hx with hx | hx
  · exact cell_put2 (h.b.k x hx) (fun e => h.ne x hx e.symm) a b
  · simp only [List.mem_cons, List.not_mem_nil, or_false] at hx
    rcases hx with rfl | rfl
    · exact r.c00
    · exact r.c01
theorem Bn.drew {w : World} {l : List (Nat × Nat × Value)} {R : Nat} {z1 z2 : Value} {W : World} (h : Bn w l R z1 z2 W) : Bn w l R z1 z2 W.drew := h.below (Below.refl _ W).drew
structure Bm (w : World) (l : List (Nat × Nat × Value)) (R : Nat) (z1 z2 z3 z4 : Value) (W : World) : Prop where
  b : Bc w l W
  n : R4 R W z1 z2 z3 z4
  ne : ∀ x, x ∈ l → x.1 ≠ R
  ge : w.heap.size ≤ R
theorem Bm.start {w : World} {l : List (Nat × Nat × Value)} {W : World} (h : Bc w l W) (T : TypeId) (z1 z2 z3 z4 : Value) : Bm w l W.heap.size z1 z2 z3 z4 (W.alloc (.cells #[z1, z2, z3, z4] T)) :=
  ⟨h.new _, R4.new W T z1 z2 z3 z4, h.ne, h.b.size⟩
theorem Bm.below {w : World} {l : List (Nat × Nat × Value)} {R : Nat} {z1 z2 z3 z4 : Value} {W W' : World} (h : Bm w l R z1 z2 z3 z4 W) (hb : Below W.heap.size W W') : Bm w l R z1 z2 z3 z4 W' :=
  ⟨h.b.below hb, h.n.below hb, h.ne, h.ge⟩
theorem Bm.drew {w : World} {l : List (Nat × Nat × Value)} {R : Nat} {z1 z2 z3 z4 : Value} {W : World} (h : Bm w l R z1 z2 z3 z4 W) : Bm w l R z1 z2 z3 z4 W.drew := h.below (Below.refl _ W).drew
theorem Bm.put {w : World} {l : List (Nat × Nat × Value)} {R : Nat} {z1 z2 z3 z4 : Value} {W : World} (h : Bm w l R z1 z2 z3 z4 W) (a b c d : Value) :
    Bc w (l ++ [(R, 0, a), (R, 1, b), (R, 2, c), (R, 3, d)]) ((((W.setCell ⟨R, 0, none⟩ a).setCell ⟨R, 1, none⟩ b).setCell ⟨R, 2, none⟩ c).setCell ⟨R, 3, none⟩ d) := by
  have r := h.n.put a b c d
  refine ⟨below_put4 h.b.b a b c d h.ge, fun x hx => ?_⟩
  rw [List.mem_append] at hx
  rcases hx with hx | hx
  · exact cell_put4 (h.b.k x hx) (fun e => h.ne x hx e.symm) a b c d
  · simp only [List.mem_cons, List.not_mem_nil, or_false] at hx
    rcases hx with rfl | rfl | rfl | rfl
    · exact r.c0
    · exact r.c1
    · exact r.c2
    · exact r.c3

theorem Bc.sub {w : World} {l l' : List (Nat × Nat × Value)} {W : World} (h : Bc w l W) (hs : ∀ x, x ∈ l' → x ∈ l) : Bc w l' W := ⟨h.b, fun x hx => h.k x (hs x hx)⟩
theorem Bc.nil (w : World) : Bc w [] w := ⟨Below.refl _ _, fun x hx => absurd hx List.not_mem_nil⟩
def IntPost (n : Int) (w : World) (e : Ending) (w' : World) : Prop := e = .returned (.int .i64 n) ∧ Below w.heap.size w w'
def RPost (s t : ByteArray) (w : World) (e : Ending) (w' : World) : Prop := e = .returned (.tuple #[.agg #[.string s, .string t], .int .i64 0]) ∧ Below w.heap.size w w'
end Go.Proofs.YtppbhnhmaocdnaaGreatDoor
