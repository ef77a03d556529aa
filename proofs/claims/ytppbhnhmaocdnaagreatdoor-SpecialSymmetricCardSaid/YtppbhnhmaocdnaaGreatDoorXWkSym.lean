/- SpecialSymmetric holds at every input. -/
import Derived.Test.YtppbhnhmaocdnaaGreatDoorXWkLawS
import Derived.Test.YtppbhnhmaocdnaaGreatDoorXWkEnc6
import Derived.Test.YtppbhnhmaocdnaaGreatDoorXTabS1
import Derived.Test.YtppbhnhmaocdnaaGreatDoorXTabS2
import Derived.Test.YtppbhnhmaocdnaaGreatDoorXTabS3
import Derived.Test.YtppbhnhmaocdnaaGreatDoorXTabS4
import Derived.Test.YtppbhnhmaocdnaaGreatDoorXTabS5
import Derived.Test.YtppbhnhmaocdnaaGreatDoorXTabS6
import Derived.Test.YtppbhnhmaocdnaaGreatDoorXTabS7
import Derived.Test.YtppbhnhmaocdnaaGreatDoorXTabS8
import Derived.Test.YtppbhnhmaocdnaaGreatDoorXTabS9
import Derived.Test.YtppbhnhmaocdnaaGreatDoorXTabS10
import Derived.Test.YtppbhnhmaocdnaaGreatDoorXTabS11
import Derived.Test.YtppbhnhmaocdnaaGreatDoorXTabS12
set_option linter.unusedVariables false
set_option linter.unusedSimpArgs false
namespace Go.Proofs.YtppbhnhmaocdnaaGreatDoor
open Go.RowKit Go.Shelf

structure NTab (p : Nat) (V : Nat → Nat → Option (Nat × Nat)) (r1 r2 s1 s2 : Nat) : Prop where
  rA : RtPi (p + 15) r1 r2
  rB : RtPi (p + 40) s1 s2
  hV : ∀ n d, V n d = nHC p n d r1 r2 s1 s2
  fin : ∃ a b lo hi, FInv V (10 ^ p / 2) a b 8 1 lo hi

def cellF (p : Nat) (V : Nat → Nat → Option (Nat × Nat)) (n e : Nat) : Nat × Nat :=
  if n = 0 then (10 ^ p / 2, 10 ^ p / 2) else if n < 8 * e then (10 ^ p / 2 + ((V n e).getD (0, 0)).1, 10 ^ p / 2 + ((V n e).getD (0, 0)).2) else (10 ^ p - 1, 10 ^ p)
theorem two_half {p : Nat} (hp : 0 < p) : 2 * (10 ^ p / 2) = 10 ^ p ∧ 5 ≤ 10 ^ p / 2 := by
  obtain ⟨j, rfl⟩ : ∃ j, p = j + 1 := ⟨p - 1, by omega⟩
  have := ten_pos j
  rw [Nat.pow_succ]
  omega
theorem cellF_bd {p : Nat} {V : Nat → Nat → Option (Nat × Nat)} {r1 r2 s1 s2 n e : Nat} (hp : 0 < p) (T : NTab p V r1 r2 s1 s2) (he0 : 0 < e) (he : e ≤ 50) (hg : Nat.gcd n e = 1) :
    10 ^ p / 2 ≤ (cellF p V n e).1 ∧ 10 ^ p / 2 ≤ (cellF p V n e).2 ∧ (cellF p V n e).1 + 1 ≤ 10 ^ p ∧ (cellF p V n e).2 ≤ 10 ^ p ∧ (n < 8 * e → n ≠ 0 → ∃ l h, V n e = some (l, h) ∧ cellF p V n e = (10 ^ p / 2 + l, 10 ^ p / 2 + h)) := by
  obtain ⟨a, b, lo, hi, I⟩ := T.fin
  have h2 := two_half hp
  unfold cellF
  by_cases h0 : n = 0
  · rw [if_pos h0]; exact ⟨Nat.le_refl _, Nat.le_refl _, by dsimp only; omega, by dsimp only; omega, fun _ h => absurd h0 h⟩
  · rw [if_neg h0]
    by_cases h8 : n < 8 * e
    · rw [if_pos h8]
      have hf : Fr n e := ⟨by omega, he0, he, hg⟩
      have hle : n * b ≤ a * e := by
        rcases I.cases hf (by omega) with g | ⟨rfl, rfl⟩
        · exact g
        · omega
      obtain ⟨l, h, q1, q2, q3, q4, q5⟩ := I.all n e hf hle
      rw [q1]
      exact ⟨Nat.le_add_right _ _, Nat.le_add_right _ _, by show 10 ^ p / 2 + l + 1 ≤ _; omega, by show 10 ^ p / 2 + h ≤ _; omega, fun _ _ => ⟨l, h, rfl, rfl⟩⟩
    · rw [if_neg h8]
      exact ⟨by dsimp only; omega, by dsimp only; omega, by dsimp only; omega, Nat.le_refl _, fun h => absurd h h8⟩
theorem cellF_mono {p : Nat} {V : Nat → Nat → Option (Nat × Nat)} {r1 r2 s1 s2 n e n' e' : Nat} (hp : 0 < p) (T : NTab p V r1 r2 s1 s2) (he0 : 0 < e) (he : e ≤ 50) (hg : Nat.gcd n e = 1) (he0' : 0 < e') (he' : e' ≤ 50) (hg' : Nat.gcd n' e' = 1) (hlt : n * e' < n' * e) :
    (cellF p V n e).1 ≤ (cellF p V n' e').1 ∧ (cellF p V n e).2 ≤ (cellF p V n' e').2 := by
  have B := cellF_bd hp T he0 he hg
  have B' := cellF_bd hp T he0' he' hg'
  have h2 := two_half hp
  have hn' : n' ≠ 0 := fun h => by rw [h, Nat.zero_mul] at hlt; omega
  by_cases h8' : n' < 8 * e'
  · by_cases h0 : n = 0
    · have : cellF p V n e = (10 ^ p / 2, 10 ^ p / 2) := by unfold cellF; rw [if_pos h0]
      rw [this]; exact ⟨B'.1, B'.2.1⟩
    · have h8 : n < 8 * e := by
        refine Nat.lt_of_mul_lt_mul_right (a := e') ?_
        have h3 : n' * e < 8 * e' * e := Nat.mul_lt_mul_of_pos_right h8' he0
        have h4 : 8 * e' * e = 8 * e * e' := by grind
        omega
      obtain ⟨l, h, v1, c1⟩ := B.2.2.2.2 h8 h0
      obtain ⟨l', h', v2, c2⟩ := B'.2.2.2.2 h8' hn'
      obtain ⟨a, b, lo, hi, I⟩ := T.fin
      have hf : Fr n e := ⟨by omega, he0, he, hg⟩
      have hf' : Fr n' e' := ⟨by omega, he0', he', hg'⟩
      have hle : n' * b ≤ a * e' := by
        rcases I.cases hf' (by omega) with g | ⟨rfl, rfl⟩
        · exact g
        · omega
      have := I.mono n e n' e' hf hf' hlt hle l h l' h' v1 v2
      rw [c1, c2]
      exact ⟨Nat.add_le_add_left this.1 _, Nat.add_le_add_left this.2 _⟩
  · have : cellF p V n' e' = (10 ^ p - 1, 10 ^ p) := by unfold cellF; rw [if_neg hn', if_neg h8']
    rw [this]
    exact ⟨by dsimp only; omega, B.2.2.2.1⟩

theorem whole_gC (p : Nat) : gC p ((10 ^ p : Nat) : Int) = (1, 1) := by
  have hT := tens_pos p
  unfold gC
  have k1 := rnum_scale (n := 1) (d := 1) hT (by omega)
  have k2 := rden_scale (n := 1) (d := 1) hT (by omega)
  rw [Int.one_mul] at k1 k2
  rw [k1, k2]
  decide +kernel
theorem zero_gC (p : Nat) : gC p 0 = (0, 1) := by
  have hT := tens_pos p
  unfold gC
  have z1 : rnum 0 ((10 ^ p : Nat) : Int) = 0 := by unfold rnum; split <;> simp
  have z2 : rden 0 ((10 ^ p : Nat) : Int) = 1 := by unfold rden; rw [if_neg (by omega), Int.zero_gcd, Int.natAbs_natCast]; exact Int.ediv_self (by omega)
  rw [z1, z2]
theorem sub_one_gC {p : Nat} (B : Int) : qSub (1, 1) (gC p B) = gC p (((10 ^ p : Nat) : Int) - B) := by
  have hT := tens_pos p
  unfold qSub gC
  dsimp only
  generalize ((10 ^ p : Nat) : Int) = T at *
  have n1 := rnum_mul (n := B) hT
  have d1 := rden_mul (n := B) hT
  have g1 := gcd_pos' (n := B) hT
  have p1 := rden_pos (n := B) hT
  generalize rnum B T = a at *
  generalize rden B T = c at *
  generalize ((Int.gcd B T : Nat) : Int) = g at *
  have k1 : (1 * c - a * 1) * g = T - B := by rw [← n1, ← d1]; grind
  have k2 : 1 * c * g = T := by rw [← d1]; grind
  rw [rnum_of (by omega) g1 k1 k2, rden_of (by omega) g1 k1 k2]
theorem tenN {p : Nat} (hp : p ≤ 12) : ((10 ^ p : Nat) : Int).natAbs ≤ 1000000000000000000 := by
  rw [Int.natAbs_natCast]; exact Nat.le_trans (Nat.pow_le_pow_right (by omega) hp) (by decide)
theorem subOne {p : Nat} {B : Int} (hp : p ≤ 12) (hB : B.natAbs ≤ 10 ^ 21) (W : World) (hW : TabOf W) :
    Calls Tryz.prog 15 #[.agg #[.string (str 1), .string (str 1)], .agg #[.string (str (gC p B).1), .string (str (gC p B).2)]] W (RPost (str (gC p (((10 ^ p : Nat) : Int) - B)).1) (str (gC p (((10 ^ p : Nat) : Int) - B)).2) W) := by
  have hT := tens_pos p
  have b1 : (gC p B).1.natAbs ≤ 10 ^ 21 := Nat.le_trans (rnum_le hT) hB
  have b2 : (gC p B).2.natAbs ≤ 10 ^ 21 := Nat.le_trans (rden_le hT) (Nat.le_trans (tenN hp) (by decide))
  have hq : IsR (gC p B).1 (gC p B).2 := gC_isR hp (Nat.le_trans hB (Nat.le_of_ble_eq_true (by decide +kernel)))
  have hs : QSubOk (1, 1) (gC p B) := ⟨isR_one, hq, lt_big (A := 10 ^ 22) (by dsimp only; omega) (by decide +kernel), lt_big (A := 10 ^ 22) (by dsimp only; omega) (by decide +kernel), lt_big (A := 10 ^ 22) (by dsimp only; omega) (by decide +kernel), lt_big (A := 10 ^ 22) (by dsimp only; omega) (by decide +kernel)⟩
  have := subQ hs hW
  rw [sub_one_gC] at this
  exact this
theorem gC_iv {p : Nat} {A B : Int} (hp : p ≤ 12) (hA : A.natAbs ≤ 10 ^ 21) (hB : B.natAbs ≤ 10 ^ 21) (h : A ≤ B) : IsI (gC p A).1 (gC p A).2 (gC p B).1 (gC p B).2 := by
  have hT := tens_pos p
  refine ⟨gC_isR hp (Nat.le_trans hA (Nat.le_of_ble_eq_true (by decide +kernel))), gC_isR hp (Nat.le_trans hB (Nat.le_of_ble_eq_true (by decide +kernel))), ?_⟩
  show cmpQ (rnum A ((10 ^ p : Nat) : Int)) (rden A ((10 ^ p : Nat) : Int)) (rnum B ((10 ^ p : Nat) : Int)) (rden B ((10 ^ p : Nat) : Int)) ≤ 0
  rw [cmpQ_left' hT, cmpQ_right' hT]
  exact cI_nonpos.2 (Int.mul_le_mul_of_nonneg_right h (Int.le_of_lt hT))
theorem make_one {p : Nat} (hp : p ≤ 12) (W : World) (hW : TabOf W) : Calls Tryz.prog 57 #[.string ⟨#[49]⟩, .string (str ((10 ^ p : Nat) : Int))] W (RPost (str (gC p 1).1) (str (gC p 1).2) W) := by
  have := make_in 1 ((10 ^ p : Nat) : Int) W (by decide +kernel) (ten_big (by omega)) (ten_ne p) hW
  rw [str_one] at this
  exact this
theorem out_right {p n e : Nat} (hp : p ≤ 12) (hx : Red n e) (h8 : 8 * e ≤ n) (w : World) (ht : TabOf w) :
    Calls Tryz.prog 20 #[NV ((n : Int), (e : Int)), .int .i64 p] w (GPost p (((10 ^ p - 1 : Nat) : Int)) (((10 ^ p : Nat) : Int)) w) := by
  have hT := ten_pos p
  have := NormalR_of ((n : Int), (e : Int)) p (str (gC p 1).1) (str (gC p 1).2) (str (gC p (((10 ^ p : Nat) : Int) - 1)).1) (str (gC p (((10 ^ p : Nat) : Int) - 1)).2) w hp hx.short (cI_pos.2 (by dsimp only; have := hx.pos; omega)) (cI_nonneg.2 (by dsimp only; omega)) (by dsimp only; omega)
    (rightB_of hp (by dsimp only; have := hx.hd; omega) (by dsimp only; have := hx.hn; have := hx.pos; omega)) ht (fun W hW => make_one hp W hW) (fun W hW => by have := subOne (p := p) (B := 1) hp (by decide) W hW; rw [str_one] at this; exact this)
  have e1 : ((10 ^ p - 1 : Nat) : Int) = ((10 ^ p : Nat) : Int) - 1 := by omega
  rw [e1]
  unfold GPost
  rw [whole_gC]
  show Calls Tryz.prog 20 #[NV ((n : Int), (e : Int)), .int .i64 p] w (AnsPost _ _ (str 1) (str 1) 0 w)
  rw [str_one]
  exact this
theorem out_left {p n e : Nat} (hp : p ≤ 12) (hx : Red n e) (h8 : 8 * e ≤ n) (w : World) (ht : TabOf w) :
    Calls Tryz.prog 20 #[NV (-(n : Int), (e : Int)), .int .i64 p] w (GPost p 0 1 w) := by
  have := NormalL_of (-(n : Int), (e : Int)) p (str (gC p 1).1) (str (gC p 1).2) w hp hx.shortN (cI_nonpos.2 (by dsimp only; omega)) (by dsimp only; have := hx.pos; omega)
    (rightB_of hp (by dsimp only; have := hx.hn; have := hx.pos; omega) (by dsimp only; have := hx.hd; omega)) ht (fun W hW => make_one hp W hW)
  unfold GPost
  rw [zero_gC]
  show Calls Tryz.prog 20 #[NV (-(n : Int), (e : Int)), .int .i64 p] w (AnsPost (str 0) (str 1) _ _ 0 w)
  rw [str_zero, str_one]
  exact this
theorem at_zero {p : Nat} (hp0 : 0 < p) (hp : p ≤ 12) (w : World) (ht : TabOf w) :
    Calls Tryz.prog 20 #[NV (0, 1), .int .i64 p] w (GPost p ((10 ^ p / 2 : Nat) : Int) ((10 ^ p / 2 : Nat) : Int) w) := by
  have hT := tens_pos p
  obtain ⟨h1, h2⟩ := two_half hp0
  have hb : ((10 ^ p : Nat) : Int).natAbs ≤ 1000000000000000000 := tenN hp
  have := Normal_at p w hp (rightB_of hp (by decide) (by decide)) ⟨⟨isQ_h, isQ_h, by decide⟩, by omega, by rw [Int.one_mul]; exact lt_big hb (by decide +kernel), by rw [Int.one_mul]; exact lt_big hb (by decide +kernel), by rw [Int.one_mul]; exact lt_big (A := 1000000000000000001) (by omega) (by decide +kernel)⟩ ht
  have g1 : gridN false 1 2 ((10 ^ p : Nat) : Int) = ((10 ^ p / 2 : Nat) : Int) := by unfold gridN; rw [Int.one_mul, Bool.false_and, if_neg (by decide)]; omega
  have g2 : gridN true 1 2 ((10 ^ p : Nat) : Int) = ((10 ^ p / 2 : Nat) : Int) := by
    unfold gridN
    rw [Int.one_mul, Bool.true_and, decide_eq_true (show ((10 ^ p : Nat) : Int) % 2 = 0 by omega), if_neg (by decide)]; omega
  unfold AtPost gnum gden at this
  dsimp only at this
  rw [g1, g2] at this
  exact this
theorem N_pos {p : Nat} {V : Nat → Nat → Option (Nat × Nat)} {r1 r2 s1 s2 n e : Nat} (hp0 : 0 < p) (hp : p ≤ 12) (T : NTab p V r1 r2 s1 s2) (hx : Red n e) (he : e ≤ 50) (w : World) (ht : TabOf w) :
    Calls Tryz.prog 20 #[NV ((n : Int), (e : Int)), .int .i64 p] w (GPost p ((cellF p V n e).1 : Int) ((cellF p V n e).2 : Int) w) := by
  have B := cellF_bd hp0 T hx.pos he hx.g
  by_cases h0 : n = 0
  · have hc : cellF p V n e = (10 ^ p / 2, 10 ^ p / 2) := by unfold cellF; rw [if_pos h0]
    have he1 : e = 1 := by have := hx.g; rw [h0, Nat.gcd_zero_left] at this; exact this
    rw [hc, h0, he1]
    exact at_zero hp0 hp w ht
  · by_cases h8 : n < 8 * e
    · obtain ⟨l, h, v, c⟩ := B.2.2.2.2 h8 h0
      rw [T.hV] at v
      have := HC_pos hp0 hp hx (by omega) h8 T.rA T.rB (nHC_spec v) w ht
      rw [c]
      dsimp only
      rw [Int.natCast_add, Int.natCast_add]
      exact this
    · have hc : cellF p V n e = (10 ^ p - 1, 10 ^ p) := by unfold cellF; rw [if_neg h0, if_neg h8]
      rw [hc]
      exact out_right hp hx (by omega) w ht
theorem N_neg {p : Nat} {V : Nat → Nat → Option (Nat × Nat)} {r1 r2 s1 s2 n e : Nat} (hp0 : 0 < p) (hp : p ≤ 12) (T : NTab p V r1 r2 s1 s2) (hx : Red n e) (he : e ≤ 50) (w : World) (ht : TabOf w) :
    Calls Tryz.prog 20 #[NV (-(n : Int), (e : Int)), .int .i64 p] w (GPost p (((10 ^ p : Nat) : Int) - ((cellF p V n e).2 : Int)) (((10 ^ p : Nat) : Int) - ((cellF p V n e).1 : Int)) w) := by
  have B := cellF_bd hp0 T hx.pos he hx.g
  obtain ⟨t1, t2⟩ := two_half hp0
  by_cases h0 : n = 0
  · have hc : cellF p V n e = (10 ^ p / 2, 10 ^ p / 2) := by unfold cellF; rw [if_pos h0]
    have he1 : e = 1 := by have := hx.g; rw [h0, Nat.gcd_zero_left] at this; exact this
    rw [hc, h0, he1]
    dsimp only
    rw [show ((10 ^ p : Nat) : Int) - ((10 ^ p / 2 : Nat) : Int) = ((10 ^ p / 2 : Nat) : Int) by omega]
    exact at_zero hp0 hp w ht
  · by_cases h8 : n < 8 * e
    · obtain ⟨l, h, v, c⟩ := B.2.2.2.2 h8 h0
      rw [T.hV] at v
      have := HC_neg hp0 hp hx (by omega) h8 T.rA T.rB (nHC_spec v) w ht
      rw [c]
      dsimp only
      rw [show ((10 ^ p : Nat) : Int) - ((10 ^ p / 2 + h : Nat) : Int) = ((10 ^ p / 2 : Nat) : Int) - (h : Int) by omega, show ((10 ^ p : Nat) : Int) - ((10 ^ p / 2 + l : Nat) : Int) = ((10 ^ p / 2 : Nat) : Int) - (l : Int) by omega]
      exact this
    · have hc : cellF p V n e = (10 ^ p - 1, 10 ^ p) := by unfold cellF; rw [if_neg h0, if_neg h8]
      rw [hc]
      dsimp only
      rw [show ((10 ^ p : Nat) : Int) - ((10 ^ p : Nat) : Int) = 0 by omega, show ((10 ^ p : Nat) : Int) - ((10 ^ p - 1 : Nat) : Int) = 1 by omega]
      exact out_left hp hx (by omega) w ht
theorem cellF_le {p : Nat} {V : Nat → Nat → Option (Nat × Nat)} {r1 r2 s1 s2 n e : Nat} (hp0 : 0 < p) (hp : p ≤ 12) (T : NTab p V r1 r2 s1 s2) (hx : Red n e) (he : e ≤ 50) : (cellF p V n e).1 ≤ (cellF p V n e).2 := by
  have B := cellF_bd hp0 T hx.pos he hx.g
  by_cases h0 : n = 0
  · have hc : cellF p V n e = (10 ^ p / 2, 10 ^ p / 2) := by unfold cellF; rw [if_pos h0]
    rw [hc]; exact Nat.le_refl _
  · by_cases h8 : n < 8 * e
    · obtain ⟨l, h, v, c⟩ := B.2.2.2.2 h8 h0
      rw [T.hV] at v
      rw [c]
      refine Nat.add_le_add_left ?_ _
      rcases (nHC_spec v).way with ⟨a, b, h1, h2, h3, h4⟩ | ⟨a, b, a', b', h1, h2, h3, h4, h5, h6⟩
      · obtain ⟨_, _, _, _, _, e3, _⟩ := norm_pos (k := p + 15) (by omega) (by omega) hx.pos hx.n40 hx.d40 (Nat.le_of_lt h8) T.rA h1
        rw [← h2, ← h3]; exact div_le_cdN _ e3
      · obtain ⟨_, _, _, _, _, e3, _⟩ := norm_pos (k := p + 40) (by omega) (by omega) hx.pos hx.n40 hx.d40 (Nat.le_of_lt h8) T.rB h3
        rw [← h4, ← h5]; exact div_le_cdN _ e3
    · have hc : cellF p V n e = (10 ^ p - 1, 10 ^ p) := by unfold cellF; rw [if_neg h0, if_neg h8]
      rw [hc]; exact Nat.sub_le _ _

def cellZ (p : Nat) (V : Nat → Nat → Option (Nat × Nat)) (N : Int) (D : Nat) : Int × Int :=
  if 0 ≤ N then (((cellF p V (N.natAbs / Nat.gcd N.natAbs D) (D / Nat.gcd N.natAbs D)).1 : Int), ((cellF p V (N.natAbs / Nat.gcd N.natAbs D) (D / Nat.gcd N.natAbs D)).2 : Int))
  else (((10 ^ p : Nat) : Int) - ((cellF p V (N.natAbs / Nat.gcd N.natAbs D) (D / Nat.gcd N.natAbs D)).2 : Int), ((10 ^ p : Nat) : Int) - ((cellF p V (N.natAbs / Nat.gcd N.natAbs D) (D / Nat.gcd N.natAbs D)).1 : Int))
structure Arg (N : Int) (D : Nat) : Prop where
  d1 : 1 ≤ D
  d5 : D ≤ 50
  n : N.natAbs ≤ 9 * D
theorem Arg.red {N : Int} {D : Nat} (h : Arg N D) : Red (N.natAbs / Nat.gcd N.natAbs D) (D / Nat.gcd N.natAbs D) := by
  have := h.n; have := h.d5
  exact red_div h.d1 (by omega) (by omega)
theorem Arg.e5 {N : Int} {D : Nat} (h : Arg N D) : D / Nat.gcd N.natAbs D ≤ 50 := Nat.le_trans (Nat.div_le_self _ _) h.d5
theorem N_any {p : Nat} {V : Nat → Nat → Option (Nat × Nat)} {r1 r2 s1 s2 : Nat} {N : Int} {D : Nat} (hp0 : 0 < p) (hp : p ≤ 12) (T : NTab p V r1 r2 s1 s2) (h : Arg N D) (w : World) (ht : TabOf w) :
    Calls Tryz.prog 20 #[NV (rnum N (D : Int), rden N (D : Int)), .int .i64 p] w (GPost p (cellZ p V N D).1 (cellZ p V N D).2 w) := by
  unfold cellZ
  by_cases hN : 0 ≤ N
  · rw [if_pos hN]
    have e : N = (N.natAbs : Int) := by omega
    have e1 : rnum N (D : Int) = ((N.natAbs / Nat.gcd N.natAbs D : Nat) : Int) := by rw [e, rnum_nat, Int.natAbs_natCast]
    have e2 : rden N (D : Int) = ((D / Nat.gcd N.natAbs D : Nat) : Int) := by rw [e, rden_nat, Int.natAbs_natCast]
    rw [e1, e2]
    exact N_pos hp0 hp T h.red h.e5 w ht
  · rw [if_neg hN]
    have e : N = -(N.natAbs : Int) := by omega
    have e1 : rnum N (D : Int) = -((N.natAbs / Nat.gcd N.natAbs D : Nat) : Int) := by rw [e, rnum_neg, Int.natAbs_neg, Int.natAbs_natCast]
    have e2 : rden N (D : Int) = ((D / Nat.gcd N.natAbs D : Nat) : Int) := by rw [e, rden_neg, Int.natAbs_neg, Int.natAbs_natCast]
    rw [e1, e2]
    exact N_neg hp0 hp T h.red h.e5 w ht
theorem cellZ_bd {p : Nat} {V : Nat → Nat → Option (Nat × Nat)} {r1 r2 s1 s2 : Nat} {N : Int} {D : Nat} (hp0 : 0 < p) (hp : p ≤ 12) (T : NTab p V r1 r2 s1 s2) (h : Arg N D) :
    0 ≤ (cellZ p V N D).1 ∧ (cellZ p V N D).1 ≤ (cellZ p V N D).2 ∧ (cellZ p V N D).2 ≤ ((10 ^ p : Nat) : Int) := by
  have B := cellF_bd hp0 T h.red.pos h.e5 h.red.g
  have L := cellF_le hp0 hp T h.red h.e5
  unfold cellZ
  generalize cellF p V (N.natAbs / Nat.gcd N.natAbs D) (D / Nat.gcd N.natAbs D) = c at *
  have b1 := B.1
  have b2 := B.2.1
  have b3 := B.2.2.1
  have b4 := B.2.2.2.1
  split
  · dsimp only; omega
  · dsimp only; omega
theorem cellZ_neg {p : Nat} {V : Nat → Nat → Option (Nat × Nat)} {r1 r2 s1 s2 : Nat} {N : Int} {D : Nat} (hp0 : 0 < p) (T : NTab p V r1 r2 s1 s2) (h : Arg N D) :
    cellZ p V (-N) D = (((10 ^ p : Nat) : Int) - (cellZ p V N D).2, ((10 ^ p : Nat) : Int) - (cellZ p V N D).1) := by
  obtain ⟨t1, t2⟩ := two_half hp0
  unfold cellZ
  rw [Int.natAbs_neg]
  rcases Int.lt_trichotomy N 0 with hn | hn | hn
  · rw [if_pos (show 0 ≤ -N by omega), if_neg (show ¬ 0 ≤ N by omega)]
    dsimp only
    refine Prod.ext ?_ ?_
    · dsimp only; omega
    · dsimp only; omega
  · subst hn
    rw [if_pos (show (0 : Int) ≤ -0 by omega), if_pos (show (0 : Int) ≤ 0 by omega)]
    have hc : ∀ e, cellF p V ((0 : Int).natAbs / Nat.gcd (0 : Int).natAbs D) e = (10 ^ p / 2, 10 ^ p / 2) := fun e => by
      unfold cellF; rw [if_pos (by simp)]
    rw [hc]
    refine Prod.ext ?_ ?_
    · dsimp only; omega
    · dsimp only; omega
  · rw [if_neg (show ¬ 0 ≤ -N by omega), if_pos (show 0 ≤ N by omega)]
theorem red_lt {m d n e : Nat} (hd : 0 < d) (he : 0 < e) (h : m * e < n * d) : m / Nat.gcd m d * (e / Nat.gcd n e) < n / Nat.gcd n e * (d / Nat.gcd m d) := by
  have g1 := Nat.gcd_pos_of_pos_right m hd
  have g2 := Nat.gcd_pos_of_pos_right n he
  have a1 := Nat.div_mul_cancel (Nat.gcd_dvd_left m d)
  have a2 := Nat.div_mul_cancel (Nat.gcd_dvd_right m d)
  have b1 := Nat.div_mul_cancel (Nat.gcd_dvd_left n e)
  have b2 := Nat.div_mul_cancel (Nat.gcd_dvd_right n e)
  refine Nat.lt_of_mul_lt_mul_right (a := Nat.gcd m d * Nat.gcd n e) ?_
  generalize m / Nat.gcd m d = x at *
  generalize d / Nat.gcd m d = y at *
  generalize n / Nat.gcd n e = z at *
  generalize e / Nat.gcd n e = u at *
  generalize Nat.gcd m d = g at *
  generalize Nat.gcd n e = j at *
  have l1 : x * u * (g * j) = m * e := by rw [← a1, ← b2]; grind
  have l2 : z * y * (g * j) = n * d := by rw [← b1, ← a2]; grind
  rw [l1, l2]
  exact h
theorem cellZ_mono {p : Nat} {V : Nat → Nat → Option (Nat × Nat)} {r1 r2 s1 s2 : Nat} {N M : Int} {D E : Nat} (hp0 : 0 < p) (T : NTab p V r1 r2 s1 s2) (h : Arg N D) (k : Arg M E) (hlt : N * (E : Int) < M * (D : Int)) :
    (cellZ p V N D).1 ≤ (cellZ p V M E).1 ∧ (cellZ p V N D).2 ≤ (cellZ p V M E).2 := by
  obtain ⟨t1, t2⟩ := two_half hp0
  have B := cellF_bd hp0 T h.red.pos h.e5 h.red.g
  have C := cellF_bd hp0 T k.red.pos k.e5 k.red.g
  have hE : (0 : Int) < (E : Int) := by have := k.d1; omega
  have hD : (0 : Int) < (D : Int) := by have := h.d1; omega
  unfold cellZ
  by_cases hN : 0 ≤ N
  · have hM : 0 < M := by
      rcases Int.lt_or_le 0 M with g | g
      · exact g
      · have h1 := Int.mul_nonneg hN (Int.le_of_lt hE)
        have h2 := Int.mul_nonpos_of_nonpos_of_nonneg g (Int.le_of_lt hD)
        omega
    rw [if_pos hN, if_pos (Int.le_of_lt hM)]
    have hq : N.natAbs * E < M.natAbs * D := by
      have e1 : N = (N.natAbs : Int) := by omega
      have e2 : M = (M.natAbs : Int) := by omega
      rw [e1, e2] at hlt
      exact_mod_cast hlt
    have := cellF_mono hp0 T h.red.pos h.e5 h.red.g k.red.pos k.e5 k.red.g (red_lt h.d1 k.d1 hq)
    exact ⟨Int.ofNat_le.2 this.1, Int.ofNat_le.2 this.2⟩
  · rw [if_neg hN]
    by_cases hM : 0 ≤ M
    · rw [if_pos hM]
      have b1 := B.1
      have b2 := B.2.1
      have c1 := C.1
      have c2 := C.2.1
      dsimp only
      omega
    · rw [if_neg hM]
      have hq : M.natAbs * D < N.natAbs * E := by
        have e1 : N = -(N.natAbs : Int) := by omega
        have e2 : M = -(M.natAbs : Int) := by omega
        rw [e1, e2, Int.neg_mul, Int.neg_mul] at hlt
        have h3 : ((M.natAbs : Nat) : Int) * (D : Int) < ((N.natAbs : Nat) : Int) * (E : Int) := by omega
        exact_mod_cast h3
      have := cellF_mono hp0 T k.red.pos k.e5 k.red.g h.red.pos h.e5 h.red.g (red_lt k.d1 h.d1 hq)
      dsimp only
      omega
theorem nTab (p : Nat) (h1 : 1 ≤ p) (h2 : p ≤ 12) : ∃ V r1 r2 s1 s2, NTab p V r1 r2 s1 s2 := by
  have h : p = 1 ∨ p = 2 ∨ p = 3 ∨ p = 4 ∨ p = 5 ∨ p = 6 ∨ p = 7 ∨ p = 8 ∨ p = 9 ∨ p = 10 ∨ p = 11 ∨ p = 12 := by omega
  rcases h with rfl | rfl | rfl | rfl | rfl | rfl | rfl | rfl | rfl | rfl | rfl | rfl
  · exact ⟨V1, _, _, _, _, rtA1, rtB1, fun _ _ => rfl, _, _, _, _, by rw [show 10 ^ 1 / 2 = 5 by decide]; exact fi1⟩
  · exact ⟨V2, _, _, _, _, rtA2, rtB2, fun _ _ => rfl, _, _, _, _, by rw [show 10 ^ 2 / 2 = 50 by decide]; exact fi2⟩
  · exact ⟨V3, _, _, _, _, rtA3, rtB3, fun _ _ => rfl, _, _, _, _, by rw [show 10 ^ 3 / 2 = 500 by decide]; exact fi3⟩
  · exact ⟨V4, _, _, _, _, rtA4, rtB4, fun _ _ => rfl, _, _, _, _, by rw [show 10 ^ 4 / 2 = 5000 by decide]; exact fi4⟩
  · exact ⟨V5, _, _, _, _, rtA5, rtB5, fun _ _ => rfl, _, _, _, _, by rw [show 10 ^ 5 / 2 = 50000 by decide]; exact fi5⟩
  · exact ⟨V6, _, _, _, _, rtA6, rtB6, fun _ _ => rfl, _, _, _, _, by rw [show 10 ^ 6 / 2 = 500000 by decide]; exact fi6⟩
  · exact ⟨V7, _, _, _, _, rtA7, rtB7, fun _ _ => rfl, _, _, _, _, by rw [show 10 ^ 7 / 2 = 5000000 by decide]; exact fi7⟩
  · exact ⟨V8, _, _, _, _, rtA8, rtB8, fun _ _ => rfl, _, _, _, _, by rw [show 10 ^ 8 / 2 = 50000000 by decide]; exact fi8⟩
  · exact ⟨V9, _, _, _, _, rtA9, rtB9, fun _ _ => rfl, _, _, _, _, by rw [show 10 ^ 9 / 2 = 500000000 by decide]; exact fi9⟩
  · exact ⟨V10, _, _, _, _, rtA10, rtB10, fun _ _ => rfl, _, _, _, _, by rw [show 10 ^ 10 / 2 = 5000000000 by decide]; exact fi10⟩
  · exact ⟨V11, _, _, _, _, rtA11, rtB11, fun _ _ => rfl, _, _, _, _, by rw [show 10 ^ 11 / 2 = 50000000000 by decide]; exact fi11⟩
  · exact ⟨V12, _, _, _, _, rtA12, rtB12, fun _ _ => rfl, _, _, _, _, by rw [show 10 ^ 12 / 2 = 500000000000 by decide]; exact fi12⟩

set_option maxHeartbeats 4000000 in
theorem sym_ok (x0 x1 y0 y1 pl : Int) (hx0 : -9223372036854775808 ≤ x0 ∧ x0 ≤ 9223372036854775807) (hx1 : -9223372036854775808 ≤ x1 ∧ x1 ≤ 9223372036854775807)
    (hy0 : -9223372036854775808 ≤ y0 ∧ y0 ≤ 9223372036854775807) (hy1 : -9223372036854775808 ≤ y1 ∧ y1 ≤ 9223372036854775807) (hpl : -9223372036854775808 ≤ pl ∧ pl ≤ 9223372036854775807) (w : World) (ht : TabOf w) :
    Calls Tryz.prog 6 #[.agg #[.int .i64 x0, .int .i64 x1], .agg #[.int .i64 y0, .int .i64 y1], .int .i64 pl] w (TruePost w) := by
  have hSA := fun W h => lsmall_in x0 x1 9 W hx0.1 hx0.2 hx1.1 hx1.2 (by omega) h
  have hSB := fun W h => lsmall_in y0 y1 9 W hy0.1 hy0.2 hy1.1 hy1.2 (by omega) h
  have hPK := fun W => lpick_in pl 12 W hpl.1 hpl.2 (by omega) (by omega)
  have hpb := pickN_lo (c := pl) (n := 12) (by omega)
  have arg : ∀ c0 c1 : Int, ∃ (N : Int) (D : Nat), smN c0 c1 9 = N ∧ smD c1 = (D : Int) ∧ Arg N D := fun c0 c1 => by
    have hd := pickN_lo (c := c1) (n := 50) (by omega)
    have hD1 : 1 ≤ smD c1 := by unfold smD; omega
    have hD2 : smD c1 ≤ 50 := by unfold smD; omega
    have hq : 2 * (9 : Int) * smD c1 = 2 * (9 * smD c1) := Int.mul_assoc _ _ _
    have hp0 := pickN_lo (c := c0) (n := 2 * 9 * smD c1 + 1) (by omega)
    have hN1 : -(9 * smD c1) ≤ smN c0 c1 9 := by unfold smN; omega
    have hN2 : smN c0 c1 9 ≤ 9 * smD c1 := by unfold smN; omega
    generalize smN c0 c1 9 = N at *
    generalize smD c1 = D at *
    exact ⟨N, D.toNat, rfl, by omega, by omega, by omega, by omega⟩
  obtain ⟨N, D, e1, e2, hA⟩ := arg x0 x1
  obtain ⟨M, E, e3, e4, hB⟩ := arg y0 y1
  rw [show ((9 : Nat) : Int) = 9 from rfl, e1, e2] at hSA
  rw [show ((9 : Nat) : Int) = 9 from rfl, e3, e4] at hSB
  generalize pickN pl 12 = v at *
  obtain ⟨p, hpv⟩ : ∃ p : Nat, 1 + v = (p : Int) := ⟨(1 + v).toNat, by omega⟩
  have hp0 : 0 < p := by omega
  have hp : p ≤ 12 := by omega
  obtain ⟨V, r1, r2, s1, s2, T⟩ := nTab p hp0 hp
  have hAn : Arg (-N) D := ⟨hA.d1, hA.d5, by rw [Int.natAbs_neg]; exact hA.n⟩
  have nA := fun W h => N_any hp0 hp T hA W h
  have nM := fun W h => N_any hp0 hp T hAn W h
  have nB := fun W h => N_any hp0 hp T hB W h
  have bA := cellZ_bd hp0 hp T hA
  have bB := cellZ_bd hp0 hp T hB
  rw [cellZ_neg hp0 T hA] at nM
  have mono : N * (E : Int) < M * (D : Int) → _ := fun h => cellZ_mono hp0 T hA hB h
  generalize cellZ p V N D = c at *
  generalize cellZ p V M E = d at *
  obtain ⟨L, U⟩ := c
  obtain ⟨L', U'⟩ := d
  dsimp only at nA nM nB bA bB mono
  have hT := tens_pos p
  have hTb : ((10 ^ p : Nat) : Int).natAbs ≤ 10 ^ 20 := Nat.le_trans (tenN hp) (by decide)
  have big20 : 10 ^ 20 ≤ 10 ^ 21 := by decide
  have hLb : L.natAbs ≤ 10 ^ 21 := by omega
  have hUb : U.natAbs ≤ 10 ^ 21 := by omega
  have hLb' : L'.natAbs ≤ 10 ^ 21 := by omega
  have hUb' : U'.natAbs ≤ 10 ^ 21 := by omega
  have iP := gC_iv hp hLb hUb bA.2.1
  have iR := gC_iv hp hLb' hUb' bB.2.1
  have hDp : (0 : Int) < (D : Int) := by have := hA.d1; omega
  have hEp : (0 : Int) < (E : Int) := by have := hB.d1; omega
  have hDb : ((D : Nat) : Int).natAbs ≤ 1000 := by have := hA.d5; omega
  have hEb : ((E : Nat) : Int).natAbs ≤ 1000 := by have := hB.d5; omega
  have hNb : N.natAbs ≤ 1000 := by have := hA.n; have := hA.d5; omega
  have hMb : M.natAbs ≤ 1000 := by have := hB.n; have := hB.d5; omega
  have aR : IsR (rnum N (D : Int)) (rden N (D : Int)) := isR_of hDp (lt_big (A := 1000) hNb (by decide +kernel)) (lt_big (A := 1000) hDb (by decide +kernel))
  have bR : IsR (rnum M (E : Int)) (rden M (E : Int)) := isR_of hEp (lt_big (A := 1000) hMb (by decide +kernel)) (lt_big (A := 1000) hEb (by decide +kernel))
  have nl : (rnum N (D : Int)).natAbs ≤ 1000 := Nat.le_trans (rnum_le hDp) hNb
  have dl : (rden N (D : Int)).natAbs ≤ 1000 := Nat.le_trans (rden_le hDp) hDb
  -- - a
  have hms : qSub (0, 1) (rnum N (D : Int), rden N (D : Int)) = (rnum (-N) (D : Int), rden (-N) (D : Int)) := by
    unfold qSub
    dsimp only
    have n1 := rnum_mul (n := N) hDp
    have d1 := rden_mul (n := N) hDp
    have g1 := gcd_pos' (n := N) hDp
    have p1 := rden_pos (n := N) hDp
    generalize rnum N (D : Int) = a at *
    generalize rden N (D : Int) = b at *
    generalize ((Int.gcd N (D : Int) : Nat) : Int) = g at *
    have k1 : (0 * b - a * 1) * g = -N := by rw [← n1]; grind
    have k2 : 1 * b * g = (D : Int) := by rw [← d1]; grind
    rw [rnum_of (by omega) g1 k1 k2, rden_of (by omega) g1 k1 k2]
  have hRS : ∀ W, TabOf W → Calls Tryz.prog 15 #[.agg #[.string (str 0), .string (str 1)], .agg #[.string (str (rnum N (D : Int))), .string (str (rden N (D : Int)))]] W (RPost (str (rnum (-N) (D : Int))) (str (rden (-N) (D : Int))) W) := fun W h => by
    have := subQ (a := (0, 1)) (b := (rnum N (D : Int), rden N (D : Int))) ⟨isQ_0, aR, lt_big (A := 10000) (by dsimp only; omega) (by decide +kernel), lt_big (A := 10000) (by dsimp only; omega) (by decide +kernel), lt_big (A := 10000) (by dsimp only; omega) (by decide +kernel), lt_big (A := 10000) (by dsimp only; omega) (by decide +kernel)⟩ h
    rw [hms] at this
    exact this
  have hNA : ∀ W, TabOf W → Calls Tryz.prog 20 #[.agg #[.string (str (rnum N (D : Int))), .string (str (rden N (D : Int)))], .int .i64 p] W (AnsPost (str (gC p L).1) (str (gC p L).2) (str (gC p U).1) (str (gC p U).2) 0 W) := nA
  have hNM : ∀ W, TabOf W → Calls Tryz.prog 20 #[.agg #[.string (str (rnum (-N) (D : Int))), .string (str (rden (-N) (D : Int)))], .int .i64 p] W (AnsPost (str (gC p (((10 ^ p : Nat) : Int) - U)).1) (str (gC p (((10 ^ p : Nat) : Int) - U)).2) (str (gC p (((10 ^ p : Nat) : Int) - L)).1) (str (gC p (((10 ^ p : Nat) : Int) - L)).2) 0 W) := nM
  have hNB : ∀ W, TabOf W → Calls Tryz.prog 20 #[.agg #[.string (str (rnum M (E : Int))), .string (str (rden M (E : Int)))], .int .i64 p] W (AnsPost (str (gC p L').1) (str (gC p L').2) (str (gC p U').1) (str (gC p U').2) 0 W) := nB
  have hPT : ∀ W, TabOf W → Calls Tryz.prog 22 #[.agg #[.string (str 1), .string (str 1)]] W fun e w' => e = .returned (.agg #[.string (str 1), .string (str 1), .string (str 1), .string (str 1)]) ∧ Below W.heap.size W w' := fun W h => point_in 1 1 W isR_one h
  have i11 : IsI 1 1 1 1 := ⟨isR_one, isR_one, by decide⟩
  have hES : ∀ W, TabOf W → Calls Tryz.prog 21 #[.agg #[.string (str 1), .string (str 1), .string (str 1), .string (str 1)], .agg #[.string (str (gC p L).1), .string (str (gC p L).2), .string (str (gC p U).1), .string (str (gC p U).2)]] W (AnsPost (str (gC p (((10 ^ p : Nat) : Int) - U)).1) (str (gC p (((10 ^ p : Nat) : Int) - U)).2) (str (gC p (((10 ^ p : Nat) : Int) - L)).1) (str (gC p (((10 ^ p : Nat) : Int) - L)).2) 0 W) := fun W h =>
    sub_raw 1 1 1 1 _ _ _ _ _ _ _ _ W i11 iP ⟨fun W h => subOne hp hUb W h, fun W h => subOne hp hLb W h⟩ h
  have hC0 : ∀ W, TabOf W → Calls Tryz.prog 17 #[.agg #[.string (str (rnum N (D : Int))), .string (str (rden N (D : Int)))], .agg #[.string (str (rnum M (E : Int))), .string (str (rden M (E : Int)))]] W (IntPost (cmpQ (rnum N (D : Int)) (rden N (D : Int)) (rnum M (E : Int)) (rden M (E : Int))) W) := fun W h => rcmp_in _ _ _ _ W aR bR h
  have hC1 : ∀ W, TabOf W → Calls Tryz.prog 17 #[.agg #[.string (str (gC p L).1), .string (str (gC p L).2)], .agg #[.string (str (gC p L').1), .string (str (gC p L').2)]] W (IntPost (cmpQ (gC p L).1 (gC p L).2 (gC p L').1 (gC p L').2) W) := fun W h => rcmp_in _ _ _ _ W iP.1 iR.1 h
  have hC2 : ∀ W, TabOf W → Calls Tryz.prog 17 #[.agg #[.string (str (gC p U).1), .string (str (gC p U).2)], .agg #[.string (str (gC p U').1), .string (str (gC p U').2)]] W (IntPost (cmpQ (gC p U).1 (gC p U).2 (gC p U').1 (gC p U').2) W) := fun W h => rcmp_in _ _ _ _ W iP.2.1 iR.2.1 h
  have q0 : cmpQ (rnum N (D : Int)) (rden N (D : Int)) (rnum M (E : Int)) (rden M (E : Int)) = cmpI (N * (E : Int)) (M * (D : Int)) := by rw [cmpQ_left' hDp, cmpQ_right' hEp]; rfl
  have qg : ∀ A B : Int, A ≤ B → cmpQ (gC p A).1 (gC p A).2 (gC p B).1 (gC p B).2 ≤ 0 := fun A B h => by
    show cmpQ (rnum A ((10 ^ p : Nat) : Int)) (rden A ((10 ^ p : Nat) : Int)) (rnum B ((10 ^ p : Nat) : Int)) (rden B ((10 ^ p : Nat) : Int)) ≤ 0
    rw [cmpQ_left' hT, cmpQ_right' hT]
    exact cI_nonpos.2 (Int.mul_le_mul_of_nonneg_right h (Int.le_of_lt hT))
  have i01 : IsI 0 1 1 1 := ⟨isQ_0, isR_one, by decide⟩
  have inU : ∀ A : Int, 0 ≤ A → A ≤ ((10 ^ p : Nat) : Int) → inQ 0 1 1 1 (gC p A).1 (gC p A).2 = true := fun A h1 h2 => by
    unfold inQ gC
    dsimp only
    rw [cmpQ_left' hT, cmpQ_right' hT]
    have e1 : cmpQ 0 1 A ((10 ^ p : Nat) : Int) ≤ 0 := by
      show cmpI (0 * ((10 ^ p : Nat) : Int)) (A * 1) ≤ 0
      exact cI_nonpos.2 (by rw [Int.zero_mul, Int.mul_one]; exact h1)
    have e2 : cmpQ A ((10 ^ p : Nat) : Int) 1 1 ≤ 0 := by
      show cmpI (A * 1) (1 * ((10 ^ p : Nat) : Int)) ≤ 0
      exact cI_nonpos.2 (by rw [Int.one_mul, Int.mul_one]; exact h2)
    rw [decide_eq_true e1, decide_eq_true e2]
    rfl
  have hWI : ∀ W, TabOf W → Calls Tryz.prog 24 #[.agg #[.string (str (gC p L).1), .string (str (gC p L).2), .string (str (gC p U).1), .string (str (gC p U).2)], .agg #[.string (str 0), .string (str 1), .string (str 1), .string (str 1)]] W (TruePost W) := fun W h =>
    within_in _ _ _ _ 0 1 1 1 W iP i01 (inU L (by omega) (by omega)) (inU U (by omega) (by omega)) h
  have hO0 : ∀ W, TabOf W → Calls Tryz.prog 12 #[.int .i64 0, .int .i64 1] W (OfPost (str 0) (str 1) W) := fun W h => lof_ok 0 1 0 1 (by decide +kernel) (by decide +kernel) (by decide) (by decide) (by decide) W h
  have hO1 : ∀ W, TabOf W → Calls Tryz.prog 12 #[.int .i64 1, .int .i64 1] W (OfPost (str 1) (str 1) W) := fun W h => lof_ok 1 1 1 1 (by decide +kernel) (by decide +kernel) (by decide) (by decide) (by decide) W h
  have hwr : IntKind.i64.wrap (1 + v) = (p : Int) := by rw [hpv]; exact IntWalk.i64_in _ (by omega)
  by_cases hlt : N * (E : Int) < M * (D : Int)
  · have m := mono hlt
    have k1 := qg L L' m.1
    have k2 := qg U U' m.2
    exact lsym_lt w ht x0 x1 y0 y1 pl v (p : Int) _ _ _ _ _ _ _ (str 0) (str 1) _ _ _ _ _ _ _ _ _ _ _ _ _ _ hwr (decide_eq_true (by rw [q0]; exact cI_neg.2 hlt)) (decide_eq_false (by omega)) (decide_eq_false (by omega))
      hSA hSB hPK hO0 hRS hNA hNM hNB hO1 hPT hES hC0 hC1 hC2 hWI
  · exact lsym_ge w ht x0 x1 y0 y1 pl v (p : Int) _ _ _ _ _ (str 0) (str 1) _ _ _ _ _ _ _ _ _ _ _ _ _ _ hwr (decide_eq_false (by rw [q0]; exact fun g => hlt (cI_neg.1 g)))
      hSA hSB hPK hO0 hRS hNA hNM hNB hO1 hPT hES hC0 hWI
end Go.Proofs.YtppbhnhmaocdnaaGreatDoor
