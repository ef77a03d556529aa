/- SpecialBounds holds at every input. -/
import Derived.Test.YtppbhnhmaocdnaaGreatDoorXWkLawB
import Derived.Test.YtppbhnhmaocdnaaGreatDoorXTabE
import Derived.Test.YtppbhnhmaocdnaaGreatDoorXTabL
set_option linter.unusedVariables false
set_option linter.unusedSimpArgs false
namespace Go.Proofs.YtppbhnhmaocdnaaGreatDoor
open Go.RowKit Go.Shelf

theorem gp_bd {n : Nat} (h : n ≤ 10 ^ 100) : ((n : Nat) : Int).natAbs ≤ 10 ^ 152 := by rw [Int.natAbs_natCast]; exact Nat.le_trans h (Nat.le_of_ble_eq_true (by decide +kernel))
theorem red_le {m e : Nat} {c : Nat} (he : 0 < e) (h : m ≤ c * e) : m / Nat.gcd m e ≤ c * (e / Nat.gcd m e) := by
  have hg := Nat.gcd_pos_of_pos_right m he
  have e1 := Nat.div_mul_cancel (Nat.gcd_dvd_left m e)
  have e2 := Nat.div_mul_cancel (Nat.gcd_dvd_right m e)
  refine Nat.le_of_mul_le_mul_right ?_ hg
  rw [e1, Nat.mul_assoc, e2]; exact h
theorem red_gcd {m e : Nat} (he : 0 < e) : Nat.gcd (m / Nat.gcd m e) (e / Nat.gcd m e) = 1 := Nat.gcd_div_gcd_div_gcd_of_pos_right he
theorem up15 {b : Nat} (h : b ≤ 10 ^ 90) : cdN b (10 ^ 15) ≤ 10 ^ 100 := by
  have : (b + (10 ^ 15 - 1)) / 10 ^ 15 ≤ b + (10 ^ 15 - 1) := Nat.div_le_self _ _
  have h2 : 10 ^ 90 + 10 ^ 15 ≤ 10 ^ 100 := Nat.le_of_ble_eq_true (by decide +kernel)
  show (b + (10 ^ 15 - 1)) / 10 ^ 15 ≤ _
  omega
theorem castA {m e U : Nat} (h : (m + e) * 10000000000 ≤ U * e) : ((m : Int) + e) * 10000000000 ≤ (U : Int) * e := by
  have h2 : (((m + e) * 10000000000 : Nat) : Int) ≤ ((U * e : Nat) : Int) := Int.ofNat_le.2 h
  rw [Int.natCast_mul, Int.natCast_mul, Int.natCast_add] at h2
  exact h2
theorem castB {m e U : Nat} (h : e * 10000000000 ≤ m * 10000000000 + U * e) : (e : Int) * 10000000000 ≤ (m : Int) * 10000000000 + (U : Int) * e := by
  have h2 : ((e * 10000000000 : Nat) : Int) ≤ ((m * 10000000000 + U * e : Nat) : Int) := Int.ofNat_le.2 h
  rw [Int.natCast_mul, Int.natCast_add, Int.natCast_mul, Int.natCast_mul] at h2
  exact h2
theorem castC {n d L : Nat} (h : L * d + d * 10000000000 ≤ n * 10000000000) : (L : Int) * d + (d : Int) * 10000000000 ≤ (n : Int) * 10000000000 := by
  have h2 : ((L * d + d * 10000000000 : Nat) : Int) ≤ ((n * 10000000000 : Nat) : Int) := Int.ofNat_le.2 h
  rw [Int.natCast_add, Int.natCast_mul, Int.natCast_mul, Int.natCast_mul] at h2
  exact h2
theorem exp10_pos {m e : Nat} (hm0 : 0 < m) (he : 1 ≤ e) (he2 : e ≤ 50) (hm : m ≤ 19 * e) : ∃ L U : Int, (∀ W, TabOf W → Calls Tryz.prog 13 #[NV (rnum (m : Int) (e : Int), rden (m : Int) (e : Int)), .int .i64 10] W (GPost 10 L U W)) ∧
    0 ≤ L ∧ ((m : Int) + e) * 10000000000 ≤ U * e ∧ L.natAbs ≤ 10 ^ 152 ∧ U.natAbs ≤ 10 ^ 152 := by
  have hx := red_div (n := m) (T := e) he (by omega) (by omega)
  have hg := Nat.gcd_pos_of_pos_right m he
  have e1 := Nat.div_mul_cancel (Nat.gcd_dvd_left m e)
  have e2 := Nat.div_mul_cancel (Nat.gcd_dvd_right m e)
  have hd1 : 0 < e / Nat.gcd m e := hx.pos
  have hd2 : e / Nat.gcd m e ≤ 50 := Nat.le_trans (Nat.div_le_self _ _) he2
  have hn0 : 0 < m / Nat.gcd m e := Nat.div_pos (Nat.le_of_dvd hm0 (Nat.gcd_dvd_left _ _)) hg
  have hn19 := red_le he hm
  have hc := rowE_spec (rEAll _ hd1 hd2) hn0 hn19 (red_gcd he)
  rw [rnum_nat, rden_nat]
  generalize m / Nat.gcd m e = n at *
  generalize e / Nat.gcd m e = d at *
  generalize Nat.gcd m e = g at *
  obtain ⟨a, b, h1, h2, h3, h4, h5, h6⟩ := chkE_spec hc
  have ho := nOf_bd (k := 25) (c := 20) hd1 (by omega : n ≤ 20 * d)
  obtain ⟨_, _, _, _, q3, q4⟩ := exp_ev (k := 25) (by omega) (nOf_le _ _ _) (Nat.le_trans ho (Nat.le_of_ble_eq_true (by decide +kernel))) h1
  have hb : b ≤ 10 ^ 90 := Nat.le_trans q4 (Nat.le_of_ble_eq_true (by decide +kernel))
  refine ⟨_, _, fun W hW => Exp_pos (p := 10) (by omega) hx hn0 (by omega) h1 h2 W hW, by omega, ?_, gp_bd ?_, gp_bd (up15 hb)⟩
  · dsimp only
    generalize cdN b (10 ^ 15) = U at *
    have := Nat.mul_le_mul_right g h3
    have l1 : (d + n) * 10000000000 * g = (m + e) * 10000000000 := by rw [← e1, ← e2]; grind
    have l2 : U * d * g = U * e := by rw [← e2]; grind
    rw [l1, l2] at this
    exact castA this
  · have : a / 10 ^ 15 ≤ a := Nat.div_le_self _ _
    have h2 : 10 ^ 90 ≤ 10 ^ 100 := Nat.le_of_ble_eq_true (by decide +kernel)
    dsimp only at q3 ⊢
    exact Nat.le_trans this (Nat.le_trans q3 (Nat.le_trans hb h2))
theorem exp10_neg {m e : Nat} (hm0 : 0 < m) (he : 1 ≤ e) (he2 : e ≤ 50) (hm : m ≤ 19 * e) : ∃ L U : Int, (∀ W, TabOf W → Calls Tryz.prog 13 #[NV (rnum (-(m : Int)) (e : Int), rden (-(m : Int)) (e : Int)), .int .i64 10] W (GPost 10 L U W)) ∧
    0 ≤ L ∧ (-(m : Int) + e) * 10000000000 ≤ U * e ∧ L.natAbs ≤ 10 ^ 152 ∧ U.natAbs ≤ 10 ^ 152 := by
  have hx := red_div (n := m) (T := e) he (by omega) (by omega)
  have hg := Nat.gcd_pos_of_pos_right m he
  have e1 := Nat.div_mul_cancel (Nat.gcd_dvd_left m e)
  have e2 := Nat.div_mul_cancel (Nat.gcd_dvd_right m e)
  have hd1 : 0 < e / Nat.gcd m e := hx.pos
  have hd2 : e / Nat.gcd m e ≤ 50 := Nat.le_trans (Nat.div_le_self _ _) he2
  have hn0 : 0 < m / Nat.gcd m e := Nat.div_pos (Nat.le_of_dvd hm0 (Nat.gcd_dvd_left _ _)) hg
  have hn19 := red_le he hm
  have hc := rowE_spec (rEAll _ hd1 hd2) hn0 hn19 (red_gcd he)
  rw [rnum_neg, rden_neg]
  generalize m / Nat.gcd m e = n at *
  generalize e / Nat.gcd m e = d at *
  generalize Nat.gcd m e = g at *
  obtain ⟨a, b, h1, h2, h3, h4, h5, h6⟩ := chkE_spec hc
  have ho := nOf_bd (k := 25) (c := 20) hd1 (by omega : n ≤ 20 * d)
  obtain ⟨_, _, _, _, q3, q4⟩ := exp_ev (k := 25) (by omega) (nOf_le _ _ _) (Nat.le_trans ho (Nat.le_of_ble_eq_true (by decide +kernel))) h1
  have hq : (nOver 25 (10 ^ 25, 10 ^ 25) (a, b)).2 ≤ 10 ^ 90 := by
    refine (cdN_le h4).2 ?_
    have h7 : 10 ^ 25 * 10 ^ 25 ≤ 10 ^ 90 := Nat.le_of_ble_eq_true (by decide +kernel)
    exact Nat.le_trans h7 (Nat.le_mul_of_pos_right _ h4)
  have hql : (nOver 25 (10 ^ 25, 10 ^ 25) (a, b)).1 ≤ (nOver 25 (10 ^ 25, 10 ^ 25) (a, b)).2 := nOver_le 25 (Nat.le_refl _) q3 h4
  have hexp := fun W hW => Exp_neg (p := 10) (q := nOver 25 (10 ^ 25, 10 ^ 25) (a, b)) (by omega) hx hn0 (by omega) h1 h4 rfl (Nat.le_trans hq (Nat.le_of_ble_eq_true (by decide +kernel))) h5 W hW
  generalize nOver 25 (10 ^ 25, 10 ^ 25) (a, b) = q at *
  refine ⟨_, _, hexp, by omega, ?_, gp_bd ?_, gp_bd (up15 hq)⟩
  · generalize cdN q.2 (10 ^ 15) = U at *
    have := Nat.mul_le_mul_right g h6
    have l1 : d * 10000000000 * g = e * 10000000000 := by rw [← e2]; grind
    have l2 : (n * 10000000000 + U * d) * g = m * 10000000000 + U * e := by rw [← e1, ← e2]; grind
    rw [l1, l2] at this
    have t : ((e : Int)) * 10000000000 ≤ (m : Int) * 10000000000 + (U : Int) * (e : Int) := castB this
    generalize (U : Int) * (e : Int) = z at *
    omega
  · have : q.1 / 10 ^ 15 ≤ q.1 := Nat.div_le_self _ _
    have h2 : 10 ^ 90 ≤ 10 ^ 100 := Nat.le_of_ble_eq_true (by decide +kernel)
    exact Nat.le_trans this (Nat.le_trans hql (Nat.le_trans hq h2))
theorem exp10_zero {e : Nat} (he : 1 ≤ e) : ∃ L U : Int, (∀ W, TabOf W → Calls Tryz.prog 13 #[NV (rnum 0 (e : Int), rden 0 (e : Int)), .int .i64 10] W (GPost 10 L U W)) ∧
    0 ≤ L ∧ ((0 : Int) + e) * 10000000000 ≤ U * e ∧ L.natAbs ≤ 10 ^ 152 ∧ U.natAbs ≤ 10 ^ 152 := by
  have z1 : rnum 0 (e : Int) = 0 := by unfold rnum; split <;> simp
  have z2 : rden 0 (e : Int) = 1 := by unfold rden; rw [if_neg (by omega)]; simp; exact Int.ediv_self (by omega)
  rw [z1, z2]
  refine ⟨10000000000, 10000000000, fun W hW => ?_, by omega, by omega, by decide +kernel, by decide +kernel⟩
  have := Exp_at 10 W (by omega) (by decide +kernel) ⟨⟨isR_one, isR_one, by decide⟩, by decide, by decide +kernel, by decide +kernel, by decide +kernel⟩ hW
  have e1 : gnum false 1 1 10 = (gC 10 10000000000).1 := by decide +kernel
  have e2 : gden false 1 1 10 = (gC 10 10000000000).2 := by decide +kernel
  have e3 : gnum true 1 1 10 = (gC 10 10000000000).1 := by decide +kernel
  have e4 : gden true 1 1 10 = (gC 10 10000000000).2 := by decide +kernel
  unfold AtPost at this
  dsimp only at this
  rw [e1, e2, e3, e4] at this
  exact this
theorem exp10 {N D : Int} (hD : 1 ≤ D) (hD2 : D ≤ 50) (h1 : -(19 * D) ≤ N) (h2 : N ≤ 19 * D) : ∃ L U : Int, (∀ W, TabOf W → Calls Tryz.prog 13 #[NV (rnum N D, rden N D), .int .i64 10] W (GPost 10 L U W)) ∧
    0 ≤ L ∧ (N + D) * 10000000000 ≤ U * D ∧ L.natAbs ≤ 10 ^ 152 ∧ U.natAbs ≤ 10 ^ 152 := by
  obtain ⟨e, rfl⟩ : ∃ e : Nat, D = (e : Int) := ⟨D.toNat, by omega⟩
  rcases Int.lt_trichotomy N 0 with h | h | h
  · obtain ⟨m, rfl⟩ : ∃ m : Nat, N = -(m : Int) := ⟨N.natAbs, by omega⟩
    exact exp10_neg (by omega) (by omega) (by omega) (by omega)
  · subst h; exact exp10_zero (by omega)
  · obtain ⟨m, rfl⟩ : ∃ m : Nat, N = (m : Int) := ⟨N.natAbs, by omega⟩
    exact exp10_pos (by omega) (by omega) (by omega) (by omega)

theorem log10 {n d : Nat} (hn0 : 0 < n) (hn9 : n ≤ 999) (hd1 : 0 < d) (hd2 : d ≤ 50) (hg : Nat.gcd n d = 1) : ∃ L U : Int, (∀ W, TabOf W → Calls Tryz.prog 16 #[NV ((n : Int), (d : Int)), .int .i64 10] W (GPost 10 L U W)) ∧
    L * d ≤ ((n : Int) - d) * 10000000000 ∧ L.natAbs ≤ 10 ^ 152 ∧ U.natAbs ≤ 10 ^ 152 := by
  have hx : Red n d := ⟨hd1, hg, by omega, by omega⟩
  have hc := rowL_spec (rLAll _ hd1 hd2) hn0 hn9 hg
  rcases Nat.lt_trichotomy n d with h | h | h
  · obtain ⟨r, h1, h2, h3⟩ := chkL_lo hc h
    have hx' : Red d n := ⟨hn0, by rw [Nat.gcd_comm]; exact hg, by omega, by omega⟩
    obtain ⟨_, _, _, _, _, q3, q4⟩ := log_ev (k := 25) (by omega) hn0 (Nat.le_of_lt h) (by omega) hx'.rnum hx'.rden th25 h1
    have hb : r.2 ≤ 10 ^ 90 := Nat.le_trans q4 (Nat.le_of_ble_eq_true (by decide +kernel))
    have := up15 hb
    have h100 : 10 ^ 90 ≤ 10 ^ 100 := Nat.le_of_ble_eq_true (by decide +kernel)
    have h152 : 10 ^ 100 ≤ 10 ^ 152 := Nat.le_of_ble_eq_true (by decide +kernel)
    have hL : r.1 / 10 ^ 15 ≤ r.1 := Nat.div_le_self _ _
    refine ⟨_, _, fun W hW => Log_lo (p := 10) (by omega) hx hn0 h th25 h1 h2 W hW, ?_, by rw [Int.natAbs_neg]; exact gp_bd (up15 hb), by rw [Int.natAbs_neg]; exact gp_bd (Nat.le_trans hL (Nat.le_trans q3 (Nat.le_trans hb h100)))⟩
    generalize cdN r.2 (10 ^ 15) = U at *
    have t := castB (by rw [Nat.add_comm] at h3; exact h3 : d * 10000000000 ≤ n * 10000000000 + U * d)
    rw [Int.neg_mul]
    generalize (U : Int) * (d : Int) = z at *
    omega
  · subst h
    have hn1 : n = 1 := by rw [Nat.gcd_self] at hg; exact hg
    subst hn1
    refine ⟨0, 0, fun W hW => ?_, by omega, by decide +kernel, by decide +kernel⟩
    have := Log_at 10 W (by omega) (by decide +kernel) ⟨⟨isQ_0, isQ_0, by decide⟩, by decide, by decide +kernel, by decide +kernel, by decide +kernel⟩ hW
    have e1 : gnum false 0 1 10 = (gC 10 0).1 := by decide +kernel
    have e2 : gden false 0 1 10 = (gC 10 0).2 := by decide +kernel
    have e3 : gnum true 0 1 10 = (gC 10 0).1 := by decide +kernel
    have e4 : gden true 0 1 10 = (gC 10 0).2 := by decide +kernel
    unfold AtPost at this
    dsimp only at this
    rw [e1, e2, e3, e4] at this
    exact this
  · obtain ⟨r, h1, h2, h3⟩ := chkL_hi hc h
    obtain ⟨_, _, _, _, _, q3, q4⟩ := log_ev (k := 25) (by omega) hd1 (Nat.le_of_lt h) (by omega) hx.rnum hx.rden th25 h1
    have hb : r.2 ≤ 10 ^ 90 := Nat.le_trans q4 (Nat.le_of_ble_eq_true (by decide +kernel))
    have h100 : 10 ^ 90 ≤ 10 ^ 100 := Nat.le_of_ble_eq_true (by decide +kernel)
    have hL : r.1 / 10 ^ 15 ≤ r.1 := Nat.div_le_self _ _
    refine ⟨_, _, fun W hW => Log_hi (p := 10) (by omega) hx h th25 h1 h2 W hW, ?_, gp_bd (Nat.le_trans hL (Nat.le_trans q3 (Nat.le_trans hb h100))), gp_bd (up15 hb)⟩
    generalize r.1 / 10 ^ 15 = L at *
    have t : (L : Int) * (d : Int) + (d : Int) * 10000000000 ≤ (n : Int) * 10000000000 := castC h3
    generalize (L : Int) * (d : Int) = z at *
    omega

theorem wrapS {n : Int} (h0 : -1000000 ≤ n) (h1 : n ≤ 1000000) : IntKind.i64.wrap n = n := IntWalk.i64_in _ (by omega)
theorem short_big {n : Int} {A : Nat} (h : n.natAbs ≤ A) (hA : Nat.blt A big = true) : n.natAbs < big := lt_big h hA
set_option maxHeartbeats 4000000 in
theorem bounds_ok (x0 x1 y0 y1 : Int) (hx0 : -9223372036854775808 ≤ x0 ∧ x0 ≤ 9223372036854775807) (hx1 : -9223372036854775808 ≤ x1 ∧ x1 ≤ 9223372036854775807)
    (hy0 : -9223372036854775808 ≤ y0 ∧ y0 ≤ 9223372036854775807) (hy1 : -9223372036854775808 ≤ y1 ∧ y1 ≤ 9223372036854775807) (w : World) (ht : TabOf w) :
    Calls Tryz.prog 3 #[.agg #[.int .i64 x0, .int .i64 x1], .agg #[.int .i64 y0, .int .i64 y1]] w (TruePost w) := by
  have hSM := fun W h => lsmall_in x0 x1 19 W hx0.1 hx0.2 hx1.1 hx1.2 (by omega) h
  have hP1 := fun W => lpick_in y0 999 W hy0.1 hy0.2 (by omega) (by omega)
  have hP2 := fun W => lpick_in y1 50 W hy1.1 hy1.2 (by omega) (by omega)
  have hp1 := pickN_lo (c := y0) (n := 999) (by omega)
  have hp2 := pickN_lo (c := y1) (n := 50) (by omega)
  have hd := pickN_lo (c := x1) (n := 50) (by omega)
  have hD1 : 1 ≤ smD x1 := by unfold smD; omega
  have hD2 : smD x1 ≤ 50 := by unfold smD; omega
  have hq : 2 * (19 : Int) * smD x1 = 2 * (19 * smD x1) := Int.mul_assoc _ _ _
  have hp0 := pickN_lo (c := x0) (n := 2 * 19 * smD x1 + 1) (by omega)
  have hN1 : -(19 * smD x1) ≤ smN x0 x1 19 := by unfold smN; omega
  have hN2 : smN x0 x1 19 ≤ 19 * smD x1 := by unfold smN; omega
  generalize smN x0 x1 19 = N at *
  generalize smD x1 = D at *
  generalize pickN y0 999 = v1 at *
  generalize pickN y1 50 = v2 at *
  clear hp0 hd hq
  obtain ⟨L, U, hex, hL0, hU, hLb, hUb⟩ := exp10 hD1 hD2 hN1 hN2
  -- the second argument
  obtain ⟨bn, hbn⟩ : ∃ bn : Nat, 1 + v1 = (bn : Int) := ⟨(1 + v1).toNat, by omega⟩
  obtain ⟨bd, hbd⟩ : ∃ bd : Nat, 1 + v2 = (bd : Int) := ⟨(1 + v2).toNat, by omega⟩
  have hbn1 : 1 ≤ bn ∧ bn ≤ 999 := by omega
  have hbd1 : 1 ≤ bd ∧ bd ≤ 50 := by omega
  have hg := Nat.gcd_pos_of_pos_right bn hbd1.1
  have hrx := red_div (n := bn) (T := bd) hbd1.1 (by omega) (by omega)
  have hn0 : 0 < bn / Nat.gcd bn bd := Nat.div_pos (Nat.le_of_dvd hbn1.1 (Nat.gcd_dvd_left _ _)) hg
  have hn9 : bn / Nat.gcd bn bd ≤ 999 := Nat.le_trans (Nat.div_le_self _ _) hbn1.2
  have hd5 : bd / Nat.gcd bn bd ≤ 50 := Nat.le_trans (Nat.div_le_self _ _) hbd1.2
  obtain ⟨L2, U2, hlg, hL2, hLb2, hUb2⟩ := log10 hn0 hn9 hrx.pos hd5 (red_gcd hbd1.1)
  have hob : ∀ W, TabOf W → Calls Tryz.prog 12 #[.int .i64 (1 + v1), .int .i64 (1 + v2)] W (OfPost (str ((bn / Nat.gcd bn bd : Nat) : Int)) (str ((bd / Nat.gcd bn bd : Nat) : Int)) W) := fun W hW => by
    rw [hbn, hbd]
    exact lof_ok _ _ _ _ rnum_nat rden_nat (by omega) (by omega) (by omega) W hW
  generalize bn / Nat.gcd bn bd = n at *
  generalize bd / Nat.gcd bn bd = d at *
  have hR := hrx.isR
  have hd0 := hrx.pos
  -- the first one's numbers
  have hDp : 0 < D := by omega
  have nm := rnum_mul (n := N) hDp
  have dm := rden_mul (n := N) hDp
  have gp := gcd_pos' (n := N) hDp
  have dp := rden_pos (n := N) hDp
  have nl : (rnum N D).natAbs ≤ 10000 := Nat.le_trans (rnum_le hDp) (by omega)
  have dl : (rden N D).natAbs ≤ 10000 := Nat.le_trans (rden_le hDp) (by omega)
  have aR : IsR (rnum N D) (rden N D) := isR_of hDp (lt_big (A := 10000) (by omega) (by decide +kernel)) (lt_big (A := 10000) (by omega) (by decide +kernel))
  have hT : (0 : Int) < ((10 ^ 10 : Nat) : Int) := tens_pos 10
  have hTe : ((10 ^ 10 : Nat) : Int) = 10000000000 := by decide +kernel
  have hgL := gC_isR (p := 10) (by omega) hLb
  have hgU := gC_isR (p := 10) (by omega) hUb
  have hgL2 := gC_isR (p := 10) (by omega) hLb2
  have hadd : QAddOk (rnum N D, rden N D) (1, 1) := ⟨aR, isR_one, lt_big (A := 20000) (by dsimp only; omega) (by decide +kernel), lt_big (A := 20000) (by dsimp only; omega) (by decide +kernel), lt_big (A := 20000) (by dsimp only; omega) (by decide +kernel), lt_big (A := 20000) (by dsimp only; omega) (by decide +kernel)⟩
  have hsub : QSubOk ((n : Int), (d : Int)) (1, 1) := ⟨hR, isR_one, lt_big (A := 20000) (by dsimp only; omega) (by decide +kernel), lt_big (A := 20000) (by dsimp only; omega) (by decide +kernel), lt_big (A := 20000) (by dsimp only; omega) (by decide +kernel), lt_big (A := 20000) (by dsimp only; omega) (by decide +kernel)⟩
  have hY1 : 0 < rden N D * 1 := by omega
  have hY2 : 0 < (d : Int) * 1 := by omega
  have aI : IsR (qAdd (rnum N D, rden N D) (1, 1)).1 (qAdd (rnum N D, rden N D) (1, 1)).2 := isR_of hY1 hadd.hn hadd.hd
  have sI : IsR (qSub ((n : Int), (d : Int)) (1, 1)).1 (qSub ((n : Int), (d : Int)) (1, 1)).2 := isR_of hY2 hsub.hn hsub.hd
  have c1 : cmpQ (qAdd (rnum N D, rden N D) (1, 1)).1 (qAdd (rnum N D, rden N D) (1, 1)).2 (gC 10 U).1 (gC 10 U).2 ≤ 0 := by
    show cmpQ (rnum (rnum N D * 1 + 1 * rden N D) (rden N D * 1)) (rden (rnum N D * 1 + 1 * rden N D) (rden N D * 1)) (rnum U ((10 ^ 10 : Nat) : Int)) (rden U ((10 ^ 10 : Nat) : Int)) ≤ 0
    rw [cmpQ_left' hY1, cmpQ_right' hT]
    refine cI_nonpos.2 ?_
    rw [hTe]
    refine Int.le_of_mul_le_mul_right ?_ gp
    have l1 : (rnum N D * 1 + 1 * rden N D) * 10000000000 * ((Int.gcd N D : Nat) : Int) = (N + D) * 10000000000 := by
      generalize ((Int.gcd N D : Nat) : Int) = g at *
      generalize rnum N D = a at *
      generalize rden N D = c at *
      rw [← nm, ← dm]; grind
    have l2 : U * (rden N D * 1) * ((Int.gcd N D : Nat) : Int) = U * D := by
      generalize ((Int.gcd N D : Nat) : Int) = g at *
      generalize rden N D = c at *
      rw [← dm]; grind
    rw [l1, l2]
    exact hU
  have c2 : cmpQ (gC 10 L2).1 (gC 10 L2).2 (qSub ((n : Int), (d : Int)) (1, 1)).1 (qSub ((n : Int), (d : Int)) (1, 1)).2 ≤ 0 := by
    show cmpQ (rnum L2 ((10 ^ 10 : Nat) : Int)) (rden L2 ((10 ^ 10 : Nat) : Int)) (rnum ((n : Int) * 1 - 1 * (d : Int)) ((d : Int) * 1)) (rden ((n : Int) * 1 - 1 * (d : Int)) ((d : Int) * 1)) ≤ 0
    rw [cmpQ_left' hT, cmpQ_right' hY2]
    refine cI_nonpos.2 ?_
    rw [hTe, Int.mul_one, Int.mul_one, Int.one_mul]
    exact hL2
  have c3 : 0 ≤ cmpQ (gC 10 L).1 (gC 10 L).2 0 1 := by
    show 0 ≤ cmpQ (rnum L ((10 ^ 10 : Nat) : Int)) (rden L ((10 ^ 10 : Nat) : Int)) 0 1
    rw [cmpQ_left' hT]
    refine cI_nonneg.2 ?_
    omega
  have hAD : ∀ W, TabOf W → Calls Tryz.prog 11 #[.agg #[.string (str (rnum N D)), .string (str (rden N D))], .agg #[.string (str 1), .string (str 1)]] W (RPost (str (qAdd (rnum N D, rden N D) (1, 1)).1) (str (qAdd (rnum N D, rden N D) (1, 1)).2) W) := fun W h => addQ hadd h
  have hSB : ∀ W, TabOf W → Calls Tryz.prog 15 #[.agg #[.string (str (n : Int)), .string (str (d : Int))], .agg #[.string (str 1), .string (str 1)]] W (RPost (str (qSub ((n : Int), (d : Int)) (1, 1)).1) (str (qSub ((n : Int), (d : Int)) (1, 1)).2) W) := fun W h => subQ hsub h
  have hC1 : ∀ W, TabOf W → Calls Tryz.prog 17 #[.agg #[.string (str (qAdd (rnum N D, rden N D) (1, 1)).1), .string (str (qAdd (rnum N D, rden N D) (1, 1)).2)], .agg #[.string (str (gC 10 U).1), .string (str (gC 10 U).2)]] W (IntPost (cmpQ (qAdd (rnum N D, rden N D) (1, 1)).1 (qAdd (rnum N D, rden N D) (1, 1)).2 (gC 10 U).1 (gC 10 U).2) W) := fun W h => rcmp_in _ _ _ _ W aI hgU h
  have hC2 : ∀ W, TabOf W → Calls Tryz.prog 17 #[.agg #[.string (str (gC 10 L2).1), .string (str (gC 10 L2).2)], .agg #[.string (str (qSub ((n : Int), (d : Int)) (1, 1)).1), .string (str (qSub ((n : Int), (d : Int)) (1, 1)).2)]] W (IntPost (cmpQ (gC 10 L2).1 (gC 10 L2).2 (qSub ((n : Int), (d : Int)) (1, 1)).1 (qSub ((n : Int), (d : Int)) (1, 1)).2) W) := fun W h => rcmp_in _ _ _ _ W hgL2 sI h
  have hC3 : ∀ W, TabOf W → Calls Tryz.prog 17 #[.agg #[.string (str (gC 10 L).1), .string (str (gC 10 L).2)], .agg #[.string (str 0), .string (str 1)]] W (IntPost (cmpQ (gC 10 L).1 (gC 10 L).2 0 1) W) := fun W h => rcmp_in _ _ _ _ W hgL isQ_0 h
  generalize cmpQ (qAdd (rnum N D, rden N D) (1, 1)).1 (qAdd (rnum N D, rden N D) (1, 1)).2 (gC 10 U).1 (gC 10 U).2 = k1 at *
  generalize cmpQ (gC 10 L2).1 (gC 10 L2).2 (qSub ((n : Int), (d : Int)) (1, 1)).1 (qSub ((n : Int), (d : Int)) (1, 1)).2 = k2 at *
  generalize cmpQ (gC 10 L).1 (gC 10 L).2 0 1 = k3 at *
  have hEX : ∀ W, TabOf W → Calls Tryz.prog 13 #[.agg #[.string (str (rnum N D)), .string (str (rden N D))], .int .i64 10] W (AnsPost (str (gC 10 L).1) (str (gC 10 L).2) (str (gC 10 U).1) (str (gC 10 U).2) 0 W) := hex
  have hLG : ∀ W, TabOf W → Calls Tryz.prog 16 #[.agg #[.string (str (n : Int)), .string (str (d : Int))], .int .i64 10] W (AnsPost (str (gC 10 L2).1) (str (gC 10 L2).2) (str (gC 10 U2).1) (str (gC 10 U2).2) 0 W) := hlg
  have hS : ∀ W, TabOf W → Calls Tryz.prog 10 #[.agg #[.int .i64 x0, .int .i64 x1], .int .i64 19] W (OfPost (str (rnum N D)) (str (rden N D)) W) := hSM
  exact lbounds_raw w ht x0 x1 y0 y1 v1 v2 k1 k2 k3 _ _ (str 0) (str 1) _ _ _ _ _ _ _ _ _ _ _ _ _ _ (wrapS (by omega) (by omega)) (wrapS (by omega) (by omega)) (decide_eq_true c1) (decide_eq_true c2) (decide_eq_true c3)
    hS (fun W h => lof_ok 1 1 1 1 (by decide +kernel) (by decide +kernel) (by decide) (by decide) (by decide) W h) (fun W h => lof_ok 0 1 0 1 (by decide +kernel) (by decide +kernel) (by decide) (by decide) (by decide) W h)
    hAD hEX hP1 hP2 hob hSB hLG hC1 hC2 hC3
end Go.Proofs.YtppbhnhmaocdnaaGreatDoor
