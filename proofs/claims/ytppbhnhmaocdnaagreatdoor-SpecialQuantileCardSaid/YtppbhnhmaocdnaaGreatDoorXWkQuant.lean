/- SpecialQuantile holds at every input. -/
import Derived.Test.YtppbhnhmaocdnaaGreatDoorXWkLawQ
import Derived.Test.YtppbhnhmaocdnaaGreatDoorXTabQ
set_option linter.unusedVariables false
set_option linter.unusedSimpArgs false
namespace Go.Proofs.YtppbhnhmaocdnaaGreatDoor
open Go.RowKit Go.Shelf

theorem wrapQ {n : Int} (h0 : -1000000 ≤ n) (h1 : n ≤ 1000000) : IntKind.i64.wrap n = n := IntWalk.i64_in _ (by omega)
theorem pt_isI {n d : Int} (h : IsR n d) : IsI n d n d := ⟨h, h, cI_nonpos.2 (Int.le_refl _)⟩
/-- The cell from A to A + 1: what rounding, width and grid make of it. -/
theorem cellX {p : Nat} {A : Int} (hp : p ≤ 12) (hA : A.natAbs ≤ 10 ^ 20) : CellOk p p (A, A + 1) ∧ pCl p p (A, A + 1) = gC p A ∧ pCh p p (A, A + 1) = gC p (A + 1) := by
  have h20 : 10 ^ 20 + 1 ≤ 10 ^ 150 := Nat.le_of_ble_eq_true (by decide +kernel)
  have e : ((10 ^ (p - p) : Nat) : Int) = 1 := by rw [Nat.sub_self]; rfl
  refine cell_ev (by omega) hp (Nat.le_refl _) (by dsimp only; omega) (by dsimp only; omega) (by dsimp only; omega) ?_ ?_ (by omega) (by omega)
  · rw [e]; exact (Int.ediv_one A).symm
  · rw [e]; unfold cdv; rw [Int.emod_one, if_pos rfl]; exact (Int.ediv_one (A + 1)).symm
theorem cell_rnd {p : Nat} {A : Int} (hp : p ≤ 12) (hA : A.natAbs ≤ 10 ^ 20) (W : World) (hW : TabOf W) :
    Calls Tryz.prog 59 #[.agg #[.string (str (gC p A).1), .string (str (gC p A).2), .string (str (gC p (A + 1)).1), .string (str (gC p (A + 1)).2)], .int .i64 p] W (AnsPost (str (gC p A).1) (str (gC p A).2) (str (gC p (A + 1)).1) (str (gC p (A + 1)).2) 0 W) := by
  obtain ⟨h, h1, h2⟩ := cellX hp hA
  have := round_in _ _ _ _ p W h.rn hW
  have e1 : (gnum false (pMk p A).1 (pMk p A).2 p, gden false (pMk p A).1 (pMk p A).2 p) = gC p A := h1
  have e2 : (gnum true (pMk p (A + 1)).1 (pMk p (A + 1)).2 p, gden true (pMk p (A + 1)).1 (pMk p (A + 1)).2 p) = gC p (A + 1) := h2
  rw [show gnum false (pMk p (A, A + 1).1).1 (pMk p (A, A + 1).1).2 p = (gC p A).1 from congrArg Prod.fst e1, show gden false (pMk p (A, A + 1).1).1 (pMk p (A, A + 1).1).2 p = (gC p A).2 from congrArg Prod.snd e1,
    show gnum true (pMk p (A, A + 1).2).1 (pMk p (A, A + 1).2).2 p = (gC p (A + 1)).1 from congrArg Prod.fst e2, show gden true (pMk p (A, A + 1).2).1 (pMk p (A, A + 1).2).2 p = (gC p (A + 1)).2 from congrArg Prod.snd e2] at this
  exact this
theorem wid_num {p : Nat} (A : Int) : rnum ((gC p (A + 1)).1 * (gC p A).2 - (gC p A).1 * (gC p (A + 1)).2) ((gC p (A + 1)).2 * (gC p A).2) = rnum 1 ((10 ^ p : Nat) : Int) ∧
    rden ((gC p (A + 1)).1 * (gC p A).2 - (gC p A).1 * (gC p (A + 1)).2) ((gC p (A + 1)).2 * (gC p A).2) = rden 1 ((10 ^ p : Nat) : Int) := by
  have hT := tens_pos p
  unfold gC
  dsimp only
  generalize ((10 ^ p : Nat) : Int) = T at *
  have nL := rnum_mul (n := A) hT
  have dL := rden_mul (n := A) hT
  have gL := gcd_pos' (n := A) hT
  have pL := rden_pos (n := A) hT
  have nU := rnum_mul (n := A + 1) hT
  have dU := rden_mul (n := A + 1) hT
  have gU := gcd_pos' (n := A + 1) hT
  have pU := rden_pos (n := A + 1) hT
  generalize rnum (A + 1) T = a at *
  generalize rden (A + 1) T = c at *
  generalize rnum A T = e at *
  generalize rden A T = f at *
  generalize ((Int.gcd (A + 1) T : Nat) : Int) = g at *
  generalize ((Int.gcd A T : Nat) : Int) = j at *
  have k1 : (a * f - e * c) * (g * j) = T := by
    have h1 : (a * f - e * c) * (g * j) = (a * g) * (f * j) - (e * j) * (c * g) := by grind
    rw [h1, nU, dL, nL, dU]; grind
  have k2 : c * f * (g * j) = T * T := by
    have h1 : c * f * (g * j) = (c * g) * (f * j) := by grind
    rw [h1, dU, dL]
  have hgj : 0 < g * j := Int.mul_pos gU gL
  exact ⟨(rnum_of (Int.mul_pos pU pL) hgj k1 k2).trans (rnum_of hT hT (Int.one_mul T) rfl).symm, (rden_of (Int.mul_pos pU pL) hgj k1 k2).trans (rden_of hT hT (Int.one_mul T) rfl).symm⟩
theorem rnum_one (p : Nat) : rnum 1 ((10 ^ p : Nat) : Int) = 1 := by
  unfold rnum
  have := tens_pos p
  rw [if_neg (by omega), Int.one_gcd]; rfl
theorem cell_wid {p : Nat} {A : Int} (hp : p ≤ 12) (hA : A.natAbs ≤ 10 ^ 20) (W : World) (hW : TabOf W) :
    Calls Tryz.prog 60 #[.agg #[.string (str (gC p A).1), .string (str (gC p A).2), .string (str (gC p (A + 1)).1), .string (str (gC p (A + 1)).2)]] W (RPost (str (rnum 1 ((10 ^ p : Nat) : Int))) (str (rden 1 ((10 ^ p : Nat) : Int))) W) := by
  obtain ⟨h, h1, h2⟩ := cellX hp hA
  have oi := h.oi
  have ws := h.ws
  rw [h1, h2] at oi ws
  have := width_in _ _ _ _ W oi ws hW
  rw [(wid_num (p := p) A).1, (wid_num (p := p) A).2] at this
  exact this
theorem ten_natAbs {p : Nat} (hp : p ≤ 12) : ((10 ^ p : Nat) : Int).natAbs ≤ 1000000000000000000 := by
  rw [Int.natAbs_natCast]; exact Nat.le_trans (Nat.pow_le_pow_right (by omega) hp) (by decide)
theorem grid_cellX {p : Nat} {A : Int} (hp : p ≤ 12) (hA : A.natAbs ≤ 10 ^ 20) (W : World) (hW : TabOf W) :
    Calls Tryz.prog 19 #[.agg #[.string (str (gC p A).1), .string (str (gC p A).2), .string (str (gC p (A + 1)).1), .string (str (gC p (A + 1)).2)], .int .i64 p] W (TruePost W) :=
  lgrid_cell (p : Int) ((10 ^ p : Nat) : Int) _ _ _ _ (str (rnum 1 ((10 ^ p : Nat) : Int))) (str (rden 1 ((10 ^ p : Nat) : Int))) (str 0) (str 1) W hW (by rw [rnum_one, str_one, str_zero, ByteArray.toList_eq, ByteArray.toList_eq]; decide)
    (fun W h => cell_rnd hp hA W h) (fun W h => cell_wid hp hA W h) (fun W h => lof_ok 0 1 0 1 (by decide +kernel) (by decide +kernel) (by decide) (by decide) (by decide) W h) (fun W => lten_in p W (by omega)) (fun W h => lof_ok 1 _ _ _ rfl rfl (by decide) (ten_natAbs hp) (ten_ne p) W h)
/-- 0 - B / T. -/
theorem sub_zero_gC {p : Nat} (B : Int) : qSub (0, 1) (gC p B) = gC p (-B) := by
  have hT := tens_pos p
  unfold qSub gC
  dsimp only
  generalize ((10 ^ p : Nat) : Int) = T at *
  have n1 := rnum_mul (n := B) hT
  have d1 := rden_mul (n := B) hT
  have g1 := gcd_pos' (n := B) hT
  have p1 := rden_pos (n := B) hT
  generalize rnum B T = a at *
  generalize rden B T = c at *
  generalize ((Int.gcd B T : Nat) : Int) = g at *
  have k1 : (0 * c - a * 1) * g = -B := by rw [← n1]; grind
  have k2 : 1 * c * g = T := by rw [← d1]; grind
  rw [rnum_of (by omega) g1 k1 k2, rden_of (by omega) g1 k1 k2]
theorem subZ {p : Nat} {B : Int} (hp : p ≤ 12) (hB : B.natAbs ≤ 10 ^ 21) (W : World) (hW : TabOf W) :
    Calls Tryz.prog 15 #[.agg #[.string (str 0), .string (str 1)], .agg #[.string (str (gC p B).1), .string (str (gC p B).2)]] W (RPost (str (gC p (-B)).1) (str (gC p (-B)).2) W) := by
  have hT := tens_pos p
  have b1 : (gC p B).1.natAbs ≤ 10 ^ 21 := Nat.le_trans (rnum_le hT) hB
  have b2 : (gC p B).2.natAbs ≤ 10 ^ 21 := Nat.le_trans (rden_le hT) (Nat.le_trans (ten_natAbs hp) (by decide))
  have hq : IsR (gC p B).1 (gC p B).2 := gC_isR hp (Nat.le_trans hB (Nat.le_of_ble_eq_true (by decide +kernel)))
  have hs : QSubOk (0, 1) (gC p B) := ⟨isQ_0, hq, lt_big (A := 10 ^ 22) (by dsimp only; omega) (by decide +kernel), lt_big (A := 10 ^ 22) (by dsimp only; omega) (by decide +kernel), lt_big (A := 10 ^ 22) (by dsimp only; omega) (by decide +kernel), lt_big (A := 10 ^ 22) (by dsimp only; omega) (by decide +kernel)⟩
  have := subQ hs hW
  rw [sub_zero_gC] at this
  exact this
theorem gC_isI {p : Nat} {A B : Int} (hp : p ≤ 12) (hA : A.natAbs ≤ 10 ^ 21) (hB : B.natAbs ≤ 10 ^ 21) (h : A ≤ B) : IsI (gC p A).1 (gC p A).2 (gC p B).1 (gC p B).2 := by
  have hT := tens_pos p
  refine ⟨gC_isR hp (Nat.le_trans hA (Nat.le_of_ble_eq_true (by decide +kernel))), gC_isR hp (Nat.le_trans hB (Nat.le_of_ble_eq_true (by decide +kernel))), ?_⟩
  show cmpQ (rnum A ((10 ^ p : Nat) : Int)) (rden A ((10 ^ p : Nat) : Int)) (rnum B ((10 ^ p : Nat) : Int)) (rden B ((10 ^ p : Nat) : Int)) ≤ 0
  rw [cmpQ_left' hT, cmpQ_right' hT]
  exact cI_nonpos.2 (Int.mul_le_mul_of_nonneg_right h (Int.le_of_lt hT))

/-- Compare at ten places with n / 1000. -/
theorem cmp_gC {L : Int} {m e : Nat} (he : 0 < e) : cmpQ (gC 10 L).1 (gC 10 L).2 (rnum (m : Int) (e : Int)) (rden (m : Int) (e : Int)) = cmpI (L * (e : Int)) ((m : Int) * 10000000000) := by
  have hT := tens_pos 10
  show cmpQ (rnum L ((10 ^ 10 : Nat) : Int)) (rden L ((10 ^ 10 : Nat) : Int)) _ _ = _
  rw [cmpQ_left' hT, cmpQ_right' (by omega)]
  rfl
theorem bnd152 {n : Nat} (h : n ≤ 999) : n * 10000000000 ≤ 10 ^ 152 := Nat.le_trans (Nat.mul_le_mul_right _ h) (Nat.le_of_ble_eq_true (by decide +kernel))
theorem castQ1 {L n : Nat} (h : L * 1000 ≤ n * 10000000000) : (L : Int) * ((1000 : Nat) : Int) ≤ (n : Int) * 10000000000 := by
  have h2 : ((L * 1000 : Nat) : Int) ≤ ((n * 10000000000 : Nat) : Int) := Int.ofNat_le.2 h
  rw [Int.natCast_mul, Int.natCast_mul] at h2
  exact h2
theorem castQ2 {U n : Nat} (h : n * 10000000000 ≤ U * 1000) : (n : Int) * 10000000000 ≤ (U : Int) * ((1000 : Nat) : Int) := by
  have h2 : ((n * 10000000000 : Nat) : Int) ≤ ((U * 1000 : Nat) : Int) := Int.ofNat_le.2 h
  rw [Int.natCast_mul, Int.natCast_mul] at h2
  exact h2

set_option maxHeartbeats 4000000 in
theorem quant_gen (p T : Nat) (hT : T = 10 ^ p) (hp : p ≤ 2) (n : Nat) (hn0 : n ≠ 0) (hn9 : n ≤ 999) (hn5 : n ≠ 500) (hc : chkQ T 2506628274631000 2506628274631000 500000000000000 25066282746310005024157652 25066282746310005024157652 5000000000000000000000000 5000000000 n = true)
    (n0 pl0 v1 : Int) (hv : 1 + v1 = (n : Int)) (hP1 : ∀ W, Calls Tryz.prog 14 #[.int .i64 n0, .int .i64 999] W (IntPost v1 W)) (hP2 : ∀ W, Calls Tryz.prog 14 #[.int .i64 pl0, .int .i64 3] W (IntPost p W)) (w : World) (ht : TabOf w) :
    Calls Tryz.prog 4 #[.int .i64 n0, .int .i64 pl0] w (TruePost w) := by
  subst hT
  have hTb : 10 ^ p ≤ 100 := Nat.le_trans (Nat.pow_le_pow_right (by omega) hp) (by decide)
  have hT0 : 0 < 10 ^ p := ten_pos p
  obtain ⟨lo, q1, q2, ⟨lo', hi', q3, q4, q5⟩, ⟨L1, U1, k1, k2⟩, ⟨L2, U2, k3, k4, k5⟩⟩ := chkQ_spec hc
  have hx := red_div (n := n) (T := 1000) (by omega) (by omega) (by omega)
  have hy := red_div (n := 1000 - n) (T := 1000) (by omega) (by omega) (by omega)
  have hg1 := Nat.gcd_pos_of_pos_right n (show 0 < 1000 by omega)
  have hg2 := Nat.gcd_pos_of_pos_right (1000 - n) (show 0 < 1000 by omega)
  have e1 := Nat.div_mul_cancel (Nat.gcd_dvd_left n 1000)
  have e2 := Nat.div_mul_cancel (Nat.gcd_dvd_right n 1000)
  have f1 := Nat.div_mul_cancel (Nat.gcd_dvd_left (1000 - n) 1000)
  have f2 := Nat.div_mul_cancel (Nat.gcd_dvd_right (1000 - n) 1000)
  have op : ∀ W, TabOf W → Calls Tryz.prog 12 #[.int .i64 (n : Int), .int .i64 1000] W (OfPost (str ((n / Nat.gcd n 1000 : Nat) : Int)) (str ((1000 / Nat.gcd n 1000 : Nat) : Int)) W) := fun W h => lof_ok (n : Int) 1000 _ _ (rnum_nat (n := n) (T := 1000)) (rden_nat (n := n) (T := 1000)) (by omega) (by decide) (by decide) W h
  have om : ∀ W, TabOf W → Calls Tryz.prog 12 #[.int .i64 ((1000 - n : Nat) : Int), .int .i64 1000] W (OfPost (str (((1000 - n) / Nat.gcd (1000 - n) 1000 : Nat) : Int)) (str ((1000 / Nat.gcd (1000 - n) 1000 : Nat) : Int)) W) := fun W h => lof_ok ((1000 - n : Nat) : Int) 1000 _ _ (rnum_nat (n := 1000 - n) (T := 1000)) (rden_nat (n := 1000 - n) (T := 1000)) (by omega) (by decide) (by decide) W h
  have hpI : IsR (rnum (n : Int) ((1000 : Nat) : Int)) (rden (n : Int) ((1000 : Nat) : Int)) := isR_of (by omega) (lt_big (A := 1000) (by omega) (by decide +kernel)) (lt_big (A := 1000) (by decide) (by decide +kernel))
  have c1 : cmpQ (gC 10 (L1 : Int)).1 (gC 10 (L1 : Int)).2 (rnum (n : Int) ((1000 : Nat) : Int)) (rden (n : Int) ((1000 : Nat) : Int)) ≤ 0 := by
    rw [cmp_gC (by omega)]; exact cI_nonpos.2 (castQ1 k2)
  have c2 : 0 ≤ cmpQ (gC 10 (U2 : Int)).1 (gC 10 (U2 : Int)).2 (rnum (n : Int) ((1000 : Nat) : Int)) (rden (n : Int) ((1000 : Nat) : Int)) := by
    rw [cmp_gC (by omega)]; exact cI_nonneg.2 (castQ2 k4)
  have nlo := fun W hW => nN10_spec hT0 (by omega) (by omega) rt25 h25 h10 k1 W hW
  have nhi := fun W hW => nN10_spec hT0 (by omega) q2 rt25 h25 h10 k3 W hW
  have hL1 : L1 ≤ n * 10000000000 := by omega
  rw [rnum_nat, rden_nat] at c1 c2 hpI
  have hA : ((lo : Int) - 5 * ((10 ^ p : Nat) : Int)).natAbs ≤ 10 ^ 20 := Nat.le_trans (show _ ≤ 2000 by omega) (by decide)
  have hqx := fun W hW => Qu_ev (p := p) (by omega) hx (by
      refine Nat.le_of_mul_le_mul_right (c := Nat.gcd n 1000) ?_ hg1
      rw [e2, Nat.mul_assoc, e1]; omega) (by
      refine Nat.le_of_mul_le_mul_right (c := Nat.gcd n 1000) ?_ hg1
      rw [Nat.mul_assoc, e1, Nat.mul_assoc, e2]; omega) (by
      intro g
      rw [g.1] at e1
      rw [g.2] at e2
      omega) rt15 h15 q1 W hW
  have hqy := fun W hW => Qu_ev (p := p) (by omega) hy (by
      refine Nat.le_of_mul_le_mul_right (c := Nat.gcd (1000 - n) 1000) ?_ hg2
      rw [f2, Nat.mul_assoc, f1]; omega) (by
      refine Nat.le_of_mul_le_mul_right (c := Nat.gcd (1000 - n) 1000) ?_ hg2
      rw [Nat.mul_assoc, f1, Nat.mul_assoc, f2]; omega) (by
      intro g
      rw [g.1] at f1
      rw [g.2] at f2
      omega) rt15 h15 q3 W hW
  generalize n / Nat.gcd n 1000 = pn at *
  generalize 1000 / Nat.gcd n 1000 = pd at *
  generalize (1000 - n) / Nat.gcd (1000 - n) 1000 = mn at *
  generalize 1000 / Nat.gcd (1000 - n) 1000 = md at *
  have a1 : ((lo + 1 : Nat) : Int) - 5 * ((10 ^ p : Nat) : Int) = (lo : Int) - 5 * ((10 ^ p : Nat) : Int) + 1 := by omega
  have a2 : (lo' : Int) - 5 * ((10 ^ p : Nat) : Int) = -((lo : Int) - 5 * ((10 ^ p : Nat) : Int) + 1) := by omega
  have a3 : (hi' : Int) - 5 * ((10 ^ p : Nat) : Int) = -((lo : Int) - 5 * ((10 ^ p : Nat) : Int)) := by omega
  dsimp only at hqx hqy
  rw [a1] at hqx nhi
  rw [a2, a3] at hqy
  generalize (lo : Int) - 5 * ((10 ^ p : Nat) : Int) = A at *
  have hA1 : (A + 1).natAbs ≤ 10 ^ 21 := Nat.le_trans (show (A + 1).natAbs ≤ 10 ^ 20 + 1 by omega) (by decide)
  have hA0 : A.natAbs ≤ 10 ^ 21 := Nat.le_trans hA (by decide)
  have gr := fun W hW => grid_cellX (p := p) (A := A) (by omega) hA W hW
  have iL1 : IsR (gC 10 (L1 : Int)).1 (gC 10 (L1 : Int)).2 := gC_isR (by omega) (by rw [Int.natAbs_natCast]; exact Nat.le_trans hL1 (bnd152 hn9))
  have iU2 : IsR (gC 10 (U2 : Int)).1 (gC 10 (U2 : Int)).2 := gC_isR (by omega) (by rw [Int.natAbs_natCast]; exact Nat.le_trans k5 (Nat.le_of_ble_eq_true (by decide +kernel)))
  have hC1 : ∀ W, TabOf W → Calls Tryz.prog 17 #[.agg #[.string (str (gC 10 (L1 : Int)).1), .string (str (gC 10 (L1 : Int)).2)], .agg #[.string (str (pn : Int)), .string (str (pd : Int))]] W (IntPost (cmpQ (gC 10 (L1 : Int)).1 (gC 10 (L1 : Int)).2 (pn : Int) (pd : Int)) W) := fun W h => rcmp_in _ _ _ _ W iL1 hpI h
  have hC2 : ∀ W, TabOf W → Calls Tryz.prog 17 #[.agg #[.string (str (gC 10 (U2 : Int)).1), .string (str (gC 10 (U2 : Int)).2)], .agg #[.string (str (pn : Int)), .string (str (pd : Int))]] W (IntPost (cmpQ (gC 10 (U2 : Int)).1 (gC 10 (U2 : Int)).2 (pn : Int) (pd : Int)) W) := fun W h => rcmp_in _ _ _ _ W iU2 hpI h
  have hQX : ∀ W, TabOf W → Calls Tryz.prog 18 #[.agg #[.string (str (pn : Int)), .string (str (pd : Int))], .int .i64 p] W (AnsPost (str (gC p A).1) (str (gC p A).2) (str (gC p (A + 1)).1) (str (gC p (A + 1)).2) 0 W) := hqx
  have hQY : ∀ W, TabOf W → Calls Tryz.prog 18 #[.agg #[.string (str (mn : Int)), .string (str (md : Int))], .int .i64 p] W (AnsPost (str (gC p (-(A + 1))).1) (str (gC p (-(A + 1))).2) (str (gC p (-A)).1) (str (gC p (-A)).2) 0 W) := hqy
  have hN1 : ∀ W, TabOf W → Calls Tryz.prog 20 #[.agg #[.string (str (gC p A).1), .string (str (gC p A).2)], .int .i64 10] W (AnsPost (str (gC 10 (L1 : Int)).1) (str (gC 10 (L1 : Int)).2) (str (gC 10 (U1 : Int)).1) (str (gC 10 (U1 : Int)).2) 0 W) := nlo
  have hN2 : ∀ W, TabOf W → Calls Tryz.prog 20 #[.agg #[.string (str (gC p (A + 1)).1), .string (str (gC p (A + 1)).2)], .int .i64 10] W (AnsPost (str (gC 10 (L2 : Int)).1) (str (gC 10 (L2 : Int)).2) (str (gC 10 (U2 : Int)).1) (str (gC 10 (U2 : Int)).2) 0 W) := nhi
  have hPT : ∀ W, TabOf W → Calls Tryz.prog 22 #[.agg #[.string (str 0), .string (str 1)]] W fun e w' => e = .returned (.agg #[.string (str 0), .string (str 1), .string (str 0), .string (str 1)]) ∧ Below W.heap.size W w' := fun W h => point_in 0 1 W isQ_0 h
  have nn1 : - -A = A := Int.neg_neg A
  have nn2 : - -(A + 1) = A + 1 := Int.neg_neg (A + 1)
  have hO : OpTwo 15 (str 0, str 1) (str (gC p (-A)).1, str (gC p (-A)).2) (str 0, str 1) (str (gC p (-(A + 1))).1, str (gC p (-(A + 1))).2) (str (gC p A).1, str (gC p A).2) (str (gC p (A + 1)).1, str (gC p (A + 1)).2) := by
    refine ⟨fun W h => ?_, fun W h => ?_⟩
    · have := subZ (p := p) (B := -A) (by omega) (by rw [Int.natAbs_neg]; exact hA0) W h
      rw [nn1] at this
      exact this
    · have := subZ (p := p) (B := -(A + 1)) (by omega) (by rw [Int.natAbs_neg]; exact hA1) W h
      rw [nn2] at this
      exact this
  have hSB : ∀ W, TabOf W → Calls Tryz.prog 21 #[.agg #[.string (str 0), .string (str 1), .string (str 0), .string (str 1)], .agg #[.string (str (gC p (-(A + 1))).1), .string (str (gC p (-(A + 1))).2), .string (str (gC p (-A)).1), .string (str (gC p (-A)).2)]] W (AnsPost (str (gC p A).1) (str (gC p A).2) (str (gC p (A + 1)).1) (str (gC p (A + 1)).2) 0 W) := fun W h =>
    sub_raw 0 1 0 1 _ _ _ _ _ _ _ _ W (pt_isI isQ_0) (gC_isI (by omega) (by rw [Int.natAbs_neg]; exact hA1) (by rw [Int.natAbs_neg]; exact hA0) (by omega)) hO h
  generalize cmpQ (gC 10 (L1 : Int)).1 (gC 10 (L1 : Int)).2 (pn : Int) (pd : Int) = kk1 at *
  generalize cmpQ (gC 10 (U2 : Int)).1 (gC 10 (U2 : Int)).2 (pn : Int) (pd : Int) = kk2 at *
  have w2 : IntKind.i64.wrap (1000 - (n : Int)) = ((1000 - n : Nat) : Int) := by rw [wrapQ (by omega) (by omega)]; omega
  exact lquant_raw w ht n0 pl0 v1 p n ((1000 - n : Nat) : Int) kk1 kk2 _ _ _ _ _ _ _ _ _ _ _ _ _ _ _ _ _ _ _ _ _ _ (by rw [hv]; exact wrapQ (by omega) (by omega)) w2 (decide_eq_true c1) (decide_eq_true c2)
    hP1 hP2 op hQX om hQY gr hN1 hN2 (fun W h => lof_ok 0 1 0 1 (by decide +kernel) (by decide +kernel) (by decide) (by decide) (by decide) W h) hPT hSB hC1 hC2

/-- The median. -/
theorem quant_half (p : Nat) (hp : p ≤ 2) (n0 pl0 v1 : Int) (hv : 1 + v1 = 500) (hP1 : ∀ W, Calls Tryz.prog 14 #[.int .i64 n0, .int .i64 999] W (IntPost v1 W)) (hP2 : ∀ W, Calls Tryz.prog 14 #[.int .i64 pl0, .int .i64 3] W (IntPost p W)) (w : World) (ht : TabOf w) :
    Calls Tryz.prog 4 #[.int .i64 n0, .int .i64 pl0] w (TruePost w) := by
  have op : ∀ W, TabOf W → Calls Tryz.prog 12 #[.int .i64 500, .int .i64 1000] W (OfPost (str 1) (str 2) W) := fun W h => lof_ok 500 1000 1 2 (by decide +kernel) (by decide +kernel) (by decide) (by decide) (by decide) W h
  have hQ : ∀ W, TabOf W → Calls Tryz.prog 18 #[.agg #[.string (str 1), .string (str 2)], .int .i64 p] W (AnsPost (str 0) (str 1) (str 0) (str 1) 0 W) := fun W h => quh_in p W (by omega) h
  have hRd : ∀ W, TabOf W → Calls Tryz.prog 59 #[.agg #[.string (str 0), .string (str 1), .string (str 0), .string (str 1)], .int .i64 p] W (AnsPost (str 0) (str 1) (str 0) (str 1) 0 W) := fun W h => by
    have := round_in 0 1 0 1 p W ⟨pt_isI isQ_0, by omega, by rw [Int.zero_mul]; exact lt_big (A := 0) (by decide) (by decide +kernel), by rw [Int.zero_mul]; exact lt_big (A := 0) (by decide) (by decide +kernel), by rw [Int.zero_mul]; exact lt_big (A := 1) (by decide) (by decide +kernel)⟩ h
    have hT := tens_pos p
    have z1 : rnum 0 ((10 ^ p : Nat) : Int) = 0 := by unfold rnum; split <;> simp
    have z2 : rden 0 ((10 ^ p : Nat) : Int) = 1 := by unfold rden; rw [if_neg (by omega), Int.zero_gcd, Int.natAbs_natCast]; exact Int.ediv_self (by omega)
    have g1 : gridN false 0 1 ((10 ^ p : Nat) : Int) = 0 := by unfold gridN; rw [Int.zero_mul]; rfl
    have g2 : gridN true 0 1 ((10 ^ p : Nat) : Int) = 0 := by unfold gridN; rw [Int.zero_mul]; rfl
    unfold gnum gden at this
    rw [g1, g2, z1, z2] at this
    exact this
  have hW : ∀ W, TabOf W → Calls Tryz.prog 60 #[.agg #[.string (str 0), .string (str 1), .string (str 0), .string (str 1)]] W (RPost (str 0) (str 1) W) := fun W h => by
    have := width_in 0 1 0 1 W (pt_isI isQ_0) ⟨isQ_0, isQ_0, by decide +kernel, by decide +kernel, by decide +kernel, by decide +kernel⟩ h
    rw [show rnum (0 * 1 - 0 * 1) (1 * 1) = 0 by decide +kernel, show rden (0 * 1 - 0 * 1) (1 * 1) = 1 by decide +kernel] at this
    exact this
  have hO0 : ∀ W, TabOf W → Calls Tryz.prog 12 #[.int .i64 0, .int .i64 1] W (OfPost (str 0) (str 1) W) := fun W h => lof_ok 0 1 0 1 (by decide +kernel) (by decide +kernel) (by decide) (by decide) (by decide) W h
  have hG : ∀ W, TabOf W → Calls Tryz.prog 19 #[.agg #[.string (str 0), .string (str 1), .string (str 0), .string (str 1)], .int .i64 p] W (TruePost W) := fun W h => lgrid_point (p : Int) _ _ _ _ (str 0) (str 1) W h hRd hW hO0
  have hN : ∀ W, TabOf W → Calls Tryz.prog 20 #[.agg #[.string (str 0), .string (str 1)], .int .i64 10] W (AnsPost (str 1) (str 2) (str 1) (str 2) 0 W) := fun W h => by
    have := Normal_at 10 W (by omega) (by decide +kernel) ⟨⟨isQ_h, isQ_h, by decide⟩, by decide, by decide +kernel, by decide +kernel, by decide +kernel⟩ h
    unfold AtPost at this
    dsimp only at this
    rw [show gnum false 1 2 10 = 1 by decide +kernel, show gden false 1 2 10 = 2 by decide +kernel, show gnum true 1 2 10 = 1 by decide +kernel, show gden true 1 2 10 = 2 by decide +kernel] at this
    exact this
  have hPT : ∀ W, TabOf W → Calls Tryz.prog 22 #[.agg #[.string (str 0), .string (str 1)]] W fun e w' => e = .returned (.agg #[.string (str 0), .string (str 1), .string (str 0), .string (str 1)]) ∧ Below W.heap.size W w' := fun W h => point_in 0 1 W isQ_0 h
  have hS1 : ∀ W, TabOf W → Calls Tryz.prog 15 #[.agg #[.string (str 0), .string (str 1)], .agg #[.string (str 0), .string (str 1)]] W (RPost (str 0) (str 1) W) := fun W h => by
    have := subQ (a := (0, 1)) (b := (0, 1)) ⟨isQ_0, isQ_0, by decide +kernel, by decide +kernel, by decide +kernel, by decide +kernel⟩ h
    rw [show qSub (0, 1) (0, 1) = (0, 1) by decide +kernel] at this
    exact this
  have hSB : ∀ W, TabOf W → Calls Tryz.prog 21 #[.agg #[.string (str 0), .string (str 1), .string (str 0), .string (str 1)], .agg #[.string (str 0), .string (str 1), .string (str 0), .string (str 1)]] W (AnsPost (str 0) (str 1) (str 0) (str 1) 0 W) := fun W h =>
    sub_raw 0 1 0 1 0 1 0 1 0 1 0 1 W (pt_isI isQ_0) (pt_isI isQ_0) ⟨hS1, hS1⟩ h
  have hC : ∀ W, TabOf W → Calls Tryz.prog 17 #[.agg #[.string (str 1), .string (str 2)], .agg #[.string (str 1), .string (str 2)]] W (IntPost 0 W) := fun W h => by
    have := rcmp_in 1 2 1 2 W isQ_h isQ_h h
    rw [show cmpQ 1 2 1 2 = 0 by decide] at this
    exact this
  exact lquant_raw w ht n0 pl0 v1 p 500 500 0 0 _ _ _ _ _ _ _ _ _ _ _ _ _ _ _ _ _ _ _ _ _ _ (by rw [hv]; decide) (by decide) (by decide) (by decide)
    hP1 hP2 op hQ op hQ hG hN hN hO0 hPT hSB hC hC

theorem quant_ok (n0 pl0 : Int) (h1 : -9223372036854775808 ≤ n0 ∧ n0 ≤ 9223372036854775807) (h2 : -9223372036854775808 ≤ pl0 ∧ pl0 ≤ 9223372036854775807) (w : World) (ht : TabOf w) :
    Calls Tryz.prog 4 #[.int .i64 n0, .int .i64 pl0] w (TruePost w) := by
  have hP1 := fun W => lpick_in n0 999 W h1.1 h1.2 (by omega) (by omega)
  have hP2 := fun W => lpick_in pl0 3 W h2.1 h2.2 (by omega) (by omega)
  have hb1 := pickN_lo (c := n0) (n := 999) (by omega)
  have hb2 := pickN_lo (c := pl0) (n := 3) (by omega)
  generalize pickN n0 999 = v1 at *
  generalize pickN pl0 3 = q at *
  obtain ⟨p, rfl⟩ : ∃ p : Nat, q = (p : Int) := ⟨q.toNat, by omega⟩
  by_cases h5 : 1 + v1 = 500
  · exact quant_half p (by omega) n0 pl0 v1 h5 hP1 hP2 w ht
  · obtain ⟨n, hn⟩ : ∃ n : Nat, 1 + v1 = (n : Int) := ⟨(1 + v1).toNat, by omega⟩
    have c : p = 0 ∨ p = 1 ∨ p = 2 := by omega
    rcases c with rfl | rfl | rfl
    · exact quant_gen 0 1 rfl (by omega) n (by omega) (by omega) (by omega) (rQ1 n (by omega) (by omega) (by omega)) n0 pl0 v1 hn hP1 hP2 w ht
    · exact quant_gen 1 10 rfl (by omega) n (by omega) (by omega) (by omega) (rQ10 n (by omega) (by omega) (by omega)) n0 pl0 v1 hn hP1 hP2 w ht
    · exact quant_gen 2 100 rfl (by omega) n (by omega) (by omega) (by omega) (rQ100 n (by omega) (by omega) (by omega)) n0 pl0 v1 hn hP1 hP2 w ht
end Go.Proofs.YtppbhnhmaocdnaaGreatDoor
