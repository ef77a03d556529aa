/- Cells that the second try gives, computed; Normal everywhere. -/
import Derived.Test.YtppbhnhmaocdnaaGreatDoorXWkFNorm2
import Derived.Test.YtppbhnhmaocdnaaGreatDoorXEv9
set_option linter.unusedVariables false
set_option linter.unusedSimpArgs false
namespace Go.Proofs.YtppbhnhmaocdnaaGreatDoor
open Go.RowKit Go.Shelf

theorem cellNo_ev {k p : Nat} {b : Int × Int} {L U : Int} (hk : k ≤ 60) (hp : p ≤ 12) (hpk : p ≤ k) (hle : b.1 ≤ b.2) (h1 : b.1.natAbs ≤ 10 ^ 150) (h2 : b.2.natAbs ≤ 10 ^ 150)
    (hL : L = b.1 / ((10 ^ (k - p) : Nat) : Int)) (hU : U = cdv b.2 ((10 ^ (k - p) : Nat) : Int)) (hw : L + 2 ≤ U) :
    CellNo k p b := by
  have hLU : L ≤ U := by omega
  have hT := tens_pos p
  have hTn : ((10 ^ p : Nat) : Int).natAbs ≤ 10 ^ 12 := by rw [Int.natAbs_natCast]; exact Nat.pow_le_pow_right (by omega) hp
  have hKn : ((10 ^ k : Nat) : Int).natAbs ≤ 10 ^ 60 := by rw [Int.natAbs_natCast]; exact Nat.pow_le_pow_right (by omega) hk
  have hLn : L.natAbs ≤ 10 ^ 151 := by rw [hL]; exact Nat.le_trans (Nat.le_trans (ediv_natAbs _ _ (tens_pos _)) (Nat.succ_le_succ h1)) (Nat.le_of_ble_eq_true (by decide +kernel))
  have hUn : U.natAbs ≤ 10 ^ 151 := by rw [hU]; exact Nat.le_trans (Nat.le_trans (cdv_natAbs _ _ (tens_pos _)) (Nat.add_le_add_right h2 2)) (Nat.le_of_ble_eq_true (by decide +kernel))
  have e1 : pCl k p b = gC p L := by
    unfold pCl pMk gnum gden gC
    dsimp only
    rw [grid_dn _ (tens_pos k), ediv_tens hpk, ← hL]
  have e2 : pCh k p b = gC p U := by
    unfold pCh pMk gnum gden gC
    dsimp only
    rw [grid_up _ (tens_pos k), cdv_tens hpk, ← hU]
  have iL : IsR (gC p L).1 (gC p L).2 := gC_isR hp (Nat.le_trans hLn (Nat.le_of_ble_eq_true (by decide +kernel)))
  have iU : IsR (gC p U).1 (gC p U).2 := gC_isR hp (Nat.le_trans hUn (Nat.le_of_ble_eq_true (by decide +kernel)))
  have m1 : IsR (pMk k b.1).1 (pMk k b.1).2 := isR_of (tens_pos k) (lt_big h1 (by decide +kernel)) (lt_big hKn (by decide +kernel))
  have m2 : IsR (pMk k b.2).1 (pMk k b.2).2 := isR_of (tens_pos k) (lt_big h2 (by decide +kernel)) (lt_big hKn (by decide +kernel))
  have nL := rnum_mul (n := L) hT
  have dL := rden_mul (n := L) hT
  have gL := gcd_pos' (n := L) hT
  have pL := rden_pos (n := L) hT
  have nU := rnum_mul (n := U) hT
  have dU := rden_mul (n := U) hT
  have gU := gcd_pos' (n := U) hT
  have pU := rden_pos (n := U) hT
  have bnL : (gC p L).1.natAbs ≤ 10 ^ 151 := Nat.le_trans (rnum_le hT) hLn
  have bdL : (gC p L).2.natAbs ≤ 10 ^ 12 := Nat.le_trans (rden_le hT) hTn
  have bnU : (gC p U).1.natAbs ≤ 10 ^ 151 := Nat.le_trans (rnum_le hT) hUn
  have bdU : (gC p U).2.natAbs ≤ 10 ^ 12 := Nat.le_trans (rden_le hT) hTn
  have q1 : ((gC p U).1 * (gC p L).2).natAbs ≤ 10 ^ 163 := abs_mul_le bnU bdL (by decide +kernel)
  have q2 : ((gC p L).1 * (gC p U).2).natAbs ≤ 10 ^ 163 := abs_mul_le bnL bdU (by decide +kernel)
  have q3 : ((gC p U).2 * (gC p L).2).natAbs ≤ 10 ^ 24 := abs_mul_le bdU bdL (by decide +kernel)
  have q4 : ((gC p U).1 * (gC p L).2 - (gC p L).1 * (gC p U).2).natAbs ≤ 2 * 10 ^ 163 := abs_sub_le q1 q2
  have q5 : 0 < (gC p U).2 * (gC p L).2 := Int.mul_pos pU pL
  refine ⟨by omega, ⟨lt_big h1 (by decide +kernel), lt_big h2 (by decide +kernel)⟩, ⟨⟨m1, m2, ?_⟩, by omega, ?_, ?_, ?_⟩, ?_, ?_, ?_, ?_, ?_⟩
  · show cmpQ (rnum b.1 ((10 ^ k : Nat) : Int)) (rden b.1 ((10 ^ k : Nat) : Int)) (rnum b.2 ((10 ^ k : Nat) : Int)) (rden b.2 ((10 ^ k : Nat) : Int)) ≤ 0
    rw [cmpQ_left' (tens_pos k), cmpQ_right' (tens_pos k)]
    exact cI_nonpos.2 (Int.mul_le_mul_of_nonneg_right hle (Int.le_of_lt (tens_pos k)))
  · exact lt_big (abs_mul_le (C := 10 ^ 162) (Nat.le_trans (rnum_le (tens_pos k)) h1) hTn (by decide +kernel)) (by decide +kernel)
  · exact lt_big (abs_mul_le (C := 10 ^ 162) (Nat.le_trans (rnum_le (tens_pos k)) h2) hTn (by decide +kernel)) (by decide +kernel)
  · have h3 := abs_mul_le (C := 10 ^ 162) (Nat.le_trans (rnum_le (tens_pos k)) h2) hTn (by decide +kernel)
    have h4 := ediv_natAbs ((pMk k b.2).1 * ((10 ^ p : Nat) : Int)) (pMk k b.2).2 (rden_pos (tens_pos k))
    refine lt_big (A := 10 ^ 162 + 2) ?_ (by decide +kernel)
    have h5 : ((pMk k b.2).1 * ((10 ^ p : Nat) : Int)).natAbs ≤ 10 ^ 162 := h3
    omega
  · rw [e1, e2]
    refine ⟨iL, iU, ?_⟩
    show cmpQ (rnum L ((10 ^ p : Nat) : Int)) (rden L ((10 ^ p : Nat) : Int)) (rnum U ((10 ^ p : Nat) : Int)) (rden U ((10 ^ p : Nat) : Int)) ≤ 0
    rw [cmpQ_left' hT, cmpQ_right' hT]
    exact cI_nonpos.2 (Int.mul_le_mul_of_nonneg_right hLU (Int.le_of_lt hT))
  · rw [e1, e2]
    exact ⟨iU, iL, lt_big q1 (by decide +kernel), lt_big q2 (by decide +kernel), lt_big q4 (by decide +kernel), lt_big q3 (by decide +kernel)⟩
  · rw [e1, e2]
    exact isR_of q5 (lt_big q4 (by decide +kernel)) (lt_big q3 (by decide +kernel))
  · refine ⟨by decide +kernel, lt_big hTn (by decide +kernel), ?_⟩
    unfold RatOk
    rw [decide_eq_true hT, decide_eq_true (Int.one_gcd)]
    rfl
  · rw [e1, e2]
    show 0 < cmpQ (rnum ((gC p U).1 * (gC p L).2 - (gC p L).1 * (gC p U).2) ((gC p U).2 * (gC p L).2)) (rden ((gC p U).1 * (gC p L).2 - (gC p L).1 * (gC p U).2) ((gC p U).2 * (gC p L).2)) 1 ((10 ^ p : Nat) : Int)
    rw [cmpQ_left' q5]
    refine cI_pos.2 ?_
    show 1 * (rden U ((10 ^ p : Nat) : Int) * rden L ((10 ^ p : Nat) : Int)) < (rnum U ((10 ^ p : Nat) : Int) * rden L ((10 ^ p : Nat) : Int) - rnum L ((10 ^ p : Nat) : Int) * rden U ((10 ^ p : Nat) : Int)) * ((10 ^ p : Nat) : Int)
    generalize ((10 ^ p : Nat) : Int) = T at *
    generalize rnum U T = a at *
    generalize rden U T = c at *
    generalize rnum L T = e at *
    generalize rden L T = f at *
    generalize ((Int.gcd U T : Nat) : Int) = g at *
    generalize ((Int.gcd L T : Nat) : Int) = j at *
    have hgj : 0 < g * j := Int.mul_pos gU gL
    refine Int.lt_of_mul_lt_mul_right ?_ (Int.le_of_lt hgj)
    have l1 : (a * f - e * c) * T * (g * j) = (U - L) * (T * T) := by
      rw [← nU, ← nL]
      have : T * T = (c * g) * (f * j) := by rw [dU, dL]
      grind
    have l2 : 1 * (c * f) * (g * j) = T * T := by
      have : T * T = (c * g) * (f * j) := by rw [dU, dL]
      grind
    rw [l1, l2]
    have h3 := Int.mul_le_mul_of_nonneg_right (show 2 ≤ U - L by omega) (Int.mul_nonneg (Int.le_of_lt hT) (Int.le_of_lt hT))
    have h4 := Int.mul_pos hT hT
    omega


theorem fl_of {x L D : Int} (hD : 0 < D) (h1 : L * D ≤ x) (h2 : x < (L + 1) * D) : L = x / D := by
  refine Int.le_antisymm ((Int.le_ediv_iff_mul_le hD).2 h1) ?_
  have := (Int.ediv_lt_iff_lt_mul hD).2 h2
  omega
theorem ce_of {x U D : Int} (hD : 0 < D) (h1 : x ≤ U * D) (h2 : (U - 1) * D < x) : U = cdv x D := by
  have k1 := Int.mul_ediv_add_emod x D
  have k2 := Int.emod_nonneg x (show D ≠ 0 by omega)
  have k3 := Int.emod_lt_of_pos x hD
  have k4 : x / D ≤ U := by
    have := Int.ediv_le_ediv hD h1
    rw [Int.mul_ediv_cancel _ (by omega)] at this; exact this
  have k5 : U - 1 ≤ x / D := (Int.le_ediv_iff_mul_le hD).2 (Int.le_of_lt h2)
  unfold cdv
  by_cases h : x % D = 0
  · rw [if_pos h]
    generalize x / D = q at *
    rcases Int.lt_or_le q U with g | g
    · obtain rfl : q = U - 1 := by omega
      rw [Int.mul_comm] at k1; omega
    · omega
  · rw [if_neg h]
    generalize x / D = q at *
    rcases Int.lt_or_le q U with g | g
    · omega
    · obtain rfl : q = U := by omega
      rw [Int.mul_comm] at k1; omega
theorem subp (p e : Nat) : p + e - p = e := by omega
theorem cellG {e p : Nat} {b : Int × Int} {L U : Int} (hk : p + e ≤ 60) (hp : p ≤ 12) (hl : b.1 ≤ b.2) (h1 : b.1.natAbs ≤ 10 ^ 150) (h2 : b.2.natAbs ≤ 10 ^ 150)
    (hL : L * ((10 ^ e : Nat) : Int) ≤ b.1) (hL2 : b.1 < (L + 1) * ((10 ^ e : Nat) : Int)) (hU : b.2 ≤ U * ((10 ^ e : Nat) : Int)) (hU2 : (U - 1) * ((10 ^ e : Nat) : Int) < b.2) :
    (U ≤ L + 1 → CellOk (p + e) p b ∧ pCl (p + e) p b = gC p L ∧ pCh (p + e) p b = gC p U) ∧ (L + 2 ≤ U → CellNo (p + e) p b) := by
  have hT := tens_pos e
  have eL := fl_of hT hL hL2
  have eU := ce_of hT hU hU2
  have hLU : L ≤ U := Int.le_of_mul_le_mul_right (Int.le_trans hL (Int.le_trans hl hU)) hT
  exact ⟨fun hw => cell_ev hk hp (by omega) hl h1 h2 (by rw [subp]; exact eL) (by rw [subp]; exact eU) hLU hw, fun hw => cellNo_ev hk hp (by omega) hl h1 h2 (by rw [subp]; exact eL) (by rw [subp]; exact eU) hw⟩

theorem Normal2_in (x : Int × Int) (p M H M2 r1 r2 M' H' M2' s1 s2 : Nat) (w : World) (hx : ShortQ x.1 x.2) (hp : p ≤ 12) (hl : cmpQ x.1 x.2 (-8) 1 > 0) (hh : cmpQ x.1 x.2 8 1 < 0) (hr : rightB (-((10 ^ 13 : Nat) : Int), 1) (((10 ^ 13 : Nat) : Int), 1) x p = true) (hat : x ≠ (0, 1))
    (h : NormOk (p + 15) x.1 x.2 M H M2 r1 r2) (hn : CellNo (p + 15) p (pNormal (p + 15) x.1 x.2 M H M2 r1 r2)) (h' : NormOk (p + 40) x.1 x.2 M' H' M2' s1 s2) (hc : CellOk (p + 40) p (pNormal (p + 40) x.1 x.2 M' H' M2' s1 s2)) (ht : TabOf w) :
    Calls Tryz.prog 20 #[NV x, .int .i64 p] w (CellPost (p + 40) p (pNormal (p + 40) x.1 x.2 M' H' M2' s1 s2) w) :=
  Normal_of x p _ _ _ _ 0 w hx (by omega) (by omega) hl hh hr ht fun W hb => cell2_in 62 #[] _ _ (0, 1) (1, 2) x _ _ p W ent_normal isQ_m13 isQ_13 hx hp hr hat (fun W' hb' => normal_in (p + 15) x.1 x.2 M H M2 r1 r2 W' h ((ht.below hb).below hb')) hn
    (fun W' hb' => normal_in (p + 40) x.1 x.2 M' H' M2' s1 s2 W' h' ((ht.below hb).below hb')) hc (ht.below hb)

noncomputable def nHC (p n d r1 r2 s1 s2 : Nat) : Option (Nat × Nat) :=
  ob2 (nHalf (p + 15) n d r1 r2) fun a b =>
    ifO (Nat.ble (cdN b (10 ^ 15)) (a / 10 ^ 15 + 1)) (some (a / 10 ^ 15, cdN b (10 ^ 15)))
      (ob2 (nHalf (p + 40) n d s1 s2) fun a' b' => ifO (Nat.ble (cdN b' (10 ^ 40)) (a' / 10 ^ 40 + 1)) (some (a' / 10 ^ 40, cdN b' (10 ^ 40))) none)
structure HCok (p n d r1 r2 s1 s2 lo hi : Nat) : Prop where
  way : (∃ a b, nHalf (p + 15) n d r1 r2 = some (a, b) ∧ a / 10 ^ 15 = lo ∧ cdN b (10 ^ 15) = hi ∧ hi ≤ lo + 1) ∨
    (∃ a b a' b', nHalf (p + 15) n d r1 r2 = some (a, b) ∧ a / 10 ^ 15 + 2 ≤ cdN b (10 ^ 15) ∧ nHalf (p + 40) n d s1 s2 = some (a', b') ∧ a' / 10 ^ 40 = lo ∧ cdN b' (10 ^ 40) = hi ∧ hi ≤ lo + 1)
theorem nHC_spec {p n d r1 r2 s1 s2 lo hi : Nat} (h : nHC p n d r1 r2 s1 s2 = some (lo, hi)) : HCok p n d r1 r2 s1 s2 lo hi := by
  unfold nHC at h
  obtain ⟨a, b, h1, h2⟩ := ob2_spec h
  rcases ifO_spec h2 with ⟨hc, h3⟩ | ⟨hc, h3⟩
  · have e := some_inj' h3
    have e1 : lo = a / 10 ^ 15 := congrArg Prod.fst e
    have e2 : hi = cdN b (10 ^ 15) := congrArg Prod.snd e
    exact ⟨.inl ⟨a, b, h1, e1.symm, e2.symm, by rw [e1, e2]; exact Nat.le_of_ble_eq_true hc⟩⟩
  · obtain ⟨a', b', h4, h5⟩ := ob2_spec h3
    have hno : a / 10 ^ 15 + 2 ≤ cdN b (10 ^ 15) := by
      rcases Nat.lt_or_ge (a / 10 ^ 15 + 1) (cdN b (10 ^ 15)) with g | g
      · exact g
      · rw [Nat.ble_eq_true_of_le g] at hc; cases hc
    rcases ifO_spec h5 with ⟨hd, h6⟩ | ⟨hd, h6⟩
    · have e := some_inj' h6
      have e1 : lo = a' / 10 ^ 40 := congrArg Prod.fst e
      have e2 : hi = cdN b' (10 ^ 40) := congrArg Prod.snd e
      exact ⟨.inr ⟨a, b, a', b', h1, hno, h4, e1.symm, e2.symm, by rw [e1, e2]; exact Nat.le_of_ble_eq_true hd⟩⟩
    · cases h6
theorem half_tens {p e : Nat} (hp : 0 < p) : ((10 ^ (p + e) / 2 : Nat) : Int) = ((10 ^ p / 2 : Nat) : Int) * ((10 ^ e : Nat) : Int) := by
  obtain ⟨j, rfl⟩ : ∃ j, p = j + 1 := ⟨p - 1, by omega⟩
  have e1 : 10 ^ (j + 1) / 2 = 5 * 10 ^ j := by rw [Nat.pow_succ]; omega
  have e2 : 10 ^ (j + 1 + e) / 2 = 5 * 10 ^ j * 10 ^ e := by
    rw [Nat.add_right_comm, Nat.pow_succ, Nat.pow_add, Nat.mul_assoc 5]
    omega
  rw [e1, e2, Int.natCast_mul]
theorem side_pos {e p a b : Nat} (hp0 : 0 < p) (hp : p ≤ 12) (hk : p + e ≤ 55) (hab : a ≤ b) (hb : b ≤ 10 ^ (p + e)) :
    (cdN b (10 ^ e) ≤ a / 10 ^ e + 1 → CellOk (p + e) p (ip (10 ^ (p + e) / 2 + a, 10 ^ (p + e) / 2 + b)) ∧ pCl (p + e) p (ip (10 ^ (p + e) / 2 + a, 10 ^ (p + e) / 2 + b)) = gC p (((10 ^ p / 2 : Nat) : Int) + ((a / 10 ^ e : Nat) : Int)) ∧ pCh (p + e) p (ip (10 ^ (p + e) / 2 + a, 10 ^ (p + e) / 2 + b)) = gC p (((10 ^ p / 2 : Nat) : Int) + ((cdN b (10 ^ e) : Nat) : Int))) ∧
    (a / 10 ^ e + 2 ≤ cdN b (10 ^ e) → CellNo (p + e) p (ip (10 ^ (p + e) / 2 + a, 10 ^ (p + e) / 2 + b))) := by
  have hh := half_tens (p := p) (e := e) hp0
  have hE := ten_pos e
  have hT := tens_pos e
  have m1 := Nat.div_mul_le_self a (10 ^ e)
  have m2 := Nat.lt_div_mul_add (a := a) hE
  have m3 := cdN_ge (a := b) hE
  have m4 : cdN b (10 ^ e) * 10 ^ e < b + 10 ^ e := by
    have h2 : cdN b (10 ^ e) * 10 ^ e ≤ b + (10 ^ e - 1) := Nat.div_mul_le_self (b + (10 ^ e - 1)) (10 ^ e)
    omega
  have hb2 : 10 ^ (p + e) / 2 + b ≤ 10 ^ 150 := by
    have h1 := half_le (p + e)
    have h2 : 10 ^ (p + e) ≤ 10 ^ 55 := Nat.pow_le_pow_right (by omega) hk
    have h3 : 2 * 10 ^ 55 ≤ 10 ^ 150 := Nat.le_of_ble_eq_true (by decide +kernel)
    omega
  generalize 10 ^ (p + e) / 2 = hf at *
  generalize 10 ^ p / 2 = fv at *
  generalize cdN b (10 ^ e) = cb at *
  generalize a / 10 ^ e = ca at *
  generalize hD : 10 ^ e = D at *
  have n1 : (ca : Int) * (D : Int) ≤ a := by exact_mod_cast m1
  have n2 : (a : Int) < (ca : Int) * (D : Int) + D := by exact_mod_cast m2
  have n3 : (b : Int) ≤ (cb : Int) * (D : Int) := by exact_mod_cast m3
  have n4 : (cb : Int) * (D : Int) < (b : Int) + D := by exact_mod_cast m4
  have G := cellG (e := e) (p := p) (b := ip (hf + a, hf + b)) (L := (fv : Int) + (ca : Int)) (U := (fv : Int) + (cb : Int)) (by omega) hp (by show ((hf + a : Nat) : Int) ≤ ((hf + b : Nat) : Int); omega)
    (by show (((hf + a : Nat) : Int)).natAbs ≤ _; omega) (by show (((hf + b : Nat) : Int)).natAbs ≤ _; omega)
    (by rw [hD, Int.add_mul, ← hh]; show _ ≤ ((hf + a : Nat) : Int); omega) (by rw [hD, Int.add_mul, Int.add_mul, ← hh]; show ((hf + a : Nat) : Int) < _; omega)
    (by rw [hD, Int.add_mul, ← hh]; show ((hf + b : Nat) : Int) ≤ _; omega) (by rw [hD, Int.sub_mul, Int.add_mul, ← hh]; show _ < ((hf + b : Nat) : Int); omega)
  exact ⟨fun h => G.1 (by omega), fun h => G.2 (by omega)⟩
theorem side_neg {e p a b : Nat} (hp0 : 0 < p) (hp : p ≤ 12) (hk : p + e ≤ 55) (hab : a ≤ b) (hb : b ≤ 10 ^ (p + e)) :
    (cdN b (10 ^ e) ≤ a / 10 ^ e + 1 → CellOk (p + e) p (((10 ^ (p + e) / 2 : Nat) : Int) - (b : Int), ((10 ^ (p + e) / 2 : Nat) : Int) - (a : Int)) ∧ pCl (p + e) p (((10 ^ (p + e) / 2 : Nat) : Int) - (b : Int), ((10 ^ (p + e) / 2 : Nat) : Int) - (a : Int)) = gC p (((10 ^ p / 2 : Nat) : Int) - ((cdN b (10 ^ e) : Nat) : Int)) ∧ pCh (p + e) p (((10 ^ (p + e) / 2 : Nat) : Int) - (b : Int), ((10 ^ (p + e) / 2 : Nat) : Int) - (a : Int)) = gC p (((10 ^ p / 2 : Nat) : Int) - ((a / 10 ^ e : Nat) : Int))) ∧
    (a / 10 ^ e + 2 ≤ cdN b (10 ^ e) → CellNo (p + e) p (((10 ^ (p + e) / 2 : Nat) : Int) - (b : Int), ((10 ^ (p + e) / 2 : Nat) : Int) - (a : Int))) := by
  have hh := half_tens (p := p) (e := e) hp0
  have hE := ten_pos e
  have hT := tens_pos e
  have m1 := Nat.div_mul_le_self a (10 ^ e)
  have m2 := Nat.lt_div_mul_add (a := a) hE
  have m3 := cdN_ge (a := b) hE
  have m4 : cdN b (10 ^ e) * 10 ^ e < b + 10 ^ e := by
    have h2 : cdN b (10 ^ e) * 10 ^ e ≤ b + (10 ^ e - 1) := Nat.div_mul_le_self (b + (10 ^ e - 1)) (10 ^ e)
    omega
  have hb2 : 10 ^ (p + e) / 2 + b ≤ 10 ^ 150 := by
    have h1 := half_le (p + e)
    have h2 : 10 ^ (p + e) ≤ 10 ^ 55 := Nat.pow_le_pow_right (by omega) hk
    have h3 : 2 * 10 ^ 55 ≤ 10 ^ 150 := Nat.le_of_ble_eq_true (by decide +kernel)
    omega
  generalize 10 ^ (p + e) / 2 = hf at *
  generalize 10 ^ p / 2 = fv at *
  generalize cdN b (10 ^ e) = cb at *
  generalize a / 10 ^ e = ca at *
  generalize hD : 10 ^ e = D at *
  have n1 : (ca : Int) * (D : Int) ≤ a := by exact_mod_cast m1
  have n2 : (a : Int) < (ca : Int) * (D : Int) + D := by exact_mod_cast m2
  have n3 : (b : Int) ≤ (cb : Int) * (D : Int) := by exact_mod_cast m3
  have n4 : (cb : Int) * (D : Int) < (b : Int) + D := by exact_mod_cast m4
  have G := cellG (e := e) (p := p) (b := ((hf : Int) - (b : Int), (hf : Int) - (a : Int))) (L := (fv : Int) - (cb : Int)) (U := (fv : Int) - (ca : Int)) (by omega) hp (by dsimp only; omega)
    (by dsimp only; omega) (by dsimp only; omega)
    (by rw [hD, Int.sub_mul, ← hh]; dsimp only; omega) (by rw [hD, Int.add_mul, Int.sub_mul, ← hh]; dsimp only; omega)
    (by rw [hD, Int.sub_mul, ← hh]; dsimp only; omega) (by rw [hD, Int.sub_mul, Int.sub_mul, ← hh]; dsimp only; omega)
  exact ⟨fun h => G.1 (by omega), fun h => G.2 (by omega)⟩
theorem gpost2_of {e p : Nat} {b : Int × Int} {L U : Int} (w : World) (h1 : pCl (p + e) p b = gC p L) (h2 : pCh (p + e) p b = gC p U) : CellPost (p + e) p b w = GPost p L U w := by
  unfold CellPost GPost
  rw [h1, h2]
theorem HC_pos {p n d r1 r2 s1 s2 lo hi : Nat} (hp0 : 0 < p) (hp : p ≤ 12) (hx : Red n d) (h0 : 0 < n) (h8 : n < 8 * d) (hrt : RtPi (p + 15) r1 r2) (hrt2 : RtPi (p + 40) s1 s2) (h : HCok p n d r1 r2 s1 s2 lo hi) (w : World) (ht : TabOf w) :
    Calls Tryz.prog 20 #[NV ((n : Int), (d : Int)), .int .i64 p] w (GPost p (((10 ^ p / 2 : Nat) : Int) + (lo : Int)) (((10 ^ p / 2 : Nat) : Int) + (hi : Int)) w) := by
  have hd12 := hx.hd
  have hn12 := hx.hn
  have hd0 := hx.pos
  have hl : cmpQ (n : Int) (d : Int) (-8) 1 > 0 := cI_pos.2 (by omega)
  have hh : cmpQ (n : Int) (d : Int) 8 1 < 0 := cI_neg.2 (by omega)
  have hr := rightB_of (lo := (-((10 ^ 13 : Nat) : Int), 1)) (hi := (((10 ^ 13 : Nat) : Int), 1)) (x := ((n : Int), (d : Int))) hp (by dsimp only; omega) (by dsimp only; omega)
  have hat : ((n : Int), (d : Int)) ≠ (0, 1) := fun g => by have g1 := congrArg Prod.fst g; dsimp only at g1; omega
  rcases h.way with ⟨a, b, h1, h2, h3, h4⟩ | ⟨a, b, a', b', h1, h2, h3, h4, h5, h6⟩
  · obtain ⟨M, H, M2, e1, e2, e3, e4⟩ := norm_pos (by omega) (by omega) hx.pos hx.n40 hx.d40 (Nat.le_of_lt h8) hrt h1
    obtain ⟨c1, c2, c3⟩ := (side_pos (e := 15) (p := p) hp0 hp (by omega) e3 e4).1 (by dsimp only; rw [h2, h3]; exact h4)
    dsimp only at e2 c1 c2 c3
    rw [h2] at c2
    rw [h3] at c3
    have := Normal_in ((n : Int), (d : Int)) p M H M2 r1 r2 w hx.short hp hl hh hr hat e1 (by dsimp only; rw [e2]; exact c1) ht
    dsimp only at this
    rw [e2, gpost2_of w c2 c3] at this
    exact this
  · obtain ⟨M, H, M2, e1, e2, e3, e4⟩ := norm_pos (by omega) (by omega) hx.pos hx.n40 hx.d40 (Nat.le_of_lt h8) hrt h1
    obtain ⟨M', H', M2', f1, f2, f3, f4⟩ := norm_pos (k := p + 40) (by omega) (by omega) hx.pos hx.n40 hx.d40 (Nat.le_of_lt h8) hrt2 h3
    have cn := (side_pos (e := 15) (p := p) hp0 hp (by omega) e3 e4).2 h2
    obtain ⟨c1, c2, c3⟩ := (side_pos (e := 40) (p := p) hp0 hp (by omega) f3 f4).1 (by dsimp only; rw [h4, h5]; exact h6)
    dsimp only at e2 f2 cn c1 c2 c3
    rw [h4] at c2
    rw [h5] at c3
    have := Normal2_in ((n : Int), (d : Int)) p M H M2 r1 r2 M' H' M2' s1 s2 w hx.short hp hl hh hr hat e1 (by dsimp only; rw [e2]; exact cn) f1 (by dsimp only; rw [f2]; exact c1) ht
    dsimp only at this
    rw [f2, gpost2_of w c2 c3] at this
    exact this
theorem HC_neg {p n d r1 r2 s1 s2 lo hi : Nat} (hp0 : 0 < p) (hp : p ≤ 12) (hx : Red n d) (h0 : 0 < n) (h8 : n < 8 * d) (hrt : RtPi (p + 15) r1 r2) (hrt2 : RtPi (p + 40) s1 s2) (h : HCok p n d r1 r2 s1 s2 lo hi) (w : World) (ht : TabOf w) :
    Calls Tryz.prog 20 #[NV (-(n : Int), (d : Int)), .int .i64 p] w (GPost p (((10 ^ p / 2 : Nat) : Int) - (hi : Int)) (((10 ^ p / 2 : Nat) : Int) - (lo : Int)) w) := by
  have hd12 := hx.hd
  have hn12 := hx.hn
  have hd0 := hx.pos
  have hl : cmpQ (-(n : Int)) (d : Int) (-8) 1 > 0 := cI_pos.2 (by omega)
  have hh : cmpQ (-(n : Int)) (d : Int) 8 1 < 0 := cI_neg.2 (by omega)
  have hr := rightB_of (lo := (-((10 ^ 13 : Nat) : Int), 1)) (hi := (((10 ^ 13 : Nat) : Int), 1)) (x := (-(n : Int), (d : Int))) hp (by dsimp only; omega) (by dsimp only; omega)
  have hat : (-(n : Int), (d : Int)) ≠ (0, 1) := fun g => by have g1 := congrArg Prod.fst g; dsimp only at g1; omega
  rcases h.way with ⟨a, b, h1, h2, h3, h4⟩ | ⟨a, b, a', b', h1, h2, h3, h4, h5, h6⟩
  · obtain ⟨M, H, M2, e1, e2, e3, e4⟩ := norm_neg (by omega) (by omega) hx.pos h0 hx.n40 hx.d40 (Nat.le_of_lt h8) hrt h1
    obtain ⟨c1, c2, c3⟩ := (side_neg (e := 15) (p := p) hp0 hp (by omega) e3 e4).1 (by dsimp only; rw [h2, h3]; exact h4)
    dsimp only at e2 c1 c2 c3
    rw [h3] at c2
    rw [h2] at c3
    have := Normal_in (-(n : Int), (d : Int)) p M H M2 r1 r2 w hx.shortN hp hl hh hr hat e1 (by dsimp only; rw [e2]; exact c1) ht
    dsimp only at this
    rw [e2, gpost2_of w c2 c3] at this
    exact this
  · obtain ⟨M, H, M2, e1, e2, e3, e4⟩ := norm_neg (by omega) (by omega) hx.pos h0 hx.n40 hx.d40 (Nat.le_of_lt h8) hrt h1
    obtain ⟨M', H', M2', f1, f2, f3, f4⟩ := norm_neg (k := p + 40) (by omega) (by omega) hx.pos h0 hx.n40 hx.d40 (Nat.le_of_lt h8) hrt2 h3
    have cn := (side_neg (e := 15) (p := p) hp0 hp (by omega) e3 e4).2 h2
    obtain ⟨c1, c2, c3⟩ := (side_neg (e := 40) (p := p) hp0 hp (by omega) f3 f4).1 (by dsimp only; rw [h4, h5]; exact h6)
    dsimp only at e2 f2 cn c1 c2 c3
    rw [h5] at c2
    rw [h4] at c3
    have := Normal2_in (-(n : Int), (d : Int)) p M H M2 r1 r2 M' H' M2' s1 s2 w hx.shortN hp hl hh hr hat e1 (by dsimp only; rw [e2]; exact cn) f1 (by dsimp only; rw [f2]; exact c1) ht
    dsimp only at this
    rw [f2, gpost2_of w c2 c3] at this
    exact this
end Go.Proofs.YtppbhnhmaocdnaaGreatDoor
