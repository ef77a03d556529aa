/- Walks and lemmas: Quantile: the halving. Exp, Log, Normal, Chi: the cells. law06: small functions. law06: pick. law06: cell, where it holds. law06: small. law06: value. law06: sane, from what the eight calls answer. Numbers without sign: the scale's operations, the series and exp, computed by functions that the kernel runs. exp and artanh, computed. Fractions in lowest terms. log, computed. halfNormal and normal, computed. -/
import Derived.Test.YtppbhnhmaocdnaaGreatDoorB25
set_option linter.unusedVariables false
set_option linter.unusedSimpArgs false
namespace Go.Proofs.YtppbhnhmaocdnaaGreatDoor
open Go.RowKit Go.Shelf

def quSt (p : Nat) (r : Nat → Bool) : Nat → Int × Int
  | 0 => (-5 * ((10 ^ p : Nat) : Int), 5 * ((10 ^ p : Nat) : Int))
  | i + 1 => if r i then (((quSt p r i).1 + (quSt p r i).2) / 2, (quSt p r i).2) else ((quSt p r i).1, ((quSt p r i).1 + (quSt p r i).2) / 2)
def quMid (p : Nat) (r : Nat → Bool) (i : Nat) : Int := ((quSt p r i).1 + (quSt p r i).2) / 2
structure QuOk (p : Nat) (x : Int × Int) (r : Nat → Bool) (N : Nat) : Prop where
  hp : p ≤ 12
  hx : ShortQ x.1 x.2
  hr : rightB (1, 1000000) (999999, 1000000) x p = true
  hne : ¬ (x.1 = 1 ∧ x.2 = 2)
  go : ∀ i, i < N → 1 < (quSt p r i).2 - (quSt p r i).1
  stop : (quSt p r N).2 - (quSt p r N).1 ≤ 1
  un : ∀ i, i < N → ∀ W, TabOf W → Calls Tryz.prog 58 #[NV (rnum (quMid p r i) ((10 ^ p : Nat) : Int), rden (quMid p r i) ((10 ^ p : Nat) : Int)), NV x] W (UndPost (r i) W)
theorem quSt_fit {p : Nat} (hp : p ≤ 12) (r : Nat → Bool) (i : Nat) : (quSt p r i).1.natAbs ≤ 5000000000000 ∧ (quSt p r i).2.natAbs ≤ 5000000000000 := by
  induction i with
  | zero =>
    have : (10 ^ p : Nat) ≤ 10 ^ 12 := Nat.pow_le_pow_right (by omega) hp
    have h0 : (10 ^ 12 : Nat) = 1000000000000 := by decide
    show (-5 * ((10 ^ p : Nat) : Int)).natAbs ≤ _ ∧ (5 * ((10 ^ p : Nat) : Int)).natAbs ≤ _
    generalize (10 ^ p : Nat) = t at *
    omega
  | succ i ih =>
    unfold quSt
    generalize quSt p r i = s at *
    obtain ⟨a, b⟩ := s
    dsimp only at *
    split <;> dsimp only <;> omega
theorem quBig {n : Int} (h : n.natAbs ≤ 10000000000000) : n.natAbs < big := Nat.lt_of_le_of_lt h (by rw [big_eq]; decide +kernel)
theorem isR_q1 : IsR 1 1000000 := ⟨by rw [big_eq]; decide +kernel, by rw [big_eq]; decide +kernel, by decide +kernel⟩
theorem isR_q2 : IsR 999999 1000000 := ⟨by rw [big_eq]; decide +kernel, by rw [big_eq]; decide +kernel, by decide +kernel⟩
theorem str_m5 : str (-5) = ⟨#[45, 53]⟩ := by
  rw [str, itoa_neg (by omega)]
  have : Lib.decDigits 5 = [53] := by decide +kernel
  show (⟨(45 :: Lib.decDigits 5).toArray⟩ : ByteArray) = _
  rw [this]
theorem str_5 : str 5 = ⟨#[53]⟩ := by
  have : Lib.decDigits 5 = [53] := by decide +kernel
  rw [str, show (5 : Int) = ((5 : Nat) : Int) from rfl, itoa_nat, this]
theorem str_mil : str 1000000 = ⟨#[49, 48, 48, 48, 48, 48, 48]⟩ := by
  have : Lib.decDigits 1000000 = [49, 48, 48, 48, 48, 48, 48] := by decide +kernel
  rw [str, show (1000000 : Int) = ((1000000 : Nat) : Int) from rfl, itoa_nat, this]
theorem str_nin : str 999999 = ⟨#[57, 57, 57, 57, 57, 57]⟩ := by
  have : Lib.decDigits 999999 = [57, 57, 57, 57, 57, 57] := by decide +kernel
  rw [str, show (999999 : Int) = ((999999 : Nat) : Int) from rfl, itoa_nat, this]

structure QuI (w : World) (xa xb : ByteArray) (W : World) : Prop where
  x : RC w.heap.size W (.string xa) (.string xb)
  o : R4 (w.heap.size + 1) W (.string ⟨#[]⟩) (.string ⟨#[]⟩) (.string ⟨#[]⟩) (.string ⟨#[]⟩)
  b : Below w.heap.size w W
theorem QuI.below {w : World} {xa xb : ByteArray} {W W' : World} (h : QuI w xa xb W) (hb : Below W.heap.size W W') : QuI w xa xb W' := ⟨h.x.below hb, h.o.below hb, h.b.trans (hb.mono h.b.size)⟩
theorem QuI.drew {w : World} {xa xb : ByteArray} {W : World} (h : QuI w xa xb W) : QuI w xa xb W.drew := h.below (Below.refl _ W).drew

open Classical in
noncomputable def intS : Value → Int
  | .string s => if h : ∃ n, s = str n then h.choose else 0
  | _ => 0
theorem intS_str (n : Int) : intS (.string (str n)) = n := by
  have hx : ∃ m, str n = str m := ⟨n, rfl⟩
  simp only [intS]
  rw [dif_pos hx, ← str_inj hx.choose_spec]

set_option maxRecDepth 100000 in
set_option maxHeartbeats 8000000 in
theorem qu_in (p : Nat) (x : Int × Int) (r : Nat → Bool) (N : Nat) (w : World) (h : QuOk p x r N) (ht : TabOf w) :
    Calls Tryz.prog 18 #[NV x, .int .i64 p] w (IvPost (rnum (quSt p r N).1 ((10 ^ p : Nat) : Int)) (rden (quSt p r N).1 ((10 ^ p : Nat) : Int)) (rnum (quSt p r N).2 ((10 ^ p : Nat) : Int)) (rden (quSt p r N).2 ((10 ^ p : Nat) : Int)) w) := by
  have hp := h.hp
  have HR := fun W h' => right_raw (1, 1000000) (999999, 1000000) x ⟨#[]⟩ ⟨#[]⟩ ⟨#[]⟩ ⟨#[]⟩ .nilFunc p W ⟨.func 0, #[], #[], .inr rfl⟩ isR_q1 isR_q2 h.hx (by omega) (by omega) h'
  rw [h.hr] at HR
  have HAT := fun W => sat_in p (by omega) W
  have hft := quSt_fit hp r
  have htb : ((10 ^ p : Nat) : Int).natAbs < big := ten_big (by omega)
  have hs0 : quSt p r 0 = (-5 * ((10 ^ p : Nat) : Int), 5 * ((10 ^ p : Nat) : Int)) := rfl
  have HM1 := fun W h' => smul_in (-5) ((10 ^ p : Nat) : Int) W (by rw [big_eq]; decide +kernel) htb (by have := (hft 0).1; rw [hs0] at this; exact quBig (Nat.le_trans this (by decide))) h'
  have HM2 := fun W h' => smul_in 5 ((10 ^ p : Nat) : Int) W (by rw [big_eq]; decide +kernel) htb (by have := (hft 0).2; rw [hs0] at this; exact quBig (Nat.le_trans this (by decide))) h'
  have HSB := Lib.hid (fun i W h' => ssub_in (quSt p r i).2 (quSt p r i).1 W (quBig (Nat.le_trans (hft i).2 (by decide))) (quBig (Nat.le_trans (hft i).1 (by decide))) (quBig (by have := hft i; omega)) h')
  have HCP := Lib.hid (fun i W => cmp_in ((quSt p r i).2 - (quSt p r i).1) 1 W (quBig (by have := hft i; omega)) (by rw [big_eq]; decide +kernel))
  have HAD := Lib.hid (fun i W h' => sadd_in (quSt p r i).1 (quSt p r i).2 W (quBig (Nat.le_trans (hft i).1 (by decide))) (quBig (Nat.le_trans (hft i).2 (by decide))) (quBig (by have := hft i; omega)) h')
  have HDN := Lib.hid (fun i W h' => sdown_in ((quSt p r i).1 + (quSt p r i).2) 2 W (quBig (by have := hft i; omega)) (by rw [big_eq]; decide +kernel) (by decide) h')
  have HMK := Lib.hid (fun i W h' => make_in (quMid p r i) ((10 ^ p : Nat) : Int) W (quBig (by have := hft i; unfold quMid; omega)) htb (ten_ne _) h')
  have HML := fun W h' => make_in (quSt p r N).1 ((10 ^ p : Nat) : Int) W (quBig (Nat.le_trans (hft N).1 (by decide))) htb (ten_ne _) h'
  have HMH := fun W h' => make_in (quSt p r N).2 ((10 ^ p : Nat) : Int) W (quBig (Nat.le_trans (hft N).2 (by decide))) htb (ten_ne _) h'
  have HUN := Lib.hid h.un
  have HGO := Lib.hid h.go
  have HST := Lib.hid h.stop
  have hne : ¬ (str x.1 = ⟨#[49]⟩ ∧ str x.2 = ⟨#[50]⟩) := fun ⟨e1, e2⟩ => h.hne ⟨str_inj (e1.trans str_one.symm), str_inj (e2.trans str_two.symm)⟩
  clear hft htb h
  unfold SV at HAT
  unfold StrPost at HM1 HM2 HSB HAD HDN
  unfold RatPost at HML HMH HMK
  unfold UndPost NV at HUN
  unfold NV at HR
  unfold IvPost IV NV
  rw [str_mil, str_nin, str_one] at HR
  rw [str_m5] at HM1
  rw [str_5] at HM2
  rw [show -5 * ((10 ^ p : Nat) : Int) = (quSt p r 0).1 from rfl] at HM1
  rw [show 5 * ((10 ^ p : Nat) : Int) = (quSt p r 0).2 from rfl] at HM2
  rw [str_one] at HCP
  rw [str_two] at HDN
  unfold RV at HML HMH HMK
  dsimp only at HUN
  have HR := Lib.hid HR
  have HAT := Lib.hid HAT
  have HM1 := Lib.hid HM1
  have HM2 := Lib.hid HM2
  clear hs0
  generalize ((10 ^ p : Nat) : Int) = tt at *
  generalize str tt = one at *
  generalize rnum (quSt p r N).1 tt = ln at *
  generalize rden (quSt p r N).1 tt = ld at *
  generalize rnum (quSt p r N).2 tt = hn at *
  generalize rden (quSt p r N).2 tt = hd at *
  generalize str ln = ln at *
  generalize str ld = ld at *
  generalize str hn = hn at *
  generalize str hd = hd at *
  have HML := Lib.hid HML
  have HMH := Lib.hid HMH
  have hfd : ∀ (k : Int) (t : ByteArray) w, (Instr.field 59 (.agg #[.int .i64 k, .string t]) 1).run Tryz.prog w = .ok (.string t) w := fun k t w => field_one k t w
  generalize str x.1 = xa at *
  generalize str x.2 = xb at *
  have hcs : ¬ xa.toList = [49] ∨ (xa.toList = [49] ∧ ¬ xb.toList = [50]) := by
    by_cases e1 : xa.toList = [49]
    · refine .inr ⟨e1, fun e2 => hne ⟨?_, ?_⟩⟩
      · rw [ByteArray.toList_eq] at e1; exact ByteArray.ext (Array.toList_inj.1 e1)
      · rw [ByteArray.toList_eq] at e2; exact ByteArray.ext (Array.toList_inj.1 e2)
    · exact .inl e1
  clear hne
  have bn := belowNew w (.cells #[.string xa, .string xb] 25)
  have bn2 := belowNew (w.alloc (.cells #[.string xa, .string xb] 25)) (.cells #[.string ⟨#[]⟩, .string ⟨#[]⟩, .string ⟨#[]⟩, .string ⟨#[]⟩] 32)
  have o0 := R4.new (w.alloc (.cells #[.string xa, .string xb] 25)) 32 (.string ⟨#[]⟩) (.string ⟨#[]⟩) (.string ⟨#[]⟩) (.string ⟨#[]⟩)
  rw [sizeNew] at o0
  have i0 : QuI w xa xb _ := ⟨(RC.new w 25 (.string xa) (.string xb)).below bn2, o0, bn.trans (bn2.mono bn.size)⟩
  clear bn bn2 o0
  have HTE : Hid (∀ W, Calls Tryz.prog 46 #[.int .i64 p] W fun e w' => e = .returned (.agg #[.int .i64 p, .string one]) ∧ Below W.heap.size W w') := HAT
  rcases hcs with hq | ⟨hq, hq2⟩
  all_goals
    go_enter Tryz.func18, Tryz.ntmps18
    go_wp2_with (first
      | (have hchk := i0; clear hchk; go_at_call 37; refine (ratio_in _ _ _).mono ?_; rintro e w1 ⟨rfl, hb1⟩; have i1 := i0.below hb1; clear hb1 i0)
      | (have hchk := i1; clear hchk; go_at_call 37; refine (ratio_in _ _ _).mono ?_; rintro e w2 ⟨rfl, hb2⟩; have bf := belowNew w2 (.cells #[.string ⟨#[49]⟩, .string ⟨#[49, 48, 48, 48, 48, 48, 48]⟩, .string ⟨#[57, 57, 57, 57, 57, 57]⟩, .string ⟨#[49, 48, 48, 48, 48, 48, 48]⟩, .string ⟨#[]⟩, .string ⟨#[]⟩, .string ⟨#[]⟩, .string ⟨#[]⟩, .nilFunc] 57); have i2 := (i1.below hb2).below bf; have y0 := i2.x.c00; have y1 := i2.x.c01; clear hb2 i1 bf)
      | (go_at_call 53; refine (HR.out _ (ht.below i2.b)).mono ?_; rintro e w3 ⟨rfl, hb3⟩; have i3 := i2.below hb3; clear hb3 i2 y0 y1)
      | (go_at_call 46; refine (HTE.out _).mono ?_; rintro e w4 ⟨rfl, hb4⟩; have i4 := i3.below hb4; clear hb4 i3))
    have j0 := i4.drew
    clear i4 HR HTE HAT
    go_region_held3 (fun W => W.cell? ⟨w.heap.size, 0, none⟩ = some (.string xa) ∧ W.cell? ⟨w.heap.size, 1, none⟩ = some (.string xb))
      (first
        | with_reducible exact ⟨j0.x.c00, j0.x.c01⟩
        | with_reducible exact ⟨j1.x.c00, j1.x.c01⟩) (first
      | (go_at_call 37; refine (ratio_in _ _ (World.drew _)).mono ?_; rintro e w5 ⟨rfl, hb5⟩; have j1 := j0.below hb5; clear hb5))
    go_wp2_with (first
      | (have hchk := j1; clear hchk; go_at_call 54; refine (HM1.out _ (ht.below j1.b)).mono ?_; rintro e w6 ⟨rfl, hb6⟩; have j2 := j1.below hb6; clear hb6 j1)
      | (have hchk := j2; clear hchk; go_at_call 54; refine (HM2.out _ (ht.below j2.b)).mono ?_; rintro e w7 ⟨rfl, hb7⟩; have j3 := j2.below hb7; clear hb7 j2))
    clear HM1 HM2 hq
    go_loopw [8, 9] (fun a b W => ∃ m : Nat, m ≤ N ∧ a = .string (str (quSt p r m).1) ∧ b = .string (str (quSt p r m).2) ∧ QuI w xa xb W) (fun a b _ => (intS b - intS a).toNat)
    case atStart => exact ⟨0, Nat.zero_le _, rfl, rfl, j3⟩
    case round =>
      obtain ⟨m, hm, rfl, rfl, k0⟩ := hrel
      clear j3
      have hS := HSB.out m
      have hC := HCP.out m
      rcases Nat.lt_or_ge m N with hlt | hge
      · have hgo := HGO.out m hlt
        have hc : decide (0 < cmpI ((quSt p r m).2 - (quSt p r m).1) 1) = true := decide_eq_true (by rcases cmpI_cases ((quSt p r m).2 - (quSt p r m).1) 1 with h | h | h <;> omega)
        have hA := HAD.out m
        have hD := HDN.out m
        have hM := HMK.out m
        have hU := HUN.out m hlt
        have e1 : quSt p r (m + 1) = if r m then (quMid p r m, (quSt p r m).2) else ((quSt p r m).1, quMid p r m) := rfl
        have hmd : quMid p r m = ((quSt p r m).1 + (quSt p r m).2) / 2 := rfl
        rw [← hmd] at hD
        clear HSB HCP HAD HDN HMK HUN HML HMH HGO HST
        generalize quMid p r m = md at *
        generalize rnum md tt = mn at *
        generalize rden md tt = me at *
        generalize str mn = mn at *
        generalize str me = me at *
        generalize r m = b at *
        generalize quSt p r m = st at *
        obtain ⟨lo, hi⟩ := st
        dsimp only at hS hC hgo hc hA hD e1 hmd ⊢
        generalize cmpI (hi - lo) 1 = c at *
        generalize str (hi - lo) = sdf at *
        generalize str (lo + hi) = ssm at *
        have hS := Lib.hid hS
        have hC := Lib.hid hC
        have hA := Lib.hid hA
        have hD := Lib.hid hD
        have hM := Lib.hid hM
        have hU := Lib.hid hU
        replace hmd := Lib.hid hmd
        replace hgo := Lib.hid hgo
        cases b
        all_goals
          replace e1 := Lib.hid e1
          go_wp2_with (first
            | (go_at_call 49; refine (hS.out _ (ht.below k0.b)).mono ?_; rintro e v1 ⟨rfl, hb1⟩; have k1 := k0.below hb1; clear hb1)
            | (go_at_call 52; refine (hC.out _).mono ?_; rintro e v2 ⟨rfl, hb2⟩; have k2 := k1.below hb2; clear hb2 k1)
            | (go_at_call 56; refine (hA.out _ (ht.below k2.b)).mono ?_; rintro e v3 ⟨rfl, hb3⟩; have k3 := k2.below hb3; clear hb3 k2)
            | (go_at_call 55; refine (hD.out _ (ht.below k3.b)).mono ?_; rintro e v4 ⟨rfl, hb4⟩; have k4 := k3.below hb4; clear hb4 k3)
            | (go_at_call 57; refine (hM.out _ (ht.below k4.b)).mono ?_; rintro e v5 ⟨rfl, hb5⟩; have bn5 := belowNew v5 (.cells #[.string mn, .string me] 25); have k5 := (k4.below hb5).below bn5; have z0 := k5.x.c00; have z1 := k5.x.c01; clear hb5 k4 bn5)
            | (go_at_call 58; refine (hU.out _ (ht.below k5.b)).mono ?_; rintro e v6 ⟨rfl, hb6⟩; have k6 := k5.below hb6; clear hb6 k5 z0 z1))
          go_roundw
          case rel => exact ⟨m + 1, hlt, by rw [e1.out]; rfl, by rw [e1.out]; rfl, k6⟩
          case measure => have := hmd.out; have := hgo.out; simp only [intS_str]; omega
      · obtain rfl : m = N := by omega
        have hst := HST.out
        have hc : decide (0 < cmpI ((quSt p r m).2 - (quSt p r m).1) 1) = false := decide_eq_false (by rcases cmpI_cases ((quSt p r m).2 - (quSt p r m).1) 1 with h | h | h <;> omega)
        clear HSB HCP HAD HDN HMK HUN HGO HST hst
        generalize quSt p r m = st at *
        obtain ⟨lo, hi⟩ := st
        dsimp only at hS hC hc HML HMH ⊢
        generalize cmpI (hi - lo) 1 = c at *
        generalize str (hi - lo) = sdf at *
        generalize str lo = slo at *
        generalize str hi = shi at *
        have hS := Lib.hid hS
        have hC := Lib.hid hC
        have HML := Lib.hid HML.out
        have HMH := Lib.hid HMH.out
        go_wp2_with (first
          | (go_at_call 49; refine (hS.out _ (ht.below k0.b)).mono ?_; rintro e v1 ⟨rfl, hb1⟩; have k1 := k0.below hb1; clear hb1)
          | (go_at_call 52; refine (hC.out _).mono ?_; rintro e v2 ⟨rfl, hb2⟩; have k2 := k1.below hb2; clear hb2 k1)
          | (have hchk := k2; clear hchk; go_at_call 57; refine (HML.out _ (ht.below k2.b)).mono ?_; rintro e v3 ⟨rfl, hb3⟩; have bn3 := belowNew v3 (.cells #[.string ln, .string ld] 25); have k3 := (k2.below hb3).below bn3; have l3 := RC.new v3 25 (.string ln) (.string ld); clear hb3 k2 bn3)
          | (have hchk := k3; clear hchk; go_at_call 57; refine (HMH.out _ (ht.below k3.b)).mono ?_; rintro e v4 ⟨rfl, hb4⟩; have bn4 := belowNew v4 (.cells #[.string hn, .string hd] 25); have k4 := (k3.below hb4).below bn4; have l4 := (l3.below hb4).below bn4; have z0 := l4.c00; have z1 := l4.c01; have z2 := k4.o.c0; have z3 := k4.o.c1; have z4 := k4.o.c2; have z5 := k4.o.c3; have z6 := k4.o.f; clear hb4 k3 l3 bn4))
        have r5 := k4.o.put (.string ln) (.string ld) (.string hn) (.string hd)
        refine bodyPost_ret_by (v := .tuple #[.agg #[.string ln, .string ld, .string hn, .string hd], .int .i64 0]) (by simp [results, Tryz.f18, go_sem, r5.c0, r5.c1, r5.c2, r5.c3]) rfl ⟨rfl, below_put4 k4.b _ _ _ _ (by omega)⟩
end Go.Proofs.YtppbhnhmaocdnaaGreatDoor
namespace Go.Proofs.YtppbhnhmaocdnaaGreatDoor
open Go.RowKit Go.Shelf

theorem isQ_m20 : IsQ (-20, 1) := ⟨by rw [big_eq]; decide +kernel, by rw [big_eq]; decide +kernel, by decide +kernel⟩
theorem isQ_20 : IsQ (20, 1) := ⟨by rw [big_eq]; decide +kernel, by rw [big_eq]; decide +kernel, by decide +kernel⟩
theorem isQ_0 : IsQ (0, 1) := ⟨by rw [big_eq]; decide +kernel, by rw [big_eq]; decide +kernel, by decide +kernel⟩
theorem isQ_100 : IsQ (100, 1) := ⟨by rw [big_eq]; decide +kernel, by rw [big_eq]; decide +kernel, by decide +kernel⟩
theorem isQ_13 : IsQ (((10 ^ 13 : Nat) : Int), 1) := isR_13
theorem isQ_m13 : IsQ (-((10 ^ 13 : Nat) : Int), 1) := isR_m13
theorem isQ_i13 : IsQ (1, ((10 ^ 13 : Nat) : Int)) := ⟨by rw [big_eq]; decide +kernel, by rw [big_eq]; decide +kernel, by decide +kernel⟩

def CellPost (k p : Nat) (b : Int × Int) (w : World) : Ending → World → Prop := IvPost (pCl k p b).1 (pCl k p b).2 (pCh k p b).1 (pCh k p b).2 w

theorem Exp_in (x : Int × Int) (p H M : Nat) (w : World) (hx : ShortQ x.1 x.2) (hp : p ≤ 12) (hr : rightB (-20, 1) (20, 1) x p = true) (hat : x ≠ (0, 1)) (h : ExpBOk (p + 15) x H M) (hc : CellOk (p + 15) p (pExpB (p + 15) x H M)) (ht : TabOf w) :
    Calls Tryz.prog 13 #[NV x, .int .i64 p] w (CellPost (p + 15) p (pExpB (p + 15) x H M) w) :=
  Exp_of x p _ _ _ _ 0 w fun W hb => cell_in 38 #[] (-20, 1) (20, 1) (0, 1) (1, 1) x _ p W ent_expB isQ_m20 isQ_20 hx hp hr hat (fun W' hb' => expB_in (p + 15) x H M W' h ((ht.below hb).below hb')) hc (ht.below hb)

theorem Log_in (x : Int × Int) (p D M1 M2 : Nat) (w : World) (hx : ShortQ x.1 x.2) (hp : p ≤ 12) (hr : rightB (1, ((10 ^ 13 : Nat) : Int)) (((10 ^ 13 : Nat) : Int), 1) x p = true) (hat : x ≠ (1, 1)) (h : LogBOk (p + 15) x D M1 M2) (hc : CellOk (p + 15) p (pLogB (p + 15) x D M1 M2)) (ht : TabOf w) :
    Calls Tryz.prog 16 #[NV x, .int .i64 p] w (CellPost (p + 15) p (pLogB (p + 15) x D M1 M2) w) :=
  Log_of x p _ _ _ _ 0 w fun W R hb hR hf => cell_in 47 #[.pointer (some ⟨R, 0, none⟩)] _ _ (1, 1) (0, 1) x _ p W ent_logB isQ_i13 isQ_13 hx hp hr hat (fun W' hb' => logB_in (p + 15) x D M1 M2 R _ _ _ _ _ _ _ W' h (Nat.lt_of_lt_of_le hR hb'.size) (hf.below hb') ((ht.below hb).below hb')) hc (ht.below hb)

theorem Chi_in (x : Int × Int) (f : Int) (p M H M2 r1 r2 p1 p2 J : Nat) (w : World) (hx : ShortQ x.1 x.2) (hp : p ≤ 12) (hr : rightB (0, 1) (100, 1) x p = true) (hat : x ≠ (0, 1)) (h : TailOk (p + 15) x f M H M2 r1 r2 p1 p2 J) (hc : CellOk (p + 15) p (pTail (p + 15) x f M H M2 r1 r2 p1 p2 J)) (ht : TabOf w) :
    Calls Tryz.prog 26 #[NV x, .int .i64 f, .int .i64 p] w (CellPost (p + 15) p (pTail (p + 15) x f M H M2 r1 r2 p1 p2 J) w) :=
  Chi_of x f p _ _ _ _ 0 w h.f1 h.f2 fun W R hb _ hf => cell_in 71 #[.pointer (some ⟨R, 0, none⟩)] _ _ (0, 1) (1, 1) x _ p W ent_chiB isQ_0 isQ_100 hx hp hr hat (fun W' hb' => chiB_in (p + 15) x f M H M2 r1 r2 p1 p2 J R W' h (Below.get hb' hf) ((ht.below hb).below hb')) hc (ht.below hb)

theorem ent_normal : ∀ args w, (callFunc 62 args).run Tryz.prog w = .ok (.enter 62 args) w := enters_of Tryz.func62 (by kernel_rfl) rfl
theorem Normal_in (x : Int × Int) (p M H M2 r1 r2 : Nat) (w : World) (hx : ShortQ x.1 x.2) (hp : p ≤ 12) (hl : cmpQ x.1 x.2 (-8) 1 > 0) (hh : cmpQ x.1 x.2 8 1 < 0) (hr : rightB (-((10 ^ 13 : Nat) : Int), 1) (((10 ^ 13 : Nat) : Int), 1) x p = true) (hat : x ≠ (0, 1))
    (h : NormOk (p + 15) x.1 x.2 M H M2 r1 r2) (hc : CellOk (p + 15) p (pNormal (p + 15) x.1 x.2 M H M2 r1 r2)) (ht : TabOf w) :
    Calls Tryz.prog 20 #[NV x, .int .i64 p] w (CellPost (p + 15) p (pNormal (p + 15) x.1 x.2 M H M2 r1 r2) w) :=
  Normal_of x p _ _ _ _ 0 w hx (by omega) (by omega) hl hh hr ht fun W hb => cell_in 62 #[] _ _ (0, 1) (1, 2) x _ p W ent_normal isQ_m13 isQ_13 hx hp hr hat (fun W' hb' => normal_in (p + 15) x.1 x.2 M H M2 r1 r2 W' h ((ht.below hb).below hb')) hc (ht.below hb)

theorem undAt_of {k : Nat} {x p : Int × Int} {M H M2 r1 r2 : Nat} (h : NormOk k x.1 x.2 M H M2 r1 r2) (ho : OfOk k p.1 p.2) (f1 : Fit (pNormal k x.1 x.2 M H M2 r1 r2)) (f2 : Fit (pOf k p.1 p.2)) : UndAt k x p (pNormal k x.1 x.2 M H M2 r1 r2) (pOf k p.1 p.2) :=
  ⟨fun W h' => normal_in k x.1 x.2 M H M2 r1 r2 W h h', fun W h' => ofP (w := W) ho h', f1, f2⟩

def ErrPost (w : World) : Ending → World → Prop := AnsPost ⟨#[]⟩ ⟨#[]⟩ ⟨#[]⟩ ⟨#[]⟩ 60 w
theorem Exp_err (x : Int × Int) (p : Int) (w : World) (hx : ShortQ x.1 x.2) (hp1 : -1000000000000000000 ≤ p) (hp2 : p ≤ 1000000000000000000) (hr : rightB (-20, 1) (20, 1) x p = false) (ht : TabOf w) :
    Calls Tryz.prog 13 #[NV x, .int .i64 p] w (ErrPost w) :=
  Exp_of x p _ _ _ _ 60 w fun W hb => cell_err (-20, 1) (20, 1) (0, 1) (1, 1) x _ p W ⟨_, _, _, .inl rfl⟩ isQ_m20 isQ_20 hx hp1 hp2 hr (ht.below hb)
theorem Log_err (x : Int × Int) (p : Int) (w : World) (hx : ShortQ x.1 x.2) (hp1 : -1000000000000000000 ≤ p) (hp2 : p ≤ 1000000000000000000) (hr : rightB (1, ((10 ^ 13 : Nat) : Int)) (((10 ^ 13 : Nat) : Int), 1) x p = false) (ht : TabOf w) :
    Calls Tryz.prog 16 #[NV x, .int .i64 p] w (ErrPost w) :=
  Log_of x p _ _ _ _ 60 w fun W R hb _ _ => cell_err _ _ (1, 1) (0, 1) x _ p W ⟨_, _, _, .inl rfl⟩ isQ_i13 isQ_13 hx hp1 hp2 hr (ht.below hb)
def AtPost (v : Int × Int) (p : Nat) (w : World) : Ending → World → Prop := IvPost (gnum false v.1 v.2 p) (gden false v.1 v.2 p) (gnum true v.1 v.2 p) (gden true v.1 v.2 p) w
theorem isQ_h : IsQ (1, 2) := ⟨by rw [big_eq]; decide +kernel, by rw [big_eq]; decide +kernel, by decide +kernel⟩
theorem short_0 : ShortQ 0 1 := ⟨isQ_0, by decide, by decide⟩
theorem short_1 : ShortQ 1 1 := ⟨isR_one, by decide, by decide⟩
theorem Normal_at (p : Nat) (w : World) (hp : p ≤ 12) (hr : rightB (-((10 ^ 13 : Nat) : Int), 1) (((10 ^ 13 : Nat) : Int), 1) (0, 1) p = true) (hrd : RndOk 1 2 1 2 p) (ht : TabOf w) :
    Calls Tryz.prog 20 #[NV (0, 1), .int .i64 p] w (AtPost (1, 2) p w) :=
  Normal_of (0, 1) p _ _ _ _ 0 w short_0 (by omega) (by omega) (by decide) (by decide) hr ht fun W hb => cell_at _ _ (0, 1) (1, 2) _ p W ⟨_, _, _, .inl rfl⟩ isQ_m13 isQ_13 short_0 hp isQ_h hr hrd (ht.below hb)
end Go.Proofs.YtppbhnhmaocdnaaGreatDoor
namespace Go.Proofs.YtppbhnhmaocdnaaGreatDoor
open Go.RowKit Go.Shelf

set_option maxRecDepth 100000 in
set_option maxHeartbeats 4000000 in
theorem lof_in (n d : Int) (w : World) (hof : ∀ W, TabOf W → Calls Tryz.prog 36 #[.int .i64 n, .int .i64 d] W (RatPost (rnum n d) (rden n d) W)) (ht : TabOf w) :
    Calls Tryz.prog 12 #[.int .i64 n, .int .i64 d] w fun e w' => e = .returned (RV (rnum n d) (rden n d)) ∧ Below w.heap.size w w' := by
  unfold RatPost RV at hof
  unfold RV
  generalize str (rnum n d) = q1 at *
  generalize str (rden n d) = q2 at *
  have HOF := Lib.hid hof
  clear hof
  have bn := belowNew w (.cells #[.string ⟨#[]⟩, .string ⟨#[]⟩] 25)
  have o0 := RC.new w 25 (.string ⟨#[]⟩) (.string ⟨#[]⟩)
  go_enter Tryz.func12, Tryz.ntmps12
  go_wp2_with (first
    | (go_at_call 36; refine (HOF.out _ (ht.below bn)).mono ?_; rintro e w1 ⟨rfl, hb1⟩; have b1 := bn.trans (hb1.mono bn.size); have bn1 := belowNew w1 (.cells #[.string q1, .string q2] 25); have o1 := (o0.below hb1).below bn1; have b2 := b1.trans (bn1.mono b1.size); have z0 := o1.c00; have z1 := o1.c01; have z2 := o1.f0; clear hb1 bn1 b1))
  have r5 := o1.put (.string q1) (.string q2)
  refine bodyPost_ret_by (v := .agg #[.string q1, .string q2]) (by simp [results, Tryz.f12, go_sem, r5.c00, r5.c01]) rfl ⟨rfl, below_put2 b2 _ _ (Nat.le_refl _)⟩

set_option maxRecDepth 100000 in
set_option maxHeartbeats 4000000 in
theorem lten_in (p : Nat) (w : World) (hp : p ≤ 18) :
    Calls Tryz.prog 61 #[.int .i64 p] w fun e w' => e = .returned (.int .i64 ((10 ^ p : Nat) : Int)) ∧ Below w.heap.size w w' := by
  have f0 : ((10 ^ 0 : Nat) : Int) = 1 := rfl
  have fs : ∀ m : Nat, ((10 ^ (m + 1) : Nat) : Int) = 10 * ((10 ^ m : Nat) : Int) := fun m => by rw [Nat.pow_succ]; omega
  have fb : ∀ m : Nat, m < p → (0 : Int) ≤ ((10 ^ m : Nat) : Int) ∧ ((10 ^ m : Nat) : Int) ≤ 100000000000000000 := fun m hm => by
    have h17 : (10 ^ m : Nat) ≤ 10 ^ 17 := Nat.pow_le_pow_right (by omega) (by omega)
    rw [show (10 ^ 17 : Nat) = 100000000000000000 from by decide] at h17
    generalize (10 ^ m : Nat) = t at *
    omega
  obtain ⟨f, hf⟩ : ∃ f : Nat → Int, ∀ m : Nat, ((10 ^ m : Nat) : Int) = f m := ⟨fun m => ((10 ^ m : Nat) : Int), fun _ => rfl⟩
  rw [hf p]
  rw [hf 0] at f0
  simp only [hf] at fs fb
  clear hf
  replace f0 := Lib.hid f0
  replace fs := Lib.hid fs
  replace fb := Lib.hid fb
  go_enter Tryz.func61, Tryz.ntmps61
  go_wp2
  go_loopw [3, 4] (fun a i W => ∃ m : Nat, m ≤ p ∧ a = .int .i64 (f m) ∧ i = .int .i64 m ∧ W = w) (fun _ i _ => p - (intOf i).toNat)
  case atStart => exact ⟨0, Nat.zero_le _, by rw [f0.out], rfl, rfl⟩
  case round =>
    obtain ⟨m, hm, rfl, rfl, rfl⟩ := hrel
    rcases Nat.lt_or_ge m p with hlt | hge
    · have hc : decide ((m : Int) < (p : Int)) = true := decide_eq_true (by omega)
      have hfb := fb.out m hlt
      have hw1 : IntKind.i64.wrap (10 * f m) = f (m + 1) := by rw [fs.out m]; exact IntWalk.i64_in _ (by omega)
      have hw2 : IntKind.i64.wrap ((m : Int) + 1) = (m : Int) + 1 := IntWalk.i64_in _ (by omega)
      clear hfb f0 fs fb
      go_wp2
      go_roundw
      case rel => exact ⟨m + 1, hlt, rfl, by push_cast; rfl, trivial⟩
      case measure => simp [intOf]; omega
    · obtain rfl : m = p := by omega
      have hc : decide ((m : Int) < (m : Int)) = false := decide_eq_false (by omega)
      go_wp2
      refine bodyPost_ret_by (v := .int .i64 (f m)) (by simp [results, Tryz.f61, go_sem]) rfl ⟨rfl, Below.refl _ _⟩
end Go.Proofs.YtppbhnhmaocdnaaGreatDoor
namespace Go.Proofs.YtppbhnhmaocdnaaGreatDoor
open Go.RowKit Go.Shelf

def pickN (c n : Int) : Int := (if c < 0 then -(c + 1) else c) % n
set_option maxRecDepth 100000 in
set_option maxHeartbeats 4000000 in
theorem lpick_in (c n : Int) (w : World) (h1 : -9223372036854775808 ≤ c) (h2 : c ≤ 9223372036854775807) (hn : 0 < n) (hn2 : n ≤ 1000000) :
    Calls Tryz.prog 14 #[.int .i64 c, .int .i64 n] w fun e w' => e = .returned (.int .i64 (pickN c n)) ∧ Below w.heap.size w w' := by
  unfold pickN
  have hn0 : ¬ n = 0 := by omega
  have hn1 : (n == 0) = false := by simpa using hn0
  by_cases hc : c < 0
  · have d1 : decide (c < 0) = true := decide_eq_true hc
    have hw1 : IntKind.i64.wrap (c + 1) = c + 1 := IntWalk.i64_in _ (by omega)
    have hw2 : IntKind.i64.wrap (-(c + 1)) = -(c + 1) := IntWalk.i64_in _ (by omega)
    rw [if_pos hc]
    have ht : -((c + 1).tmod n) = -(c + 1) % n := by rw [← Int.neg_tmod]; exact Int.tmod_eq_emod_of_nonneg (by omega)
    rw [← ht]
    clear hc ht
    generalize hR : (c + 1).tmod n = r
    replace hR := Lib.hid hR
    go_enter Tryz.func14, Tryz.ntmps14
    go_wp2
    refine bodyPost_ret_by (v := .int .i64 (-r)) (by simp [results, Tryz.f14, go_sem, hR.out]) rfl ⟨rfl, Below.refl _ _⟩
  · have d1 : decide (c < 0) = false := decide_eq_false hc
    rw [if_neg hc]
    have ht : c.tmod n = c % n := Int.tmod_eq_emod_of_nonneg (by omega)
    rw [← ht]
    clear hc ht
    generalize hR : c.tmod n = r
    replace hR := Lib.hid hR
    go_enter Tryz.func14, Tryz.ntmps14
    go_wp2
    refine bodyPost_ret_by (v := .int .i64 r) (by simp [results, Tryz.f14, go_sem, hR.out]) rfl ⟨rfl, Below.refl _ _⟩
end Go.Proofs.YtppbhnhmaocdnaaGreatDoor
namespace Go.Proofs.YtppbhnhmaocdnaaGreatDoor
open Go.RowKit Go.Shelf

set_option maxRecDepth 100000 in
set_option maxHeartbeats 4000000 in
theorem lcell_in (n : Int) (p : Nat) (w : World) (hp : p ≤ 18) (hn : n.natAbs ≤ 100000000000000000) (ht : TabOf w) :
    Calls Tryz.prog 33 #[IV (rnum n ((10 ^ p : Nat) : Int)) (rden n ((10 ^ p : Nat) : Int)) (rnum (n + 1) ((10 ^ p : Nat) : Int)) (rden (n + 1) ((10 ^ p : Nat) : Int)), .int .i64 n, .int .i64 p] w fun e w' => e = .returned (.bool true) ∧ Below w.heap.size w w' := by
  have HT := fun W => lten_in p W hp
  have htb : ((10 ^ p : Nat) : Int).natAbs ≤ 1000000000000000000 := by
    rw [Int.natAbs_natCast]; exact Nat.le_trans (Nat.pow_le_pow_right (by omega) hp) (by decide)
  have HO1 := fun W h' => lof_in n ((10 ^ p : Nat) : Int) W (fun W h'' => of_in n _ W (by omega) htb (ten_ne p) h'') h'
  have HO2 := fun W h' => lof_in (n + 1) ((10 ^ p : Nat) : Int) W (fun W h'' => of_in (n + 1) _ W (by omega) htb (ten_ne p) h'') h'
  have hw1 : IntKind.i64.wrap (n + 1) = n + 1 := IntWalk.i64_in _ (by omega)
  unfold IV
  unfold RV at HO1 HO2
  clear htb hp hn
  generalize ((10 ^ p : Nat) : Int) = tt at *
  generalize str (rnum n tt) = a at *
  generalize str (rden n tt) = b at *
  generalize str (rnum (n + 1) tt) = c at *
  generalize str (rden (n + 1) tt) = d at *
  replace HT := Lib.hid HT
  replace HO1 := Lib.hid HO1
  replace HO2 := Lib.hid HO2
  have bn := belowNew w (.cells #[.string a, .string b, .string c, .string d] 32)
  have k0 := R4.new w 32 (.string a) (.string b) (.string c) (.string d)
  generalize hW : w.alloc (.cells #[.string a, .string b, .string c, .string d] 32) = W0 at *
  have bd := bn.drew
  have j0 := k0.below (Below.refl _ W0).drew
  rw [← hW] at bd j0
  clear k0 bn hW W0
  go_enter Tryz.func33, Tryz.ntmps33
  go_wp2
  go_region_held3 (fun W => W.cell? ⟨w.heap.size, 0, none⟩ = some (.string a) ∧ W.cell? ⟨w.heap.size, 1, none⟩ = some (.string b) ∧ W.cell? ⟨w.heap.size, 2, none⟩ = some (.string c) ∧ W.cell? ⟨w.heap.size, 3, none⟩ = some (.string d))
    (first
      | with_reducible exact ⟨j0.c0, j0.c1, j0.c2, j0.c3⟩
      | with_reducible exact ⟨j1.c0, j1.c1, j1.c2, j1.c3⟩
      | with_reducible exact ⟨j2.c0, j2.c1, j2.c2, j2.c3⟩
      | with_reducible exact ⟨j3.c0, j3.c1, j3.c2, j3.c3⟩
      | with_reducible exact ⟨j4.c0, j4.c1, j4.c2, j4.c3⟩) (first
    | (have hchk := j0; clear hchk; go_at_call 61; refine (HT.out (World.drew _)).mono ?_; rintro e w1 ⟨rfl, hb1⟩; have j1 := j0.below hb1; have b1 := bd.trans (hb1.mono bd.size); clear hb1 j0 bd)
    | (have hchk := j1; clear hchk; go_at_call 12; refine (HO1.out _ (ht.below b1)).mono ?_; rintro e w2 ⟨rfl, hb2⟩; have j2 := j1.below hb2; have b2 := b1.trans (hb2.mono b1.size); clear hb2 j1 b1)
    | (have hchk := j2; clear hchk; go_at_call 61; refine (HT.out _).mono ?_; rintro e w3 ⟨rfl, hb3⟩; have j3 := j2.below hb3; have b3 := b2.trans (hb3.mono b2.size); clear hb3 j2 b2)
    | (have hchk := j3; clear hchk; go_at_call 12; refine (HO2.out _ (ht.below b3)).mono ?_; rintro e w4 ⟨rfl, hb4⟩; have j4 := j3.below hb4; have b4 := b3.trans (hb4.mono b3.size); clear hb4 j3 b3))
  all_goals
    go_wp2
    refine bodyPost_ret_by (v := .bool true) (by simp [results, Tryz.f33, go_sem]) rfl ⟨rfl, b4⟩
end Go.Proofs.YtppbhnhmaocdnaaGreatDoor
namespace Go.Proofs.YtppbhnhmaocdnaaGreatDoor
open Go.RowKit Go.Shelf

def smD (c1 : Int) : Int := 1 + pickN c1 50
def smN (c0 c1 most : Int) : Int := pickN c0 (2 * most * smD c1 + 1) - most * smD c1
theorem pickN_lo {c n : Int} (hn : 0 < n) : 0 ≤ pickN c n ∧ pickN c n < n := ⟨Int.emod_nonneg _ (by omega), Int.emod_lt_of_pos _ hn⟩

set_option maxRecDepth 100000 in
set_option maxHeartbeats 4000000 in
theorem lsmall_in (c0 c1 : Int) (m : Nat) (w : World) (h1 : -9223372036854775808 ≤ c0) (h2 : c0 ≤ 9223372036854775807) (h3 : -9223372036854775808 ≤ c1) (h4 : c1 ≤ 9223372036854775807) (hm : m ≤ 100) (ht : TabOf w) :
    Calls Tryz.prog 10 #[.agg #[.int .i64 c0, .int .i64 c1], .int .i64 m] w fun e w' => e = .returned (RV (rnum (smN c0 c1 m) (smD c1)) (rden (smN c0 c1 m) (smD c1))) ∧ Below w.heap.size w w' := by
  have hd := pickN_lo (c := c1) (n := 50) (by omega)
  have HP1 := fun W => lpick_in c1 50 W h3 h4 (by omega) (by omega)
  have hD : 1 ≤ smD c1 ∧ smD c1 ≤ 50 := by unfold smD; omega
  have hw1 : IntKind.i64.wrap (1 + pickN c1 50) = smD c1 := by unfold smD; exact IntWalk.i64_in _ (by omega)
  have hmd : 0 ≤ (m : Int) * smD c1 ∧ (m : Int) * smD c1 ≤ 5000 := ⟨Int.mul_nonneg (by omega) (by omega), by
    have := Int.mul_le_mul (show (m : Int) ≤ 100 by omega) hD.2 (by omega) (by omega); omega⟩
  have hq : 2 * (m : Int) * smD c1 = 2 * ((m : Int) * smD c1) := Int.mul_assoc _ _ _
  have hp0 := pickN_lo (c := c0) (n := 2 * m * smD c1 + 1) (by omega)
  have HP0 := fun W => lpick_in c0 (2 * m * smD c1 + 1) W h1 h2 (by omega) (by omega)
  have HOF := fun W h' => lof_in (smN c0 c1 m) (smD c1) W (fun W h'' => of_in _ _ W (by unfold smN; omega) (by omega) (by omega) h'') h'
  have hw2 : IntKind.i64.wrap (2 * (m : Int)) = 2 * m := IntWalk.i64_in _ (by omega)
  have hw3 : IntKind.i64.wrap (2 * (m : Int) * smD c1) = 2 * m * smD c1 := IntWalk.i64_in _ (by omega)
  have hw4 : IntKind.i64.wrap (2 * (m : Int) * smD c1 + 1) = 2 * m * smD c1 + 1 := IntWalk.i64_in _ (by omega)
  have hw5 : IntKind.i64.wrap ((m : Int) * smD c1) = m * smD c1 := IntWalk.i64_in _ (by omega)
  have hw6 : IntKind.i64.wrap (pickN c0 (2 * m * smD c1 + 1) - m * smD c1) = smN c0 c1 m := by unfold smN; exact IntWalk.i64_in _ (by omega)
  unfold RV at HOF
  unfold RV
  clear hd hD hmd hq hp0 h1 h2 h3 h4 hm
  generalize str (rnum (smN c0 c1 m) (smD c1)) = q1 at *
  generalize str (rden (smN c0 c1 m) (smD c1)) = q2 at *
  generalize smN c0 c1 m = sn at *
  generalize pickN c0 (2 * m * smD c1 + 1) = p0 at *
  generalize pickN c1 50 = p1 at *
  generalize smD c1 = sd at *
  replace HP1 := Lib.hid HP1
  replace HP0 := Lib.hid HP0
  replace HOF := Lib.hid HOF
  have bn := belowNew w (.cells #[.int .i64 c0, .int .i64 c1] 22)
  have bn2 := belowNew (w.alloc (.cells #[.int .i64 c0, .int .i64 c1] 22)) (.cells #[.string ⟨#[]⟩, .string ⟨#[]⟩] 25)
  have x0 := (RC.new w 22 (.int .i64 c0) (.int .i64 c1)).below bn2
  have o0 := RC.new (w.alloc (.cells #[.int .i64 c0, .int .i64 c1] 22)) 25 (.string ⟨#[]⟩) (.string ⟨#[]⟩)
  rw [sizeNew] at o0
  have b0 := bn.trans (bn2.mono bn.size)
  have y0 := x0.c00
  have y1 := x0.c01
  clear bn bn2
  go_enter Tryz.func10, Tryz.ntmps10
  go_wp2_with (first
    | (have hchk := b0; clear hchk; go_at_call 14; refine (HP1.out _).mono ?_; rintro e w1 ⟨rfl, hb1⟩; have b1 := b0.trans (hb1.mono b0.size); have x1 := x0.below hb1; have o1 := o0.below hb1; clear hb1 b0 x0 o0 y0 y1; have y0 := x1.c00; have y1 := x1.c01)
    | (have hchk := b1; clear hchk; go_at_call 14; refine (HP0.out _).mono ?_; rintro e w2 ⟨rfl, hb2⟩; have b2 := b1.trans (hb2.mono b1.size); have o2 := o1.below hb2; clear hb2 b1 x1 o1 y0 y1)
    | (go_at_call 12; refine (HOF.out _ (ht.below b2)).mono ?_; rintro e w3 ⟨rfl, hb3⟩; have b3 := b2.trans (hb3.mono b2.size); have o3 := o2.below hb3; have z0 := o3.c00; have z1 := o3.c01; have z2 := o3.f0))
  have r5 := o3.put (.string q1) (.string q2)
  refine bodyPost_ret_by (v := .agg #[.string q1, .string q2]) (by simp [results, Tryz.f10, go_sem, r5.c00, r5.c01]) rfl ⟨rfl, below_put2 b3 _ _ (by omega)⟩
end Go.Proofs.YtppbhnhmaocdnaaGreatDoor
namespace Go.Proofs.YtppbhnhmaocdnaaGreatDoor
open Go.RowKit Go.Shelf

end Go.Proofs.YtppbhnhmaocdnaaGreatDoor
namespace Go.Proofs.YtppbhnhmaocdnaaGreatDoor
open Go.RowKit Go.Shelf

structure Bx (w : World) (l : List (Nat × ByteArray × ByteArray × ByteArray × ByteArray)) (W : World) : Prop where
  b : Below w.heap.size w W
  k : ∀ x, x ∈ l → R4 x.1 W (.string x.2.1) (.string x.2.2.1) (.string x.2.2.2.1) (.string x.2.2.2.2)
theorem Bx.below {w : World} {l : List (Nat × ByteArray × ByteArray × ByteArray × ByteArray)} {W W' : World} (h : Bx w l W) (hb : Below W.heap.size W W') : Bx w l W' :=
  ⟨h.b.trans (hb.mono h.b.size), fun x hx => (h.k x hx).below hb⟩
theorem Bx.drew {w : World} {l : List (Nat × ByteArray × ByteArray × ByteArray × ByteArray)} {W : World} (h : Bx w l W) : Bx w l W.drew := h.below (Below.refl _ W).drew
theorem Bx.push {w : World} {l : List (Nat × ByteArray × ByteArray × ByteArray × ByteArray)} {W : World} (h : Bx w l W) (T : TypeId) (a b c d : ByteArray) :
    Bx w (l ++ [(W.heap.size, a, b, c, d)]) (W.alloc (.cells #[.string a, .string b, .string c, .string d] T)) := by
  have bn := belowNew W (.cells #[.string a, .string b, .string c, .string d] T)
  refine ⟨(h.below bn).b, fun x hx => ?_⟩
  rw [List.mem_append] at hx
  rcases hx with hx | hx
  · exact (h.below bn).k x hx
  · rw [List.mem_singleton] at hx
    subst hx
    exact R4.new W T _ _ _ _
def OfPost (s t : ByteArray) (w : World) (e : Ending) (w' : World) : Prop := e = .returned (.agg #[.string s, .string t]) ∧ Below w.heap.size w w'
def TruePost (w : World) (e : Ending) (w' : World) : Prop := e = .returned (.bool true) ∧ Below w.heap.size w w'

set_option maxRecDepth 100000 in
set_option maxHeartbeats 20000000 in
theorem lsane_raw (w : World) (ht : TabOf w) (s0 s1 s2 m3 s39 s40 a1 a2 a3 a4 b1 b2 b3 b4 c1 c2 c3 c4 d1 d2 d3 d4 k1 k2 k3 k4 z1 z2 z3 z4 y1 y2 y3 y4 : ByteArray)
    (ho11 : ∀ W, TabOf W → Calls Tryz.prog 12 #[.int .i64 1, .int .i64 1] W (OfPost s1 s1 W))
    (ho12 : ∀ W, TabOf W → Calls Tryz.prog 12 #[.int .i64 1, .int .i64 2] W (OfPost s1 s2 W))
    (ho31 : ∀ W, TabOf W → Calls Tryz.prog 12 #[.int .i64 (-3), .int .i64 1] W (OfPost m3 s1 W))
    (ho39 : ∀ W, TabOf W → Calls Tryz.prog 12 #[.int .i64 39, .int .i64 40] W (OfPost s39 s40 W))
    (ho01 : ∀ W, TabOf W → Calls Tryz.prog 12 #[.int .i64 0, .int .i64 1] W (OfPost s0 s1 W))
    (hE : ∀ W, TabOf W → Calls Tryz.prog 13 #[.agg #[.string s1, .string s1], .int .i64 3] W (AnsPost a1 a2 a3 a4 0 W))
    (hL : ∀ W, TabOf W → Calls Tryz.prog 16 #[.agg #[.string s1, .string s2], .int .i64 6] W (AnsPost b1 b2 b3 b4 0 W))
    (hN : ∀ W, TabOf W → Calls Tryz.prog 20 #[.agg #[.string m3, .string s1], .int .i64 6] W (AnsPost c1 c2 c3 c4 0 W))
    (hC : ∀ W, TabOf W → Calls Tryz.prog 26 #[.agg #[.string s1, .string s1], .int .i64 1, .int .i64 6] W (AnsPost d1 d2 d3 d4 0 W))
    (hQ : ∀ W, TabOf W → Calls Tryz.prog 18 #[.agg #[.string s39, .string s40], .int .i64 3] W (AnsPost k1 k2 k3 k4 0 W))
    (hZ : ∀ W, TabOf W → Calls Tryz.prog 20 #[.agg #[.string s0, .string s1], .int .i64 2] W (AnsPost s1 s2 s1 s2 0 W))
    (hX : ∀ W, TabOf W → Calls Tryz.prog 16 #[.agg #[.string s0, .string s1], .int .i64 6] W (AnsPost z1 z2 z3 z4 60 W))
    (hY : ∀ W, TabOf W → Calls Tryz.prog 13 #[.agg #[.string s1, .string s1], .int .i64 13] W (AnsPost y1 y2 y3 y4 60 W))
    (cE : ∀ W, TabOf W → Calls Tryz.prog 33 #[.agg #[.string a1, .string a2, .string a3, .string a4], .int .i64 2718, .int .i64 3] W (TruePost W))
    (cL : ∀ W, TabOf W → Calls Tryz.prog 33 #[.agg #[.string b1, .string b2, .string b3, .string b4], .int .i64 (-693148), .int .i64 6] W (TruePost W))
    (cN : ∀ W, TabOf W → Calls Tryz.prog 33 #[.agg #[.string c1, .string c2, .string c3, .string c4], .int .i64 1349, .int .i64 6] W (TruePost W))
    (cC : ∀ W, TabOf W → Calls Tryz.prog 33 #[.agg #[.string d1, .string d2, .string d3, .string d4], .int .i64 317310, .int .i64 6] W (TruePost W))
    (cQ : ∀ W, TabOf W → Calls Tryz.prog 33 #[.agg #[.string k1, .string k2, .string k3, .string k4], .int .i64 1959, .int .i64 3] W (TruePost W)) :
    Calls Tryz.prog 9 #[] w (TruePost w) := by
  unfold OfPost at ho11 ho12 ho31 ho39 ho01
  unfold AnsPost at hE hL hN hC hQ hZ hX hY
  unfold TruePost at cE cL cN cC cQ
  unfold TruePost
  have HO11 := Lib.hid ho11; clear ho11
  have HO12 := Lib.hid ho12; clear ho12
  have HO31 := Lib.hid ho31; clear ho31
  have HO39 := Lib.hid ho39; clear ho39
  have HO01 := Lib.hid ho01; clear ho01
  replace hE := Lib.hid hE
  replace hL := Lib.hid hL
  replace hN := Lib.hid hN
  replace hC := Lib.hid hC
  replace hQ := Lib.hid hQ
  replace hZ := Lib.hid hZ
  replace hX := Lib.hid hX
  replace hY := Lib.hid hY
  replace cE := Lib.hid cE
  replace cL := Lib.hid cL
  replace cN := Lib.hid cN
  replace cC := Lib.hid cC
  replace cQ := Lib.hid cQ
  have x0 : Bx w [] w := ⟨Below.refl _ _, fun x hx => absurd hx List.not_mem_nil⟩
  go_enter Tryz.func9, Tryz.ntmps9
  go_wp2_with (first
    | (have hchk := x0; clear hchk; go_at_call 12; refine (HO11.out _ (ht.below x0.b)).mono ?_; rintro e w1 ⟨rfl, hb1⟩; have x1 := x0.below hb1; clear hb1 x0)
    | (have hchk := x1; clear hchk; go_at_call 13; refine (hE.out _ (ht.below x1.b)).mono ?_; rintro e w2 ⟨rfl, hb2⟩; have x2 := (x1.below hb2).push 32 a1 a2 a3 a4; clear hb2 x1)
    | (have hchk := x2; clear hchk; go_at_call 12; refine (HO12.out _ (ht.below x2.b)).mono ?_; rintro e w3 ⟨rfl, hb3⟩; have x3 := x2.below hb3; clear hb3 x2)
    | (have hchk := x3; clear hchk; go_at_call 16; refine (hL.out _ (ht.below x3.b)).mono ?_; rintro e w4 ⟨rfl, hb4⟩; have x4 := (x3.below hb4).push 32 b1 b2 b3 b4; clear hb4 x3)
    | (have hchk := x4; clear hchk; go_at_call 12; refine (HO31.out _ (ht.below x4.b)).mono ?_; rintro e w5 ⟨rfl, hb5⟩; have x5 := x4.below hb5; clear hb5 x4)
    | (have hchk := x5; clear hchk; go_at_call 20; refine (hN.out _ (ht.below x5.b)).mono ?_; rintro e w6 ⟨rfl, hb6⟩; have x6 := (x5.below hb6).push 32 c1 c2 c3 c4; clear hb6 x5)
    | (have hchk := x6; clear hchk; go_at_call 12; refine (HO11.out _ (ht.below x6.b)).mono ?_; rintro e w7 ⟨rfl, hb7⟩; have x7 := x6.below hb7; clear hb7 x6)
    | (have hchk := x7; clear hchk; go_at_call 26; refine (hC.out _ (ht.below x7.b)).mono ?_; rintro e w8 ⟨rfl, hb8⟩; have x8 := (x7.below hb8).push 32 d1 d2 d3 d4; clear hb8 x7)
    | (have hchk := x8; clear hchk; go_at_call 12; refine (HO39.out _ (ht.below x8.b)).mono ?_; rintro e w9 ⟨rfl, hb9⟩; have x9 := x8.below hb9; clear hb9 x8)
    | (have hchk := x9; clear hchk; go_at_call 18; refine (hQ.out _ (ht.below x9.b)).mono ?_; rintro e w10 ⟨rfl, hb10⟩; have x10 := (x9.below hb10).push 32 k1 k2 k3 k4; clear hb10 x9)
    | (have hchk := x10; clear hchk; go_at_call 12; refine (HO01.out _ (ht.below x10.b)).mono ?_; rintro e w11 ⟨rfl, hb11⟩; have x11 := x10.below hb11; clear hb11 x10)
    | (have hchk := x11; clear hchk; go_at_call 20; refine (hZ.out _ (ht.below x11.b)).mono ?_; rintro e w12 ⟨rfl, hb12⟩; have x12 := (x11.below hb12).push 32 s1 s2 s1 s2; clear hb12 x11)
    | (have hchk := x12; clear hchk; go_at_call 12; refine (HO01.out _ (ht.below x12.b)).mono ?_; rintro e w13 ⟨rfl, hb13⟩; have x13 := x12.below hb13; clear hb13 x12)
    | (have hchk := x13; clear hchk; go_at_call 16; refine (hX.out _ (ht.below x13.b)).mono ?_; rintro e w14 ⟨rfl, hb14⟩; have x14 := (x13.below hb14).push 32 z1 z2 z3 z4; clear hb14 x13)
    | (have hchk := x14; clear hchk; go_at_call 12; refine (HO11.out _ (ht.below x14.b)).mono ?_; rintro e w15 ⟨rfl, hb15⟩; have x15 := x14.below hb15; clear hb15 x14)
    | (have hchk := x15; clear hchk; go_at_call 13; refine (hY.out _ (ht.below x15.b)).mono ?_; rintro e w16 ⟨rfl, hb16⟩; have x16 := (x15.below hb16).push 32 y1 y2 y3 y4; clear hb16 x15))
  generalize hW0 : w16.alloc (.cells #[.string y1, .string y2, .string y3, .string y4] 32) = W0 at *
  clear hW0
  have hS : ∀ W, Bx w ([] ++ [(w2.heap.size, a1, a2, a3, a4)] ++ [(w4.heap.size, b1, b2, b3, b4)] ++ [(w6.heap.size, c1, c2, c3, c4)] ++ [(w8.heap.size, d1, d2, d3, d4)] ++ [(w10.heap.size, k1, k2, k3, k4)] ++ [(w12.heap.size, s1, s2, s1, s2)] ++ [(w14.heap.size, z1, z2, z3, z4)] ++ [(w16.heap.size, y1, y2, y3, y4)]) W → W.cell? ⟨w2.heap.size, 0, none⟩ = some (.string a1) ∧ W.cell? ⟨w2.heap.size, 1, none⟩ = some (.string a2) ∧ W.cell? ⟨w2.heap.size, 2, none⟩ = some (.string a3) ∧ W.cell? ⟨w2.heap.size, 3, none⟩ = some (.string a4) ∧ W.cell? ⟨w4.heap.size, 0, none⟩ = some (.string b1) ∧ W.cell? ⟨w4.heap.size, 1, none⟩ = some (.string b2) ∧ W.cell? ⟨w4.heap.size, 2, none⟩ = some (.string b3) ∧ W.cell? ⟨w4.heap.size, 3, none⟩ = some (.string b4) ∧ W.cell? ⟨w6.heap.size, 0, none⟩ = some (.string c1) ∧ W.cell? ⟨w6.heap.size, 1, none⟩ = some (.string c2) ∧ W.cell? ⟨w6.heap.size, 2, none⟩ = some (.string c3) ∧ W.cell? ⟨w6.heap.size, 3, none⟩ = some (.string c4) ∧ W.cell? ⟨w8.heap.size, 0, none⟩ = some (.string d1) ∧ W.cell? ⟨w8.heap.size, 1, none⟩ = some (.string d2) ∧ W.cell? ⟨w8.heap.size, 2, none⟩ = some (.string d3) ∧ W.cell? ⟨w8.heap.size, 3, none⟩ = some (.string d4) ∧ W.cell? ⟨w10.heap.size, 0, none⟩ = some (.string k1) ∧ W.cell? ⟨w10.heap.size, 1, none⟩ = some (.string k2) ∧ W.cell? ⟨w10.heap.size, 2, none⟩ = some (.string k3) ∧ W.cell? ⟨w10.heap.size, 3, none⟩ = some (.string k4) ∧ W.cell? ⟨w12.heap.size, 0, none⟩ = some (.string s1) ∧ W.cell? ⟨w12.heap.size, 1, none⟩ = some (.string s2) ∧ W.cell? ⟨w12.heap.size, 2, none⟩ = some (.string s1) ∧ W.cell? ⟨w12.heap.size, 3, none⟩ = some (.string s2) := fun W h => by
    have m1 := h.k (w2.heap.size, a1, a2, a3, a4) (by simp)
    have m2 := h.k (w4.heap.size, b1, b2, b3, b4) (by simp)
    have m3 := h.k (w6.heap.size, c1, c2, c3, c4) (by simp)
    have m4 := h.k (w8.heap.size, d1, d2, d3, d4) (by simp)
    have m5 := h.k (w10.heap.size, k1, k2, k3, k4) (by simp)
    have m6 := h.k (w12.heap.size, s1, s2, s1, s2) (by simp)
    exact ⟨m1.c0, m1.c1, m1.c2, m1.c3, m2.c0, m2.c1, m2.c2, m2.c3, m3.c0, m3.c1, m3.c2, m3.c3, m4.c0, m4.c1, m4.c2, m4.c3, m5.c0, m5.c1, m5.c2, m5.c3, m6.c0, m6.c1, m6.c2, m6.c3⟩
  generalize ([] ++ [(w2.heap.size, a1, a2, a3, a4)] ++ [(w4.heap.size, b1, b2, b3, b4)] ++ [(w6.heap.size, c1, c2, c3, c4)] ++ [(w8.heap.size, d1, d2, d3, d4)] ++ [(w10.heap.size, k1, k2, k3, k4)] ++ [(w12.heap.size, s1, s2, s1, s2)] ++ [(w14.heap.size, z1, z2, z3, z4)] ++ [(w16.heap.size, y1, y2, y3, y4)]) = l at *
  replace hS := Lib.hid hS
  have q0 := x16.drew
  clear x16 HO31 HO39 HO01 HO11 hE hL hN hC hQ hZ hX hY
  go_region_held3 (fun W => W.cell? ⟨w2.heap.size, 0, none⟩ = some (.string a1) ∧ W.cell? ⟨w2.heap.size, 1, none⟩ = some (.string a2) ∧ W.cell? ⟨w2.heap.size, 2, none⟩ = some (.string a3) ∧ W.cell? ⟨w2.heap.size, 3, none⟩ = some (.string a4) ∧ W.cell? ⟨w4.heap.size, 0, none⟩ = some (.string b1) ∧ W.cell? ⟨w4.heap.size, 1, none⟩ = some (.string b2) ∧ W.cell? ⟨w4.heap.size, 2, none⟩ = some (.string b3) ∧ W.cell? ⟨w4.heap.size, 3, none⟩ = some (.string b4) ∧ W.cell? ⟨w6.heap.size, 0, none⟩ = some (.string c1) ∧ W.cell? ⟨w6.heap.size, 1, none⟩ = some (.string c2) ∧ W.cell? ⟨w6.heap.size, 2, none⟩ = some (.string c3) ∧ W.cell? ⟨w6.heap.size, 3, none⟩ = some (.string c4) ∧ W.cell? ⟨w8.heap.size, 0, none⟩ = some (.string d1) ∧ W.cell? ⟨w8.heap.size, 1, none⟩ = some (.string d2) ∧ W.cell? ⟨w8.heap.size, 2, none⟩ = some (.string d3) ∧ W.cell? ⟨w8.heap.size, 3, none⟩ = some (.string d4) ∧ W.cell? ⟨w10.heap.size, 0, none⟩ = some (.string k1) ∧ W.cell? ⟨w10.heap.size, 1, none⟩ = some (.string k2) ∧ W.cell? ⟨w10.heap.size, 2, none⟩ = some (.string k3) ∧ W.cell? ⟨w10.heap.size, 3, none⟩ = some (.string k4) ∧ W.cell? ⟨w12.heap.size, 0, none⟩ = some (.string s1) ∧ W.cell? ⟨w12.heap.size, 1, none⟩ = some (.string s2) ∧ W.cell? ⟨w12.heap.size, 2, none⟩ = some (.string s1) ∧ W.cell? ⟨w12.heap.size, 3, none⟩ = some (.string s2))
    (first
      | with_reducible exact hS.out _ q0
      | with_reducible exact hS.out _ q1
      | with_reducible exact hS.out _ q2
      | with_reducible exact hS.out _ q3
      | with_reducible exact hS.out _ q4
      | with_reducible exact hS.out _ q5
      | with_reducible exact hS.out _ q6
      | with_reducible exact hS.out _ q7) (first
    | (have hchk := q0; clear hchk; go_at_call 33; refine (cE.out (World.drew _) (ht.below q0.b)).mono ?_; rintro e v1 ⟨rfl, hb1⟩; have q1 := q0.below hb1; clear hb1 q0)
    | (have hchk := q1; clear hchk; go_at_call 33; refine (cL.out _ (ht.below q1.b)).mono ?_; rintro e v2 ⟨rfl, hb2⟩; have q2 := q1.below hb2; clear hb2 q1)
    | (have hchk := q2; clear hchk; go_at_call 33; refine (cN.out _ (ht.below q2.b)).mono ?_; rintro e v3 ⟨rfl, hb3⟩; have q3 := q2.below hb3; clear hb3 q2)
    | (have hchk := q3; clear hchk; go_at_call 33; refine (cC.out _ (ht.below q3.b)).mono ?_; rintro e v4 ⟨rfl, hb4⟩; have q4 := q3.below hb4; clear hb4 q3)
    | (have hchk := q4; clear hchk; go_at_call 33; refine (cQ.out _ (ht.below q4.b)).mono ?_; rintro e v5 ⟨rfl, hb5⟩; have q5 := q4.below hb5; clear hb5 q4)
    | (have hchk := q5; clear hchk; go_at_call 12; refine (HO12.out _ (ht.below q5.b)).mono ?_; rintro e v6 ⟨rfl, hb6⟩; have q6 := q5.below hb6; clear hb6 q5)
    | (have hchk := q6; clear hchk; go_at_call 12; refine (HO12.out _ (ht.below q6.b)).mono ?_; rintro e v7 ⟨rfl, hb7⟩; have q7 := q6.below hb7; clear hb7 q6))
  all_goals
    go_wp2
    refine bodyPost_ret_by (v := .bool true) (by simp [results, Tryz.f9, go_sem]) rfl ⟨rfl, q7.b⟩
end Go.Proofs.YtppbhnhmaocdnaaGreatDoor
namespace Go.Proofs.YtppbhnhmaocdnaaGreatDoor

def ip (a : Nat × Nat) : Int × Int := ((a.1 : Int), (a.2 : Int))
def cdN (a b : Nat) : Nat := (a + (b - 1)) / b
theorem cdN_le {a b c : Nat} (hb : 0 < b) : cdN a b ≤ c ↔ a ≤ c * b := by
  unfold cdN
  rw [← Nat.lt_succ_iff, Nat.div_lt_iff_lt_mul hb, Nat.succ_mul]
  omega
theorem cdN_mono {a a' : Nat} (b : Nat) (h : a ≤ a') : cdN a b ≤ cdN a' b := Nat.div_le_div_right (by omega)
theorem div_le_cdN {a a' : Nat} (b : Nat) (h : a ≤ a') : a / b ≤ cdN a' b := Nat.div_le_div_right (by omega)
theorem cdN_ge {a b : Nat} (hb : 0 < b) : a ≤ cdN a b * b := (cdN_le hb).1 (Nat.le_refl _)
theorem cdN_eq (a b : Nat) (hb : 0 < b) : cdN a b = if a % b = 0 then a / b else a / b + 1 := by
  apply Nat.le_antisymm
  · rw [cdN_le hb]
    have h1 := Nat.div_add_mod a b
    have h2 := Nat.mod_lt a hb
    split
    · rw [Nat.mul_comm (a / b) b]; omega
    · rw [Nat.succ_mul, Nat.mul_comm (a / b) b]; omega
  · split
    · exact div_le_cdN b (Nat.le_refl _)
    · unfold cdN
      rw [Nat.le_div_iff_mul_le hb, Nat.succ_mul]
      have h1 := Nat.div_add_mod a b
      rw [Nat.mul_comm (a / b) b]; omega
theorem cdv_cast (a b : Nat) (hb : 0 < b) : cdv (a : Int) (b : Int) = ((cdN a b : Nat) : Int) := by
  unfold cdv
  rw [cdN_eq a b hb]
  by_cases h : a % b = 0
  · rw [if_pos h, if_pos (by exact_mod_cast h)]; push_cast; rfl
  · rw [if_neg h, if_neg (by exact_mod_cast h)]; push_cast; rfl
theorem ten_pos (k : Nat) : 0 < 10 ^ k := Nat.pow_pos (by omega)

def nTimes (k : Nat) (a b : Nat × Nat) : Nat × Nat := (a.1 * b.1 / 10 ^ k, cdN (a.2 * b.2) (10 ^ k))
def nBy (a : Nat × Nat) (n d : Nat) : Nat × Nat := (a.1 * n / d, cdN (a.2 * n) d)
def nOver (k : Nat) (a b : Nat × Nat) : Nat × Nat := (a.1 * 10 ^ k / b.2, cdN (a.2 * 10 ^ k) b.1)
theorem pTimes_ip (k : Nat) (a b : Nat × Nat) : pTimes k (ip a) (ip b) = ip (nTimes k a b) := by
  unfold pTimes nTimes ip
  dsimp only
  rw [← Int.natCast_mul, ← Int.natCast_mul, cdv_cast _ _ (ten_pos k), Int.natCast_ediv]
theorem pBy_ip (a : Nat × Nat) (n d : Nat) (hd : 0 < d) : pBy (ip a) (n : Int) (d : Int) = ip (nBy a n d) := by
  unfold pBy nBy ip
  dsimp only
  rw [← Int.natCast_mul, ← Int.natCast_mul, cdv_cast _ _ hd, Int.natCast_ediv]
theorem pOver_ip (k : Nat) (a b : Nat × Nat) (hb : 0 < b.1) : pOver k (ip a) (ip b) = ip (nOver k a b) := by
  unfold pOver nOver ip
  dsimp only
  rw [← Int.natCast_mul, ← Int.natCast_mul, cdv_cast _ _ hb, Int.natCast_ediv]
theorem nTimes_le (k : Nat) {a b : Nat × Nat} (ha : a.1 ≤ a.2) (hb : b.1 ≤ b.2) : (nTimes k a b).1 ≤ (nTimes k a b).2 := div_le_cdN _ (Nat.mul_le_mul ha hb)
theorem nBy_le {a : Nat × Nat} (ha : a.1 ≤ a.2) (n d : Nat) : (nBy a n d).1 ≤ (nBy a n d).2 := div_le_cdN _ (Nat.mul_le_mul_right n ha)
theorem nOver_le (k : Nat) {a b : Nat × Nat} (ha : a.1 ≤ a.2) (hb : b.1 ≤ b.2) (h0 : 0 < b.1) : (nOver k a b).1 ≤ (nOver k a b).2 :=
  Nat.le_trans (Nat.div_le_div_left hb h0) (div_le_cdN _ (Nat.mul_le_mul_right _ ha))

def saf : Nat := 10 ^ 190
theorem saf_lt {n : Nat} (h : n ≤ saf + 10) : n < big := Nat.lt_of_le_of_lt h (by decide +kernel)
theorem nat_fit {n : Nat} (h : n ≤ saf + 10) : (n : Int).natAbs < big := by rw [Int.natAbs_natCast]; exact saf_lt h
theorem fit_ip {a : Nat × Nat} (ha : a.1 ≤ a.2) (h : a.2 ≤ saf) : Fit (ip a) := ⟨nat_fit (n := a.1) (by omega), nat_fit (n := a.2) (by omega)⟩
theorem timesOk_ip {k : Nat} {a b : Nat × Nat} (hk : k ≤ 150) (ha : a.1 ≤ a.2) (hb : b.1 ≤ b.2) (h1 : a.2 ≤ saf) (h2 : b.2 ≤ saf) (h : a.2 * b.2 ≤ saf) : TimesOk k (ip a) (ip b) := by
  refine ⟨hk, fit_ip ha h1, fit_ip hb h2, ?_, ?_, ?_⟩
  · show ((a.1 : Int) * (b.1 : Int)).natAbs < big
    rw [← Int.natCast_mul]; exact nat_fit (Nat.le_trans (Nat.le_trans (Nat.mul_le_mul ha hb) h) (by omega))
  · show ((a.2 : Int) * (b.2 : Int)).natAbs < big
    rw [← Int.natCast_mul]; exact nat_fit (by omega)
  · show ((a.2 : Int) * (b.2 : Int) / ((10 ^ k : Nat) : Int) + 1).natAbs < big
    rw [← Int.natCast_mul, ← Int.natCast_ediv, show (((a.2 * b.2 / 10 ^ k : Nat) : Int) + 1) = ((a.2 * b.2 / 10 ^ k + 1 : Nat) : Int) by push_cast; rfl]
    have := Nat.div_le_self (a.2 * b.2) (10 ^ k)
    exact nat_fit (by omega)
theorem byOk_ip {a : Nat × Nat} {n d : Nat} (ha : a.1 ≤ a.2) (hn : n ≤ 1000000000000000000) (hd : d ≤ 1000000000000000000) (d0 : 0 < d) (h1 : a.2 ≤ saf) (h : a.2 * n ≤ saf) : ByOk (ip a) (n : Int) (d : Int) := by
  refine ⟨fit_ip ha h1, by omega, by omega, by omega, ?_, ?_, ?_⟩
  · show ((a.1 : Int) * (n : Int)).natAbs < big
    rw [← Int.natCast_mul]; exact nat_fit (Nat.le_trans (Nat.le_trans (Nat.mul_le_mul_right n ha) h) (by omega))
  · show ((a.2 : Int) * (n : Int)).natAbs < big
    rw [← Int.natCast_mul]; exact nat_fit (by omega)
  · show ((a.2 : Int) * (n : Int) / (d : Int) + 1).natAbs < big
    rw [← Int.natCast_mul, ← Int.natCast_ediv, show (((a.2 * n / d : Nat) : Int) + 1) = ((a.2 * n / d + 1 : Nat) : Int) by push_cast; rfl]
    have := Nat.div_le_self (a.2 * n) d
    exact nat_fit (by omega)
theorem overOk_ip {k : Nat} {a b : Nat × Nat} (hk : k ≤ 150) (ha : a.1 ≤ a.2) (hb : b.1 ≤ b.2) (h0 : 0 < b.1) (h1 : a.2 ≤ saf) (h2 : b.2 ≤ saf) (h : a.2 * 10 ^ k ≤ saf) : OverOk k (ip a) (ip b) := by
  refine ⟨hk, fit_ip ha h1, fit_ip hb h2, by show (b.1 : Int) ≠ 0; omega, by show (b.2 : Int) ≠ 0; omega, ?_, ?_, ?_⟩
  · show ((a.1 : Int) * ((10 ^ k : Nat) : Int)).natAbs < big
    rw [← Int.natCast_mul]; exact nat_fit (Nat.le_trans (Nat.le_trans (Nat.mul_le_mul_right _ ha) h) (by omega))
  · show ((a.2 : Int) * ((10 ^ k : Nat) : Int)).natAbs < big
    rw [← Int.natCast_mul]; exact nat_fit (by omega)
  · show ((a.2 : Int) * ((10 ^ k : Nat) : Int) / (b.1 : Int) + 1).natAbs < big
    rw [← Int.natCast_mul, ← Int.natCast_ediv, show (((a.2 * 10 ^ k / b.1 : Nat) : Int) + 1) = ((a.2 * 10 ^ k / b.1 + 1 : Nat) : Int) by push_cast; rfl]
    have := Nat.div_le_self (a.2 * 10 ^ k) b.1
    exact nat_fit (by omega)

def serT (k : Nat) (y : Nat × Nat) (nf df : Nat → Nat) (t0 : Nat × Nat) : Nat → Nat × Nat
  | 0 => t0
  | i + 1 => nBy (nTimes k (serT k y nf df t0 i) y) (nf i) (df i)
theorem ser_cast {T : Nat → Int × Int} {k : Nat} {y t0 : Nat × Nat} {nf df : Nat → Nat} (h0 : T 0 = ip t0) (hs : ∀ i, T (i + 1) = pBy (pTimes k (T i) (ip y)) (nf i) (df i)) (hd : ∀ i, 0 < df i) (i : Nat) : T i = ip (serT k y nf df t0 i) := by
  induction i with
  | zero => exact h0
  | succ i ih => rw [hs, ih, pTimes_ip, pBy_ip _ _ _ (hd i)]; rfl
theorem ser_le {k : Nat} {y t0 : Nat × Nat} {nf df : Nat → Nat} (h0 : t0.1 ≤ t0.2) (hy : y.1 ≤ y.2) (i : Nat) : (serT k y nf df t0 i).1 ≤ (serT k y nf df t0 i).2 := by
  induction i with
  | zero => exact h0
  | succ i ih => exact nBy_le (nTimes_le k ih hy) _ _
theorem nTimes_dec {k : Nat} {a y : Nat × Nat} (hy : y.2 ≤ 10 ^ k) : (nTimes k a y).2 ≤ a.2 := (cdN_le (ten_pos k)).2 (Nat.mul_le_mul_left _ hy)
theorem nBy_dec {a : Nat × Nat} {n d : Nat} (hd : 0 < d) (h : n ≤ d) : (nBy a n d).2 ≤ a.2 := (cdN_le hd).2 (Nat.mul_le_mul_left _ h)
theorem ser_dec {k : Nat} {y t0 : Nat × Nat} {nf df : Nat → Nat} (hy : y.2 ≤ 10 ^ k) (hd : ∀ i, 0 < df i) (hnd : ∀ i, nf i ≤ df i) (i : Nat) : (serT k y nf df t0 i).2 ≤ t0.2 := by
  induction i with
  | zero => exact Nat.le_refl _
  | succ i ih => exact Nat.le_trans (nBy_dec (hd i) (hnd i)) (Nat.le_trans (nTimes_dec hy) ih)

def nTot (t : Nat → Nat × Nat) : Nat → Nat × Nat
  | 0 => (0, 0)
  | i + 1 => ((nTot t i).1 + (t i).1, (nTot t i).2 + (t i).2)
theorem tot_cast {T : Nat → Int × Int} {t : Nat → Nat × Nat} (h : ∀ i, T i = ip (t i)) (i : Nat) : totP T i = ip (nTot t i) := by
  induction i with
  | zero => rfl
  | succ i ih => show ((totP T i).1 + (T i).1, (totP T i).2 + (T i).2) = _; rw [ih, h i]; show _ = ip ((nTot t i).1 + (t i).1, (nTot t i).2 + (t i).2); unfold ip; dsimp only; push_cast; rfl
theorem tot_lo {t : Nat → Nat × Nat} (h : ∀ i, (t i).1 ≤ (t i).2) (i : Nat) : (nTot t i).1 ≤ (nTot t i).2 := by
  induction i with
  | zero => exact Nat.le_refl _
  | succ i ih => exact Nat.add_le_add ih (h i)
theorem tot_le {t : Nat → Nat × Nat} {B : Nat} (h : ∀ i, (t i).2 ≤ B) (i : Nat) : (nTot t i).2 ≤ i * B := by
  induction i with
  | zero => exact Nat.zero_le _
  | succ i ih => rw [Nat.succ_mul]; exact Nat.add_le_add ih (h i)
def nSt (t : Nat → Nat × Nat) (m : Nat) : Bool := Nat.ble (t (m + 1)).2 2 && Nat.ble ((t (m + 1)).2 * 2) ((t m).2 + 2)
def nSum (t : Nat → Nat × Nat) (m : Nat) : Nat × Nat := ((nTot t (m + 2)).1, (nTot t (m + 2)).2 + ((t (m + 1)).2 + 4))

theorem stop_cast {T : Nat → Int × Int} {t : Nat → Nat × Nat} (h : ∀ i, T i = ip (t i)) (m : Nat) : stopAt T (m + 1) = nSt t m := by
  show stopB (decide (0 < m + 1)) (T (m + 1)) (T m) = nSt t m
  rw [h (m + 1), h m]
  unfold stopB nSt ip
  have e1 : decide (((t (m + 1)).2 : Int) ≤ 2) = Nat.ble (t (m + 1)).2 2 := by
    rw [Bool.eq_iff_iff, decide_eq_true_iff, Nat.ble_eq]; omega
  have e2 : decide (((t (m + 1)).2 : Int) * 2 ≤ ((t m).2 : Int) + 2) = Nat.ble ((t (m + 1)).2 * 2) ((t m).2 + 2) := by
    rw [Bool.eq_iff_iff, decide_eq_true_iff, Nat.ble_eq]; omega
  dsimp only
  rw [e1, e2, decide_eq_true (Nat.succ_pos m), Bool.true_and]
theorem sumB_of {T : Nat → Int × Int} {t : Nat → Nat × Nat} {B m : Nat} (hc : ∀ i, T i = ip (t i)) (hl : ∀ i, (t i).1 ≤ (t i).2) (hB : ∀ i, (t i).2 ≤ B) (hS : 2000 * (B + 1) ≤ saf) (hM : m ≤ 900)
    (stop : nSt t m = true) (go : ∀ j, j < m → nSt t j = false) : SumB T (m + 1) := by
  have hb : ∀ i, (t i).1 ≤ B := fun i => Nat.le_trans (hl i) (hB i)
  have hT : ∀ i, i ≤ m + 2 → (nTot t i).2 ≤ 1000 * B := fun i hi => Nat.le_trans (tot_le hB i) (Nat.mul_le_mul_right B (by omega))
  have hT1 : ∀ i, i ≤ m + 2 → (nTot t i).1 ≤ 1000 * B := fun i hi => Nat.le_trans (tot_lo hl i) (hT i hi)
  refine ⟨by rw [stop_cast hc]; exact stop, ?_, by omega, ?_, ?_, ?_, ?_, ?_, ?_, ?_, ?_, ?_⟩
  · intro i hi
    cases i with
    | zero => rfl
    | succ i => rw [stop_cast hc]; exact go i (by omega)
  · intro i _; rw [hc]; exact nat_fit (by have := hb i; omega)
  · intro i _; rw [hc]; exact nat_fit (by have := hB i; omega)
  · intro i _; rw [hc]; show (((t i).2 : Int) * 2).natAbs < big
    have := hB i; have := saf_lt (n := (t i).2 * 2) (by omega); omega
  · intro i hi; rw [tot_cast hc]; exact nat_fit (by have := hT1 i hi; omega)
  · intro i hi; rw [tot_cast hc]; exact nat_fit (by have := hT i hi; omega)
  · intro i _
    cases i with
    | zero => show (0 : Int).natAbs < big; simp; exact big_pos
    | succ i => show (T i).2.natAbs < big; rw [hc]; exact nat_fit (by have := hB i; omega)
  · intro i _
    cases i with
    | zero => show ((0 : Int) + 2).natAbs < big; exact saf_lt (n := 2) (by omega)
    | succ i =>
      show ((T i).2 + 2).natAbs < big; rw [hc]; show (((t i).2 : Int) + 2).natAbs < big
      have := hB i; have := saf_lt (n := (t i).2 + 2) (by omega); omega
  · rw [hc]; show (((t (m + 1)).2 : Int) + 4).natAbs < big
    have := hB (m + 1); have := saf_lt (n := (t (m + 1)).2 + 4) (by omega); omega
  · rw [hc, tot_cast hc]; show (((nTot t (m + 1 + 1)).2 : Int) + (((t (m + 1)).2 : Int) + 4)).natAbs < big
    have := hB (m + 1); have h3 := hT (m + 1 + 1) (by omega)
    have := saf_lt (n := (nTot t (m + 1 + 1)).2 + ((t (m + 1)).2 + 4)) (by omega); omega
theorem sum_cast {T : Nat → Int × Int} {t : Nat → Nat × Nat} (hc : ∀ i, T i = ip (t i)) (m : Nat) : sumP T (m + 1) = ip (nSum t m) := by
  unfold sumP nSum
  rw [tot_cast hc, hc]
  unfold ip
  dsimp only
  push_cast
  rfl
theorem sum_le {t : Nat → Nat × Nat} (hl : ∀ i, (t i).1 ≤ (t i).2) (m : Nat) : (nSum t m).1 ≤ (nSum t m).2 := by
  have := tot_lo hl (m + 2); unfold nSum; dsimp only; omega

noncomputable def serL (one om yl yh : Nat) (nf df : Nat → Nat) (fuel : Nat) : Nat → Nat → Nat → Nat → Nat → Nat → Option (Nat × Nat) :=
  Nat.rec (motive := fun _ => Nat → Nat → Nat → Nat → Nat → Nat → Option (Nat × Nat)) (fun _ _ _ _ _ _ => none)
    (fun _ ih i lo hi last tl th =>
      Bool.rec (motive := fun _ => Option (Nat × Nat))
        (ih (Nat.succ i) (Nat.div (Nat.mul (Nat.div (Nat.mul lo yl) one) (nf i)) (df i)) (Nat.div (Nat.add (Nat.mul (Nat.div (Nat.add (Nat.mul hi yh) om) one) (nf i)) (Nat.sub (df i) 1)) (df i)) hi (Nat.add tl lo) (Nat.add th hi))
        (some (Nat.add tl lo, Nat.add (Nat.add th hi) (Nat.add hi 4)))
        (Bool.rec (motive := fun _ => Bool) false (Nat.ble (Nat.mul hi 2) (Nat.add last 2)) (Nat.ble hi 2))) fuel
theorem serL_succ (one om yl yh : Nat) (nf df : Nat → Nat) (fuel i lo hi last tl th : Nat) :
    serL one om yl yh nf df (fuel + 1) i lo hi last tl th =
      if (Nat.ble hi 2 && Nat.ble (hi * 2) (last + 2)) = true then some (tl + lo, th + hi + (hi + 4))
      else serL one om yl yh nf df fuel (i + 1) (lo * yl / one * nf i / df i) (((hi * yh + om) / one * nf i + (df i - 1)) / df i) hi (tl + lo) (th + hi) := by
  show Bool.rec (motive := fun _ => Option (Nat × Nat)) (serL one om yl yh nf df fuel (i + 1) (lo * yl / one * nf i / df i) (((hi * yh + om) / one * nf i + (df i - 1)) / df i) hi (tl + lo) (th + hi))
    (some (tl + lo, th + hi + (hi + 4))) (Bool.rec (motive := fun _ => Bool) false (Nat.ble (hi * 2) (last + 2)) (Nat.ble hi 2)) = _
  cases h1 : Nat.ble hi 2 <;> cases h2 : Nat.ble (hi * 2) (last + 2) <;> rfl
theorem serL_spec {k : Nat} {y t0 : Nat × Nat} {nf df : Nat → Nat} {r : Nat × Nat} : ∀ (fuel m : Nat),
    serL (10 ^ k) (10 ^ k - 1) y.1 y.2 nf df fuel (m + 1) (serT k y nf df t0 (m + 1)).1 (serT k y nf df t0 (m + 1)).2 (serT k y nf df t0 m).2 (nTot (serT k y nf df t0) (m + 1)).1 (nTot (serT k y nf df t0) (m + 1)).2 = some r →
    ∃ M, m ≤ M ∧ M ≤ m + fuel ∧ nSt (serT k y nf df t0) M = true ∧ (∀ j, m ≤ j → j < M → nSt (serT k y nf df t0) j = false) ∧ r = nSum (serT k y nf df t0) M := by
  intro fuel
  induction fuel with
  | zero => intro m h; exact absurd h (by show ¬ (none = some r); exact fun h => by cases h)
  | succ fuel ih =>
    intro m h
    rw [serL_succ] at h
    change (if nSt (serT k y nf df t0) m = true then _ else _) = _ at h
    by_cases hs : nSt (serT k y nf df t0) m = true
    · rw [if_pos hs] at h
      refine ⟨m, Nat.le_refl _, by omega, hs, fun j h1 h2 => absurd h2 (by omega), ?_⟩
      injection h with h
      exact h.symm
    · rw [if_neg hs] at h
      obtain ⟨M, h1, h2, h3, h4, h5⟩ := ih (m + 1) h
      refine ⟨M, by omega, by omega, h3, fun j k1 k2 => ?_, h5⟩
      rcases Nat.lt_or_ge m j with g | g
      · exact h4 j g k2
      · obtain rfl : j = m := by omega
        simpa using hs

noncomputable def nSer (k : Nat) (y : Nat × Nat) (nf df : Nat → Nat) (t0 : Nat × Nat) : Option (Nat × Nat) :=
  serL (10 ^ k) (10 ^ k - 1) y.1 y.2 nf df 800 1 (Nat.div (Nat.mul (Nat.div (Nat.mul t0.1 y.1) (10 ^ k)) (nf 0)) (df 0)) (Nat.div (Nat.add (Nat.mul (Nat.div (Nat.add (Nat.mul t0.2 y.2) (10 ^ k - 1)) (10 ^ k)) (nf 0)) (Nat.sub (df 0) 1)) (df 0)) t0.2 t0.1 t0.2
theorem nSer_spec {k : Nat} {y t0 : Nat × Nat} {nf df : Nat → Nat} {r : Nat × Nat} (h : nSer k y nf df t0 = some r) :
    ∃ M, M ≤ 800 ∧ nSt (serT k y nf df t0) M = true ∧ (∀ j, j < M → nSt (serT k y nf df t0) j = false) ∧ r = nSum (serT k y nf df t0) M := by
  have e : nSer k y nf df t0 = serL (10 ^ k) (10 ^ k - 1) y.1 y.2 nf df 800 (0 + 1) (serT k y nf df t0 (0 + 1)).1 (serT k y nf df t0 (0 + 1)).2 (serT k y nf df t0 0).2 (nTot (serT k y nf df t0) (0 + 1)).1 (nTot (serT k y nf df t0) (0 + 1)).2 := by
    have e1 : (nTot (serT k y nf df t0) (0 + 1)).1 = t0.1 := Nat.zero_add _
    have e2 : (nTot (serT k y nf df t0) (0 + 1)).2 = t0.2 := Nat.zero_add _
    rw [e1, e2]
    rfl
  rw [e] at h
  obtain ⟨M, h1, h2, h3, h4, h5⟩ := serL_spec 800 0 h
  exact ⟨M, by omega, h3, fun j hj => h4 j (Nat.zero_le _) hj, h5⟩
end Go.Proofs.YtppbhnhmaocdnaaGreatDoor
namespace Go.Proofs.YtppbhnhmaocdnaaGreatDoor

theorem tens {k : Nat} (hk : k ≤ 55) : 10 ^ k ≤ 10 ^ 55 := Nat.pow_le_pow_right (by omega) hk
theorem saf_of {n m : Nat} (h : n ≤ m) (hm : Nat.ble m saf = true) : n ≤ saf := Nat.le_trans h (Nat.le_of_ble_eq_true hm)

def nHal (x : Nat × Nat) : Nat → Nat × Nat
  | 0 => x
  | i + 1 => nBy (nHal x i) 1 2
theorem hal_cast (x : Nat × Nat) (i : Nat) : halvT (ip x) i = ip (nHal x i) := by
  induction i with
  | zero => rfl
  | succ i ih => show pBy (halvT (ip x) i) 1 2 = _; rw [ih]; exact pBy_ip _ 1 2 (by omega)
theorem hal_lo {x : Nat × Nat} (h : x.1 ≤ x.2) (i : Nat) : (nHal x i).1 ≤ (nHal x i).2 := by
  induction i with
  | zero => exact h
  | succ i ih => exact nBy_le ih 1 2
theorem hal_le (x : Nat × Nat) (i : Nat) : (nHal x i).2 ≤ x.2 := by
  induction i with
  | zero => exact Nat.le_refl _
  | succ i ih => exact Nat.le_trans (nBy_dec (by omega) (by omega)) ih
noncomputable def halL (one : Nat) (fuel : Nat) : Nat → Nat → Nat → Option (Nat × Nat × Nat) :=
  Nat.rec (motive := fun _ => Nat → Nat → Nat → Option (Nat × Nat × Nat)) (fun _ _ _ => none)
    (fun _ ih H lo hi => Bool.rec (motive := fun _ => Option (Nat × Nat × Nat)) (ih (Nat.succ H) (Nat.div lo 2) (Nat.div (Nat.succ hi) 2)) (some (H, lo, hi)) (Nat.ble (Nat.mul hi 2) one)) fuel
theorem halL_succ (one fuel H lo hi : Nat) : halL one (fuel + 1) H lo hi = if hi * 2 ≤ one then some (H, lo, hi) else halL one fuel (H + 1) (lo / 2) ((hi + 1) / 2) := by
  show Bool.rec (motive := fun _ => Option (Nat × Nat × Nat)) (halL one fuel (H + 1) (lo / 2) ((hi + 1) / 2)) (some (H, lo, hi)) (Nat.ble (hi * 2) one) = _
  cases h : Nat.ble (hi * 2) one with
  | true => rw [if_pos (Nat.le_of_ble_eq_true h)]
  | false => rw [if_neg (fun g => by rw [Nat.ble_eq_true_of_le g] at h; cases h)]
theorem halL_spec {one : Nat} {x : Nat × Nat} {r : Nat × Nat × Nat} : ∀ fuel H, halL one fuel H (nHal x H).1 (nHal x H).2 = some r →
    H ≤ r.1 ∧ r.1 ≤ H + fuel ∧ r.2 = nHal x r.1 ∧ (nHal x r.1).2 * 2 ≤ one ∧ ∀ i, H ≤ i → i < r.1 → one < (nHal x i).2 * 2 := by
  intro fuel
  induction fuel with
  | zero => intro H h; exact absurd h (by show ¬ (none = some r); exact fun h => by cases h)
  | succ fuel ih =>
    intro H h
    rw [halL_succ] at h
    by_cases hs : (nHal x H).2 * 2 ≤ one
    · rw [if_pos hs] at h
      injection h with h
      subst h
      exact ⟨Nat.le_refl _, by omega, rfl, hs, fun i h1 h2 => absurd h2 (by simp only; omega)⟩
    · rw [if_neg hs] at h
      have e1 : (nHal x H).1 / 2 = (nHal x (H + 1)).1 := by show _ = (nHal x H).1 * 1 / 2; rw [Nat.mul_one]
      have e2 : ((nHal x H).2 + 1) / 2 = (nHal x (H + 1)).2 := by show _ = ((nHal x H).2 * 1 + (2 - 1)) / 2; rw [Nat.mul_one]
      rw [e1, e2] at h
      obtain ⟨h1, h2, h3, h4, h5⟩ := ih (H + 1) h
      refine ⟨by omega, by omega, h3, h4, fun i k1 k2 => ?_⟩
      rcases Nat.lt_or_ge H i with g | g
      · exact h5 i g k2
      · obtain rfl : i = H := by omega
        omega

def nSq (k : Nat) (o : Nat × Nat) : Nat → Nat × Nat
  | 0 => o
  | j + 1 => nTimes k (nSq k o j) (nSq k o j)
theorem sq_cast (k : Nat) (o : Nat × Nat) (j : Nat) : sqT k (ip o) j = ip (nSq k o j) := by
  induction j with
  | zero => rfl
  | succ j ih => show pTimes k (sqT k (ip o) j) (sqT k (ip o) j) = _; rw [ih]; exact pTimes_ip k _ _
theorem sq_lo {k : Nat} {o : Nat × Nat} (h : o.1 ≤ o.2) (j : Nat) : (nSq k o j).1 ≤ (nSq k o j).2 := by
  induction j with
  | zero => exact h
  | succ j ih => exact nTimes_le k ih ih
theorem le_of_mul_le' {a b c : Nat} (hc : 0 < c) (h : a * c ≤ b * c) : a ≤ b := Nat.le_of_mul_le_mul_right h hc
theorem sq_one {k : Nat} {o : Nat × Nat} (h : 10 ^ k ≤ o.2) (j : Nat) : 10 ^ k ≤ (nSq k o j).2 ∧ (nSq k o j).2 ≤ (nSq k o (j + 1)).2 := by
  have step : ∀ j, 10 ^ k ≤ (nSq k o j).2 → (nSq k o j).2 ≤ (nSq k o (j + 1)).2 := fun j hj => by
    refine le_of_mul_le' (ten_pos k) ?_
    exact Nat.le_trans (Nat.mul_le_mul_left _ hj) (cdN_ge (ten_pos k))
  induction j with
  | zero => exact ⟨h, step 0 h⟩
  | succ j ih => exact ⟨Nat.le_trans ih.1 ih.2, step _ (Nat.le_trans ih.1 ih.2)⟩
theorem sq_mono {k : Nat} {o : Nat × Nat} (h : 10 ^ k ≤ o.2) {i j : Nat} (hij : i ≤ j) : (nSq k o i).2 ≤ (nSq k o j).2 := by
  induction hij with
  | refl => exact Nat.le_refl _
  | step _ ih => exact Nat.le_trans ih (sq_one h _).2
noncomputable def sqL (one om : Nat) (H : Nat) : Nat → Nat → Nat × Nat :=
  Nat.rec (motive := fun _ => Nat → Nat → Nat × Nat) (fun lo hi => (lo, hi)) (fun _ ih lo hi => ih (Nat.div (Nat.mul lo lo) one) (Nat.div (Nat.add (Nat.mul hi hi) om) one)) H
theorem sqL_spec (k : Nat) (o : Nat × Nat) : ∀ H j, sqL (10 ^ k) (10 ^ k - 1) H (nSq k o j).1 (nSq k o j).2 = nSq k o (j + H) := by
  intro H
  induction H with
  | zero => intro j; rfl
  | succ H ih =>
    intro j
    show sqL (10 ^ k) (10 ^ k - 1) H (nSq k o (j + 1)).1 (nSq k o (j + 1)).2 = _
    rw [ih (j + 1)]
    congr 1
    omega

noncomputable def nExp (k xl xh : Nat) : Option (Nat × Nat) :=
  match halL (10 ^ k) 60 0 xl xh with
  | none => none
  | some (H, yl, yh) =>
    match nSer k (yl, yh) (fun _ => 1) (fun i => Nat.succ i) (10 ^ k, 10 ^ k) with
    | none => none
    | some (sl, sh) => Bool.rec (motive := fun _ => Option (Nat × Nat)) none (some (sqL (10 ^ k) (10 ^ k - 1) H sl sh)) (Nat.ble (sqL (10 ^ k) (10 ^ k - 1) H sl sh).2 (10 ^ (k + 40)))

theorem tot_first (t : Nat → Nat × Nat) (m : Nat) : (t 0).2 ≤ (nTot t (m + 1)).2 := by
  induction m with
  | zero => show _ ≤ 0 + (t 0).2; omega
  | succ m ih => exact Nat.le_trans ih (Nat.le_add_right _ _)
theorem whole_one (k : Nat) : pWhole k 1 = ip (10 ^ k, 10 ^ k) := by unfold pWhole ip; dsimp only; rw [Int.one_mul]
theorem sum_bd {t : Nat → Nat × Nat} {B m : Nat} (hB : ∀ i, (t i).2 ≤ B) (hm : m ≤ 900) : (nSum t m).2 ≤ 1000 * (B + 1) := by
  have h1 := tot_le hB (m + 2)
  have h2 : (m + 2) * B ≤ 902 * B := Nat.mul_le_mul_right B (by omega)
  have h3 := hB (m + 1)
  show (nTot t (m + 2)).2 + ((t (m + 1)).2 + 4) ≤ _
  omega

theorem exp_ev {k xl xh : Nat} {r : Nat × Nat} (hk : k ≤ 55) (hl : xl ≤ xh) (hx : xh ≤ 10 ^ 150) (h : nExp k xl xh = some r) :
    ∃ H M, ExpOk k (ip (xl, xh)) H M ∧ pExp k (ip (xl, xh)) H M = ip r ∧ r.1 ≤ r.2 ∧ r.2 ≤ 10 ^ (k + 40) := by
  unfold nExp at h
  cases hH : halL (10 ^ k) 60 0 xl xh with
  | none => rw [hH] at h; cases h
  | some q =>
    obtain ⟨H, yl, yh⟩ := q
    rw [hH] at h
    dsimp only at h
    obtain ⟨-, g2, g3, g4, g5⟩ := halL_spec (x := (xl, xh)) 60 0 hH
    dsimp only at g2 g3 g4 g5
    cases hS : nSer k (yl, yh) (fun _ => 1) (fun i => Nat.succ i) (10 ^ k, 10 ^ k) with
    | none => rw [hS] at h; cases h
    | some s =>
      rw [hS] at h
      obtain ⟨sl, sh⟩ := s
      dsimp only at h
      obtain ⟨M, m1, m2, m3, m4⟩ := nSer_spec hS
      have hq := sqL_spec k (sl, sh) H 0
      rw [Nat.zero_add] at hq
      change sqL (10 ^ k) (10 ^ k - 1) H sl sh = _ at hq
      rw [hq] at h
      have hy1 : (yl, yh).1 ≤ (yl, yh).2 := by rw [g3]; exact hal_lo hl H
      have hy2 : (yl, yh).2 ≤ 10 ^ k := by rw [g3]; omega
      have ht0 := tens hk
      generalize hT : serT k (yl, yh) (fun _ => 1) (fun i => Nat.succ i) (10 ^ k, 10 ^ k) = t at *
      have tc : ∀ i, expT k (halvT (ip (xl, xh)) H) i = ip (t i) := fun i => by
        rw [← hT, hal_cast, ← g3]
        exact ser_cast (T := expT k (ip (yl, yh))) (whole_one k) (fun i => by show pBy (pTimes k (expT k (ip (yl, yh)) i) (ip (yl, yh))) 1 ((i : Int) + 1) = _; push_cast; rfl) (fun i => Nat.succ_pos i) i
      have tl : ∀ i, (t i).1 ≤ (t i).2 := fun i => by rw [← hT]; exact ser_le (Nat.le_refl _) hy1 i
      have tb : ∀ i, (t i).2 ≤ 10 ^ k := fun i => by rw [← hT]; exact ser_dec hy2 (fun i => Nat.succ_pos i) (fun i => Nat.succ_le_succ (Nat.zero_le i)) i
      have tz : t 0 = (10 ^ k, 10 ^ k) := by rw [← hT]; rfl
      have hs1 : sl ≤ sh := by have := sum_le tl M; rw [← m4] at this; exact this
      have hs2 : 10 ^ k ≤ sh := by
        have h1 : (t 0).2 ≤ (nTot t (M + 2)).2 := tot_first t (M + 1)
        rw [tz] at h1
        have h2 : sh = (nTot t (M + 2)).2 + ((t (M + 1)).2 + 4) := congrArg Prod.snd m4
        dsimp only at h1
        omega
      cases hb : Nat.ble (nSq k (sl, sh) H).2 (10 ^ (k + 40)) with
      | false => rw [hb] at h; cases h
      | true =>
        rw [hb] at h
        injection h with h
        have hb' := Nat.le_of_ble_eq_true hb
        have hsum : sumP (expT k (halvT (ip (xl, xh)) H)) (M + 1) = ip (sl, sh) := by rw [sum_cast tc, ← m4]
        have ht95 : 10 ^ (k + 40) ≤ 10 ^ 95 := Nat.pow_le_pow_right (by omega) (by omega)
        refine ⟨H, M + 1, ⟨by omega, by omega, ?_, ?_, ?_, ?_, ?_, ?_, ?_, ?_, ?_, ?_⟩, ?_, ?_, ?_⟩
        · intro i _; rw [hal_cast]
          exact nat_fit (Nat.le_trans (Nat.le_trans (hal_le _ i) hx) (Nat.le_of_ble_eq_true (by decide +kernel)))
        · intro i _; rw [hal_cast]
          have h1 := hal_le (xl, xh) i
          have h2 : (nHal (xl, xh) i).2 * 2 ≤ 10 ^ 150 * 2 := Nat.mul_le_mul_right 2 (Nat.le_trans h1 hx)
          have h3 := saf_lt (n := (nHal (xl, xh) i).2 * 2) (Nat.le_trans h2 (Nat.le_of_ble_eq_true (by decide +kernel)))
          show (((nHal (xl, xh) i).2 : Int) * 2).natAbs < big
          omega
        · intro i hi; rw [hal_cast]
          have := g5 i (Nat.zero_le _) hi
          show ((10 ^ k : Nat) : Int) < ((nHal (xl, xh) i).2 : Int) * 2
          exact_mod_cast this
        · rw [hal_cast]
          show ((nHal (xl, xh) H).2 : Int) * 2 ≤ ((10 ^ k : Nat) : Int)
          exact_mod_cast g4
        · intro i _; rw [hal_cast]
          have h1 := Nat.le_trans (hal_le (xl, xh) i) hx
          exact byOk_ip (n := 1) (d := 2) (hal_lo hl i) (by omega) (by omega) (by omega) (saf_of h1 (by decide +kernel)) (by rw [Nat.mul_one]; exact saf_of h1 (by decide +kernel))
        · rw [whole_one]; exact fit_ip (Nat.le_refl _) (saf_of ht0 (by decide +kernel))
        · exact sumB_of tc tl tb (saf_of (Nat.mul_le_mul_left 2000 (Nat.add_le_add_right ht0 1)) (by decide +kernel)) (by omega) m2 m3
        · intro i _; rw [tc, hal_cast, ← g3]
          exact timesOk_ip (by omega) (tl i) hy1 (saf_of (Nat.le_trans (tb i) ht0) (by decide +kernel)) (saf_of (Nat.le_trans hy2 ht0) (by decide +kernel)) (saf_of (Nat.mul_le_mul (Nat.le_trans (tb i) ht0) (Nat.le_trans hy2 ht0)) (by decide +kernel))
        · intro i hi; rw [tc, hal_cast, ← g3, pTimes_ip]
          have h1 : (nTimes k (t i) (yl, yh)).2 ≤ 10 ^ 55 := Nat.le_trans (nTimes_dec hy2) (Nat.le_trans (tb i) ht0)
          have := byOk_ip (a := nTimes k (t i) (yl, yh)) (n := 1) (d := i + 1) (nTimes_le k (tl i) hy1) (by omega) (by omega) (by omega) (saf_of h1 (by decide +kernel)) (by rw [Nat.mul_one]; exact saf_of h1 (by decide +kernel))
          push_cast at this
          exact this
        · intro j hj
          rw [hsum, sq_cast]
          have h1 := Nat.le_trans (Nat.le_trans (sq_mono (k := k) (o := (sl, sh)) hs2 (Nat.le_of_lt hj)) hb') ht95
          exact timesOk_ip (by omega) (sq_lo hs1 j) (sq_lo hs1 j) (saf_of h1 (by decide +kernel)) (saf_of h1 (by decide +kernel)) (saf_of (Nat.mul_le_mul h1 h1) (by decide +kernel))
        · unfold pExp
          rw [hsum, sq_cast, h]
        · rw [← h]; exact sq_lo hs1 H
        · rw [← h]; exact hb'

noncomputable def nArt (k tl th : Nat) : Option (Nat × Nat) :=
  match nSer k (Nat.div (Nat.mul tl tl) (10 ^ k), Nat.div (Nat.add (Nat.mul th th) (10 ^ k - 1)) (10 ^ k)) (fun i => Nat.succ (Nat.mul 2 i)) (fun i => Nat.add (Nat.mul 2 i) 3) (tl, th) with
  | none => none
  | some (a, b) => some (Nat.mul a 2, Nat.mul b 2)
theorem by_two (a : Nat × Nat) : pBy (ip a) 2 1 = ip (a.1 * 2, a.2 * 2) := by
  have := pBy_ip a 2 1 (by omega)
  unfold nBy cdN at this
  rw [Nat.div_one, Nat.div_one] at this
  exact this
theorem art_ev {k tl th : Nat} {r : Nat × Nat} (hk : k ≤ 55) (hl : tl ≤ th) (hx : th ≤ 10 ^ k) (h : nArt k tl th = some r) :
    ∃ M, ArtOk k (ip (tl, th)) M ∧ pArt k (ip (tl, th)) M = ip r ∧ r.1 ≤ r.2 ∧ r.2 ≤ 2000 * (10 ^ k + 1) := by
  unfold nArt at h
  have hq : (Nat.div (Nat.mul tl tl) (10 ^ k), Nat.div (Nat.add (Nat.mul th th) (10 ^ k - 1)) (10 ^ k)) = nTimes k (tl, th) (tl, th) := rfl
  rw [hq] at h
  have hy1 : (nTimes k (tl, th) (tl, th)).1 ≤ (nTimes k (tl, th) (tl, th)).2 := nTimes_le k hl hl
  have hy2 : (nTimes k (tl, th) (tl, th)).2 ≤ 10 ^ k := Nat.le_trans (nTimes_dec hx) hx
  have hsq := pTimes_ip k (tl, th) (tl, th)
  generalize nTimes k (tl, th) (tl, th) = y at *
  cases hS : nSer k y (fun i => Nat.succ (Nat.mul 2 i)) (fun i => Nat.add (Nat.mul 2 i) 3) (tl, th) with
  | none => rw [hS] at h; cases h
  | some s =>
    rw [hS] at h
    obtain ⟨a, b⟩ := s
    dsimp only at h
    obtain ⟨M, m1, m2, m3, m4⟩ := nSer_spec hS
    have ht0 := tens hk
    generalize hT : serT k y (fun i => Nat.succ (Nat.mul 2 i)) (fun i => Nat.add (Nat.mul 2 i) 3) (tl, th) = t at *
    have tc : ∀ i, artT k (ip (tl, th)) (pTimes k (ip (tl, th)) (ip (tl, th))) i = ip (t i) := fun i => by
      rw [← hT, hsq]
      refine ser_cast (T := artT k (ip (tl, th)) (ip y)) rfl (fun i => ?_) (fun i => by show 0 < 2 * i + 3; omega) i
      show pBy (pTimes k (artT k (ip (tl, th)) (ip y) i) (ip y)) (2 * ((i : Int) + 1) - 1) (2 * ((i : Int) + 1) + 1) = pBy _ ((2 * i + 1 : Nat) : Int) ((2 * i + 3 : Nat) : Int)
      rw [show 2 * ((i : Int) + 1) - 1 = ((2 * i + 1 : Nat) : Int) by omega, show 2 * ((i : Int) + 1) + 1 = ((2 * i + 3 : Nat) : Int) by omega]
    have tl' : ∀ i, (t i).1 ≤ (t i).2 := fun i => by rw [← hT]; exact ser_le hl hy1 i
    have tb : ∀ i, (t i).2 ≤ 10 ^ k := fun i => by rw [← hT]; exact Nat.le_trans (ser_dec hy2 (fun i => by show 0 < 2 * i + 3; omega) (fun i => by show 2 * i + 1 ≤ 2 * i + 3; omega) i) hx
    have hs1 : a ≤ b := by have := sum_le tl' M; rw [← m4] at this; exact this
    have hs2 : b ≤ 1000 * (10 ^ k + 1) := by have := sum_bd tb (m := M) (by omega); rw [← m4] at this; exact this
    have hsum : sumP (artT k (ip (tl, th)) (pTimes k (ip (tl, th)) (ip (tl, th)))) (M + 1) = ip (a, b) := by rw [sum_cast tc, ← m4]
    have hb1 : b ≤ 1000 * (10 ^ 55 + 1) := Nat.le_trans hs2 (Nat.mul_le_mul_left 1000 (by omega))
    injection h with h
    refine ⟨M + 1, ⟨?_, ?_, ?_, ?_, ?_⟩, ?_, ?_, ?_⟩
    · exact timesOk_ip (by omega) hl hl (saf_of (Nat.le_trans hx ht0) (by decide +kernel)) (saf_of (Nat.le_trans hx ht0) (by decide +kernel)) (saf_of (Nat.mul_le_mul (Nat.le_trans hx ht0) (Nat.le_trans hx ht0)) (by decide +kernel))
    · exact sumB_of tc tl' tb (saf_of (Nat.mul_le_mul_left 2000 (Nat.add_le_add_right ht0 1)) (by decide +kernel)) (by omega) m2 m3
    · intro i _; rw [tc, hsq]
      exact timesOk_ip (by omega) (tl' i) hy1 (saf_of (Nat.le_trans (tb i) ht0) (by decide +kernel)) (saf_of (Nat.le_trans hy2 ht0) (by decide +kernel)) (saf_of (Nat.mul_le_mul (Nat.le_trans (tb i) ht0) (Nat.le_trans hy2 ht0)) (by decide +kernel))
    · intro i hi; rw [tc, hsq, pTimes_ip]
      have h1 : (nTimes k (t i) y).2 ≤ 10 ^ 55 := Nat.le_trans (nTimes_dec hy2) (Nat.le_trans (tb i) ht0)
      rw [show 2 * ((i : Int) + 1) - 1 = ((2 * i + 1 : Nat) : Int) by omega, show 2 * ((i : Int) + 1) + 1 = ((2 * i + 3 : Nat) : Int) by omega]
      exact byOk_ip (nTimes_le k (tl' i) hy1) (by omega) (by omega) (by omega) (saf_of h1 (by decide +kernel)) (saf_of (Nat.mul_le_mul h1 (show 2 * i + 1 ≤ 10000 by omega)) (by decide +kernel))
    · rw [hsum]
      exact byOk_ip (a := (a, b)) (n := 2) (d := 1) hs1 (by omega) (by omega) (by omega) (saf_of hb1 (by decide +kernel)) (saf_of (Nat.mul_le_mul_right 2 hb1) (by decide +kernel))
    · unfold pArt
      rw [hsum, by_two, ← h]
      rfl
    · rw [← h]; exact Nat.mul_le_mul_right 2 hs1
    · rw [← h]; show b * 2 ≤ _; omega
end Go.Proofs.YtppbhnhmaocdnaaGreatDoor
namespace Go.Proofs.YtppbhnhmaocdnaaGreatDoor

theorem gcd_pos' {n d : Int} (hd : 0 < d) : 0 < ((Int.gcd n d : Nat) : Int) := by
  have := gcd_ne (n := n) (d := d) (by omega)
  omega
theorem rnum_mul {n d : Int} (hd : 0 < d) : rnum n d * ((Int.gcd n d : Nat) : Int) = n := by
  unfold rnum
  rw [if_neg (by omega)]
  exact Int.ediv_mul_cancel (Int.gcd_dvd_left _ _)
theorem rden_mul {n d : Int} (hd : 0 < d) : rden n d * ((Int.gcd n d : Nat) : Int) = d := by
  unfold rden
  rw [if_neg (by omega)]
  exact Int.ediv_mul_cancel (Int.gcd_dvd_right _ _)
theorem rden_pos {n d : Int} (hd : 0 < d) : 0 < rden n d := by
  have h1 := rden_mul (n := n) hd
  have h2 := gcd_pos' (n := n) hd
  rcases Int.lt_or_le 0 (rden n d) with h | h
  · exact h
  · have := Int.mul_le_mul_of_nonneg_right h (Int.le_of_lt h2)
    rw [h1, Int.zero_mul] at this
    omega
theorem mul_natAbs_le {a g b : Int} (hg : 0 < g) (h : a * g = b) : a.natAbs ≤ b.natAbs := by
  rw [← h, Int.natAbs_mul]
  exact Nat.le_mul_of_pos_right _ (by omega)
theorem rnum_le {n d : Int} (hd : 0 < d) : (rnum n d).natAbs ≤ n.natAbs := mul_natAbs_le (gcd_pos' hd) (rnum_mul hd)
theorem rden_le {n d : Int} (hd : 0 < d) : (rden n d).natAbs ≤ d.natAbs := mul_natAbs_le (gcd_pos' (n := n) hd) (rden_mul hd)
theorem rgcd {n d : Int} (hd : 0 < d) : Int.gcd (rnum n d) (rden n d) = 1 := by
  have h := Int.gcd_ediv_gcd_ediv_gcd (i := n) (j := d) (by have := gcd_pos' (n := n) hd; omega)
  unfold rnum rden
  rw [if_neg (by omega), if_neg (by omega)]
  exact h
theorem isR_of {n d : Int} (hd : 0 < d) (h1 : n.natAbs < big) (h2 : d.natAbs < big) : IsR (rnum n d) (rden n d) :=
  ⟨Nat.lt_of_le_of_lt (rnum_le hd) h1, Nat.lt_of_le_of_lt (rden_le hd) h2, by unfold RatOk; rw [decide_eq_true (rden_pos hd), decide_eq_true (rgcd hd)]; rfl⟩
theorem rnum_scale {n d c : Int} (hc : 0 < c) (hd : 0 < d) : rnum (n * c) (d * c) = rnum n d := by
  have hdc : 0 < d * c := Int.mul_pos hd hc
  unfold rnum
  rw [if_neg (by omega), if_neg (by omega), Int.gcd_mul_right, Int.natCast_mul, Int.natAbs_of_nonneg (Int.le_of_lt hc)]
  exact Int.mul_ediv_mul_of_pos_left _ _ hc
theorem rden_scale {n d c : Int} (hc : 0 < c) (hd : 0 < d) : rden (n * c) (d * c) = rden n d := by
  have hdc : 0 < d * c := Int.mul_pos hd hc
  unfold rden
  rw [if_neg (by omega), if_neg (by omega), Int.gcd_mul_right, Int.natCast_mul, Int.natAbs_of_nonneg (Int.le_of_lt hc)]
  exact Int.mul_ediv_mul_of_pos_left _ _ hc
theorem rnum_of {n d m e g : Int} (hd : 0 < d) (hg : 0 < g) (h1 : n * g = m) (h2 : d * g = e) : rnum n d = rnum m e := by rw [← h1, ← h2, rnum_scale hg hd]
theorem rden_of {n d m e g : Int} (hd : 0 < d) (hg : 0 < g) (h1 : n * g = m) (h2 : d * g = e) : rden n d = rden m e := by rw [← h1, ← h2, rden_scale hg hd]
theorem cI_scale {x y g : Int} (hg : 0 < g) : cmpI (x * g) (y * g) = cmpI x y := by
  rcases cmpI_cases x y with ⟨h, e⟩ | ⟨h, e⟩ | ⟨h, e⟩
  · rw [e]; unfold cmpI; rw [if_pos (Int.mul_lt_mul_of_pos_right h hg)]
  · rw [e, h]; unfold cmpI; rw [if_neg (by omega), if_neg (by omega)]
  · rw [e]; unfold cmpI
    have := Int.mul_lt_mul_of_pos_right h hg
    rw [if_neg (by omega), if_pos this]
theorem cmpQ_left' {n d m e : Int} (hd : 0 < d) : cmpQ (rnum n d) (rden n d) m e = cmpQ n d m e := by
  unfold cmpQ
  rw [← cI_scale (gcd_pos' (n := n) hd)]
  congr 1
  · rw [Int.mul_right_comm, rnum_mul hd]
  · rw [Int.mul_assoc, rden_mul hd]
theorem cmpQ_right' {n d m e : Int} (he : 0 < e) : cmpQ n d (rnum m e) (rden m e) = cmpQ n d m e := by
  unfold cmpQ
  rw [← cI_scale (gcd_pos' (n := m) he)]
  congr 1
  · rw [Int.mul_assoc, rden_mul he]
  · rw [Int.mul_right_comm, rnum_mul he]
theorem cI_nonpos {x y : Int} : cmpI x y ≤ 0 ↔ x ≤ y := by
  rcases cmpI_cases x y with ⟨h, e⟩ | ⟨h, e⟩ | ⟨h, e⟩ <;> rw [e] <;> constructor <;> intro <;> omega
theorem cI_nonneg {x y : Int} : 0 ≤ cmpI x y ↔ y ≤ x := by
  rcases cmpI_cases x y with ⟨h, e⟩ | ⟨h, e⟩ | ⟨h, e⟩ <;> rw [e] <;> constructor <;> intro <;> omega
theorem cI_neg {x y : Int} : cmpI x y < 0 ↔ x < y := by
  rcases cmpI_cases x y with ⟨h, e⟩ | ⟨h, e⟩ | ⟨h, e⟩ <;> rw [e] <;> constructor <;> intro <;> omega
theorem cI_pos {x y : Int} : 0 < cmpI x y ↔ y < x := by
  rcases cmpI_cases x y with ⟨h, e⟩ | ⟨h, e⟩ | ⟨h, e⟩ <;> rw [e] <;> constructor <;> intro <;> omega
theorem rdiv_eq {n d : Int} (m : Int) (hd : 0 < d) : rnum n d * m / rden n d = n * m / d := by
  have h := Int.mul_ediv_mul_of_pos_left (rnum n d * m) (rden n d) (gcd_pos' (n := n) hd)
  rw [rden_mul hd, Int.mul_right_comm, rnum_mul hd] at h
  exact h.symm
theorem emod_scale {x y g : Int} (hg : 0 < g) : x * g % (y * g) = x % y * g := by
  rw [Int.mul_comm x g, Int.mul_comm y g, Int.mul_emod_mul_of_pos _ _ hg, Int.mul_comm]
theorem rmod_eq {n d : Int} (m : Int) (hd : 0 < d) : rnum n d * m % rden n d = 0 ↔ n * m % d = 0 := by
  have h1 := gcd_pos' (n := n) hd
  have h := emod_scale (x := rnum n d * m) (y := rden n d) h1
  rw [rden_mul hd, Int.mul_right_comm, rnum_mul hd] at h
  rw [h]
  constructor
  · intro g; rw [g, Int.zero_mul]
  · intro g
    rcases Int.mul_eq_zero.1 g with g | g
    · exact g
    · omega
theorem grid_dn {n d : Int} (m : Int) (hd : 0 < d) : gridN false (rnum n d) (rden n d) m = n * m / d := by
  unfold gridN
  rw [Bool.false_and, if_neg (by decide)]
  exact rdiv_eq m hd
theorem grid_up {n d : Int} (m : Int) (hd : 0 < d) : gridN true (rnum n d) (rden n d) m = cdv (n * m) d := by
  unfold gridN cdv
  rw [Bool.true_and, rdiv_eq m hd]
  by_cases h : n * m % d = 0
  · rw [if_pos h, if_neg (by rw [decide_eq_true ((rmod_eq m hd).2 h)]; decide)]
  · rw [if_neg h, if_pos (by rw [decide_eq_false (fun g => h ((rmod_eq m hd).1 g))]; rfl)]
theorem tens_pos (k : Nat) : (0 : Int) < ((10 ^ k : Nat) : Int) := by have := ten_pos k; omega
theorem ediv_tens {k p : Nat} (h : p ≤ k) (x : Int) : x * ((10 ^ p : Nat) : Int) / ((10 ^ k : Nat) : Int) = x / ((10 ^ (k - p) : Nat) : Int) := by
  have e : ((10 ^ k : Nat) : Int) = ((10 ^ (k - p) : Nat) : Int) * ((10 ^ p : Nat) : Int) := by rw [← Int.natCast_mul, ← Nat.pow_add, Nat.sub_add_cancel h]
  rw [e]
  exact Int.mul_ediv_mul_of_pos_left _ _ (tens_pos p)
theorem cdv_tens {k p : Nat} (h : p ≤ k) (x : Int) : cdv (x * ((10 ^ p : Nat) : Int)) ((10 ^ k : Nat) : Int) = cdv x ((10 ^ (k - p) : Nat) : Int) := by
  have e : ((10 ^ k : Nat) : Int) = ((10 ^ (k - p) : Nat) : Int) * ((10 ^ p : Nat) : Int) := by rw [← Int.natCast_mul, ← Nat.pow_add, Nat.sub_add_cancel h]
  unfold cdv
  rw [ediv_tens h, e, emod_scale (tens_pos p)]
  by_cases g : x % ((10 ^ (k - p) : Nat) : Int) = 0
  · rw [if_pos g, if_pos (by rw [g, Int.zero_mul])]
  · rw [if_neg g, if_neg]
    intro h'
    rcases Int.mul_eq_zero.1 h' with h' | h'
    · exact g h'
    · have := tens_pos p; omega
theorem ediv_natAbs (x d : Int) (hd : 0 < d) : (x / d).natAbs ≤ x.natAbs + 1 := by
  have h1 := Int.mul_ediv_add_emod x d
  have h2 := Int.emod_nonneg x (show d ≠ 0 by omega)
  have h3 := Int.emod_lt_of_pos x hd
  rcases Int.lt_or_le x 0 with hx | hx
  · have h4 : x / d < 0 := Int.ediv_neg_of_neg_of_pos hx hd
    have h5 : x - 1 ≤ x / d := by
      have : d * (x / d) ≤ x / d := by
        have := Int.mul_le_mul_of_nonpos_right (show 1 ≤ d by omega) (show x / d ≤ 0 by omega)
        rw [Int.one_mul] at this; exact this
      have h7 : x + 1 - d ≤ d * (x / d) := by omega
      rcases Int.lt_or_le (x / d) (x - 1) with g | g
      · have h8 := Int.mul_le_mul_of_nonneg_left (show x / d ≤ x - 2 by omega) (show 0 ≤ d by omega)
        have h9 : d * (x - 2) ≤ x - 2 + (1 - d) * 2 := by
          have : (d - 1) * x ≤ 0 := Int.mul_nonpos_of_nonneg_of_nonpos (by omega) (by omega)
          have e : d * (x - 2) = (d - 1) * x + x - d * 2 := by rw [Int.sub_mul, Int.mul_sub, Int.one_mul]; omega
          rw [e]; omega
        omega
      · exact g
    omega
  · have h4 : 0 ≤ x / d := Int.ediv_nonneg hx (Int.le_of_lt hd)
    have h5 : x / d ≤ x := Int.ediv_le_self _ hx
    omega
theorem cdv_natAbs (x d : Int) (hd : 0 < d) : (cdv x d).natAbs ≤ x.natAbs + 2 := by
  have := ediv_natAbs x d hd
  unfold cdv
  split <;> omega
theorem abs_mul_le {a b : Int} {A B C : Nat} (ha : a.natAbs ≤ A) (hb : b.natAbs ≤ B) (h : Nat.ble (A * B) C = true) : (a * b).natAbs ≤ C := by
  rw [Int.natAbs_mul]
  exact Nat.le_trans (Nat.mul_le_mul ha hb) (Nat.le_of_ble_eq_true h)
theorem abs_sub_le {a b : Int} {A : Nat} (ha : a.natAbs ≤ A) (hb : b.natAbs ≤ A) : (a - b).natAbs ≤ 2 * A := by omega
theorem lt_big {n A : Nat} (h : n ≤ A) (hA : Nat.blt A big = true) : n < big := Nat.lt_of_le_of_lt h (by simpa [Nat.blt_eq] using hA)
def gC (p : Nat) (L : Int) : Int × Int := (rnum L ((10 ^ p : Nat) : Int), rden L ((10 ^ p : Nat) : Int))
theorem gC_isR {p : Nat} {L : Int} (hp : p ≤ 12) (hL : L.natAbs ≤ 10 ^ 152) : IsR (gC p L).1 (gC p L).2 :=
  isR_of (tens_pos p) (lt_big hL (by decide +kernel)) (by rw [Int.natAbs_natCast]; exact lt_big (Nat.pow_le_pow_right (by omega) hp) (by decide +kernel))
theorem cell_ev {k p : Nat} {b : Int × Int} {L U : Int} (hk : k ≤ 60) (hp : p ≤ 12) (hpk : p ≤ k) (hle : b.1 ≤ b.2) (h1 : b.1.natAbs ≤ 10 ^ 150) (h2 : b.2.natAbs ≤ 10 ^ 150)
    (hL : L = b.1 / ((10 ^ (k - p) : Nat) : Int)) (hU : U = cdv b.2 ((10 ^ (k - p) : Nat) : Int)) (hLU : L ≤ U) (hw : U ≤ L + 1) :
    CellOk k p b ∧ pCl k p b = gC p L ∧ pCh k p b = gC p U := by
  have hT := tens_pos p
  have hTn : ((10 ^ p : Nat) : Int).natAbs ≤ 10 ^ 12 := by rw [Int.natAbs_natCast]; exact Nat.pow_le_pow_right (by omega) hp
  have hKn : ((10 ^ k : Nat) : Int).natAbs ≤ 10 ^ 60 := by rw [Int.natAbs_natCast]; exact Nat.pow_le_pow_right (by omega) hk
  have hLn : L.natAbs ≤ 10 ^ 151 := by rw [hL]; exact Nat.le_trans (Nat.le_trans (ediv_natAbs _ _ (tens_pos _)) (Nat.succ_le_succ h1)) (Nat.le_of_ble_eq_true (by decide +kernel))
  have hUn : U.natAbs ≤ 10 ^ 151 := by rw [hU]; exact Nat.le_trans (Nat.le_trans (cdv_natAbs _ _ (tens_pos _)) (Nat.add_le_add_right h2 2)) (Nat.le_of_ble_eq_true (by decide +kernel))
  have e1 : pCl k p b = gC p L := by
    unfold pCl pMk gnum gden gC
    dsimp only
    rw [grid_dn _ (tens_pos k), ediv_tens hpk, ← hL]
  have e2 : pCh k p b = gC p U := by
    unfold pCh pMk gnum gden gC
    dsimp only
    rw [grid_up _ (tens_pos k), cdv_tens hpk, ← hU]
  have iL : IsR (gC p L).1 (gC p L).2 := gC_isR hp (Nat.le_trans hLn (Nat.le_of_ble_eq_true (by decide +kernel)))
  have iU : IsR (gC p U).1 (gC p U).2 := gC_isR hp (Nat.le_trans hUn (Nat.le_of_ble_eq_true (by decide +kernel)))
  have m1 : IsR (pMk k b.1).1 (pMk k b.1).2 := isR_of (tens_pos k) (lt_big h1 (by decide +kernel)) (lt_big hKn (by decide +kernel))
  have m2 : IsR (pMk k b.2).1 (pMk k b.2).2 := isR_of (tens_pos k) (lt_big h2 (by decide +kernel)) (lt_big hKn (by decide +kernel))
  have nL := rnum_mul (n := L) hT
  have dL := rden_mul (n := L) hT
  have gL := gcd_pos' (n := L) hT
  have pL := rden_pos (n := L) hT
  have nU := rnum_mul (n := U) hT
  have dU := rden_mul (n := U) hT
  have gU := gcd_pos' (n := U) hT
  have pU := rden_pos (n := U) hT
  have bnL : (gC p L).1.natAbs ≤ 10 ^ 151 := Nat.le_trans (rnum_le hT) hLn
  have bdL : (gC p L).2.natAbs ≤ 10 ^ 12 := Nat.le_trans (rden_le hT) hTn
  have bnU : (gC p U).1.natAbs ≤ 10 ^ 151 := Nat.le_trans (rnum_le hT) hUn
  have bdU : (gC p U).2.natAbs ≤ 10 ^ 12 := Nat.le_trans (rden_le hT) hTn
  have q1 : ((gC p U).1 * (gC p L).2).natAbs ≤ 10 ^ 163 := abs_mul_le bnU bdL (by decide +kernel)
  have q2 : ((gC p L).1 * (gC p U).2).natAbs ≤ 10 ^ 163 := abs_mul_le bnL bdU (by decide +kernel)
  have q3 : ((gC p U).2 * (gC p L).2).natAbs ≤ 10 ^ 24 := abs_mul_le bdU bdL (by decide +kernel)
  have q4 : ((gC p U).1 * (gC p L).2 - (gC p L).1 * (gC p U).2).natAbs ≤ 2 * 10 ^ 163 := abs_sub_le q1 q2
  have q5 : 0 < (gC p U).2 * (gC p L).2 := Int.mul_pos pU pL
  refine ⟨⟨by omega, ⟨lt_big h1 (by decide +kernel), lt_big h2 (by decide +kernel)⟩, ⟨⟨m1, m2, ?_⟩, by omega, ?_, ?_, ?_⟩, ?_, ?_, ?_, ?_, ?_⟩, e1, e2⟩
  · show cmpQ (rnum b.1 ((10 ^ k : Nat) : Int)) (rden b.1 ((10 ^ k : Nat) : Int)) (rnum b.2 ((10 ^ k : Nat) : Int)) (rden b.2 ((10 ^ k : Nat) : Int)) ≤ 0
    rw [cmpQ_left' (tens_pos k), cmpQ_right' (tens_pos k)]
    exact cI_nonpos.2 (Int.mul_le_mul_of_nonneg_right hle (Int.le_of_lt (tens_pos k)))
  · exact lt_big (abs_mul_le (C := 10 ^ 162) (Nat.le_trans (rnum_le (tens_pos k)) h1) hTn (by decide +kernel)) (by decide +kernel)
  · exact lt_big (abs_mul_le (C := 10 ^ 162) (Nat.le_trans (rnum_le (tens_pos k)) h2) hTn (by decide +kernel)) (by decide +kernel)
  · have h3 := abs_mul_le (C := 10 ^ 162) (Nat.le_trans (rnum_le (tens_pos k)) h2) hTn (by decide +kernel)
    have h4 := ediv_natAbs ((pMk k b.2).1 * ((10 ^ p : Nat) : Int)) (pMk k b.2).2 (rden_pos (tens_pos k))
    refine lt_big (A := 10 ^ 162 + 2) ?_ (by decide +kernel)
    have h5 : ((pMk k b.2).1 * ((10 ^ p : Nat) : Int)).natAbs ≤ 10 ^ 162 := h3
    omega
  · rw [e1, e2]
    refine ⟨iL, iU, ?_⟩
    show cmpQ (rnum L ((10 ^ p : Nat) : Int)) (rden L ((10 ^ p : Nat) : Int)) (rnum U ((10 ^ p : Nat) : Int)) (rden U ((10 ^ p : Nat) : Int)) ≤ 0
    rw [cmpQ_left' hT, cmpQ_right' hT]
    exact cI_nonpos.2 (Int.mul_le_mul_of_nonneg_right hLU (Int.le_of_lt hT))
  · rw [e1, e2]
    exact ⟨iU, iL, lt_big q1 (by decide +kernel), lt_big q2 (by decide +kernel), lt_big q4 (by decide +kernel), lt_big q3 (by decide +kernel)⟩
  · rw [e1, e2]
    exact isR_of q5 (lt_big q4 (by decide +kernel)) (lt_big q3 (by decide +kernel))
  · refine ⟨by decide +kernel, lt_big hTn (by decide +kernel), ?_⟩
    unfold RatOk
    rw [decide_eq_true hT, decide_eq_true (Int.one_gcd)]
    rfl
  · rw [e1, e2]
    show cmpQ (rnum ((gC p U).1 * (gC p L).2 - (gC p L).1 * (gC p U).2) ((gC p U).2 * (gC p L).2)) (rden ((gC p U).1 * (gC p L).2 - (gC p L).1 * (gC p U).2) ((gC p U).2 * (gC p L).2)) 1 ((10 ^ p : Nat) : Int) ≤ 0
    rw [cmpQ_left' q5]
    refine cI_nonpos.2 ?_
    show (rnum U ((10 ^ p : Nat) : Int) * rden L ((10 ^ p : Nat) : Int) - rnum L ((10 ^ p : Nat) : Int) * rden U ((10 ^ p : Nat) : Int)) * ((10 ^ p : Nat) : Int) ≤ 1 * (rden U ((10 ^ p : Nat) : Int) * rden L ((10 ^ p : Nat) : Int))
    generalize ((10 ^ p : Nat) : Int) = T at *
    generalize rnum U T = a at *
    generalize rden U T = c at *
    generalize rnum L T = e at *
    generalize rden L T = f at *
    generalize ((Int.gcd U T : Nat) : Int) = g at *
    generalize ((Int.gcd L T : Nat) : Int) = j at *
    have hgj : 0 < g * j := Int.mul_pos gU gL
    refine Int.le_of_mul_le_mul_right ?_ hgj
    have l1 : (a * f - e * c) * T * (g * j) = (U - L) * (T * T) := by
      rw [← nU, ← nL]
      have : T * T = (c * g) * (f * j) := by rw [dU, dL]
      grind
    have l2 : 1 * (c * f) * (g * j) = T * T := by
      have : T * T = (c * g) * (f * j) := by rw [dU, dL]
      grind
    rw [l1, l2]
    have h3 := Int.mul_le_mul_of_nonneg_right (show U - L ≤ 1 by omega) (Int.mul_nonneg (Int.le_of_lt hT) (Int.le_of_lt hT))
    rw [Int.one_mul] at h3
    exact h3
end Go.Proofs.YtppbhnhmaocdnaaGreatDoor
namespace Go.Proofs.YtppbhnhmaocdnaaGreatDoor

theorem dbl_eq {n d : Int} (hd : 0 < d) (hr : rnum n d = n) (hs : rden n d = d) (i : Nat) : dblQ (n, d) i = (rnum n (d * 2 ^ i), rden n (d * 2 ^ i)) := by
  induction i with
  | zero => show (n, d) = _; rw [Int.pow_zero, Int.mul_one, hr, hs]
  | succ i ih =>
    show qDiv (dblQ (n, d) i) (2, 1) = _
    rw [ih]
    unfold qDiv
    have h2 : (0 : Int) < 2 ^ i := Int.pow_pos (by omega)
    have hp : 0 < d * 2 ^ i := Int.mul_pos hd h2
    have hg := gcd_pos' (n := n) hp
    have e1 := rnum_mul (n := n) hp
    have e2 := rden_mul (n := n) hp
    have hpos := rden_pos (n := n) hp
    generalize ((Int.gcd n (d * 2 ^ i) : Nat) : Int) = g at *
    dsimp only
    have k1 : rnum n (d * 2 ^ i) * 1 * g = n := by rw [Int.mul_one]; exact e1
    have k2 : rden n (d * 2 ^ i) * 2 * g = d * 2 ^ (i + 1) := by
      rw [Int.mul_right_comm, e2, Int.mul_assoc, ← Int.pow_succ]
    rw [rnum_of (by omega) hg k1 k2, rden_of (by omega) hg k1 k2]
noncomputable def dblL (n : Nat) (fuel : Nat) : Nat → Nat → Option (Nat × Nat) :=
  Nat.rec (motive := fun _ => Nat → Nat → Option (Nat × Nat)) (fun _ _ => none)
    (fun _ ih D e => Bool.rec (motive := fun _ => Option (Nat × Nat)) (ih (Nat.succ D) (Nat.mul e 2)) (some (D, e)) (Nat.ble n (Nat.mul 2 e))) fuel
theorem dblL_succ (n fuel D e : Nat) : dblL n (fuel + 1) D e = if n ≤ 2 * e then some (D, e) else dblL n fuel (D + 1) (e * 2) := by
  show Bool.rec (motive := fun _ => Option (Nat × Nat)) (dblL n fuel (D + 1) (e * 2)) (some (D, e)) (Nat.ble n (2 * e)) = _
  cases h : Nat.ble n (2 * e) with
  | true => rw [if_pos (Nat.le_of_ble_eq_true h)]
  | false => rw [if_neg (fun g => by rw [Nat.ble_eq_true_of_le g] at h; cases h)]
theorem dblL_spec {n d : Nat} {r : Nat × Nat} : ∀ fuel D, dblL n fuel D (d * 2 ^ D) = some r →
    D ≤ r.1 ∧ r.1 ≤ D + fuel ∧ r.2 = d * 2 ^ r.1 ∧ n ≤ 2 * (d * 2 ^ r.1) ∧ ∀ i, D ≤ i → i < r.1 → 2 * (d * 2 ^ i) < n := by
  intro fuel
  induction fuel with
  | zero => intro D h; exact absurd h (by show ¬ (none = some r); exact fun h => by cases h)
  | succ fuel ih =>
    intro D h
    rw [dblL_succ] at h
    by_cases hs : n ≤ 2 * (d * 2 ^ D)
    · rw [if_pos hs] at h
      injection h with h
      subst h
      exact ⟨Nat.le_refl _, by omega, rfl, hs, fun i h1 h2 => absurd h2 (by simp only; omega)⟩
    · rw [if_neg hs, Nat.mul_assoc, ← Nat.pow_succ] at h
      obtain ⟨h1, h2, h3, h4, h5⟩ := ih (D + 1) h
      refine ⟨by omega, by omega, h3, h4, fun i k1 k2 => ?_⟩
      rcases Nat.lt_or_ge D i with g | g
      · exact h5 i g k2
      · obtain rfl : i = D := by omega
        omega

noncomputable def nLog (k n d hl hh : Nat) : Option (Nat × Nat) :=
  match dblL n 60 0 d with
  | none => none
  | some (D, e) =>
    match nArt k (Nat.div (Nat.mul (Nat.sub n e) (10 ^ k)) (Nat.add n e)) (Nat.div (Nat.add (Nat.mul (Nat.sub n e) (10 ^ k)) (Nat.sub (Nat.add n e) 1)) (Nat.add n e)) with
    | none => none
    | some (a, b) => some (Nat.add a (Nat.mul hl D), Nat.add b (Nat.mul hh D))

def nOf (k n d : Nat) : Nat × Nat := (n * 10 ^ k / d, cdN (n * 10 ^ k) d)
theorem pOf_ip (k n d : Nat) (hd : 0 < d) : pOf k (n : Int) (d : Int) = ip (nOf k n d) := by
  unfold pOf nOf ip
  dsimp only
  rw [← Int.natCast_mul, cdv_cast _ _ hd, Int.natCast_ediv]
theorem pOf_red (k : Nat) (n d : Int) (hd : 0 < d) : pOf k (rnum n d) (rden n d) = pOf k n d := by
  unfold pOf
  rw [rdiv_eq _ hd]
  congr 1
  unfold cdv
  rw [rdiv_eq _ hd]
  by_cases h : n * ((10 ^ k : Nat) : Int) % d = 0
  · rw [if_pos h, if_pos ((rmod_eq _ hd).2 h)]
  · rw [if_neg h, if_neg (fun g => h ((rmod_eq _ hd).1 g))]
theorem nOf_le (k n d : Nat) : (nOf k n d).1 ≤ (nOf k n d).2 := div_le_cdN _ (Nat.le_refl _)
theorem nOf_bd {k n d c : Nat} (hd : 0 < d) (h : n ≤ c * d) : (nOf k n d).2 ≤ c * 10 ^ k := by
  refine (cdN_le hd).2 ?_
  rw [Nat.mul_right_comm]
  exact Nat.mul_le_mul_right _ h
theorem nat_abs_le {n A : Nat} (h : n ≤ A) (hA : Nat.blt A big = true) : (n : Int).natAbs < big := by rw [Int.natAbs_natCast]; exact lt_big h hA
theorem ofOk_nat {k n d : Nat} (hk : k ≤ 55) (hd : 0 < d) (hn : n ≤ 10 ^ 40) (hd2 : d ≤ 10 ^ 40) : OfOk k (n : Int) (d : Int) := by
  have ht := tens hk
  have h1 : n * 10 ^ k ≤ 10 ^ 40 * 10 ^ 55 := Nat.mul_le_mul hn ht
  refine ⟨by omega, nat_abs_le hn (by decide +kernel), nat_abs_le hd2 (by decide +kernel), by omega, ?_, ?_⟩
  · rw [← Int.natCast_mul]; exact nat_abs_le h1 (by decide +kernel)
  · rw [← Int.natCast_mul, ← Int.natCast_ediv, show ((n * 10 ^ k / d : Nat) : Int) + 1 = ((n * 10 ^ k / d + 1 : Nat) : Int) by push_cast; rfl]
    refine nat_abs_le (A := 10 ^ 40 * 10 ^ 55 + 1) ?_ (by decide +kernel)
    have := Nat.div_le_self (n * 10 ^ k) d
    omega
theorem ofOk_red {k : Nat} {n d : Nat} (hk : k ≤ 55) (hd : 0 < d) (hn : n ≤ 10 ^ 40) (hd2 : d ≤ 10 ^ 40) : OfOk k (rnum n d) (rden n d) := by
  have hd' : (0 : Int) < d := by omega
  have ht := tens hk
  have a1 : (rnum n d).natAbs ≤ 10 ^ 40 := Nat.le_trans (rnum_le hd') (by rw [Int.natAbs_natCast]; exact hn)
  have a2 : (rden n d).natAbs ≤ 10 ^ 40 := Nat.le_trans (rden_le hd') (by rw [Int.natAbs_natCast]; exact hd2)
  have a3 : (rnum n d * ((10 ^ k : Nat) : Int)).natAbs ≤ 10 ^ 95 := abs_mul_le a1 (by rw [Int.natAbs_natCast]; exact ht) (by decide +kernel)
  refine ⟨by omega, lt_big a1 (by decide +kernel), lt_big a2 (by decide +kernel), by have := rden_pos (n := n) hd'; omega, lt_big a3 (by decide +kernel), ?_⟩
  have := ediv_natAbs (rnum n d * ((10 ^ k : Nat) : Int)) (rden n d) (rden_pos hd')
  exact lt_big (A := 10 ^ 95 + 2) (by omega) (by decide +kernel)

theorem natQ {n d : Nat} (hd : 0 < d) (hn : n ≤ 10 ^ 40) (hd2 : d ≤ 10 ^ 40) : IsR (rnum n d) (rden n d) :=
  isR_of (by omega) (nat_abs_le hn (by decide +kernel)) (nat_abs_le hd2 (by decide +kernel))

theorem log_ev {k n d hl hh : Nat} {r : Nat × Nat} (hk : k ≤ 55) (hd : 0 < d) (hdn : d ≤ n) (hn : n ≤ 10 ^ 14) (hr : rnum n d = n) (hs : rden n d = d)
    (h3 : nArt k (10 ^ k / 3) ((10 ^ k + 2) / 3) = some (hl, hh)) (h : nLog k n d hl hh = some r) :
    ∃ D M1 M2, LogOk k ((n : Int), (d : Int)) D M1 M2 ∧ pLog k ((n : Int), (d : Int)) D M1 M2 = ip r ∧ r.1 ≤ r.2 ∧ r.2 ≤ 10 ^ 70 := by
  have ht := tens hk
  have hd' : (0 : Int) < d := by omega
  unfold nLog at h
  cases hD : dblL n 60 0 d with
  | none => rw [hD] at h; cases h
  | some q =>
    obtain ⟨D, e⟩ := q
    rw [hD] at h
    dsimp only at h
    obtain ⟨-, g2, g3, g4, g5⟩ := dblL_spec (d := d) 60 0 (by rw [Nat.pow_zero, Nat.mul_one]; exact hD)
    dsimp only at g2 g3 g4 g5
    have hp2 : ∀ i, i ≤ D → d * 2 ^ i ≤ 10 ^ 14 * 2 ^ 60 := fun i hi => Nat.mul_le_mul (Nat.le_trans hdn hn) (Nat.pow_le_pow_right (by omega) (by omega))
    have hp40 : ∀ i, i ≤ D → d * 2 ^ i ≤ 10 ^ 33 := fun i hi => Nat.le_trans (hp2 i hi) (Nat.le_of_ble_eq_true (by decide +kernel))
    have hp0 : ∀ i, 0 < d * 2 ^ i := fun i => Nat.mul_pos hd (Nat.pow_pos (by omega))
    have hn40 : n ≤ 10 ^ 33 := Nat.le_trans hn (Nat.le_of_ble_eq_true (by decide +kernel))
    have h3340 : 10 ^ 33 ≤ 10 ^ 40 := Nat.le_of_ble_eq_true (by decide +kernel)
    have hdb : ∀ i, dblQ ((n : Int), (d : Int)) i = (rnum (n : Int) ((d * 2 ^ i : Nat) : Int), rden (n : Int) ((d * 2 ^ i : Nat) : Int)) := fun i => by
      rw [dbl_eq hd' hr hs, show ((d * 2 ^ i : Nat) : Int) = (d : Int) * 2 ^ i by push_cast; rfl]
    have hq : ∀ i, i ≤ D → IsQ (dblQ ((n : Int), (d : Int)) i) := fun i hi => by rw [hdb]; exact natQ (hp0 i) (by omega) (by have := hp40 i hi; omega)
    -- e ≤ n
    have hen : e ≤ n := by
      rw [g3]
      cases D with
      | zero => rw [Nat.pow_zero, Nat.mul_one]; exact hdn
      | succ D => have := g5 D (Nat.zero_le _) (Nat.lt_succ_self D); rw [Nat.pow_succ, ← Nat.mul_assoc]; omega
    have he0 : 0 < e := by rw [g3]; exact hp0 D
    have he33 : e ≤ 10 ^ 33 := by rw [g3]; exact hp40 D (Nat.le_refl _)
    -- the argument of artanh
    have hx : dblQ ((n : Int), (d : Int)) D = (rnum (n : Int) (e : Int), rden (n : Int) (e : Int)) := by rw [hdb, ← g3]
    have hsub : qSub (dblQ ((n : Int), (d : Int)) D) (1, 1) = (rnum ((n - e : Nat) : Int) (e : Int), rden ((n - e : Nat) : Int) (e : Int)) := by
      rw [hx]
      unfold qSub
      dsimp only
      have e1 := rnum_mul (n := (n : Int)) (d := (e : Int)) (by omega)
      have e2 := rden_mul (n := (n : Int)) (d := (e : Int)) (by omega)
      have gp := gcd_pos' (n := (n : Int)) (d := (e : Int)) (by omega)
      have dp := rden_pos (n := (n : Int)) (d := (e : Int)) (by omega)
      generalize ((Int.gcd (n : Int) (e : Int) : Nat) : Int) = g at *
      have k1 : (rnum (n : Int) (e : Int) * 1 - 1 * rden (n : Int) (e : Int)) * g = ((n - e : Nat) : Int) := by
        rw [Int.mul_one, Int.one_mul, Int.sub_mul, e1, e2]; omega
      have k2 : rden (n : Int) (e : Int) * 1 * g = (e : Int) := by rw [Int.mul_one, e2]
      rw [rnum_of (by omega) gp k1 k2, rden_of (by omega) gp k1 k2]
    have hadd : qAdd (dblQ ((n : Int), (d : Int)) D) (1, 1) = (rnum ((n + e : Nat) : Int) (e : Int), rden ((n + e : Nat) : Int) (e : Int)) := by
      rw [hx]
      unfold qAdd
      dsimp only
      have e1 := rnum_mul (n := (n : Int)) (d := (e : Int)) (by omega)
      have e2 := rden_mul (n := (n : Int)) (d := (e : Int)) (by omega)
      have gp := gcd_pos' (n := (n : Int)) (d := (e : Int)) (by omega)
      have dp := rden_pos (n := (n : Int)) (d := (e : Int)) (by omega)
      generalize ((Int.gcd (n : Int) (e : Int) : Nat) : Int) = g at *
      have k1 : (rnum (n : Int) (e : Int) * 1 + 1 * rden (n : Int) (e : Int)) * g = ((n + e : Nat) : Int) := by
        rw [Int.mul_one, Int.one_mul, Int.add_mul, e1, e2]; omega
      have k2 : rden (n : Int) (e : Int) * 1 * g = (e : Int) := by rw [Int.mul_one, e2]
      rw [rnum_of (by omega) gp k1 k2, rden_of (by omega) gp k1 k2]
    have hla : logArg ((n : Int), (d : Int)) D = (rnum ((n - e : Nat) : Int) ((n + e : Nat) : Int), rden ((n - e : Nat) : Int) ((n + e : Nat) : Int)) := by
      unfold logArg
      rw [hsub, hadd]
      unfold qDiv
      dsimp only
      have a1 := rnum_mul (n := ((n - e : Nat) : Int)) (d := (e : Int)) (by omega)
      have a2 := rden_mul (n := ((n - e : Nat) : Int)) (d := (e : Int)) (by omega)
      have ag := gcd_pos' (n := ((n - e : Nat) : Int)) (d := (e : Int)) (by omega)
      have ap := rden_pos (n := ((n - e : Nat) : Int)) (d := (e : Int)) (by omega)
      have b1 := rnum_mul (n := ((n + e : Nat) : Int)) (d := (e : Int)) (by omega)
      have b2 := rden_mul (n := ((n + e : Nat) : Int)) (d := (e : Int)) (by omega)
      have bg := gcd_pos' (n := ((n + e : Nat) : Int)) (d := (e : Int)) (by omega)
      have bp := rden_pos (n := ((n + e : Nat) : Int)) (d := (e : Int)) (by omega)
      generalize ((Int.gcd ((n - e : Nat) : Int) (e : Int) : Nat) : Int) = g at *
      generalize ((Int.gcd ((n + e : Nat) : Int) (e : Int) : Nat) : Int) = j at *
      generalize rnum ((n - e : Nat) : Int) (e : Int) = A at *
      generalize rden ((n - e : Nat) : Int) (e : Int) = B at *
      generalize hC : rnum ((n + e : Nat) : Int) (e : Int) = C at *
      generalize rden ((n + e : Nat) : Int) (e : Int) = E at *
      have hCp : 0 < C := by
        rcases Int.lt_or_le 0 C with h | h
        · exact h
        · have := Int.mul_le_mul_of_nonneg_right h (Int.le_of_lt bg)
          rw [b1, Int.zero_mul] at this
          omega
      have hep : (0 : Int) < e := by omega
      -- (A*E) / (B*C) = ((n-e)*e) / ((n+e)*e) up to g*j
      have k1 : A * E * (g * j) = ((n - e : Nat) : Int) * (e : Int) := by
        have : A * E * (g * j) = (A * g) * (E * j) := by grind
        rw [this, a1, b2]
      have k2 : B * C * (g * j) = ((n + e : Nat) : Int) * (e : Int) := by
        have : B * C * (g * j) = (C * j) * (B * g) := by grind
        rw [this, a2, b1]
      have hgj : 0 < g * j := Int.mul_pos ag bg
      have hne : (0 : Int) < ((n + e : Nat) : Int) := by omega
      rw [rnum_of (Int.mul_pos ap hCp) hgj k1 k2, rden_of (Int.mul_pos ap hCp) hgj k1 k2, rnum_scale hep hne, rden_scale hep hne]
    have hof : pOf k (logArg ((n : Int), (d : Int)) D).1 (logArg ((n : Int), (d : Int)) D).2 = ip (nOf k (n - e) (n + e)) := by
      rw [hla]
      show pOf k (rnum ((n - e : Nat) : Int) ((n + e : Nat) : Int)) (rden ((n - e : Nat) : Int) ((n + e : Nat) : Int)) = _
      rw [pOf_red k _ _ (by omega)]
      exact pOf_ip k (n - e) (n + e) (by omega)
    have hbd : (nOf k (n - e) (n + e)).2 ≤ 10 ^ k := by have := nOf_bd (k := k) (n := n - e) (d := n + e) (c := 1) (by omega) (by omega); rw [Nat.one_mul] at this; exact this
    cases hA : nArt k (Nat.div (Nat.mul (Nat.sub n e) (10 ^ k)) (Nat.add n e)) (Nat.div (Nat.add (Nat.mul (Nat.sub n e) (10 ^ k)) (Nat.sub (Nat.add n e) 1)) (Nat.add n e)) with
    | none => rw [hA] at h; cases h
    | some s =>
      rw [hA] at h
      obtain ⟨a, b⟩ := s
      dsimp only at h
      injection h with h
      obtain ⟨M2, A1, A2, A3, A4⟩ := art_ev (tl := (nOf k (n - e) (n + e)).1) (th := (nOf k (n - e) (n + e)).2) hk (nOf_le _ _ _) hbd hA
      have h3' : nArt k (nOf k 1 3).1 (nOf k 1 3).2 = some (hl, hh) := by
        have e1 : (nOf k 1 3).1 = 10 ^ k / 3 := by show 1 * 10 ^ k / 3 = _; rw [Nat.one_mul]
        have e2 : (nOf k 1 3).2 = (10 ^ k + 2) / 3 := by show (1 * 10 ^ k + (3 - 1)) / 3 = _; rw [Nat.one_mul]
        rw [e1, e2]; exact h3
      have hb3 : (nOf k 1 3).2 ≤ 10 ^ k := by have := nOf_bd (k := k) (n := 1) (d := 3) (c := 1) (by omega) (by omega); rw [Nat.one_mul] at this; exact this
      obtain ⟨M1, B1, B2, B3, B4⟩ := art_ev hk (nOf_le k 1 3) hb3 h3'
      change a ≤ b at A3
      change b ≤ 2000 * (10 ^ k + 1) at A4
      change hl ≤ hh at B3
      change hh ≤ 2000 * (10 ^ k + 1) at B4
      have hof3 : pOf k 1 3 = ip (nOf k 1 3) := pOf_ip k 1 3 (by omega)
      have hby : pBy (ip (hl, hh)) (D : Int) 1 = ip (hl * D, hh * D) := by
        have := pBy_ip (hl, hh) D 1 (by omega)
        unfold nBy cdN at this
        rw [Nat.div_one, Nat.div_one] at this
        exact this
      have hhD : hh * D ≤ 10 ^ 61 := Nat.le_trans (Nat.mul_le_mul (Nat.le_trans B4 (Nat.mul_le_mul_left 2000 (Nat.add_le_add_right ht 1))) (show D ≤ 100 by omega)) (Nat.le_of_ble_eq_true (by decide +kernel))
      have hb : b ≤ 10 ^ 59 := Nat.le_trans (Nat.le_trans A4 (Nat.mul_le_mul_left 2000 (Nat.add_le_add_right ht 1))) (Nat.le_of_ble_eq_true (by decide +kernel))
      have hhb : hh ≤ 10 ^ 59 := Nat.le_trans (Nat.le_trans B4 (Nat.mul_le_mul_left 2000 (Nat.add_le_add_right ht 1))) (Nat.le_of_ble_eq_true (by decide +kernel))
      have hlD : hl * D ≤ hh * D := Nat.mul_le_mul_right D B3
      have hplus : pPlus (ip (a, b)) (ip (hl * D, hh * D)) = ip r := by
        rw [← h]; unfold pPlus ip; dsimp only
        show ((a : Int) + ((hl * D : Nat) : Int), (b : Int) + ((hh * D : Nat) : Int)) = (((a + hl * D : Nat) : Int), ((b + hh * D : Nat) : Int))
        push_cast; rfl
      have hr1 : r.1 ≤ r.2 := by rw [← h]; show a + hl * D ≤ b + hh * D; omega
      have hr2 : r.2 ≤ 10 ^ 70 := by
        rw [← h]; show b + hh * D ≤ _
        exact Nat.le_trans (Nat.add_le_add hb hhD) (Nat.le_of_ble_eq_true (by decide +kernel))
      refine ⟨D, M1, M2, ⟨by omega, by omega, hq, ?_, ?_, ?_, ?_, ?_, ?_, ?_, ?_, ?_, ?_, ?_, ?_, ?_⟩, ?_, hr1, hr2⟩
      · exact ⟨by rw [big_eq]; decide +kernel, by rw [big_eq]; decide +kernel, by decide +kernel⟩
      · intro i hi
        rw [hdb]
        dsimp only
        rw [cmpQ_left' (Int.natCast_pos.2 (hp0 i))]
        refine cI_pos.2 ?_
        have := g5 i (Nat.zero_le _) hi
        omega
      · rw [hdb]
        dsimp only
        rw [cmpQ_left' (Int.natCast_pos.2 (hp0 D))]
        refine cI_nonpos.2 ?_
        omega
      · intro i hi
        have q := hq i (by omega)
        have p := IsR.pos q
        rw [hdb] at q p ⊢
        have b1 : (rnum (n : Int) ((d * 2 ^ i : Nat) : Int)).natAbs ≤ 10 ^ 33 := Nat.le_trans (rnum_le (Int.natCast_pos.2 (hp0 i))) (by rw [Int.natAbs_natCast]; exact hn40)
        have b2 : (rden (n : Int) ((d * 2 ^ i : Nat) : Int)).natAbs ≤ 10 ^ 33 := Nat.le_trans (rden_le (Int.natCast_pos.2 (hp0 i))) (by rw [Int.natAbs_natCast]; exact hp40 i (by omega))
        refine ⟨q, ⟨by rw [big_eq]; decide +kernel, by rw [big_eq]; decide +kernel, by decide +kernel⟩, by show (2 : Int) ≠ 0; omega, ?_, ?_⟩
        · exact lt_big (abs_mul_le (C := 10 ^ 40) b1 (show (1 : Int).natAbs ≤ 1 by decide) (by decide +kernel)) (by decide +kernel)
        · exact lt_big (abs_mul_le (C := 10 ^ 40) b2 (show (2 : Int).natAbs ≤ 2 by decide) (by decide +kernel)) (by decide +kernel)
      · have q := hq D (Nat.le_refl _)
        rw [hx] at q ⊢
        have b1 : (rnum (n : Int) (e : Int)).natAbs ≤ 10 ^ 33 := Nat.le_trans (rnum_le (by omega)) (by rw [Int.natAbs_natCast]; exact hn40)
        have b2 : (rden (n : Int) (e : Int)).natAbs ≤ 10 ^ 33 := Nat.le_trans (rden_le (by omega)) (by rw [Int.natAbs_natCast]; exact he33)
        have c1 : (rnum (n : Int) (e : Int) * 1).natAbs ≤ 10 ^ 34 := abs_mul_le b1 (show (1 : Int).natAbs ≤ 1 by decide) (by decide +kernel)
        have c2 : (1 * rden (n : Int) (e : Int)).natAbs ≤ 10 ^ 34 := abs_mul_le (show (1 : Int).natAbs ≤ 1 by decide) b2 (by decide +kernel)
        have c3 : (rden (n : Int) (e : Int) * 1).natAbs ≤ 10 ^ 34 := abs_mul_le b2 (show (1 : Int).natAbs ≤ 1 by decide) (by decide +kernel)
        exact ⟨q, isR_one, lt_big c1 (by decide +kernel), lt_big c2 (by decide +kernel), lt_big (abs_sub_le c1 c2) (by decide +kernel), lt_big c3 (by decide +kernel)⟩
      · have q := hq D (Nat.le_refl _)
        rw [hx] at q ⊢
        have b1 : (rnum (n : Int) (e : Int)).natAbs ≤ 10 ^ 33 := Nat.le_trans (rnum_le (by omega)) (by rw [Int.natAbs_natCast]; exact hn40)
        have b2 : (rden (n : Int) (e : Int)).natAbs ≤ 10 ^ 33 := Nat.le_trans (rden_le (by omega)) (by rw [Int.natAbs_natCast]; exact he33)
        have c1 : (rnum (n : Int) (e : Int) * 1).natAbs ≤ 10 ^ 34 := abs_mul_le b1 (show (1 : Int).natAbs ≤ 1 by decide) (by decide +kernel)
        have c2 : (1 * rden (n : Int) (e : Int)).natAbs ≤ 10 ^ 34 := abs_mul_le (show (1 : Int).natAbs ≤ 1 by decide) b2 (by decide +kernel)
        have c3 : (rden (n : Int) (e : Int) * 1).natAbs ≤ 10 ^ 34 := abs_mul_le b2 (show (1 : Int).natAbs ≤ 1 by decide) (by decide +kernel)
        have c4 : (rnum (n : Int) (e : Int) * 1 + 1 * rden (n : Int) (e : Int)).natAbs ≤ 2 * 10 ^ 34 := by omega
        exact ⟨q, isR_one, lt_big c1 (by decide +kernel), lt_big c2 (by decide +kernel), lt_big c4 (by decide +kernel), lt_big c3 (by decide +kernel)⟩
      · rw [hsub, hadd]
        have q1 : IsR (rnum ((n - e : Nat) : Int) (e : Int)) (rden ((n - e : Nat) : Int) (e : Int)) := natQ he0 (by omega) (by omega)
        have q2 : IsR (rnum ((n + e : Nat) : Int) (e : Int)) (rden ((n + e : Nat) : Int) (e : Int)) := natQ he0 (by omega) (by omega)
        have hz : rnum ((n + e : Nat) : Int) (e : Int) ≠ 0 := fun hz => by
          have := rnum_mul (n := ((n + e : Nat) : Int)) (d := (e : Int)) (by omega)
          rw [hz, Int.zero_mul] at this
          omega
        have b1 : (rnum ((n - e : Nat) : Int) (e : Int)).natAbs ≤ 10 ^ 34 := Nat.le_trans (rnum_le (by omega)) (by rw [Int.natAbs_natCast]; omega)
        have b2 : (rden ((n - e : Nat) : Int) (e : Int)).natAbs ≤ 10 ^ 34 := Nat.le_trans (rden_le (by omega)) (by rw [Int.natAbs_natCast]; omega)
        have b3 : (rnum ((n + e : Nat) : Int) (e : Int)).natAbs ≤ 10 ^ 34 := Nat.le_trans (rnum_le (by omega)) (by rw [Int.natAbs_natCast]; omega)
        have b4 : (rden ((n + e : Nat) : Int) (e : Int)).natAbs ≤ 10 ^ 34 := Nat.le_trans (rden_le (by omega)) (by rw [Int.natAbs_natCast]; omega)
        exact ⟨q1, q2, hz, lt_big (abs_mul_le (C := 10 ^ 80) b1 b4 (by decide +kernel)) (by decide +kernel), lt_big (abs_mul_le (C := 10 ^ 80) b2 b3 (by decide +kernel)) (by decide +kernel)⟩
      · exact ofOk_nat (n := 1) (d := 3) hk (by omega) (Nat.le_of_ble_eq_true (by decide +kernel)) (Nat.le_of_ble_eq_true (by decide +kernel))
      · rw [hof3]; exact B1
      · rw [hla]
        exact ofOk_red hk (by omega) (by omega) (by omega)
      · rw [hof]; exact A1
      · rw [hof3, B2]
        exact byOk_ip (a := (hl, hh)) (n := D) (d := 1) B3 (by omega) (by omega) (by omega) (saf_of hhb (by decide +kernel)) (saf_of hhD (by decide +kernel))
      · rw [hof, hof3]
        erw [A2, B2, hby]
        refine ⟨fit_ip (a := (a, b)) A3 (saf_of hb (by decide +kernel)), fit_ip (a := (hl * D, hh * D)) hlD (saf_of hhD (by decide +kernel)), ?_⟩
        rw [hplus]
        exact fit_ip hr1 (saf_of hr2 (by decide +kernel))
      · unfold pLog
        rw [hof, hof3]
        erw [A2, B2, hby]
        exact hplus
end Go.Proofs.YtppbhnhmaocdnaaGreatDoor
namespace Go.Proofs.YtppbhnhmaocdnaaGreatDoor

theorem nTimes_mul {k c : Nat} {a y : Nat × Nat} (hy : y.2 ≤ c * 10 ^ k) : (nTimes k a y).2 ≤ c * a.2 := by
  refine (cdN_le (ten_pos k)).2 ?_
  have := Nat.mul_le_mul_left a.2 hy
  rw [← Nat.mul_assoc, Nat.mul_comm a.2 c] at this
  exact this
theorem half_bd {k : Nat} {y t0 : Nat × Nat} (hy : y.2 ≤ 64 * 10 ^ k) (i : Nat) : (serT k y (fun _ => 1) (fun i => Nat.add (Nat.mul 2 i) 3) t0 i).2 ≤ 64 ^ (min i 31) * t0.2 := by
  induction i with
  | zero => show t0.2 ≤ _; rw [Nat.zero_min, Nat.pow_zero, Nat.one_mul]; exact Nat.le_refl _
  | succ i ih =>
    show (nBy (nTimes k (serT k y (fun _ => 1) (fun i => Nat.add (Nat.mul 2 i) 3) t0 i) y) 1 (2 * i + 3)).2 ≤ _
    generalize serT k y (fun _ => 1) (fun i => Nat.add (Nat.mul 2 i) 3) t0 i = a at *
    have h1 := nTimes_mul (k := k) (a := a) hy
    rcases Nat.lt_or_ge i 31 with h | h
    · have h2 : (nBy (nTimes k a y) 1 (2 * i + 3)).2 ≤ 64 * a.2 := Nat.le_trans (nBy_dec (by omega) (by omega)) h1
      have h3 := Nat.mul_le_mul_left 64 ih
      rw [Nat.min_eq_left (by omega), ← Nat.mul_assoc, Nat.mul_comm 64 (64 ^ i), ← Nat.pow_succ] at h3
      rw [Nat.min_eq_left (by omega)]
      exact Nat.le_trans h2 h3
    · rw [Nat.min_eq_right (by omega)] at ih ⊢
      refine Nat.le_trans ((cdN_le (by omega)).2 ?_) ih
      show (nTimes k a y).2 * 1 ≤ a.2 * (2 * i + 3)
      rw [Nat.mul_one]
      refine Nat.le_trans h1 ?_
      rw [Nat.mul_comm]
      exact Nat.mul_le_mul_left _ (by omega)

theorem piN_le {k : Nat} (hk : k ≤ 55) : piN k + 1 ≤ 10 ^ 57 := by
  have h : piN k < 10 ^ (k + 1) := by
    unfold piN
    refine Nat.div_lt_of_lt_mul ?_
    rw [← Nat.pow_add, show 80 - k + (k + 1) = 81 by omega]
    decide +kernel
  have h2 : 10 ^ (k + 1) ≤ 10 ^ 56 := Nat.pow_le_pow_right (by omega) (by omega)
  have h3 : 10 ^ 56 + 1 ≤ 10 ^ 57 := Nat.le_of_ble_eq_true (by decide +kernel)
  omega
theorem pi_cast (k : Nat) : pPi k = ip (piN k, piN k + 1) := by unfold pPi ip; dsimp only; push_cast; rfl
theorem root_cast (r1 r2 : Nat) : pRoot r1 r2 = ip (r1, r2 + 1) := by unfold pRoot ip; dsimp only; push_cast; rfl
def isRt (N s : Nat) : Bool := Nat.ble (Nat.mul s s) N && Nat.blt N (Nat.mul (Nat.succ s) (Nat.succ s))
theorem isRt_of {N s : Nat} (h : isRt N s = true) : IsRoot N s := by
  unfold isRt at h
  rw [Bool.and_eq_true] at h
  exact ⟨Nat.le_of_ble_eq_true h.1, by simpa [Nat.blt_eq] using h.2⟩
theorem root_lt {N s B : Nat} (h : IsRoot N s) (hB : N < B * B) : s < B := by
  rcases Nat.lt_or_ge s B with g | g
  · exact g
  · have := Nat.mul_le_mul g g; have := h.1; omega
theorem root_mono {N N' s t : Nat} (h : IsRoot N s) (h' : IsRoot N' t) (hN : N ≤ N') : s ≤ t := by
  rcases Nat.lt_or_ge t s with g | g
  · have := Nat.mul_le_mul (show t + 1 ≤ s by omega) (show t + 1 ≤ s by omega); have := h.1; have := h'.2; omega
  · exact g
structure RtPi (k r1 r2 : Nat) : Prop where
  a : isRt (piN k * 2 * 10 ^ k) r1 = true
  b : isRt ((piN k + 1) * 2 * 10 ^ k) r2 = true

noncomputable def nHalfV (k vl vh ql qh r1 r2 : Nat) : Option (Nat × Nat) :=
  match nSer k (ql, qh) (fun _ => 1) (fun i => Nat.add (Nat.mul 2 i) 3) (vl, vh) with
  | none => none
  | some (a, b) =>
    match nExp k (Nat.div ql 2) (Nat.div (Nat.succ qh) 2) with
    | none => none
    | some (el, eh) =>
      Bool.rec (motive := fun _ => Option (Nat × Nat)) none
        (Bool.rec (motive := fun _ => Option (Nat × Nat)) none
          (some (Nat.div (Nat.mul a (10 ^ k)) (Nat.div (Nat.add (Nat.mul eh (Nat.succ r2)) (10 ^ k - 1)) (10 ^ k)), Nat.div (Nat.add (Nat.mul b (10 ^ k)) (Nat.sub (Nat.div (Nat.mul el r1) (10 ^ k)) 1)) (Nat.div (Nat.mul el r1) (10 ^ k))))
          (Nat.ble (Nat.div (Nat.add (Nat.mul b (10 ^ k)) (Nat.sub (Nat.div (Nat.mul el r1) (10 ^ k)) 1)) (Nat.div (Nat.mul el r1) (10 ^ k))) (10 ^ k)))
        (Nat.ble 1 (Nat.div (Nat.mul el r1) (10 ^ k)))
noncomputable def nHalf (k n d r1 r2 : Nat) : Option (Nat × Nat) :=
  nHalfV k (Nat.div (Nat.mul n (10 ^ k)) d) (Nat.div (Nat.add (Nat.mul n (10 ^ k)) (Nat.sub d 1)) d)
    (Nat.div (Nat.mul (Nat.div (Nat.mul n (10 ^ k)) d) (Nat.div (Nat.mul n (10 ^ k)) d)) (10 ^ k))
    (Nat.div (Nat.add (Nat.mul (Nat.div (Nat.add (Nat.mul n (10 ^ k)) (Nat.sub d 1)) d) (Nat.div (Nat.add (Nat.mul n (10 ^ k)) (Nat.sub d 1)) d)) (10 ^ k - 1)) (10 ^ k)) r1 r2

set_option maxHeartbeats 1000000 in
theorem half_ev {k n d r1 r2 : Nat} {r : Nat × Nat} (hk : k ≤ 55) (hd : 0 < d) (hn : n ≤ 10 ^ 40) (hd2 : d ≤ 10 ^ 40) (h8 : n ≤ 8 * d) (hrt : RtPi k r1 r2) (h : nHalf k n d r1 r2 = some r) :
    ∃ M H M2, HalfOk k (n : Int) (d : Int) M H M2 r1 r2 ∧ pHalf k (n : Int) (d : Int) M H M2 r1 r2 = ip r ∧ r.1 ≤ r.2 ∧ r.2 ≤ 10 ^ k := by
  have ht := tens hk
  have hv := pOf_ip k n d hd
  have hvl := nOf_le k n d
  have hvb := nOf_bd (k := k) hd h8
  have hsq : pHalfSq k (n : Int) (d : Int) = ip (nTimes k (nOf k n d) (nOf k n d)) := by unfold pHalfSq; rw [hv, pTimes_ip]
  have hyl : (nTimes k (nOf k n d) (nOf k n d)).1 ≤ (nTimes k (nOf k n d) (nOf k n d)).2 := nTimes_le k hvl hvl
  have hyb : (nTimes k (nOf k n d) (nOf k n d)).2 ≤ 64 * 10 ^ k := by have := nTimes_mul (k := k) (a := nOf k n d) hvb; omega
  change nHalfV k (nOf k n d).1 (nOf k n d).2 (nTimes k (nOf k n d) (nOf k n d)).1 (nTimes k (nOf k n d) (nOf k n d)).2 r1 r2 = some r at h
  generalize nTimes k (nOf k n d) (nOf k n d) = y at *
  generalize nOf k n d = v at *
  obtain ⟨yl, yh⟩ := y
  obtain ⟨vl, vh⟩ := v
  dsimp only at h hyl hyb hvl hvb
  unfold nHalfV at h
  cases hS : nSer k (yl, yh) (fun _ => 1) (fun i => Nat.add (Nat.mul 2 i) 3) (vl, vh) with
  | none => rw [hS] at h; cases h
  | some s =>
    obtain ⟨a, b⟩ := s
    rw [hS] at h
    dsimp only at h
    cases hE : nExp k (Nat.div yl 2) (Nat.div (Nat.succ yh) 2) with
    | none => rw [hE] at h; cases h
    | some e =>
      obtain ⟨el, eh⟩ := e
      rw [hE] at h
      dsimp only at h
      obtain ⟨M, m1, m2, m3, m4⟩ := nSer_spec hS
      have hby2 : pBy (ip (yl, yh)) 1 2 = ip (Nat.div yl 2, Nat.div (Nat.succ yh) 2) := by
        have := pBy_ip (yl, yh) 1 2 (by omega)
        unfold nBy cdN at this
        rw [Nat.mul_one, Nat.mul_one] at this
        exact this
      have hy2 : Nat.div (Nat.succ yh) 2 ≤ 10 ^ 60 := by
        have h1 : (yh + 1) / 2 ≤ yh + 1 := Nat.div_le_self _ _
        have h2 : 64 * 10 ^ 55 + 1 ≤ 10 ^ 60 := Nat.le_of_ble_eq_true (by decide +kernel)
        show (yh + 1) / 2 ≤ _
        omega
      obtain ⟨H, M2, e1, e2, e3, e4⟩ := exp_ev hk (show Nat.div yl 2 ≤ Nat.div (Nat.succ yh) 2 from Nat.div_le_div_right (by omega)) (Nat.le_trans hy2 (Nat.le_of_ble_eq_true (by decide +kernel))) hE
      dsimp only at e3 e4
      -- the roots
      have p1 := isRt_of hrt.a
      have p2 := isRt_of hrt.b
      have hpi := piN_le hk
      have hN2 : (piN k + 1) * 2 * 10 ^ k ≤ 10 ^ 57 * 2 * 10 ^ 55 := Nat.mul_le_mul (Nat.mul_le_mul_right 2 hpi) ht
      have hN1 : piN k * 2 * 10 ^ k ≤ (piN k + 1) * 2 * 10 ^ k := Nat.mul_le_mul_right _ (Nat.mul_le_mul_right 2 (Nat.le_succ _))
      have hr2 : r2 < 10 ^ 57 := root_lt p2 (Nat.lt_of_le_of_lt hN2 (by decide +kernel))
      have hr12 : r1 ≤ r2 := root_mono p1 p2 hN1
      have e95 : 10 ^ (k + 40) ≤ 10 ^ 95 := Nat.pow_le_pow_right (by omega) (by omega)
      have hdn : pTimes k (ip (el, eh)) (pRoot r1 r2) = ip (nTimes k (el, eh) (r1, r2 + 1)) := by rw [root_cast, pTimes_ip]
      have hdl : (nTimes k (el, eh) (r1, r2 + 1)).1 ≤ (nTimes k (el, eh) (r1, r2 + 1)).2 := nTimes_le k e3 (show r1 ≤ r2 + 1 by omega)
      have hTe : TimesOk k (ip (el, eh)) (ip (r1, r2 + 1)) :=
        timesOk_ip (by omega) e3 (show r1 ≤ r2 + 1 by omega) (saf_of (Nat.le_trans e4 e95) (by decide +kernel)) (saf_of (show r2 + 1 ≤ 10 ^ 57 by omega) (by decide +kernel)) (saf_of (Nat.mul_le_mul (Nat.le_trans e4 e95) (show r2 + 1 ≤ 10 ^ 57 by omega)) (by decide +kernel))
      have hdb : (nTimes k (el, eh) (r1, r2 + 1)).2 ≤ 10 ^ 152 + 10 ^ 60 := by
        have h1 : eh * (r2 + 1) ≤ 10 ^ 95 * 10 ^ 57 := Nat.mul_le_mul (Nat.le_trans e4 e95) (by omega)
        have h2 : (eh * (r2 + 1) + (10 ^ k - 1)) / 10 ^ k ≤ eh * (r2 + 1) + (10 ^ k - 1) := Nat.div_le_self _ _
        have h3 : 10 ^ 95 * 10 ^ 57 + 10 ^ 55 ≤ 10 ^ 152 + 10 ^ 60 := Nat.le_of_ble_eq_true (by decide +kernel)
        show (eh * (r2 + 1) + (10 ^ k - 1)) / 10 ^ k ≤ _
        omega
      -- the terms
      have hbd := half_bd (k := k) (y := (yl, yh)) (t0 := (vl, vh)) hyb
      have htl := ser_le (k := k) (y := (yl, yh)) (t0 := (vl, vh)) (nf := fun _ => 1) (df := fun i => Nat.add (Nat.mul 2 i) 3) hvl hyl
      have htc : ∀ i, halfT k (ip (vl, vh)) (ip (yl, yh)) i = ip (serT k (yl, yh) (fun _ => 1) (fun i => Nat.add (Nat.mul 2 i) 3) (vl, vh) i) := fun i => by
        refine ser_cast (T := halfT k (ip (vl, vh)) (ip (yl, yh))) rfl (fun i => ?_) (fun i => by show 0 < 2 * i + 3; omega) i
        show pBy (pTimes k (halfT k (ip (vl, vh)) (ip (yl, yh)) i) (ip (yl, yh))) 1 (2 * ((i : Int) + 1) + 1) = pBy _ 1 ((2 * i + 3 : Nat) : Int)
        rw [show 2 * ((i : Int) + 1) + 1 = ((2 * i + 3 : Nat) : Int) by omega]
      generalize serT k (yl, yh) (fun _ => 1) (fun i => Nat.add (Nat.mul 2 i) 3) (vl, vh) = t at *
      have htb : ∀ i, (t i).2 ≤ 10 ^ 112 := fun i => by
        refine Nat.le_trans (hbd i) ?_
        refine Nat.le_trans (Nat.mul_le_mul (Nat.pow_le_pow_right (by omega) (Nat.min_le_right i 31)) (Nat.le_trans hvb (Nat.mul_le_mul_left 8 ht))) (Nat.le_of_ble_eq_true (by decide +kernel))
      have hyb' : yh ≤ 64 * 10 ^ 55 := Nat.le_trans hyb (Nat.mul_le_mul_left 64 ht)
      have hsum : sumP (halfT k (ip (vl, vh)) (ip (yl, yh))) (M + 1) = ip (a, b) := by rw [sum_cast htc, ← m4]
      have hs1 : a ≤ b := by have := sum_le htl M; rw [← m4] at this; exact this
      have hs2 : b ≤ 1000 * (10 ^ 112 + 1) := by have := sum_bd htb (m := M) (by omega); rw [← m4] at this; exact this
      have hover : nOver k (a, b) (nTimes k (el, eh) (r1, r2 + 1)) = (Nat.div (Nat.mul a (10 ^ k)) (Nat.div (Nat.add (Nat.mul eh (Nat.succ r2)) (10 ^ k - 1)) (10 ^ k)), Nat.div (Nat.add (Nat.mul b (10 ^ k)) (Nat.sub (Nat.div (Nat.mul el r1) (10 ^ k)) 1)) (Nat.div (Nat.mul el r1) (10 ^ k))) := rfl
      cases hz : Nat.ble 1 (Nat.div (Nat.mul el r1) (10 ^ k)) with
      | false => rw [hz] at h; cases h
      | true =>
        rw [hz] at h
        dsimp only at h
        cases hw : Nat.ble (Nat.div (Nat.add (Nat.mul b (10 ^ k)) (Nat.sub (Nat.div (Nat.mul el r1) (10 ^ k)) 1)) (Nat.div (Nat.mul el r1) (10 ^ k))) (10 ^ k) with
        | false => rw [hw] at h; cases h
        | true =>
          rw [hw] at h
          dsimp only at h
          injection h with h
          rw [← hover] at h
          have hz' : 0 < (nTimes k (el, eh) (r1, r2 + 1)).1 := Nat.le_of_ble_eq_true hz
          have hab : pHalfAbove k (n : Int) (d : Int) (M + 1) = ip (a, b) := by unfold pHalfAbove; rw [hv, hsq, hsum]
          refine ⟨M + 1, H, M2, ⟨by omega, ofOk_nat hk hd hn hd2, ?_, ?_, ?_, ?_, ?_, ?_, ?_, ?_, ?_, ?_⟩, ?_, ?_, ?_⟩
          · rw [hv]
            have h1 : vh ≤ 8 * 10 ^ 55 := Nat.le_trans hvb (Nat.mul_le_mul_left 8 ht)
            exact timesOk_ip (by omega) hvl hvl (saf_of h1 (by decide +kernel)) (saf_of h1 (by decide +kernel)) (saf_of (Nat.mul_le_mul h1 h1) (by decide +kernel))
          · rw [hv, hsq]
            exact sumB_of htc htl htb (by decide +kernel) (by omega) m2 m3
          · intro i _; rw [hv, hsq, htc]
            exact timesOk_ip (by omega) (htl i) hyl (saf_of (htb i) (by decide +kernel)) (saf_of hyb' (by decide +kernel)) (saf_of (Nat.mul_le_mul (htb i) hyb') (by decide +kernel))
          · intro i hi; rw [hv, hsq, htc, pTimes_ip, show 2 * ((i : Int) + 1) + 1 = ((2 * i + 3 : Nat) : Int) by omega]
            have h1 : (nTimes k (t i) (yl, yh)).2 ≤ 64 * 10 ^ 112 := Nat.le_trans (nTimes_mul (k := k) (a := t i) hyb) (Nat.mul_le_mul_left 64 (htb i))
            exact byOk_ip (n := 1) (nTimes_le k (htl i) hyl) (by omega) (by omega) (by omega) (saf_of h1 (by decide +kernel)) (by rw [Nat.mul_one]; exact saf_of h1 (by decide +kernel))
          · rw [hsq]
            exact byOk_ip (a := (yl, yh)) (n := 1) (d := 2) hyl (by omega) (by omega) (by omega) (saf_of hyb' (by decide +kernel)) (by rw [Nat.mul_one]; exact saf_of hyb' (by decide +kernel))
          · rw [hsq, hby2]; exact e1
          · rw [pi_cast]
            exact byOk_ip (a := (piN k, piN k + 1)) (n := 2) (d := 1) (Nat.le_succ _) (by omega) (by omega) (by omega) (saf_of hpi (by decide +kernel)) (saf_of (Nat.mul_le_mul_right 2 hpi) (by decide +kernel))
          · rw [pi_cast, by_two]
            have hp0 : 0 < piN k := by
              unfold piN
              refine Nat.div_pos ?_ (ten_pos _)
              exact Nat.le_trans (Nat.pow_le_pow_right (by omega) (show 80 - k ≤ 80 by omega)) (Nat.le_of_ble_eq_true (by decide +kernel))
            refine ⟨by omega, rfl, rfl, ?_, ?_, ?_, ?_, ?_, ?_, ?_, ?_, ?_⟩
            · show 0 < piN k * 2; omega
            · show 0 < (piN k + 1) * 2; omega
            · show piN k * 2 < big; exact lt_big (A := 10 ^ 57 * 2) (by omega) (by decide +kernel)
            · show (piN k + 1) * 2 < big; exact lt_big (A := 10 ^ 57 * 2) (by omega) (by decide +kernel)
            · show piN k * 2 * 10 ^ k < big; exact lt_big (Nat.le_trans hN1 hN2) (by decide +kernel)
            · show (piN k + 1) * 2 * 10 ^ k < big; exact lt_big hN2 (by decide +kernel)
            · exact p1
            · exact p2
            · exact lt_big (A := 10 ^ 57) (by omega) (by decide +kernel)
          · rw [hsq, hby2, e2, root_cast]; exact hTe
          · rw [hab, hsq, hby2, e2, hdn]
            exact overOk_ip (by omega) hs1 hdl hz' (saf_of hs2 (by decide +kernel)) (saf_of hdb (by decide +kernel)) (saf_of (Nat.mul_le_mul hs2 ht) (by decide +kernel))
          · unfold pHalf
            rw [hab, hsq, hby2, e2, hdn, pOver_ip _ _ _ hz', h]
          · rw [← h]; exact nOver_le k hs1 hdl hz'
          · rw [← h]; exact Nat.le_of_ble_eq_true hw

theorem half_of (k : Nat) (hk : 0 < k) : pOf k 1 2 = ip (10 ^ k / 2, 10 ^ k / 2) := by
  have h : pOf k 1 2 = ip (nOf k 1 2) := pOf_ip k 1 2 (by omega)
  rw [h]
  obtain ⟨j, rfl⟩ : ∃ j, k = j + 1 := ⟨k - 1, by omega⟩
  have : nOf (j + 1) 1 2 = (10 ^ (j + 1) / 2, 10 ^ (j + 1) / 2) := by
    unfold nOf
    rw [Nat.one_mul, cdN_eq _ _ (by omega), if_pos (by rw [Nat.pow_succ]; omega)]
  rw [this]
theorem half_le (k : Nat) : 10 ^ k / 2 ≤ 10 ^ k := Nat.div_le_self _ _
theorem norm_pos {k n d r1 r2 : Nat} {r : Nat × Nat} (hk0 : 0 < k) (hk : k ≤ 55) (hd : 0 < d) (hn : n ≤ 10 ^ 40) (hd2 : d ≤ 10 ^ 40) (h8 : n ≤ 8 * d) (hrt : RtPi k r1 r2) (h : nHalf k n d r1 r2 = some r) :
    ∃ M H M2, NormOk k (n : Int) (d : Int) M H M2 r1 r2 ∧ pNormal k (n : Int) (d : Int) M H M2 r1 r2 = ip (10 ^ k / 2 + r.1, 10 ^ k / 2 + r.2) ∧ r.1 ≤ r.2 ∧ r.2 ≤ 10 ^ k := by
  obtain ⟨M, H, M2, h1, h2, h3, h4⟩ := half_ev hk hd hn hd2 h8 hrt h
  have ht := tens hk
  have hh := half_le k
  have hpl : pPlus (ip (10 ^ k / 2, 10 ^ k / 2)) (ip r) = ip (10 ^ k / 2 + r.1, 10 ^ k / 2 + r.2) := by unfold pPlus ip; dsimp only; push_cast; rfl
  refine ⟨M, H, M2, ⟨ofOk_nat (n := 1) (d := 2) hk (by omega) (Nat.le_of_ble_eq_true (by decide +kernel)) (Nat.le_of_ble_eq_true (by decide +kernel)), h1, fun g => absurd g (by omega), fun _ => ?_⟩, ?_, h3, h4⟩
  · rw [half_of k hk0, Int.natAbs_natCast, h2]
    refine ⟨fit_ip (Nat.le_refl _) (saf_of (Nat.le_trans hh ht) (by decide +kernel)), fit_ip h3 (saf_of (Nat.le_trans h4 ht) (by decide +kernel)), ?_⟩
    rw [hpl]
    exact fit_ip (Nat.add_le_add_left h3 _) (saf_of (m := 2 * 10 ^ 55) (by show 10 ^ k / 2 + r.2 ≤ _; omega) (by decide +kernel))
  · unfold pNormal
    rw [if_neg (by omega), half_of k hk0, Int.natAbs_natCast, h2, hpl]
theorem norm_neg {k n d r1 r2 : Nat} {r : Nat × Nat} (hk0 : 0 < k) (hk : k ≤ 55) (hd : 0 < d) (hn0 : 0 < n) (hn : n ≤ 10 ^ 40) (hd2 : d ≤ 10 ^ 40) (h8 : n ≤ 8 * d) (hrt : RtPi k r1 r2) (h : nHalf k n d r1 r2 = some r) :
    ∃ M H M2, NormOk k (-(n : Int)) (d : Int) M H M2 r1 r2 ∧ pNormal k (-(n : Int)) (d : Int) M H M2 r1 r2 = (((10 ^ k / 2 : Nat) : Int) - (r.2 : Int), ((10 ^ k / 2 : Nat) : Int) - (r.1 : Int)) ∧ r.1 ≤ r.2 ∧ r.2 ≤ 10 ^ k := by
  obtain ⟨M, H, M2, h1, h2, h3, h4⟩ := half_ev hk hd hn hd2 h8 hrt h
  have ht := tens hk
  have hh := half_le k
  have ha : ((-(n : Int)).natAbs : Int) = (n : Int) := by omega
  have hmi : pMinus (ip (10 ^ k / 2, 10 ^ k / 2)) (ip r) = (((10 ^ k / 2 : Nat) : Int) - (r.2 : Int), ((10 ^ k / 2 : Nat) : Int) - (r.1 : Int)) := by unfold pMinus ip; dsimp only
  refine ⟨M, H, M2, ⟨ofOk_nat (n := 1) (d := 2) hk (by omega) (Nat.le_of_ble_eq_true (by decide +kernel)) (Nat.le_of_ble_eq_true (by decide +kernel)), by rw [ha]; exact h1, fun _ => ?_, fun g => absurd g (by omega)⟩, ?_, h3, h4⟩
  · rw [half_of k hk0, ha, h2]
    refine ⟨fit_ip (Nat.le_refl _) (saf_of (Nat.le_trans hh ht) (by decide +kernel)), fit_ip h3 (saf_of (Nat.le_trans h4 ht) (by decide +kernel)), ?_⟩
    rw [hmi]
    generalize 10 ^ k / 2 = u at *
    exact ⟨lt_big (A := 2 * 10 ^ 55) (by show ((u : Int) - (r.2 : Int)).natAbs ≤ _; omega) (by decide +kernel), lt_big (A := 2 * 10 ^ 55) (by show ((u : Int) - (r.1 : Int)).natAbs ≤ _; omega) (by decide +kernel)⟩
  · unfold pNormal
    rw [if_pos (by omega), half_of k hk0, ha, h2, hmi]
end Go.Proofs.YtppbhnhmaocdnaaGreatDoor
