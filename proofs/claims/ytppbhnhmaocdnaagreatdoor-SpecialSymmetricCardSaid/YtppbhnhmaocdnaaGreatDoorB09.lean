/-  -/
import Derived.Test.YtppbhnhmaocdnaaGreatDoorProg
import Derived.Test.YtppbhnhmaocdnaaGreatDoorB01
import Derived.Test.YtppbhnhmaocdnaaGreatDoorB05
import Derived.IntWalk
import Derived.Outline
set_option linter.unusedVariables false
set_option linter.unusedSimpArgs false
namespace Go.Proofs.YtppbhnhmaocdnaaGreatDoor
open Go.RowKit

theorem Tryz.underT : Tryz.prog.underlying 95 = some (.slice 3) := by kernel_rfl
theorem Tryz.infoI : (Tryz.prog.info? 3).map (fun i => (i.zero, i.size, i.bytes)) = some (some (.int .i64 0), 1, 8) := by kernel_rfl


def stepD (s : Int) : Int := if s < 0 then s + 10000 else if 10000 ≤ s then s % 10000 else s
def stepC (s : Int) : Int := if s < 0 then -1 else if 10000 ≤ s then s / 10000 else 0
def carryAt (f : Nat → Int) : Nat → Int
  | 0 => 0
  | k + 1 => stepC (f k + carryAt f k)
theorem carry_succ (f : Nat → Int) (k : Nat) : carryAt f (k + 1) = stepC (f k + carryAt f k) := rfl
def outs (f : Nat → Int) : Nat → List Nat
  | 0 => []
  | k + 1 => outs f k ++ [(stepD (f k + carryAt f k)).toNat]
def valI (f : Nat → Int) : Nat → Int
  | 0 => 0
  | k + 1 => valI f k + f k * 10000 ^ k

theorem outs_length (f : Nat → Int) (k : Nat) : (outs f k).length = k := by
  induction k with
  | zero => rfl
  | succ k ih => simp [outs, ih]

theorem step_bd (s : Int) (h0 : -10000 ≤ s) : 0 ≤ stepD s ∧ stepD s < 10000 ∧ s = stepD s + 10000 * stepC s := by
  unfold stepD stepC
  split
  · omega
  · split <;> omega

theorem carry_bd (f : Nat → Int) (hb : ∀ i, -9999 ≤ f i ∧ f i ≤ 99980001) (k : Nat) : -1 ≤ carryAt f k ∧ carryAt f k ≤ 9999 := by
  induction k with
  | zero => simp [carryAt]
  | succ k ih =>
    have := hb k
    simp only [carryAt, stepC]
    split
    · omega
    · split <;> omega

theorem outs_small (f : Nat → Int) (hb : ∀ i, -9999 ≤ f i ∧ f i ≤ 99980001) (k : Nat) : Small (outs f k) := by
  induction k with
  | zero => intro d hd; cases hd
  | succ k ih =>
    intro d hd
    rcases List.mem_append.1 hd with hd | hd
    · exact ih d hd
    · have h1 := hb k
      have h2 := carry_bd f hb k
      have h3 := step_bd (f k + carryAt f k) (by omega)
      simp at hd; subst hd; omega

theorem outs_val (f : Nat → Int) (hb : ∀ i, -9999 ≤ f i ∧ f i ≤ 99980001) (k : Nat) : (ofD (outs f k) : Int) + carryAt f k * 10000 ^ k = valI f k := by
  induction k with
  | zero => simp [outs, carryAt, valI, ofD]
  | succ k ih =>
    have h1 := hb k
    have h2 := carry_bd f hb k
    obtain ⟨h3, h4, h5⟩ := step_bd (f k + carryAt f k) (by omega)
    simp only [outs, valI, carryAt, ofD_append, outs_length, ofD, Nat.mul_zero, Nat.add_zero, Int.natCast_add, Int.natCast_mul, Int.natCast_pow, Int.toNat_of_nonneg h3]
    rw [← ih, Int.pow_succ]
    generalize hA : (ofD (outs f k) : Int) = A at *
    have e : ((10000 : Nat) : Int) = 10000 := rfl
    rw [e]
    generalize (10000 : Int) ^ k = p at *
    generalize stepD (f k + carryAt f k) = d at *
    generalize stepC (f k + carryAt f k) = c' at *
    generalize carryAt f k = c at *
    have h6 : f k = d + 10000 * c' - c := by omega
    rw [h6]
    grind

theorem outs_step {w : World} {base : Nat} {v : Value} {f : Nat → Int} {k : Nat} {x c E : Int} (hx : f k = x) (hc : carryAt f k = c) (h0 : -10000 ≤ x + c) (hE : stepD (x + c) = E)
    (h : w.ownsRow base 3 1 v (k + 1) (((outs f k).map fun d : Nat => Value.int .i64 (d : Int)) ++ [.int .i64 E])) :
    w.ownsRow base 3 1 v (k + 1) ((outs f (k + 1)).map fun d : Nat => Value.int .i64 (d : Int)) := by
  have h1 := (step_bd (x + c) h0).1
  have : ((outs f (k + 1)).map fun d : Nat => Value.int .i64 (d : Int)) = ((outs f k).map fun d : Nat => Value.int .i64 (d : Int)) ++ [.int .i64 E] := by
    simp only [outs, List.map_append, List.map_cons, List.map_nil, hx, hc]
    rw [Int.toNat_of_nonneg h1, hE]
  rw [this]; exact h

def FoldPost (B : Nat) (w : World) (f : Nat → Int) (n : Nat) (e : Ending) (w' : World) : Prop :=
  ∃ v l, e = .returned v ∧ Reads w' v l ∧ Small l ∧ (ofD l : Int) = valI f n ∧ l.length ≤ n + 1 ∧ From B v ∧ Below B w w'

theorem valI_after (f : Nat → Int) (n : Nat) (h0 : f n = 0) : valI f (n + 1) = valI f n := by simp [valI, h0]

set_option maxRecDepth 100000 in
set_option maxHeartbeats 1000000 in
theorem fold_any (n : Nat) (g : Nat) (cb : Array Value) (f : Nat → Int) (w : World) (hn : n ≤ 100000) (hb : ∀ i, -9999 ≤ f i ∧ f i ≤ 99980001) (h0 : f n = 0) (h1 : 0 ≤ carryAt f n)
    (eg : ∀ args w, (callFunc g args).run Tryz.prog w = .ok (.enter g args) w)
    (hf : ∀ (i : Nat) (W : World), i ≤ n → Below w.heap.size w W → Calls Tryz.prog g (#[.int .i64 i] ++ cb) W fun e W' => e = .returned (.int .i64 (f i)) ∧ ∃ q, W' = W.drewN q) :
    Calls Tryz.prog 137 #[.int .i64 n, .int .i64 0, .func (.func g) #[] cb] w (FoldPost w.heap.size w f n) := by
  obtain ⟨i0, hi, hz0, hz1, hz2⟩ := info_parts Tryz.infoI
  have HF := Lib.hid hf
  have HB := Lib.hid hb
  have H0 := Lib.hid h0
  clear hf hb h0
  go_enter Tryz.func137, Tryz.ntmps137
  go_wp2_with (at_make; refine wpList_make_own _ rfl _ _ 95 rfl w.heap.size 3 i0 (.int .i64 0) 1 Tryz.underT hi hz0 hz1 _ _ _ (n + 1) rfl rfl (by omega) ?b2 ?b3 (Nat.le_refl _) ?_)
  case b2 => rw [hz2]; omega
  case b3 => unfold maxLen; omega
  intro w1 hown1 hg1
  go_wp2
  go_loopw [1, 7, 8] (fun c v i wr => ∃ k : Nat, k ≤ n + 1 ∧ i = .int .i64 k ∧ c = .int .i64 (carryAt f k) ∧ (n < k → carryAt f k = 0) ∧ wr.ownsRow w.heap.size 3 1 v k ((outs f k).map fun d : Nat => Value.int .i64 (d : Int)) ∧ Below w.heap.size w wr)
    (fun _ _ i _ => n + 1 - (intOf i).toNat)
  case atStart => exact ⟨0, Nat.zero_le _, rfl, rfl, fun _ => rfl, hown1, (Below.refl _ _).grown hg1 (Nat.le_refl _) (by intro k hk; cases hk)⟩
  case round =>
    obtain ⟨k, hk, rfl, rfl, hc0, hown, hB⟩ := hrel
    have hcb := carry_bd f HB.out k
    have HC0 := Lib.hid hc0
    clear hc0
    by_cases hgo : k < n ∨ carryAt f k ≠ 0
    · have hfk := HB.out k
      have hkn : k ≤ n := by
        rcases hgo with h | h
        · omega
        · rcases Nat.lt_or_ge n k with h9 | h9
          · exact absurd (HC0.out h9) h
          · exact h9
      have hw : IntKind.i64.wrap (f k + carryAt f k) = f k + carryAt f k := IntWalk.i64_in _ (by omega)
      have HFK := Lib.hid hfk
      have HCB := Lib.hid hcb
      clear hfk hcb
      have HG := Lib.hid hgo
      have e1 : ¬ (n < k) := by omega
      by_cases hlt : k < n
      · clear hgo HG HC0
        generalize hcc : carryAt f k = c at *
        generalize hx : f k = x at *
        have HCC := Lib.hid hcc
        have HX := Lib.hid hx
        clear hcc hx
        obtain ⟨b1, b2⟩ : -10000 ≤ x + c ∧ x + c ≤ 99990000 := by have := HFK.out; have := HCB.out; omega
        go_wp2_with fail
        refine (HF.out k wr (by omega) hB).mono ?_
        rintro e w' ⟨rfl, q, rfl⟩
        rw [HX.out]
        have hown2 : (wr.drewN q).ownsRow w.heap.size 3 1 u7 k ((outs f k).map fun d : Nat => Value.int .i64 (d : Int)) := hown
        clear hown
        have hsz : w.heap.size ≤ (wr.drewN q).heap.size := hB.size
        have hB' : Below w.heap.size w (wr.drewN q) := ⟨hB.os, hB.tape, hB.output, hB.size, hB.block⟩
        rcases Int.lt_or_le (x + c) 0 with hs | hs
        · have HE := Lib.hid (show stepD (x + c) = x + c + 10000 by unfold stepD; rw [if_pos hs])
          have HE2 := Lib.hid (show stepC (x + c) = -1 by unfold stepC; rw [if_pos hs])
          go_wp2_with (at_builtin; refine wpList_append_one rfl _ _ 95 rfl Tryz.underT Tryz.infoI _ _ _ _ _ _ rfl hown2 rfl (by omega) hsz ?_)
          intro v' w2 hown3 hB2
          clear hown2
          go_wp2
          go_roundw
          case rel => exact ⟨k + 1, by omega, by go_num, by rw [carry_succ, HX.out, HCC.out, HE2.out], fun h => by omega, outs_step HX.out HCC.out b1 HE.out hown3, hB'.trans hB2⟩
          case measure => simp [intOf]; omega
        · rcases Int.lt_or_le (x + c) 10000 with ht | ht
          · have HE := Lib.hid (show stepD (x + c) = x + c by unfold stepD; rw [if_neg (by omega), if_neg (by omega)])
            have HE2 := Lib.hid (show stepC (x + c) = 0 by unfold stepC; rw [if_neg (by omega), if_neg (by omega)])
            go_wp2_with (at_builtin; refine wpList_append_one rfl _ _ 95 rfl Tryz.underT Tryz.infoI _ _ _ _ _ _ rfl hown2 rfl (by omega) hsz ?_)
            intro v' w2 hown3 hB2
            clear hown2
            go_wp2
            go_roundw
            case rel => exact ⟨k + 1, by omega, by go_num, by rw [carry_succ, HX.out, HCC.out, HE2.out], fun h => by omega, outs_step HX.out HCC.out b1 HE.out hown3, hB'.trans hB2⟩
            case measure => simp [intOf]; omega
          · have HE := Lib.hid (show stepD (x + c) = (x + c) % 10000 by unfold stepD; rw [if_neg (by omega), if_pos (by omega)])
            have HE2 := Lib.hid (show stepC (x + c) = (x + c) / 10000 by unfold stepC; rw [if_neg (by omega), if_pos (by omega)])
            go_wp2_with (at_builtin; refine wpList_append_one rfl _ _ 95 rfl Tryz.underT Tryz.infoI _ _ _ _ _ _ rfl hown2 rfl (by omega) hsz ?_)
            intro v' w2 hown3 hB2
            clear hown2
            go_wp2
            go_roundw
            case rel => exact ⟨k + 1, by omega, by go_num, by rw [carry_succ, HX.out, HCC.out, HE2.out], fun h => by omega, outs_step HX.out HCC.out b1 HE.out hown3, hB'.trans hB2⟩
            case measure => simp [intOf]; omega
      · obtain rfl : k = n := by omega
        have hc1 : carryAt f k ≠ 0 := by
          rcases hgo with h | h
          · omega
          · exact h
        have HC1 := Lib.hid hc1
        clear hgo HG hc1 
        have hx : f k = 0 := H0.out
        rw [hx] at hw HFK
        generalize hcc : carryAt f k = c at *
        have HCC := Lib.hid hcc
        have HX := Lib.hid hx
        clear hcc hx
        have hcn : (c != 0) = true := by rw [bne_iff_ne]; exact HC1.out
        obtain ⟨b1, b2⟩ : 0 < c ∧ c < 10000 := by have := HC1.out; have := HCB.out; omega
        go_wp2_with fail
        refine (HF.out k wr (by omega) hB).mono ?_
        rintro e w' ⟨rfl, q, rfl⟩
        rw [HX.out]
        have hown2 : (wr.drewN q).ownsRow w.heap.size 3 1 u7 k ((outs f k).map fun d : Nat => Value.int .i64 (d : Int)) := hown
        clear hown
        have hsz : w.heap.size ≤ (wr.drewN q).heap.size := hB.size
        have hB' : Below w.heap.size w (wr.drewN q) := ⟨hB.os, hB.tape, hB.output, hB.size, hB.block⟩
        have HE := Lib.hid (show stepD (0 + c) = c by unfold stepD; rw [if_neg (by omega), if_neg (by omega)]; omega)
        have HE2 := Lib.hid (show stepC (0 + c) = 0 by unfold stepC; rw [if_neg (by omega), if_neg (by omega)])
        go_wp2_with (at_builtin; refine wpList_append_one rfl _ _ 95 rfl Tryz.underT Tryz.infoI _ _ _ _ _ _ rfl hown2 rfl (by omega) hsz ?_)
        intro v' w2 hown3 hB2
        clear hown2
        go_wp2
        go_roundw
        case rel => exact ⟨k + 1, by omega, by go_num, by rw [carry_succ, HX.out, HCC.out, HE2.out], fun _ => by rw [carry_succ, HX.out, HCC.out, HE2.out], outs_step HX.out HCC.out (by omega) HE.out hown3, hB'.trans hB2⟩
        case measure => simp [intOf]
    · have hkn : ¬ k < n := fun h => hgo (.inl h)
      have hc : carryAt f k = 0 := Classical.byContradiction fun h => hgo (.inr h)
      have HG := Lib.hid hgo
      clear hgo
      rw [hc]
      have HC := Lib.hid hc
      clear hc hcb
      go_wp2
      go_ret
      refine ⟨_, _, rfl, Reads.of_owns hown, outs_small f HB.out k, ?_, by rw [outs_length]; exact hk, From.of_owns hown, hB⟩
      have h2 := outs_val f HB.out k
      rw [HC.out] at h2
      rcases Nat.lt_or_ge n k with h9 | h9
      · obtain rfl : k = n + 1 := by omega
        rw [← valI_after f n H0.out, ← h2]; simp
      · obtain rfl : k = n := by omega
        rw [← h2]; simp
end Go.Proofs.YtppbhnhmaocdnaaGreatDoor
