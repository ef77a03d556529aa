/- sort.Search; the division of two numbers of package integer. -/
import Derived.Test.YtppbhnhmaocdnaaGreatDoorB13
import Derived.Deep.RegionWith
set_option linter.unusedVariables false
set_option linter.unusedSimpArgs false
namespace Go.Proofs.YtppbhnhmaocdnaaGreatDoor
open Go.RowKit Go.Shelf

attribute [local go_sem] Oper.semAt_some

structure Found (n : Nat) (p : Nat → Bool) (k : Nat) : Prop where
  le : k ≤ n
  low : ∀ i, i < k → p i = false
  high : ∀ i, k ≤ i → i < n → p i = true

def SearchPost (B : Nat) (w : World) (n : Nat) (p : Nat → Bool) (e : Ending) (w' : World) : Prop := ∃ k : Nat, e = .returned (.int .i64 (k : Int)) ∧ Found n p k ∧ Below B w w'

set_option maxRecDepth 100000 in
set_option maxHeartbeats 1000000 in
theorem search_any (n : Nat) (g : Nat) (cb : Array Value) (p : Nat → Bool) (w : World) (hn : n ≤ 100000)
    (eg : ∀ args w, (callFunc g args).run Tryz.prog w = .ok (.enter g args) w)
    (hf : ∀ (i : Nat) (W : World), i < n → Below w.heap.size w W → Calls Tryz.prog g (#[.int .i64 i] ++ cb) W fun e W' => e = .returned (.bool (p i)) ∧ Below w.heap.size W W')
    (hm : ∀ i j, i ≤ j → j < n → p i = true → p j = true) :
    Calls Tryz.prog 136 #[.int .i64 n, .func (.func g) #[] cb] w (SearchPost w.heap.size w n p) := by
  have HF := Lib.hid hf
  have HM := Lib.hid hm
  clear hf hm
  go_enter Tryz.func136, Tryz.ntmps136
  go_wp2_with fail
  go_loopw [5, 6] (fun i j wr => ∃ lo hi : Nat, i = .int .i64 lo ∧ j = .int .i64 hi ∧ lo ≤ hi ∧ hi ≤ n ∧ (∀ i, i < lo → p i = false) ∧ (∀ i, hi ≤ i → i < n → p i = true) ∧ Below w.heap.size w wr)
    (fun i j _ => (intOf j - intOf i).toNat)
  case atStart => exact ⟨0, n, rfl, rfl, Nat.zero_le _, Nat.le_refl _, fun i h => absurd h (by omega), fun i h1 h2 => absurd h1 (by omega), Below.refl _ _⟩
  case round =>
    obtain ⟨lo, hi, rfl, rfl, h1, h2, h3, h4, hB⟩ := hrel
    have H3 := Lib.hid h3
    have H4 := Lib.hid h4
    clear h3 h4
    by_cases hlt : lo < hi
    · go_wp2_with fail
      obtain ⟨h, hh, g1, g2⟩ : ∃ h : Nat, ((lo : Int) + (hi : Int)) / 2 = (h : Int) ∧ lo ≤ h ∧ h < hi := ⟨(lo + hi) / 2, by omega, by omega, by omega⟩
      rw [hh]
      clear hh
      refine (HF.out h wr (by omega) hB).mono ?_
      rintro e w' ⟨rfl, hb⟩
      have hB' := hB.trans hb
      clear hB hb
      generalize hp : p h = ph at *
      have HP := Lib.hid hp
      clear hp
      cases ph with
      | false =>
        go_wp2_with fail
        go_roundw
        case rel => exact ⟨h + 1, hi, by go_num, rfl, by omega, h2, fun i hi' => by
            rcases Nat.lt_or_ge i h with h9 | h9
            · cases hpi : p i with
              | false => rfl
              | true => have := HM.out i h (by omega) (by omega) hpi; rw [HP.out] at this; cases this
            · obtain rfl : i = h := by omega
              exact HP.out, H4.out, hB'⟩
        case measure => simp [intOf]; omega
      | true =>
        go_wp2_with fail
        go_roundw
        case rel => exact ⟨lo, h, rfl, rfl, g1, by omega, H3.out, fun i h5 h6 => HM.out h i h5 h6 HP.out, hB'⟩
        case measure => simp [intOf]; omega
    · obtain rfl : lo = hi := by omega
      go_wp2
      go_ret
      exact ⟨lo, rfl, ⟨h2, H3.out, H4.out⟩, hB⟩

theorem tooMuch_in (mv rv : Value) (b r : Nat) (b1 b2 i : Nat) (w : World) (h1 : Reads w mv (digs b)) (h2 : Reads w rv (digs r)) (l1 : (digs b).length ≤ 4000) (l2 : (digs r).length ≤ 5000) (hi : i < 9999)
    (c1 : w.cell? ⟨b1, 0, none⟩ = some (.func (.func 134) #[mv] #[])) (c2 : w.cell? ⟨b2, 0, none⟩ = some rv) :
    Calls Tryz.prog 135 (#[.int .i64 i] ++ #[.pointer (some ⟨b1, 0, none⟩), .pointer (some ⟨b2, 0, none⟩)]) w fun e w' =>
      e = .returned (.bool (decide (r < b * (i + 1)))) ∧ Below w.heap.size w w' := by
  obtain ⟨a1, k1, rfl, _⟩ := h1.shape
  obtain ⟨a2, k2, rfl, _⟩ := h2.shape
  simp only [List.append_toArray, List.cons_append, List.nil_append]
  have H1 := Lib.hid h1
  have H2 := Lib.hid h2
  clear h1 h2
  have hw : IntKind.i64.wrap ((i : Int) + 1) = ((i + 1 : Nat) : Int) := by rw [IntWalk.i64_in _ (by omega)]; omega
  have hlen : (digs (b * (i + 1))).length ≤ 5000 := by
    have := digs_mul_len (a := b) (m := i + 1) (k := 1) l1 (by omega)
    omega
  have hcmp : decide ((0 : Int) < cmpI ((b : Int) * ((i : Int) + 1)) (r : Int)) = decide (r < b * (i + 1)) := by
    have e : (b : Int) * ((i : Int) + 1) = ((b * (i + 1) : Nat) : Int) := by simp
    rw [e]
    congr 1
    apply propext
    simp only [cmpI]
    constructor
    · intro h
      split at h
      · omega
      · split at h
        · omega
        · omega
    · intro h
      rw [if_neg (by omega), if_pos (by omega)]; omega
  have HCMP := Lib.hid hcmp
  clear hcmp
  go_enter Tryz.func135, Tryz.ntmps135
  go_wp2_with fail
  go_region_with (first
    | (go_at_call 134; refine (by_in _ b (i + 1) _ (by exact H1.out) (by omega) (by omega)).mono ?_; rintro e w3 ⟨v3, rfl, hr3, hf3, hb3⟩; have hc3 : w3.cell? ⟨b2, 0, none⟩ = some (.slice a2 (digs r).length k2) := Below.get (w := w.drew) hb3 c2)
    | (go_at_call 98; refine (compare_in _ _ (b * (i + 1)) r _ hr3 (by exact Reads.below (w := w.drew) H2.out hb3) (by omega) (by omega)).mono ?_; rintro e w4 ⟨rfl, hb4⟩))
  all_goals
    go_wp2
    go_ret
    exact ⟨by rw [← HCMP.out]; rfl, (Below.of_drew hb3).trans (hb4.mono hb3.size)⟩
end Go.Proofs.YtppbhnhmaocdnaaGreatDoor
