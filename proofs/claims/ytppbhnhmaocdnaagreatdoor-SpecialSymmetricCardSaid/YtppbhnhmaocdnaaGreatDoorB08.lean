/-  -/
import Derived.Test.YtppbhnhmaocdnaaGreatDoorProg
import Derived.Test.YtppbhnhmaocdnaaGreatDoorB01
import Derived.Test.YtppbhnhmaocdnaaGreatDoorB05
import Derived.Outline
set_option linter.unusedVariables false
set_option linter.unusedSimpArgs false
namespace Go.Proofs.YtppbhnhmaocdnaaGreatDoor
open Go.RowKit

set_option maxHeartbeats 400000 in
theorem at_in (v : Value) (xs : List Nat) (i : Nat) (w : World) (h : Reads w v xs) (hl : xs.length ≤ 1000000) (hi : i ≤ 1000000) :
    Calls Tryz.prog 139 #[v, .int .i64 i] w fun e w' => e = .returned (.int .i64 ((xs[i]?.getD 0 : Nat) : Int)) ∧ w = w' := by
  rcases h with ⟨rfl, rfl⟩ | ⟨b, off, cap, rfl, h1, h2, h3⟩
  · go_enter Tryz.func139, Tryz.ntmps139
    go_wp2
    go_ret
    exact ⟨rfl, rfl⟩
  · by_cases hlt : i < xs.length
    · have hc := h3 i hlt
      clear h3
      go_enter Tryz.func139, Tryz.ntmps139
      go_wp2
      go_ret
      exact ⟨by simp [hlt], rfl⟩
    · have hn : xs[i]? = none := by simp; omega
      clear h3
      go_enter Tryz.func139, Tryz.ntmps139
      go_wp2
      go_ret
      exact ⟨by simp [hn], rfl⟩

theorem trimL_take_zero (xs : List Nat) (k : Nat) (hk : k < xs.length) (h : xs[k]?.getD 0 = 0) : trimL (xs.take (k + 1)) = trimL (xs.take k) := by
  rw [List.take_succ_eq_append_getElem hk]
  have : xs[k] = 0 := by simpa [hk] using h
  rw [this, trimL_snoc_zero]

theorem trimL_take_stop (xs : List Nat) (k : Nat) (hk : k < xs.length) (h : xs[k]?.getD 0 ≠ 0) : trimL (xs.take (k + 1)) = xs.take (k + 1) := by
  rw [List.take_succ_eq_append_getElem hk]
  have : xs[k] ≠ 0 := by simpa [hk] using h
  rw [trimL_snoc _ _ this]

def lenOf : Value → Nat | .slice _ n _ => n | _ => 0

theorem reads_take {w : World} {b off cap : Nat} {xs : List Nat} (h1 : b < w.heap.size) (h2 : xs.length ≤ cap)
    (h3 : ∀ j, j < xs.length → w.cell? ⟨b, off + j, none⟩ = some (.int .i64 ((xs[j]?.getD 0 : Nat) : Int))) (k : Nat) (hk : k ≤ xs.length) :
    Reads w (.slice (some ⟨b, off, none⟩) k cap) (xs.take k) := by
  refine .inr ⟨b, off, cap, by rw [List.length_take, Nat.min_eq_left hk], h1, by rw [List.length_take]; omega, fun j hj => ?_⟩
  rw [List.length_take] at hj
  rw [h3 j (by omega), List.getElem?_take, if_pos (by omega)]

set_option maxHeartbeats 400000 in
theorem trimmed_in (v : Value) (xs : List Nat) (w : World) (h : Reads w v xs) (hl : xs.length ≤ 1000000) :
    Calls Tryz.prog 133 #[v] w fun e w' => ∃ v', e = .returned v' ∧ Reads w v' (trimL xs) ∧ (∀ B, From B v → From B v') ∧ w = w' := by
  rcases h with ⟨rfl, rfl⟩ | ⟨b, off, cap, rfl, h1, h2, h3⟩
  · go_enter Tryz.func133, Tryz.ntmps133
    go_wp2
    go_loop [0] (fun s => s = .slice none 0 0) (fun _ => 0)
    case atStart => exact rfl
    case round =>
      subst hrel
      go_wp2
      go_ret
      exact ⟨_, rfl, Reads.nil _, fun _ _ => From.nil _ _ _, rfl⟩
  · have H3 := Lib.hid h3
    go_enter Tryz.func133, Tryz.ntmps133
    go_wp2
    go_loop [0] (fun s => ∃ k : Nat, s = .slice (some ⟨b, off, none⟩) k cap ∧ k ≤ xs.length ∧ trimL (xs.take k) = trimL xs) (fun s => lenOf s)
    case atStart => exact ⟨xs.length, rfl, Nat.le_refl _, by rw [List.take_length]⟩
    case round =>
      obtain ⟨k, rfl, hk, ht⟩ := hrel
      have HT := Lib.hid ht
      clear ht h3
      rcases Nat.eq_zero_or_pos k with h0 | h0
      · subst h0
        go_wp2
        go_ret
        exact ⟨_, rfl, by rw [← HT.out]; exact reads_take h1 h2 H3.out 0 (by omega), fun _ h => h.cut, rfl⟩
      · obtain ⟨m, rfl⟩ : ∃ m, k = m + 1 := ⟨k - 1, by omega⟩
        have hc := H3.out m (by omega)
        by_cases hz : xs[m]?.getD 0 = 0
        · have HZ := Lib.hid hz
          rw [hz] at hc
          clear hz
          go_wp2
          go_round
          case rel => exact ⟨m, rfl, by omega, by rw [← HT.out, trimL_take_zero xs m (by omega) HZ.out]⟩
          case measure => simp [lenOf]
        · have HZ := Lib.hid hz
          have hz2 : (((xs[m]?.getD 0 : Nat) : Int) == 0) = false := by rw [beq_eq_false_iff_ne]; omega
          clear hz
          go_wp2
          go_ret
          exact ⟨_, rfl, by rw [← HT.out, trimL_take_stop xs m (by omega) HZ.out]; exact reads_take h1 h2 H3.out (m + 1) (by omega), fun _ h => h.cut, rfl⟩
end Go.Proofs.YtppbhnhmaocdnaaGreatDoor
