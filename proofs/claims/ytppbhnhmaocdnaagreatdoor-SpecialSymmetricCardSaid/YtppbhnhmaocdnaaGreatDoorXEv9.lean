/- SpecialQuantile: what the kernel checks of each probability. -/
import Derived.Test.YtppbhnhmaocdnaaGreatDoorXEv8
set_option linter.unusedVariables false
set_option linter.unusedSimpArgs false
namespace Go.Proofs.YtppbhnhmaocdnaaGreatDoor
open Go.RowKit Go.Shelf

def ob2 (x : Option (Nat × Nat)) (f : Nat → Nat → Option (Nat × Nat)) : Option (Nat × Nat) :=
  match x with
  | none => none
  | some (a, b) => f a b
theorem ob2_spec {x : Option (Nat × Nat)} {f : Nat → Nat → Option (Nat × Nat)} {r : Nat × Nat} (h : ob2 x f = some r) : ∃ a b, x = some (a, b) ∧ f a b = some r := by
  cases x with
  | none => cases h
  | some q => exact ⟨q.1, q.2, rfl, h⟩
noncomputable def ifO (c : Bool) (a b : Option (Nat × Nat)) : Option (Nat × Nat) := Bool.rec (motive := fun _ => Option (Nat × Nat)) b a c
theorem ifO_spec {c : Bool} {a b : Option (Nat × Nat)} {r : Nat × Nat} (h : ifO c a b = some r) : (c = true ∧ a = some r) ∨ (c = false ∧ b = some r) := by
  cases c with
  | false => exact .inr ⟨rfl, h⟩
  | true => exact .inl ⟨rfl, h⟩
theorem some_inj' {r : Nat × Nat} {a b : Nat} (h : some (a, b) = some r) : r = (a, b) := by injection h with h; exact h.symm
theorem h10 : 10 ^ 10 / 2 = 5000000000 := by decide +kernel
end Go.Proofs.YtppbhnhmaocdnaaGreatDoor
