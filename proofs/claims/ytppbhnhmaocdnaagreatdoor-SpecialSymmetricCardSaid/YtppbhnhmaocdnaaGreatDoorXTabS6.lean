/- N's cells with 6 places along the fractions with denominators up to 50, up to 8: the kernel runs it. PRINTED by wip/gts.py. -/
import Derived.Test.YtppbhnhmaocdnaaGreatDoorXEv11
set_option linter.unusedVariables false
set_option linter.unusedSimpArgs false
namespace Go.Proofs.YtppbhnhmaocdnaaGreatDoor
theorem rtA6 : RtPi (6 + 15) 2506628274631000502415 2506628274631000502415 := ⟨by decide +kernel, by decide +kernel⟩
theorem rtB6 : RtPi (6 + 40) 25066282746310005024157652848110452530069867405 25066282746310005024157652848110452530069867406 := ⟨by decide +kernel, by decide +kernel⟩
noncomputable def V6 (n d : Nat) : Option (Nat × Nat) := nHC 6 n d 2506628274631000502415 2506628274631000502415 25066282746310005024157652848110452530069867405 25066282746310005024157652848110452530069867406
theorem fs6x0 : fRun V6 500000 (fFin 4 5 37 46 288144 288145) 620 0 1 1 50 0 0 = true := by decide +kernel
theorem fs6x1 : fRun V6 500000 (fFin 69 43 61 38 445714 445715) 620 4 5 37 46 288144 288145 = true := by decide +kernel
theorem fs6x2 : fRun V6 500000 (fFin 101 42 89 37 491908 491909) 620 69 43 61 38 445714 445715 = true := by decide +kernel
theorem fs6x3 : fRun V6 500000 (fFin 109 34 93 29 499326 499327) 620 101 42 89 37 491908 491909 = true := by decide +kernel
theorem fs6x4 : fRun V6 500000 (fFin 189 47 185 46 499971 499972) 620 109 34 93 29 499326 499327 = true := by decide +kernel
theorem fs6x5 : fRun V6 500000 (fFin 149 31 125 26 499999 500000) 620 189 47 185 46 499971 499972 = true := by decide +kernel
theorem fs6x6 : fRun V6 500000 (fFin 129 23 230 41 499999 500000) 620 149 31 125 26 499999 500000 = true := by decide +kernel
theorem fs6x7 : fRun V6 500000 (fFin 314 49 141 22 499999 500000) 620 129 23 230 41 499999 500000 = true := by decide +kernel
theorem fs6x8 : fRun V6 500000 (fFin 137 19 238 33 499999 500000) 620 314 49 141 22 499999 500000 = true := by decide +kernel
theorem fs6x9 : fRun V6 500000 (fFin 399 50 8 1 499999 500000) 611 137 19 238 33 499999 500000 = true := by decide +kernel
theorem fi6 : FInv V6 500000 399 50 8 1 499999 500000 :=
  fRun_spec _ _ _ _ _ _ _ fs6x9 (
  fRun_spec _ _ _ _ _ _ _ fs6x8 (
  fRun_spec _ _ _ _ _ _ _ fs6x7 (
  fRun_spec _ _ _ _ _ _ _ fs6x6 (
  fRun_spec _ _ _ _ _ _ _ fs6x5 (
  fRun_spec _ _ _ _ _ _ _ fs6x4 (
  fRun_spec _ _ _ _ _ _ _ fs6x3 (
  fRun_spec _ _ _ _ _ _ _ fs6x2 (
  fRun_spec _ _ _ _ _ _ _ fs6x1 (
  fRun_spec _ _ _ _ _ _ _ fs6x0 (FInv.start V6 500000))))))))))
end Go.Proofs.YtppbhnhmaocdnaaGreatDoor
