/- N's cells with 9 places along the fractions with denominators up to 50, up to 8: the kernel runs it. PRINTED by wip/gts.py. -/
import Derived.Test.YtppbhnhmaocdnaaGreatDoorXEv11
set_option linter.unusedVariables false
set_option linter.unusedSimpArgs false
namespace Go.Proofs.YtppbhnhmaocdnaaGreatDoor
theorem rtA9 : RtPi (9 + 15) 2506628274631000502415765 2506628274631000502415765 := ⟨by decide +kernel, by decide +kernel⟩
theorem rtB9 : RtPi (9 + 40) 25066282746310005024157652848110452530069867406099 25066282746310005024157652848110452530069867406099 := ⟨by decide +kernel, by decide +kernel⟩
noncomputable def V9 (n d : Nat) : Option (Nat × Nat) := nHC 9 n d 2506628274631000502415765 2506628274631000502415765 25066282746310005024157652848110452530069867406099 25066282746310005024157652848110452530069867406099
theorem fs9x0 : fRun V9 500000000 (fFin 4 5 37 46 288144601 288144602) 620 0 1 1 50 0 0 = true := by decide +kernel
theorem fs9x1 : fRun V9 500000000 (fFin 69 43 61 38 445714702 445714703) 620 4 5 37 46 288144601 288144602 = true := by decide +kernel
theorem fs9x2 : fRun V9 500000000 (fFin 101 42 89 37 491908497 491908498) 620 69 43 61 38 445714702 445714703 = true := by decide +kernel
theorem fs9x3 : fRun V9 500000000 (fFin 109 34 93 29 499326754 499326755) 620 101 42 89 37 491908497 491908498 = true := by decide +kernel
theorem fs9x4 : fRun V9 500000000 (fFin 189 47 185 46 499971058 499971059) 620 109 34 93 29 499326754 499326755 = true := by decide +kernel
theorem fs9x5 : fRun V9 500000000 (fFin 149 31 125 26 499999231 499999232) 620 189 47 185 46 499971058 499971059 = true := by decide +kernel
theorem fs9x6 : fRun V9 500000000 (fFin 129 23 230 41 499999989 499999990) 620 149 31 125 26 499999231 499999232 = true := by decide +kernel
theorem fs9x7 : fRun V9 500000000 (fFin 314 49 141 22 499999999 500000000) 620 129 23 230 41 499999989 499999990 = true := by decide +kernel
theorem fs9x8 : fRun V9 500000000 (fFin 137 19 238 33 499999999 500000000) 620 314 49 141 22 499999999 500000000 = true := by decide +kernel
theorem fs9x9 : fRun V9 500000000 (fFin 399 50 8 1 499999999 500000000) 611 137 19 238 33 499999999 500000000 = true := by decide +kernel
theorem fi9 : FInv V9 500000000 399 50 8 1 499999999 500000000 :=
  fRun_spec _ _ _ _ _ _ _ fs9x9 (
  fRun_spec _ _ _ _ _ _ _ fs9x8 (
  fRun_spec _ _ _ _ _ _ _ fs9x7 (
  fRun_spec _ _ _ _ _ _ _ fs9x6 (
  fRun_spec _ _ _ _ _ _ _ fs9x5 (
  fRun_spec _ _ _ _ _ _ _ fs9x4 (
  fRun_spec _ _ _ _ _ _ _ fs9x3 (
  fRun_spec _ _ _ _ _ _ _ fs9x2 (
  fRun_spec _ _ _ _ _ _ _ fs9x1 (
  fRun_spec _ _ _ _ _ _ _ fs9x0 (FInv.start V9 500000000))))))))))
end Go.Proofs.YtppbhnhmaocdnaaGreatDoor
