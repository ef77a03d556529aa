/- N's cells with 3 places along the fractions with denominators up to 50, up to 8: the kernel runs it. PRINTED by wip/gts.py. -/
import Derived.Test.YtppbhnhmaocdnaaGreatDoorXEv11
set_option linter.unusedVariables false
set_option linter.unusedSimpArgs false
namespace Go.Proofs.YtppbhnhmaocdnaaGreatDoor
theorem rtA3 : RtPi (3 + 15) 2506628274631000502 2506628274631000502 := ⟨by decide +kernel, by decide +kernel⟩
theorem rtB3 : RtPi (3 + 40) 25066282746310005024157652848110452530069867 25066282746310005024157652848110452530069867 := ⟨by decide +kernel, by decide +kernel⟩
noncomputable def V3 (n d : Nat) : Option (Nat × Nat) := nHC 3 n d 2506628274631000502 2506628274631000502 25066282746310005024157652848110452530069867 25066282746310005024157652848110452530069867
theorem fs3x0 : fRun V3 500 (fFin 4 5 37 46 288 289) 620 0 1 1 50 0 0 = true := by decide +kernel
theorem fs3x1 : fRun V3 500 (fFin 69 43 61 38 445 446) 620 4 5 37 46 288 289 = true := by decide +kernel
theorem fs3x2 : fRun V3 500 (fFin 101 42 89 37 491 492) 620 69 43 61 38 445 446 = true := by decide +kernel
theorem fs3x3 : fRun V3 500 (fFin 109 34 93 29 499 500) 620 101 42 89 37 491 492 = true := by decide +kernel
theorem fs3x4 : fRun V3 500 (fFin 189 47 185 46 499 500) 620 109 34 93 29 499 500 = true := by decide +kernel
theorem fs3x5 : fRun V3 500 (fFin 149 31 125 26 499 500) 620 189 47 185 46 499 500 = true := by decide +kernel
theorem fs3x6 : fRun V3 500 (fFin 129 23 230 41 499 500) 620 149 31 125 26 499 500 = true := by decide +kernel
theorem fs3x7 : fRun V3 500 (fFin 314 49 141 22 499 500) 620 129 23 230 41 499 500 = true := by decide +kernel
theorem fs3x8 : fRun V3 500 (fFin 137 19 238 33 499 500) 620 314 49 141 22 499 500 = true := by decide +kernel
theorem fs3x9 : fRun V3 500 (fFin 399 50 8 1 499 500) 611 137 19 238 33 499 500 = true := by decide +kernel
theorem fi3 : FInv V3 500 399 50 8 1 499 500 :=
  fRun_spec _ _ _ _ _ _ _ fs3x9 (
  fRun_spec _ _ _ _ _ _ _ fs3x8 (
  fRun_spec _ _ _ _ _ _ _ fs3x7 (
  fRun_spec _ _ _ _ _ _ _ fs3x6 (
  fRun_spec _ _ _ _ _ _ _ fs3x5 (
  fRun_spec _ _ _ _ _ _ _ fs3x4 (
  fRun_spec _ _ _ _ _ _ _ fs3x3 (
  fRun_spec _ _ _ _ _ _ _ fs3x2 (
  fRun_spec _ _ _ _ _ _ _ fs3x1 (
  fRun_spec _ _ _ _ _ _ _ fs3x0 (FInv.start V3 500))))))))))
end Go.Proofs.YtppbhnhmaocdnaaGreatDoor
