/- N's cells with 12 places along the fractions with denominators up to 50, up to 8: the kernel runs it. PRINTED by wip/gts.py. -/
import Derived.Test.YtppbhnhmaocdnaaGreatDoorXEv11
set_option linter.unusedVariables false
set_option linter.unusedSimpArgs false
namespace Go.Proofs.YtppbhnhmaocdnaaGreatDoor
theorem rtA12 : RtPi (12 + 15) 2506628274631000502415765284 2506628274631000502415765285 := ⟨by decide +kernel, by decide +kernel⟩
theorem rtB12 : RtPi (12 + 40) 25066282746310005024157652848110452530069867406099383 25066282746310005024157652848110452530069867406099383 := ⟨by decide +kernel, by decide +kernel⟩
noncomputable def V12 (n d : Nat) : Option (Nat × Nat) := nHC 12 n d 2506628274631000502415765284 2506628274631000502415765285 25066282746310005024157652848110452530069867406099383 25066282746310005024157652848110452530069867406099383
theorem fs12x0 : fRun V12 500000000000 (fFin 4 5 37 46 288144601416 288144601417) 620 0 1 1 50 0 0 = true := by decide +kernel
theorem fs12x1 : fRun V12 500000000000 (fFin 69 43 61 38 445714702394 445714702395) 620 4 5 37 46 288144601416 288144601417 = true := by decide +kernel
theorem fs12x2 : fRun V12 500000000000 (fFin 101 42 89 37 491908497236 491908497237) 620 69 43 61 38 445714702394 445714702395 = true := by decide +kernel
theorem fs12x3 : fRun V12 500000000000 (fFin 109 34 93 29 499326754863 499326754864) 620 101 42 89 37 491908497236 491908497237 = true := by decide +kernel
theorem fs12x4 : fRun V12 500000000000 (fFin 189 47 185 46 499971058205 499971058206) 620 109 34 93 29 499326754863 499326754864 = true := by decide +kernel
theorem fs12x5 : fRun V12 500000000000 (fFin 149 31 125 26 499999231836 499999231837) 620 189 47 185 46 499971058205 499971058206 = true := by decide +kernel
theorem fs12x6 : fRun V12 500000000000 (fFin 129 23 230 41 499999989807 499999989808) 620 149 31 125 26 499999231836 499999231837 = true := by decide +kernel
theorem fs12x7 : fRun V12 500000000000 (fFin 314 49 141 22 499999999926 499999999927) 620 129 23 230 41 499999989807 499999989808 = true := by decide +kernel
theorem fs12x8 : fRun V12 500000000000 (fFin 137 19 238 33 499999999999 500000000000) 620 314 49 141 22 499999999926 499999999927 = true := by decide +kernel
theorem fs12x9 : fRun V12 500000000000 (fFin 399 50 8 1 499999999999 500000000000) 611 137 19 238 33 499999999999 500000000000 = true := by decide +kernel
theorem fi12 : FInv V12 500000000000 399 50 8 1 499999999999 500000000000 :=
  fRun_spec _ _ _ _ _ _ _ fs12x9 (
  fRun_spec _ _ _ _ _ _ _ fs12x8 (
  fRun_spec _ _ _ _ _ _ _ fs12x7 (
  fRun_spec _ _ _ _ _ _ _ fs12x6 (
  fRun_spec _ _ _ _ _ _ _ fs12x5 (
  fRun_spec _ _ _ _ _ _ _ fs12x4 (
  fRun_spec _ _ _ _ _ _ _ fs12x3 (
  fRun_spec _ _ _ _ _ _ _ fs12x2 (
  fRun_spec _ _ _ _ _ _ _ fs12x1 (
  fRun_spec _ _ _ _ _ _ _ fs12x0 (FInv.start V12 500000000000))))))))))
end Go.Proofs.YtppbhnhmaocdnaaGreatDoor
