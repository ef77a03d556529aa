/- N's cells with 8 places along the fractions with denominators up to 50, up to 8: the kernel runs it. PRINTED by wip/gts.py. -/
import Derived.Test.YtppbhnhmaocdnaaGreatDoorXEv11
set_option linter.unusedVariables false
set_option linter.unusedSimpArgs false
namespace Go.Proofs.YtppbhnhmaocdnaaGreatDoor
theorem rtA8 : RtPi (8 + 15) 250662827463100050241576 250662827463100050241576 := ⟨by decide +kernel, by decide +kernel⟩
theorem rtB8 : RtPi (8 + 40) 2506628274631000502415765284811045253006986740609 2506628274631000502415765284811045253006986740610 := ⟨by decide +kernel, by decide +kernel⟩
noncomputable def V8 (n d : Nat) : Option (Nat × Nat) := nHC 8 n d 250662827463100050241576 250662827463100050241576 2506628274631000502415765284811045253006986740609 2506628274631000502415765284811045253006986740610
theorem fs8x0 : fRun V8 50000000 (fFin 4 5 37 46 28814460 28814461) 620 0 1 1 50 0 0 = true := by decide +kernel
theorem fs8x1 : fRun V8 50000000 (fFin 69 43 61 38 44571470 44571471) 620 4 5 37 46 28814460 28814461 = true := by decide +kernel
theorem fs8x2 : fRun V8 50000000 (fFin 101 42 89 37 49190849 49190850) 620 69 43 61 38 44571470 44571471 = true := by decide +kernel
theorem fs8x3 : fRun V8 50000000 (fFin 109 34 93 29 49932675 49932676) 620 101 42 89 37 49190849 49190850 = true := by decide +kernel
theorem fs8x4 : fRun V8 50000000 (fFin 189 47 185 46 49997105 49997106) 620 109 34 93 29 49932675 49932676 = true := by decide +kernel
theorem fs8x5 : fRun V8 50000000 (fFin 149 31 125 26 49999923 49999924) 620 189 47 185 46 49997105 49997106 = true := by decide +kernel
theorem fs8x6 : fRun V8 50000000 (fFin 129 23 230 41 49999998 49999999) 620 149 31 125 26 49999923 49999924 = true := by decide +kernel
theorem fs8x7 : fRun V8 50000000 (fFin 314 49 141 22 49999999 50000000) 620 129 23 230 41 49999998 49999999 = true := by decide +kernel
theorem fs8x8 : fRun V8 50000000 (fFin 137 19 238 33 49999999 50000000) 620 314 49 141 22 49999999 50000000 = true := by decide +kernel
theorem fs8x9 : fRun V8 50000000 (fFin 399 50 8 1 49999999 50000000) 611 137 19 238 33 49999999 50000000 = true := by decide +kernel
theorem fi8 : FInv V8 50000000 399 50 8 1 49999999 50000000 :=
  fRun_spec _ _ _ _ _ _ _ fs8x9 (
  fRun_spec _ _ _ _ _ _ _ fs8x8 (
  fRun_spec _ _ _ _ _ _ _ fs8x7 (
  fRun_spec _ _ _ _ _ _ _ fs8x6 (
  fRun_spec _ _ _ _ _ _ _ fs8x5 (
  fRun_spec _ _ _ _ _ _ _ fs8x4 (
  fRun_spec _ _ _ _ _ _ _ fs8x3 (
  fRun_spec _ _ _ _ _ _ _ fs8x2 (
  fRun_spec _ _ _ _ _ _ _ fs8x1 (
  fRun_spec _ _ _ _ _ _ _ fs8x0 (FInv.start V8 50000000))))))))))
end Go.Proofs.YtppbhnhmaocdnaaGreatDoor
