/- N's cells with 2 places along the fractions with denominators up to 50, up to 8: the kernel runs it. PRINTED by wip/gts.py. -/
import Derived.Test.YtppbhnhmaocdnaaGreatDoorXEv11
set_option linter.unusedVariables false
set_option linter.unusedSimpArgs false
namespace Go.Proofs.YtppbhnhmaocdnaaGreatDoor
theorem rtA2 : RtPi (2 + 15) 250662827463100049 250662827463100050 := ⟨by decide +kernel, by decide +kernel⟩
theorem rtB2 : RtPi (2 + 40) 2506628274631000502415765284811045253006986 2506628274631000502415765284811045253006986 := ⟨by decide +kernel, by decide +kernel⟩
noncomputable def V2 (n d : Nat) : Option (Nat × Nat) := nHC 2 n d 250662827463100049 250662827463100050 2506628274631000502415765284811045253006986 2506628274631000502415765284811045253006986
theorem fs2x0 : fRun V2 50 (fFin 4 5 37 46 28 29) 620 0 1 1 50 0 0 = true := by decide +kernel
theorem fs2x1 : fRun V2 50 (fFin 69 43 61 38 44 45) 620 4 5 37 46 28 29 = true := by decide +kernel
theorem fs2x2 : fRun V2 50 (fFin 101 42 89 37 49 50) 620 69 43 61 38 44 45 = true := by decide +kernel
theorem fs2x3 : fRun V2 50 (fFin 109 34 93 29 49 50) 620 101 42 89 37 49 50 = true := by decide +kernel
theorem fs2x4 : fRun V2 50 (fFin 189 47 185 46 49 50) 620 109 34 93 29 49 50 = true := by decide +kernel
theorem fs2x5 : fRun V2 50 (fFin 149 31 125 26 49 50) 620 189 47 185 46 49 50 = true := by decide +kernel
theorem fs2x6 : fRun V2 50 (fFin 129 23 230 41 49 50) 620 149 31 125 26 49 50 = true := by decide +kernel
theorem fs2x7 : fRun V2 50 (fFin 314 49 141 22 49 50) 620 129 23 230 41 49 50 = true := by decide +kernel
theorem fs2x8 : fRun V2 50 (fFin 137 19 238 33 49 50) 620 314 49 141 22 49 50 = true := by decide +kernel
theorem fs2x9 : fRun V2 50 (fFin 399 50 8 1 49 50) 611 137 19 238 33 49 50 = true := by decide +kernel
theorem fi2 : FInv V2 50 399 50 8 1 49 50 :=
  fRun_spec _ _ _ _ _ _ _ fs2x9 (
  fRun_spec _ _ _ _ _ _ _ fs2x8 (
  fRun_spec _ _ _ _ _ _ _ fs2x7 (
  fRun_spec _ _ _ _ _ _ _ fs2x6 (
  fRun_spec _ _ _ _ _ _ _ fs2x5 (
  fRun_spec _ _ _ _ _ _ _ fs2x4 (
  fRun_spec _ _ _ _ _ _ _ fs2x3 (
  fRun_spec _ _ _ _ _ _ _ fs2x2 (
  fRun_spec _ _ _ _ _ _ _ fs2x1 (
  fRun_spec _ _ _ _ _ _ _ fs2x0 (FInv.start V2 50))))))))))
end Go.Proofs.YtppbhnhmaocdnaaGreatDoor
