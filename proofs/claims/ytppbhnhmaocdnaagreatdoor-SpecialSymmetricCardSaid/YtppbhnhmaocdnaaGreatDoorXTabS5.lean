/- N's cells with 5 places along the fractions with denominators up to 50, up to 8: the kernel runs it. PRINTED by wip/gts.py. -/
import Derived.Test.YtppbhnhmaocdnaaGreatDoorXEv11
set_option linter.unusedVariables false
set_option linter.unusedSimpArgs false
namespace Go.Proofs.YtppbhnhmaocdnaaGreatDoor
theorem rtA5 : RtPi (5 + 15) 250662827463100050241 250662827463100050241 := ⟨by decide +kernel, by decide +kernel⟩
theorem rtB5 : RtPi (5 + 40) 2506628274631000502415765284811045253006986740 2506628274631000502415765284811045253006986740 := ⟨by decide +kernel, by decide +kernel⟩
noncomputable def V5 (n d : Nat) : Option (Nat × Nat) := nHC 5 n d 250662827463100050241 250662827463100050241 2506628274631000502415765284811045253006986740 2506628274631000502415765284811045253006986740
theorem fs5x0 : fRun V5 50000 (fFin 4 5 37 46 28814 28815) 620 0 1 1 50 0 0 = true := by decide +kernel
theorem fs5x1 : fRun V5 50000 (fFin 69 43 61 38 44571 44572) 620 4 5 37 46 28814 28815 = true := by decide +kernel
theorem fs5x2 : fRun V5 50000 (fFin 101 42 89 37 49190 49191) 620 69 43 61 38 44571 44572 = true := by decide +kernel
theorem fs5x3 : fRun V5 50000 (fFin 109 34 93 29 49932 49933) 620 101 42 89 37 49190 49191 = true := by decide +kernel
theorem fs5x4 : fRun V5 50000 (fFin 189 47 185 46 49997 49998) 620 109 34 93 29 49932 49933 = true := by decide +kernel
theorem fs5x5 : fRun V5 50000 (fFin 149 31 125 26 49999 50000) 620 189 47 185 46 49997 49998 = true := by decide +kernel
theorem fs5x6 : fRun V5 50000 (fFin 129 23 230 41 49999 50000) 620 149 31 125 26 49999 50000 = true := by decide +kernel
theorem fs5x7 : fRun V5 50000 (fFin 314 49 141 22 49999 50000) 620 129 23 230 41 49999 50000 = true := by decide +kernel
theorem fs5x8 : fRun V5 50000 (fFin 137 19 238 33 49999 50000) 620 314 49 141 22 49999 50000 = true := by decide +kernel
theorem fs5x9 : fRun V5 50000 (fFin 399 50 8 1 49999 50000) 611 137 19 238 33 49999 50000 = true := by decide +kernel
theorem fi5 : FInv V5 50000 399 50 8 1 49999 50000 :=
  fRun_spec _ _ _ _ _ _ _ fs5x9 (
  fRun_spec _ _ _ _ _ _ _ fs5x8 (
  fRun_spec _ _ _ _ _ _ _ fs5x7 (
  fRun_spec _ _ _ _ _ _ _ fs5x6 (
  fRun_spec _ _ _ _ _ _ _ fs5x5 (
  fRun_spec _ _ _ _ _ _ _ fs5x4 (
  fRun_spec _ _ _ _ _ _ _ fs5x3 (
  fRun_spec _ _ _ _ _ _ _ fs5x2 (
  fRun_spec _ _ _ _ _ _ _ fs5x1 (
  fRun_spec _ _ _ _ _ _ _ fs5x0 (FInv.start V5 50000))))))))))
end Go.Proofs.YtppbhnhmaocdnaaGreatDoor
