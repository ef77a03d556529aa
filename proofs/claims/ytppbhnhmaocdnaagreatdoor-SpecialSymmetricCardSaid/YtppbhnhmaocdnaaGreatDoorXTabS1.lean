/- N's cells with 1 places along the fractions with denominators up to 50, up to 8: the kernel runs it. PRINTED by wip/gts.py. -/
import Derived.Test.YtppbhnhmaocdnaaGreatDoorXEv11
set_option linter.unusedVariables false
set_option linter.unusedSimpArgs false
namespace Go.Proofs.YtppbhnhmaocdnaaGreatDoor
theorem rtA1 : RtPi (1 + 15) 25066282746310004 25066282746310005 := ⟨by decide +kernel, by decide +kernel⟩
theorem rtB1 : RtPi (1 + 40) 250662827463100050241576528481104525300698 250662827463100050241576528481104525300698 := ⟨by decide +kernel, by decide +kernel⟩
noncomputable def V1 (n d : Nat) : Option (Nat × Nat) := nHC 1 n d 25066282746310004 25066282746310005 250662827463100050241576528481104525300698 250662827463100050241576528481104525300698
theorem fs1x0 : fRun V1 5 (fFin 4 5 37 46 2 3) 620 0 1 1 50 0 0 = true := by decide +kernel
theorem fs1x1 : fRun V1 5 (fFin 69 43 61 38 4 5) 620 4 5 37 46 2 3 = true := by decide +kernel
theorem fs1x2 : fRun V1 5 (fFin 101 42 89 37 4 5) 620 69 43 61 38 4 5 = true := by decide +kernel
theorem fs1x3 : fRun V1 5 (fFin 109 34 93 29 4 5) 620 101 42 89 37 4 5 = true := by decide +kernel
theorem fs1x4 : fRun V1 5 (fFin 189 47 185 46 4 5) 620 109 34 93 29 4 5 = true := by decide +kernel
theorem fs1x5 : fRun V1 5 (fFin 149 31 125 26 4 5) 620 189 47 185 46 4 5 = true := by decide +kernel
theorem fs1x6 : fRun V1 5 (fFin 129 23 230 41 4 5) 620 149 31 125 26 4 5 = true := by decide +kernel
theorem fs1x7 : fRun V1 5 (fFin 314 49 141 22 4 5) 620 129 23 230 41 4 5 = true := by decide +kernel
theorem fs1x8 : fRun V1 5 (fFin 137 19 238 33 4 5) 620 314 49 141 22 4 5 = true := by decide +kernel
theorem fs1x9 : fRun V1 5 (fFin 399 50 8 1 4 5) 611 137 19 238 33 4 5 = true := by decide +kernel
theorem fi1 : FInv V1 5 399 50 8 1 4 5 :=
  fRun_spec _ _ _ _ _ _ _ fs1x9 (
  fRun_spec _ _ _ _ _ _ _ fs1x8 (
  fRun_spec _ _ _ _ _ _ _ fs1x7 (
  fRun_spec _ _ _ _ _ _ _ fs1x6 (
  fRun_spec _ _ _ _ _ _ _ fs1x5 (
  fRun_spec _ _ _ _ _ _ _ fs1x4 (
  fRun_spec _ _ _ _ _ _ _ fs1x3 (
  fRun_spec _ _ _ _ _ _ _ fs1x2 (
  fRun_spec _ _ _ _ _ _ _ fs1x1 (
  fRun_spec _ _ _ _ _ _ _ fs1x0 (FInv.start V1 5))))))))))
end Go.Proofs.YtppbhnhmaocdnaaGreatDoor
