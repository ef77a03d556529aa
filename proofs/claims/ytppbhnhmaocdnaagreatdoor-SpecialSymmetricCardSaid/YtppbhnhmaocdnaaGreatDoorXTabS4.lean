/- N's cells with 4 places along the fractions with denominators up to 50, up to 8: the kernel runs it. PRINTED by wip/gts.py. -/
import Derived.Test.YtppbhnhmaocdnaaGreatDoorXEv11
set_option linter.unusedVariables false
set_option linter.unusedSimpArgs false
namespace Go.Proofs.YtppbhnhmaocdnaaGreatDoor
theorem rtA4 : RtPi (4 + 15) 25066282746310005023 25066282746310005024 := ⟨by decide +kernel, by decide +kernel⟩
theorem rtB4 : RtPi (4 + 40) 250662827463100050241576528481104525300698673 250662827463100050241576528481104525300698674 := ⟨by decide +kernel, by decide +kernel⟩
noncomputable def V4 (n d : Nat) : Option (Nat × Nat) := nHC 4 n d 25066282746310005023 25066282746310005024 250662827463100050241576528481104525300698673 250662827463100050241576528481104525300698674
theorem fs4x0 : fRun V4 5000 (fFin 4 5 37 46 2881 2882) 620 0 1 1 50 0 0 = true := by decide +kernel
theorem fs4x1 : fRun V4 5000 (fFin 69 43 61 38 4457 4458) 620 4 5 37 46 2881 2882 = true := by decide +kernel
theorem fs4x2 : fRun V4 5000 (fFin 101 42 89 37 4919 4920) 620 69 43 61 38 4457 4458 = true := by decide +kernel
theorem fs4x3 : fRun V4 5000 (fFin 109 34 93 29 4993 4994) 620 101 42 89 37 4919 4920 = true := by decide +kernel
theorem fs4x4 : fRun V4 5000 (fFin 189 47 185 46 4999 5000) 620 109 34 93 29 4993 4994 = true := by decide +kernel
theorem fs4x5 : fRun V4 5000 (fFin 149 31 125 26 4999 5000) 620 189 47 185 46 4999 5000 = true := by decide +kernel
theorem fs4x6 : fRun V4 5000 (fFin 129 23 230 41 4999 5000) 620 149 31 125 26 4999 5000 = true := by decide +kernel
theorem fs4x7 : fRun V4 5000 (fFin 314 49 141 22 4999 5000) 620 129 23 230 41 4999 5000 = true := by decide +kernel
theorem fs4x8 : fRun V4 5000 (fFin 137 19 238 33 4999 5000) 620 314 49 141 22 4999 5000 = true := by decide +kernel
theorem fs4x9 : fRun V4 5000 (fFin 399 50 8 1 4999 5000) 611 137 19 238 33 4999 5000 = true := by decide +kernel
theorem fi4 : FInv V4 5000 399 50 8 1 4999 5000 :=
  fRun_spec _ _ _ _ _ _ _ fs4x9 (
  fRun_spec _ _ _ _ _ _ _ fs4x8 (
  fRun_spec _ _ _ _ _ _ _ fs4x7 (
  fRun_spec _ _ _ _ _ _ _ fs4x6 (
  fRun_spec _ _ _ _ _ _ _ fs4x5 (
  fRun_spec _ _ _ _ _ _ _ fs4x4 (
  fRun_spec _ _ _ _ _ _ _ fs4x3 (
  fRun_spec _ _ _ _ _ _ _ fs4x2 (
  fRun_spec _ _ _ _ _ _ _ fs4x1 (
  fRun_spec _ _ _ _ _ _ _ fs4x0 (FInv.start V4 5000))))))))))
end Go.Proofs.YtppbhnhmaocdnaaGreatDoor
