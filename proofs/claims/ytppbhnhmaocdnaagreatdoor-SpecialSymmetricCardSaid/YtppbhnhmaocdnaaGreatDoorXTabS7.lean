/- N's cells with 7 places along the fractions with denominators up to 50, up to 8: the kernel runs it. PRINTED by wip/gts.py. -/
import Derived.Test.YtppbhnhmaocdnaaGreatDoorXEv11
set_option linter.unusedVariables false
set_option linter.unusedSimpArgs false
namespace Go.Proofs.YtppbhnhmaocdnaaGreatDoor
theorem rtA7 : RtPi (7 + 15) 25066282746310005024157 25066282746310005024157 := ⟨by decide +kernel, by decide +kernel⟩
theorem rtB7 : RtPi (7 + 40) 250662827463100050241576528481104525300698674060 250662827463100050241576528481104525300698674061 := ⟨by decide +kernel, by decide +kernel⟩
noncomputable def V7 (n d : Nat) : Option (Nat × Nat) := nHC 7 n d 25066282746310005024157 25066282746310005024157 250662827463100050241576528481104525300698674060 250662827463100050241576528481104525300698674061
theorem fs7x0 : fRun V7 5000000 (fFin 4 5 37 46 2881446 2881447) 620 0 1 1 50 0 0 = true := by decide +kernel
theorem fs7x1 : fRun V7 5000000 (fFin 69 43 61 38 4457147 4457148) 620 4 5 37 46 2881446 2881447 = true := by decide +kernel
theorem fs7x2 : fRun V7 5000000 (fFin 101 42 89 37 4919084 4919085) 620 69 43 61 38 4457147 4457148 = true := by decide +kernel
theorem fs7x3 : fRun V7 5000000 (fFin 109 34 93 29 4993267 4993268) 620 101 42 89 37 4919084 4919085 = true := by decide +kernel
theorem fs7x4 : fRun V7 5000000 (fFin 189 47 185 46 4999710 4999711) 620 109 34 93 29 4993267 4993268 = true := by decide +kernel
theorem fs7x5 : fRun V7 5000000 (fFin 149 31 125 26 4999992 4999993) 620 189 47 185 46 4999710 4999711 = true := by decide +kernel
theorem fs7x6 : fRun V7 5000000 (fFin 129 23 230 41 4999999 5000000) 620 149 31 125 26 4999992 4999993 = true := by decide +kernel
theorem fs7x7 : fRun V7 5000000 (fFin 314 49 141 22 4999999 5000000) 620 129 23 230 41 4999999 5000000 = true := by decide +kernel
theorem fs7x8 : fRun V7 5000000 (fFin 137 19 238 33 4999999 5000000) 620 314 49 141 22 4999999 5000000 = true := by decide +kernel
theorem fs7x9 : fRun V7 5000000 (fFin 399 50 8 1 4999999 5000000) 611 137 19 238 33 4999999 5000000 = true := by decide +kernel
theorem fi7 : FInv V7 5000000 399 50 8 1 4999999 5000000 :=
  fRun_spec _ _ _ _ _ _ _ fs7x9 (
  fRun_spec _ _ _ _ _ _ _ fs7x8 (
  fRun_spec _ _ _ _ _ _ _ fs7x7 (
  fRun_spec _ _ _ _ _ _ _ fs7x6 (
  fRun_spec _ _ _ _ _ _ _ fs7x5 (
  fRun_spec _ _ _ _ _ _ _ fs7x4 (
  fRun_spec _ _ _ _ _ _ _ fs7x3 (
  fRun_spec _ _ _ _ _ _ _ fs7x2 (
  fRun_spec _ _ _ _ _ _ _ fs7x1 (
  fRun_spec _ _ _ _ _ _ _ fs7x0 (FInv.start V7 5000000))))))))))
end Go.Proofs.YtppbhnhmaocdnaaGreatDoor
