/- N's cells with 10 places along the fractions with denominators up to 50, up to 8: the kernel runs it. PRINTED by wip/gts.py. -/
import Derived.Test.YtppbhnhmaocdnaaGreatDoorXEv11
set_option linter.unusedVariables false
set_option linter.unusedSimpArgs false
namespace Go.Proofs.YtppbhnhmaocdnaaGreatDoor
theorem rtA10 : RtPi (10 + 15) 25066282746310005024157652 25066282746310005024157652 := ⟨by decide +kernel, by decide +kernel⟩
theorem rtB10 : RtPi (10 + 40) 250662827463100050241576528481104525300698674060993 250662827463100050241576528481104525300698674060993 := ⟨by decide +kernel, by decide +kernel⟩
noncomputable def V10 (n d : Nat) : Option (Nat × Nat) := nHC 10 n d 25066282746310005024157652 25066282746310005024157652 250662827463100050241576528481104525300698674060993 250662827463100050241576528481104525300698674060993
theorem fs10x0 : fRun V10 5000000000 (fFin 4 5 37 46 2881446014 2881446015) 620 0 1 1 50 0 0 = true := by decide +kernel
theorem fs10x1 : fRun V10 5000000000 (fFin 69 43 61 38 4457147023 4457147024) 620 4 5 37 46 2881446014 2881446015 = true := by decide +kernel
theorem fs10x2 : fRun V10 5000000000 (fFin 101 42 89 37 4919084972 4919084973) 620 69 43 61 38 4457147023 4457147024 = true := by decide +kernel
theorem fs10x3 : fRun V10 5000000000 (fFin 109 34 93 29 4993267548 4993267549) 620 101 42 89 37 4919084972 4919084973 = true := by decide +kernel
theorem fs10x4 : fRun V10 5000000000 (fFin 189 47 185 46 4999710582 4999710583) 620 109 34 93 29 4993267548 4993267549 = true := by decide +kernel
theorem fs10x5 : fRun V10 5000000000 (fFin 149 31 125 26 4999992318 4999992319) 620 189 47 185 46 4999710582 4999710583 = true := by decide +kernel
theorem fs10x6 : fRun V10 5000000000 (fFin 129 23 230 41 4999999898 4999999899) 620 149 31 125 26 4999992318 4999992319 = true := by decide +kernel
theorem fs10x7 : fRun V10 5000000000 (fFin 314 49 141 22 4999999999 5000000000) 620 129 23 230 41 4999999898 4999999899 = true := by decide +kernel
theorem fs10x8 : fRun V10 5000000000 (fFin 137 19 238 33 4999999999 5000000000) 620 314 49 141 22 4999999999 5000000000 = true := by decide +kernel
theorem fs10x9 : fRun V10 5000000000 (fFin 399 50 8 1 4999999999 5000000000) 611 137 19 238 33 4999999999 5000000000 = true := by decide +kernel
theorem fi10 : FInv V10 5000000000 399 50 8 1 4999999999 5000000000 :=
  fRun_spec _ _ _ _ _ _ _ fs10x9 (
  fRun_spec _ _ _ _ _ _ _ fs10x8 (
  fRun_spec _ _ _ _ _ _ _ fs10x7 (
  fRun_spec _ _ _ _ _ _ _ fs10x6 (
  fRun_spec _ _ _ _ _ _ _ fs10x5 (
  fRun_spec _ _ _ _ _ _ _ fs10x4 (
  fRun_spec _ _ _ _ _ _ _ fs10x3 (
  fRun_spec _ _ _ _ _ _ _ fs10x2 (
  fRun_spec _ _ _ _ _ _ _ fs10x1 (
  fRun_spec _ _ _ _ _ _ _ fs10x0 (FInv.start V10 5000000000))))))))))
end Go.Proofs.YtppbhnhmaocdnaaGreatDoor
