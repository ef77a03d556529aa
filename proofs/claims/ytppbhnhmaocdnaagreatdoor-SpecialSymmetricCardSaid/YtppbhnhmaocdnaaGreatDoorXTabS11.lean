/- N's cells with 11 places along the fractions with denominators up to 50, up to 8: the kernel runs it. PRINTED by wip/gts.py. -/
import Derived.Test.YtppbhnhmaocdnaaGreatDoorXEv11
set_option linter.unusedVariables false
set_option linter.unusedSimpArgs false
namespace Go.Proofs.YtppbhnhmaocdnaaGreatDoor
theorem rtA11 : RtPi (11 + 15) 250662827463100050241576528 250662827463100050241576528 := ⟨by decide +kernel, by decide +kernel⟩
theorem rtB11 : RtPi (11 + 40) 2506628274631000502415765284811045253006986740609937 2506628274631000502415765284811045253006986740609938 := ⟨by decide +kernel, by decide +kernel⟩
noncomputable def V11 (n d : Nat) : Option (Nat × Nat) := nHC 11 n d 250662827463100050241576528 250662827463100050241576528 2506628274631000502415765284811045253006986740609937 2506628274631000502415765284811045253006986740609938
theorem fs11x0 : fRun V11 50000000000 (fFin 4 5 37 46 28814460141 28814460142) 620 0 1 1 50 0 0 = true := by decide +kernel
theorem fs11x1 : fRun V11 50000000000 (fFin 69 43 61 38 44571470239 44571470240) 620 4 5 37 46 28814460141 28814460142 = true := by decide +kernel
theorem fs11x2 : fRun V11 50000000000 (fFin 101 42 89 37 49190849723 49190849724) 620 69 43 61 38 44571470239 44571470240 = true := by decide +kernel
theorem fs11x3 : fRun V11 50000000000 (fFin 109 34 93 29 49932675486 49932675487) 620 101 42 89 37 49190849723 49190849724 = true := by decide +kernel
theorem fs11x4 : fRun V11 50000000000 (fFin 189 47 185 46 49997105820 49997105821) 620 109 34 93 29 49932675486 49932675487 = true := by decide +kernel
theorem fs11x5 : fRun V11 50000000000 (fFin 149 31 125 26 49999923183 49999923184) 620 189 47 185 46 49997105820 49997105821 = true := by decide +kernel
theorem fs11x6 : fRun V11 50000000000 (fFin 129 23 230 41 49999998980 49999998981) 620 149 31 125 26 49999923183 49999923184 = true := by decide +kernel
theorem fs11x7 : fRun V11 50000000000 (fFin 314 49 141 22 49999999992 49999999993) 620 129 23 230 41 49999998980 49999998981 = true := by decide +kernel
theorem fs11x8 : fRun V11 50000000000 (fFin 137 19 238 33 49999999999 50000000000) 620 314 49 141 22 49999999992 49999999993 = true := by decide +kernel
theorem fs11x9 : fRun V11 50000000000 (fFin 399 50 8 1 49999999999 50000000000) 611 137 19 238 33 49999999999 50000000000 = true := by decide +kernel
theorem fi11 : FInv V11 50000000000 399 50 8 1 49999999999 50000000000 :=
  fRun_spec _ _ _ _ _ _ _ fs11x9 (
  fRun_spec _ _ _ _ _ _ _ fs11x8 (
  fRun_spec _ _ _ _ _ _ _ fs11x7 (
  fRun_spec _ _ _ _ _ _ _ fs11x6 (
  fRun_spec _ _ _ _ _ _ _ fs11x5 (
  fRun_spec _ _ _ _ _ _ _ fs11x4 (
  fRun_spec _ _ _ _ _ _ _ fs11x3 (
  fRun_spec _ _ _ _ _ _ _ fs11x2 (
  fRun_spec _ _ _ _ _ _ _ fs11x1 (
  fRun_spec _ _ _ _ _ _ _ fs11x0 (FInv.start V11 50000000000))))))))))
end Go.Proofs.YtppbhnhmaocdnaaGreatDoor
