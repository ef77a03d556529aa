/- exp, row by row: the kernel runs it. PRINTED. -/
import Derived.Test.YtppbhnhmaocdnaaGreatDoorXEv8
set_option linter.unusedVariables false
set_option linter.unusedSimpArgs false
namespace Go.Proofs.YtppbhnhmaocdnaaGreatDoor
theorem rE1 : rowE 1 = true := by decide +kernel
theorem rE2 : rowE 2 = true := by decide +kernel
theorem rE3 : rowE 3 = true := by decide +kernel
theorem rE4 : rowE 4 = true := by decide +kernel
theorem rE5 : rowE 5 = true := by decide +kernel
theorem rE6 : rowE 6 = true := by decide +kernel
theorem rE7 : rowE 7 = true := by decide +kernel
theorem rE8 : rowE 8 = true := by decide +kernel
theorem rE9 : rowE 9 = true := by decide +kernel
theorem rE10 : rowE 10 = true := by decide +kernel
theorem rE11 : rowE 11 = true := by decide +kernel
theorem rE12 : rowE 12 = true := by decide +kernel
theorem rE13 : rowE 13 = true := by decide +kernel
theorem rE14 : rowE 14 = true := by decide +kernel
theorem rE15 : rowE 15 = true := by decide +kernel
theorem rE16 : rowE 16 = true := by decide +kernel
theorem rE17 : rowE 17 = true := by decide +kernel
theorem rE18 : rowE 18 = true := by decide +kernel
theorem rE19 : rowE 19 = true := by decide +kernel
theorem rE20 : rowE 20 = true := by decide +kernel
theorem rE21 : rowE 21 = true := by decide +kernel
theorem rE22 : rowE 22 = true := by decide +kernel
theorem rE23 : rowE 23 = true := by decide +kernel
theorem rE24 : rowE 24 = true := by decide +kernel
theorem rE25 : rowE 25 = true := by decide +kernel
theorem rE26 : rowE 26 = true := by decide +kernel
theorem rE27 : rowE 27 = true := by decide +kernel
theorem rE28 : rowE 28 = true := by decide +kernel
theorem rE29 : rowE 29 = true := by decide +kernel
theorem rE30 : rowE 30 = true := by decide +kernel
theorem rE31 : rowE 31 = true := by decide +kernel
theorem rE32 : rowE 32 = true := by decide +kernel
theorem rE33 : rowE 33 = true := by decide +kernel
theorem rE34 : rowE 34 = true := by decide +kernel
theorem rE35 : rowE 35 = true := by decide +kernel
theorem rE36 : rowE 36 = true := by decide +kernel
theorem rE37 : rowE 37 = true := by decide +kernel
theorem rE38 : rowE 38 = true := by decide +kernel
theorem rE39 : rowE 39 = true := by decide +kernel
theorem rE40 : rowE 40 = true := by decide +kernel
theorem rE41 : rowE 41 = true := by decide +kernel
theorem rE42 : rowE 42 = true := by decide +kernel
theorem rE43 : rowE 43 = true := by decide +kernel
theorem rE44 : rowE 44 = true := by decide +kernel
theorem rE45 : rowE 45 = true := by decide +kernel
theorem rE46 : rowE 46 = true := by decide +kernel
theorem rE47 : rowE 47 = true := by decide +kernel
theorem rE48 : rowE 48 = true := by decide +kernel
theorem rE49 : rowE 49 = true := by decide +kernel
theorem rE50 : rowE 50 = true := by decide +kernel
theorem rEAll (d : Nat) (h1 : 1 ≤ d) (h2 : d ≤ 50) : rowE d = true := by
  have h : d = 1 ∨ d = 2 ∨ d = 3 ∨ d = 4 ∨ d = 5 ∨ d = 6 ∨ d = 7 ∨ d = 8 ∨ d = 9 ∨ d = 10 ∨ d = 11 ∨ d = 12 ∨ d = 13 ∨ d = 14 ∨ d = 15 ∨ d = 16 ∨ d = 17 ∨ d = 18 ∨ d = 19 ∨ d = 20 ∨ d = 21 ∨ d = 22 ∨ d = 23 ∨ d = 24 ∨ d = 25 ∨ d = 26 ∨ d = 27 ∨ d = 28 ∨ d = 29 ∨ d = 30 ∨ d = 31 ∨ d = 32 ∨ d = 33 ∨ d = 34 ∨ d = 35 ∨ d = 36 ∨ d = 37 ∨ d = 38 ∨ d = 39 ∨ d = 40 ∨ d = 41 ∨ d = 42 ∨ d = 43 ∨ d = 44 ∨ d = 45 ∨ d = 46 ∨ d = 47 ∨ d = 48 ∨ d = 49 ∨ d = 50 := by omega
  rcases h with rfl | rfl | rfl | rfl | rfl | rfl | rfl | rfl | rfl | rfl | rfl | rfl | rfl | rfl | rfl | rfl | rfl | rfl | rfl | rfl | rfl | rfl | rfl | rfl | rfl | rfl | rfl | rfl | rfl | rfl | rfl | rfl | rfl | rfl | rfl | rfl | rfl | rfl | rfl | rfl | rfl | rfl | rfl | rfl | rfl | rfl | rfl | rfl | rfl | rfl
  · exact rE1
  · exact rE2
  · exact rE3
  · exact rE4
  · exact rE5
  · exact rE6
  · exact rE7
  · exact rE8
  · exact rE9
  · exact rE10
  · exact rE11
  · exact rE12
  · exact rE13
  · exact rE14
  · exact rE15
  · exact rE16
  · exact rE17
  · exact rE18
  · exact rE19
  · exact rE20
  · exact rE21
  · exact rE22
  · exact rE23
  · exact rE24
  · exact rE25
  · exact rE26
  · exact rE27
  · exact rE28
  · exact rE29
  · exact rE30
  · exact rE31
  · exact rE32
  · exact rE33
  · exact rE34
  · exact rE35
  · exact rE36
  · exact rE37
  · exact rE38
  · exact rE39
  · exact rE40
  · exact rE41
  · exact rE42
  · exact rE43
  · exact rE44
  · exact rE45
  · exact rE46
  · exact rE47
  · exact rE48
  · exact rE49
  · exact rE50
end Go.Proofs.YtppbhnhmaocdnaaGreatDoor
