/- log, row by row: the kernel runs it. PRINTED. -/
import Derived.Test.YtppbhnhmaocdnaaGreatDoorXEv8
set_option linter.unusedVariables false
set_option linter.unusedSimpArgs false
namespace Go.Proofs.YtppbhnhmaocdnaaGreatDoor
theorem rL1 : rowL 1 = true := by decide +kernel
theorem rL2 : rowL 2 = true := by decide +kernel
theorem rL3 : rowL 3 = true := by decide +kernel
theorem rL4 : rowL 4 = true := by decide +kernel
theorem rL5 : rowL 5 = true := by decide +kernel
theorem rL6 : rowL 6 = true := by decide +kernel
theorem rL7 : rowL 7 = true := by decide +kernel
theorem rL8 : rowL 8 = true := by decide +kernel
theorem rL9 : rowL 9 = true := by decide +kernel
theorem rL10 : rowL 10 = true := by decide +kernel
theorem rL11 : rowL 11 = true := by decide +kernel
theorem rL12 : rowL 12 = true := by decide +kernel
theorem rL13 : rowL 13 = true := by decide +kernel
theorem rL14 : rowL 14 = true := by decide +kernel
theorem rL15 : rowL 15 = true := by decide +kernel
theorem rL16 : rowL 16 = true := by decide +kernel
theorem rL17 : rowL 17 = true := by decide +kernel
theorem rL18 : rowL 18 = true := by decide +kernel
theorem rL19 : rowL 19 = true := by decide +kernel
theorem rL20 : rowL 20 = true := by decide +kernel
theorem rL21 : rowL 21 = true := by decide +kernel
theorem rL22 : rowL 22 = true := by decide +kernel
theorem rL23 : rowL 23 = true := by decide +kernel
theorem rL24 : rowL 24 = true := by decide +kernel
theorem rL25 : rowL 25 = true := by decide +kernel
theorem rL26 : rowL 26 = true := by decide +kernel
theorem rL27 : rowL 27 = true := by decide +kernel
theorem rL28 : rowL 28 = true := by decide +kernel
theorem rL29 : rowL 29 = true := by decide +kernel
theorem rL30 : rowL 30 = true := by decide +kernel
theorem rL31 : rowL 31 = true := by decide +kernel
theorem rL32 : rowL 32 = true := by decide +kernel
theorem rL33 : rowL 33 = true := by decide +kernel
theorem rL34 : rowL 34 = true := by decide +kernel
theorem rL35 : rowL 35 = true := by decide +kernel
theorem rL36 : rowL 36 = true := by decide +kernel
theorem rL37 : rowL 37 = true := by decide +kernel
theorem rL38 : rowL 38 = true := by decide +kernel
theorem rL39 : rowL 39 = true := by decide +kernel
theorem rL40 : rowL 40 = true := by decide +kernel
theorem rL41 : rowL 41 = true := by decide +kernel
theorem rL42 : rowL 42 = true := by decide +kernel
theorem rL43 : rowL 43 = true := by decide +kernel
theorem rL44 : rowL 44 = true := by decide +kernel
theorem rL45 : rowL 45 = true := by decide +kernel
theorem rL46 : rowL 46 = true := by decide +kernel
theorem rL47 : rowL 47 = true := by decide +kernel
theorem rL48 : rowL 48 = true := by decide +kernel
theorem rL49 : rowL 49 = true := by decide +kernel
theorem rL50 : rowL 50 = true := by decide +kernel
theorem rLAll (d : Nat) (h1 : 1 ≤ d) (h2 : d ≤ 50) : rowL d = true := by
  have h : d = 1 ∨ d = 2 ∨ d = 3 ∨ d = 4 ∨ d = 5 ∨ d = 6 ∨ d = 7 ∨ d = 8 ∨ d = 9 ∨ d = 10 ∨ d = 11 ∨ d = 12 ∨ d = 13 ∨ d = 14 ∨ d = 15 ∨ d = 16 ∨ d = 17 ∨ d = 18 ∨ d = 19 ∨ d = 20 ∨ d = 21 ∨ d = 22 ∨ d = 23 ∨ d = 24 ∨ d = 25 ∨ d = 26 ∨ d = 27 ∨ d = 28 ∨ d = 29 ∨ d = 30 ∨ d = 31 ∨ d = 32 ∨ d = 33 ∨ d = 34 ∨ d = 35 ∨ d = 36 ∨ d = 37 ∨ d = 38 ∨ d = 39 ∨ d = 40 ∨ d = 41 ∨ d = 42 ∨ d = 43 ∨ d = 44 ∨ d = 45 ∨ d = 46 ∨ d = 47 ∨ d = 48 ∨ d = 49 ∨ d = 50 := by omega
  rcases h with rfl | rfl | rfl | rfl | rfl | rfl | rfl | rfl | rfl | rfl | rfl | rfl | rfl | rfl | rfl | rfl | rfl | rfl | rfl | rfl | rfl | rfl | rfl | rfl | rfl | rfl | rfl | rfl | rfl | rfl | rfl | rfl | rfl | rfl | rfl | rfl | rfl | rfl | rfl | rfl | rfl | rfl | rfl | rfl | rfl | rfl | rfl | rfl | rfl | rfl
  · exact rL1
  · exact rL2
  · exact rL3
  · exact rL4
  · exact rL5
  · exact rL6
  · exact rL7
  · exact rL8
  · exact rL9
  · exact rL10
  · exact rL11
  · exact rL12
  · exact rL13
  · exact rL14
  · exact rL15
  · exact rL16
  · exact rL17
  · exact rL18
  · exact rL19
  · exact rL20
  · exact rL21
  · exact rL22
  · exact rL23
  · exact rL24
  · exact rL25
  · exact rL26
  · exact rL27
  · exact rL28
  · exact rL29
  · exact rL30
  · exact rL31
  · exact rL32
  · exact rL33
  · exact rL34
  · exact rL35
  · exact rL36
  · exact rL37
  · exact rL38
  · exact rL39
  · exact rL40
  · exact rL41
  · exact rL42
  · exact rL43
  · exact rL44
  · exact rL45
  · exact rL46
  · exact rL47
  · exact rL48
  · exact rL49
  · exact rL50
end Go.Proofs.YtppbhnhmaocdnaaGreatDoor
