/- The quantiles, a hundred probabilities a row: the kernel runs it. PRINTED. -/
import Derived.Test.YtppbhnhmaocdnaaGreatDoorXEv9
set_option linter.unusedVariables false
set_option linter.unusedSimpArgs false
namespace Go.Proofs.YtppbhnhmaocdnaaGreatDoor
theorem rQ1c0 : rowQ 1 0 = true := by decide +kernel
theorem rQ1c1 : rowQ 1 1 = true := by decide +kernel
theorem rQ1c2 : rowQ 1 2 = true := by decide +kernel
theorem rQ1c3 : rowQ 1 3 = true := by decide +kernel
theorem rQ1c4 : rowQ 1 4 = true := by decide +kernel
theorem rQ1c5 : rowQ 1 5 = true := by decide +kernel
theorem rQ1c6 : rowQ 1 6 = true := by decide +kernel
theorem rQ1c7 : rowQ 1 7 = true := by decide +kernel
theorem rQ1c8 : rowQ 1 8 = true := by decide +kernel
theorem rQ1c9 : rowQ 1 9 = true := by decide +kernel
theorem rQ1 (n : Nat) (h1 : n ≠ 0) (h9 : n ≤ 999) (h5 : n ≠ 500) : chkQ 1 2506628274631000 2506628274631000 500000000000000 25066282746310005024157652 25066282746310005024157652 5000000000000000000000000 5000000000 n = true := by
  have h : n / 100 = 0 ∨ n / 100 = 1 ∨ n / 100 = 2 ∨ n / 100 = 3 ∨ n / 100 = 4 ∨ n / 100 = 5 ∨ n / 100 = 6 ∨ n / 100 = 7 ∨ n / 100 = 8 ∨ n / 100 = 9 := by omega
  rcases h with h | h | h | h | h | h | h | h | h | h
  · exact rowQ_spec rQ1c0 h h1 h5
  · exact rowQ_spec rQ1c1 h h1 h5
  · exact rowQ_spec rQ1c2 h h1 h5
  · exact rowQ_spec rQ1c3 h h1 h5
  · exact rowQ_spec rQ1c4 h h1 h5
  · exact rowQ_spec rQ1c5 h h1 h5
  · exact rowQ_spec rQ1c6 h h1 h5
  · exact rowQ_spec rQ1c7 h h1 h5
  · exact rowQ_spec rQ1c8 h h1 h5
  · exact rowQ_spec rQ1c9 h h1 h5
theorem rQ10c0 : rowQ 10 0 = true := by decide +kernel
theorem rQ10c1 : rowQ 10 1 = true := by decide +kernel
theorem rQ10c2 : rowQ 10 2 = true := by decide +kernel
theorem rQ10c3 : rowQ 10 3 = true := by decide +kernel
theorem rQ10c4 : rowQ 10 4 = true := by decide +kernel
theorem rQ10c5 : rowQ 10 5 = true := by decide +kernel
theorem rQ10c6 : rowQ 10 6 = true := by decide +kernel
theorem rQ10c7 : rowQ 10 7 = true := by decide +kernel
theorem rQ10c8 : rowQ 10 8 = true := by decide +kernel
theorem rQ10c9 : rowQ 10 9 = true := by decide +kernel
theorem rQ10 (n : Nat) (h1 : n ≠ 0) (h9 : n ≤ 999) (h5 : n ≠ 500) : chkQ 10 2506628274631000 2506628274631000 500000000000000 25066282746310005024157652 25066282746310005024157652 5000000000000000000000000 5000000000 n = true := by
  have h : n / 100 = 0 ∨ n / 100 = 1 ∨ n / 100 = 2 ∨ n / 100 = 3 ∨ n / 100 = 4 ∨ n / 100 = 5 ∨ n / 100 = 6 ∨ n / 100 = 7 ∨ n / 100 = 8 ∨ n / 100 = 9 := by omega
  rcases h with h | h | h | h | h | h | h | h | h | h
  · exact rowQ_spec rQ10c0 h h1 h5
  · exact rowQ_spec rQ10c1 h h1 h5
  · exact rowQ_spec rQ10c2 h h1 h5
  · exact rowQ_spec rQ10c3 h h1 h5
  · exact rowQ_spec rQ10c4 h h1 h5
  · exact rowQ_spec rQ10c5 h h1 h5
  · exact rowQ_spec rQ10c6 h h1 h5
  · exact rowQ_spec rQ10c7 h h1 h5
  · exact rowQ_spec rQ10c8 h h1 h5
  · exact rowQ_spec rQ10c9 h h1 h5
theorem rQ100c0 : rowQ 100 0 = true := by decide +kernel
theorem rQ100c1 : rowQ 100 1 = true := by decide +kernel
theorem rQ100c2 : rowQ 100 2 = true := by decide +kernel
theorem rQ100c3 : rowQ 100 3 = true := by decide +kernel
theorem rQ100c4 : rowQ 100 4 = true := by decide +kernel
theorem rQ100c5 : rowQ 100 5 = true := by decide +kernel
theorem rQ100c6 : rowQ 100 6 = true := by decide +kernel
theorem rQ100c7 : rowQ 100 7 = true := by decide +kernel
theorem rQ100c8 : rowQ 100 8 = true := by decide +kernel
theorem rQ100c9 : rowQ 100 9 = true := by decide +kernel
theorem rQ100 (n : Nat) (h1 : n ≠ 0) (h9 : n ≤ 999) (h5 : n ≠ 500) : chkQ 100 2506628274631000 2506628274631000 500000000000000 25066282746310005024157652 25066282746310005024157652 5000000000000000000000000 5000000000 n = true := by
  have h : n / 100 = 0 ∨ n / 100 = 1 ∨ n / 100 = 2 ∨ n / 100 = 3 ∨ n / 100 = 4 ∨ n / 100 = 5 ∨ n / 100 = 6 ∨ n / 100 = 7 ∨ n / 100 = 8 ∨ n / 100 = 9 := by omega
  rcases h with h | h | h | h | h | h | h | h | h | h
  · exact rowQ_spec rQ100c0 h h1 h5
  · exact rowQ_spec rQ100c1 h h1 h5
  · exact rowQ_spec rQ100c2 h h1 h5
  · exact rowQ_spec rQ100c3 h h1 h5
  · exact rowQ_spec rQ100c4 h h1 h5
  · exact rowQ_spec rQ100c5 h h1 h5
  · exact rowQ_spec rQ100c6 h h1 h5
  · exact rowQ_spec rQ100c7 h h1 h5
  · exact rowQ_spec rQ100c8 h h1 h5
  · exact rowQ_spec rQ100c9 h h1 h5
end Go.Proofs.YtppbhnhmaocdnaaGreatDoor
