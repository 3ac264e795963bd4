import Derived.Test.YtagplnihflmelaaGreatDoorRb
set_option linter.unusedVariables false
set_option linter.unusedSimpArgs false

namespace Go.Lite
open Go Go.Proofs
set_option maxRecDepth 1000000
theorem rd10 (N : Nat) : lp (N + 1) (E1 10) = lp N (E1 11) := by kernel_rfl
theorem rd11 (N : Nat) : lp (N + 1) (E1 11) = lp N (E1 12) := by kernel_rfl
theorem rd12 (N : Nat) : lp (N + 1) (E1 12) = lp N (E1 13) := by kernel_rfl
theorem rd13 (N : Nat) : lp (N + 1) (E1 13) = lp N (E1 14) := by kernel_rfl
theorem rd14 (N : Nat) : lp (N + 1) (E1 14) = lp N (E1 15) := by kernel_rfl
end Go.Lite
