import Derived.Test.YtagplnihflmelaaGreatDoorRa
set_option linter.unusedVariables false
set_option linter.unusedSimpArgs false

namespace Go.Lite
open Go Go.Proofs
set_option maxRecDepth 1000000
theorem rd5 (N : Nat) : lp (N + 1) (E1 5) = lp N (E1 6) := by kernel_rfl
theorem rd6 (N : Nat) : lp (N + 1) (E1 6) = lp N (E1 7) := by kernel_rfl
theorem rd7 (N : Nat) : lp (N + 1) (E1 7) = lp N (E1 8) := by kernel_rfl
theorem rd8 (N : Nat) : lp (N + 1) (E1 8) = lp N (E1 9) := by kernel_rfl
theorem rd9 (N : Nat) : lp (N + 1) (E1 9) = lp N (E1 10) := by kernel_rfl
end Go.Lite
