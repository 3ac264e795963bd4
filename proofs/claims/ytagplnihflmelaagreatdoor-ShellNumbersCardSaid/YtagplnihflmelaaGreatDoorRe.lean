import Derived.Test.YtagplnihflmelaaGreatDoorRd
set_option linter.unusedVariables false
set_option linter.unusedSimpArgs false

namespace Go.Lite
open Go Go.Proofs
set_option maxRecDepth 1000000
theorem rd20 (N : Nat) : lp (N + 1) (E1 20) = lp N (E1 21) := by kernel_rfl
theorem rd21 (N : Nat) : lp (N + 1) (E1 21) = lp N (E1 22) := by kernel_rfl
theorem rd22 (N : Nat) : lp (N + 1) (E1 22) = lp N (E1 23) := by kernel_rfl
theorem rd23 (N : Nat) : lp (N + 1) (E1 23) = lp N (E1 24) := by kernel_rfl
theorem rd24 (N : Nat) : lp (N + 1) (E1 24) = lp N (E1 25) := by kernel_rfl
end Go.Lite
