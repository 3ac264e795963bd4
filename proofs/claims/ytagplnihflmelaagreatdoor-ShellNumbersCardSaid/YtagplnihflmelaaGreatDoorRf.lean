import Derived.Test.YtagplnihflmelaaGreatDoorRe
set_option linter.unusedVariables false
set_option linter.unusedSimpArgs false

namespace Go.Lite
open Go Go.Proofs
set_option maxRecDepth 1000000
theorem rd25 (N : Nat) : lp (N + 1) (E1 25) = lp N (E1 26) := by kernel_rfl
theorem rd26 (N : Nat) : lp (N + 1) (E1 26) = lp N (E1 27) := by kernel_rfl
theorem rd27 (N : Nat) : lp (N + 1) (E1 27) = lp N (E1 28) := by kernel_rfl
theorem rd28 (N : Nat) : lp (N + 1) (E1 28) = lp N (E1 29) := by kernel_rfl
theorem rd29 (N : Nat) : lp (N + 1) (E1 29) = lp N (E1 30) := by kernel_rfl
end Go.Lite
