import Derived.Test.YtagplnihflmelaaGreatDoorRc
set_option linter.unusedVariables false
set_option linter.unusedSimpArgs false

namespace Go.Lite
open Go Go.Proofs
set_option maxRecDepth 1000000
theorem rd15 (N : Nat) : lp (N + 1) (E1 15) = lp N (E1 16) := by kernel_rfl
theorem rd16 (N : Nat) : lp (N + 1) (E1 16) = lp N (E1 17) := by kernel_rfl
theorem rd17 (N : Nat) : lp (N + 1) (E1 17) = lp N (E1 18) := by kernel_rfl
theorem rd18 (N : Nat) : lp (N + 1) (E1 18) = lp N (E1 19) := by kernel_rfl
theorem rd19 (N : Nat) : lp (N + 1) (E1 19) = lp N (E1 20) := by kernel_rfl
end Go.Lite
