import Derived.Test.YtagplnihflmelaaGreatDoorRf
set_option linter.unusedVariables false
set_option linter.unusedSimpArgs false

namespace Go.Lite
open Go Go.Proofs
set_option maxRecDepth 1000000
theorem rd30 (N : Nat) : lp (N + 1) (E1 30) = lp N (E1 31) := by kernel_rfl
end Go.Lite

namespace Go.Lite
open Go Go.Proofs
set_option maxRecDepth 1000000
theorem re0 (N : Nat) : lq (N + 1) (E2 0) = lq N (E2 1) := by kernel_rfl
theorem re1 (N : Nat) : lq (N + 1) (E2 1) = lq N (E2 2) := by kernel_rfl
theorem re2 (N : Nat) : lq (N + 1) (E2 2) = lq N (E2 3) := by kernel_rfl
theorem re3 (N : Nat) : lq (N + 1) (E2 3) = lq N (E2 4) := by kernel_rfl
theorem re4 (N : Nat) : lq (N + 1) (E2 4) = lq N (E2 5) := by kernel_rfl
theorem re5 (N : Nat) : lq (N + 1) (E2 5) = lq N (E2 6) := by kernel_rfl
theorem re6 (N : Nat) : lq (N + 1) (E2 6) = lq N (E2 7) := by kernel_rfl
theorem re7 (N : Nat) : lq (N + 1) (E2 7) = lq N (E2 8) := by kernel_rfl
theorem re8 (N : Nat) : lq (N + 1) (E2 8) = lq N (E2 9) := by kernel_rfl
theorem re9 (N : Nat) : lq (N + 1) (E2 9) = lq N (E2 10) := by kernel_rfl
theorem re10 (N : Nat) : lq (N + 1) (E2 10) = lq N (E2 11) := by kernel_rfl
theorem re11 (N : Nat) : lq (N + 1) (E2 11) = lq N (E2 12) := by kernel_rfl
end Go.Lite
