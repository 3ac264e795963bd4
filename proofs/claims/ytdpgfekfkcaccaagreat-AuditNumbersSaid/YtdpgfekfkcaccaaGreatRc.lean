import Derived.Test.YtdpgfekfkcaccaaGreatRb
set_option linter.unusedVariables false
set_option linter.unusedSimpArgs false

namespace Go.Lite
open Go Go.Proofs
set_option maxRecDepth 100000
theorem rd8 (N : Nat) : lp (N + 1) (E3 8) S3' = lp N (E3 9) S3' := by kernel_rfl
theorem rd9 (N : Nat) : lp (N + 1) (E3 9) S3' = lp N (E3 10) S3' := by kernel_rfl
theorem rd10 (N : Nat) : lp (N + 1) (E3 10) S3' = lp N (E3 11) S3' := by kernel_rfl
end Go.Lite
