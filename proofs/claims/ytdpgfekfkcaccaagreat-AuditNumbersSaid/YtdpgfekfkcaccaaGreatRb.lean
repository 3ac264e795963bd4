import Derived.Test.YtdpgfekfkcaccaaGreatRa
set_option linter.unusedVariables false
set_option linter.unusedSimpArgs false

namespace Go.Lite
open Go Go.Proofs
set_option maxRecDepth 100000
theorem rd4 (N : Nat) : lp (N + 1) (E3 4) S3 = lp N (E3 5) S3' := by kernel_rfl
theorem rd5 (N : Nat) : lp (N + 1) (E3 5) S3' = lp N (E3 6) S3' := by kernel_rfl
theorem rd6 (N : Nat) : lp (N + 1) (E3 6) S3' = lp N (E3 7) S3' := by kernel_rfl
theorem rd7 (N : Nat) : lp (N + 1) (E3 7) S3' = lp N (E3 8) S3' := by kernel_rfl
end Go.Lite
