import Derived.Test.YtagplnihflmelaaGreatDoorRg
set_option linter.unusedVariables false
set_option linter.unusedSimpArgs false

namespace Go.Lite
open Go Go.Proofs
set_option maxRecDepth 1000000
theorem reF (N : Nat) : lq (N + 1) (E2 12) = some (.sc (.bool true)) := by kernel_rfl
end Go.Lite
