import Derived.Test.YtdpgfekfkcaccaaGreatRc
set_option linter.unusedVariables false
set_option linter.unusedSimpArgs false

namespace Go.Lite
open Go Go.Proofs
set_option maxRecDepth 100000
theorem rd11 (N : Nat) : lp (N + 1) (E3 11) S3' = lp N (E3 12) S3' := by kernel_rfl
theorem rd12 (N : Nat) : lp (N + 1) (E3 12) S3' = lp N (E3 13) S3' := by kernel_rfl
theorem rdF (N : Nat) : lp (N + 1) (E3 13) S3' = some (.sc (.bool true)) := by kernel_rfl
theorem t_num : callP Tryz.prog hh 200 60 3 [] = some (.sc (.bool true)) := by
  refine callP_of (n := 58) (by kernel_rfl) ?_
  refine Eq.trans (bodyPR_eq (c := cAt (bodyOf Tryz.f3) []) [] Tryz.func3 (by kernel_rfl) (by kernel_rfl)) ?_
  refine Eq.trans (begin3 kq 200) ?_
  exact (rd0 199).trans ((rd1 198).trans ((rd2 197).trans ((rd3 196).trans ((rd4 195).trans ((rd5 194).trans ((rd6 193).trans ((rd7 192).trans ((rd8 191).trans ((rd9 190).trans ((rd10 189).trans ((rd11 188).trans ((rd12 187).trans (rdF 186)))))))))))))
end Go.Lite
