import Derived.Test.YtagplnihflmelaaGreatDoorRh
set_option linter.unusedVariables false
set_option linter.unusedSimpArgs false

namespace Go.Lite
open Go Go.Proofs
set_option maxRecDepth 1000000
theorem t_numbers : callP Tryz.prog hh 200 60 3 [] = some (.sc (.bool true)) := by
  refine callP_of (n := 58) (by kernel_rfl) ?_
  refine Eq.trans (bodyPR_eq (c := cAt (bodyOf Tryz.f3) []) [] Tryz.func3 (by kernel_rfl) (by kernel_rfl)) ?_
  refine Eq.trans (begin3 kq 200) ?_
  exact (rd0 199).trans ((rd1 198).trans ((rd2 197).trans ((rd3 196).trans ((rd4 195).trans ((rd5 194).trans ((rd6 193).trans ((rd7 192).trans ((rd8 191).trans ((rd9 190).trans ((rd10 189).trans ((rd11 188).trans ((rd12 187).trans ((rd13 186).trans ((rd14 185).trans ((rd15 184).trans ((rd16 183).trans ((rd17 182).trans ((rd18 181).trans ((rd19 180).trans ((rd20 179).trans ((rd21 178).trans ((rd22 177).trans ((rd23 176).trans ((rd24 175).trans ((rd25 174).trans ((rd26 173).trans ((rd27 172).trans ((rd28 171).trans ((rd29 170).trans ((rd30 169).trans ((mid3 kq 200 168).trans ((re0 199).trans ((re1 198).trans ((re2 197).trans ((re3 196).trans ((re4 195).trans ((re5 194).trans ((re6 193).trans ((re7 192).trans ((re8 191).trans ((re9 190).trans ((re10 189).trans ((re11 188).trans ((reF 187)))))))))))))))))))))))))))))))))))))))))))))
end Go.Lite
