import Derived.Test.YtdpgfekfkcaccaaGreatBa
set_option linter.unusedVariables false
set_option linter.unusedSimpArgs false

namespace Go.Lite
open Go Go.Proofs
set_option maxRecDepth 100000
noncomputable abbrev kq : Kallee := ⟨callP Tryz.prog hh 200 59, callS Tryz.prog hh 200 59, callM Tryz.prog hh 200 59, callO Tryz.prog hh 200 59, hh.calmB, hh.primS⟩
abbrev wn (e a : Int) : PV := .agg [.sc (.int .i64 e), .sc (.int .i64 a)]
noncomputable abbrev bd3 : Code := cAt (bodyOf Tryz.f3) [1, 1, 0, 1, 0, 0]
abbrev E3 (i : Int) : Env := .lay .nil [1, 2] [.arr 0, .pv (.sc (.int .i64 i))]
abbrev S3 : Store := [.arr 3 true [wn 2 0, wn 2 0, wn 180 1, wn 170 1, wn 200 1, wn 141 2, wn 150 2, wn 150 3, wn 150 2, wn 0 0, wn 150 2, wn 150 2, wn 0 0]]
abbrev S3' : Store := [.arr 3 true [wn 2 0, wn 2 0, wn 180 1, wn 170 1, wn 200 2, wn 141 2, wn 150 2, wn 150 3, wn 150 2, wn 0 0, wn 150 2, wn 150 2, wn 0 0]]
noncomputable abbrev KK : Ex → Env → Store → Option PV := leaveB 0 (nextT Tryz.prog kq hh 200 3 (cAt (bodyOf Tryz.f3) [1, 1, 1]) (endP Tryz.prog Tryz.f3))
theorem begin3 (C : Kallee) (L : Nat) : execR Tryz.prog C hh L 3 (cAt (bodyOf Tryz.f3) []) (Env.ofArgs [] 0 .nil) [] (endP Tryz.prog Tryz.f3) =
    iter (execR Tryz.prog C hh L 3 bd3) [1, 2] 1 (leaveB 0 (nextT Tryz.prog C hh L 3 (cAt (bodyOf Tryz.f3) [1, 1, 1]) (endP Tryz.prog Tryz.f3))) L (E3 0) S3 := by kernel_rfl
noncomputable abbrev lp (N : Nat) (e : Env) (S : Store) : Option PV := iter (execR Tryz.prog kq hh 200 3 bd3) [1, 2] 1 KK N e S
end Go.Lite

namespace Go.Lite
open Go Go.Proofs
set_option maxRecDepth 100000
theorem rd0 (N : Nat) : lp (N + 1) (E3 0) S3 = lp N (E3 1) S3 := by kernel_rfl
theorem rd1 (N : Nat) : lp (N + 1) (E3 1) S3 = lp N (E3 2) S3 := by kernel_rfl
theorem rd2 (N : Nat) : lp (N + 1) (E3 2) S3 = lp N (E3 3) S3 := by kernel_rfl
theorem rd3 (N : Nat) : lp (N + 1) (E3 3) S3 = lp N (E3 4) S3 := by kernel_rfl
end Go.Lite
