import Derived.Test.YtcapmpidmmblcaaRn
import Derived.Test.YtcapmpidmmblcaaProg
import Derived.KernelRfl
set_option linter.unusedVariables false
set_option linter.unusedSimpArgs false

namespace Go.Lite
open Go Go.Proofs
set_option maxRecDepth 1000000
set_option linter.unusedVariables false
noncomputable section
/-! ## 44: slices.ContainsFunc[[][]muster/api.Cut,[]muster/api.Cut] -/
noncomputable def d44_0 (C : Kallee) (L : Nat)  (v0 : PV) (v1 : PV) : Option PV := (ob (callD C.pure (.clo 65 [] []) [v0, v1] 0) fun v103 => (ob (binPV Try.prog .geq 3 (.tmp 7) (.const (.int Go.IntKind.i64 0)) v103 (.sc (.int Go.IntKind.i64 0))) fun v104 => (some v104)))
theorem e44_0 (C : Kallee) (L : Nat) (v0 : PV) (v1 : PV) : execR Try.prog C hh L 44 (cAt (bodyOf Try.f44) []) (Env.ofArgs [(.pv v0), (.pv v1)] 0 .nil) [] (endP Try.prog Try.f44) = d44_0 C L v0 v1 := by kernel_rfl
theorem r44 (C : Kallee) (L : Nat) (v0 : PV) (v1 : PV) : bodyPR Try.prog C hh L 44 [v0, v1] = d44_0 C L v0 v1 := Eq.trans (bodyPR_eq (c := cAt (bodyOf Try.f44) []) [v0, v1] Try.func44 (by kernel_rfl) (by kernel_rfl)) (e44_0 C L v0 v1)

end
end Go.Lite

namespace Go.Lite
open Go Go.Proofs
set_option maxRecDepth 1000000
set_option linter.unusedVariables false
noncomputable section
/-! ## 45: muster/profile.Right$1 -/
noncomputable def d45_0 (C : Kallee) (L : Nat)  (v0 : PV) : Option PV := (ob (callD C.pure (.clo 46 [] []) [v0] 0) fun v102 => (ob (unPV Try.prog .not v102) fun v103 => (some v103)))
theorem e45_0 (C : Kallee) (L : Nat) (v0 : PV) : execR Try.prog C hh L 45 (cAt (bodyOf Try.f45) []) (Env.ofArgs [(.pv v0)] 0 .nil) [] (endP Try.prog Try.f45) = d45_0 C L v0 := by kernel_rfl
theorem r45 (C : Kallee) (L : Nat) (v0 : PV) : bodyPR Try.prog C hh L 45 [v0] = d45_0 C L v0 := Eq.trans (bodyPR_eq (c := cAt (bodyOf Try.f45) []) [v0] Try.func45 (by kernel_rfl) (by kernel_rfl)) (e45_0 C L v0)

end
end Go.Lite

namespace Go.Lite
open Go Go.Proofs
set_option maxRecDepth 1000000
set_option linter.unusedVariables false
noncomputable section
/-! ## 46: muster/steps.Right -/
noncomputable def d46_2 {R : Type} (C : Kallee) (L : Nat) (kr : PV → Option R) (kg : PV → PV → PV → Option R) (ke0 : Option R) (v0 : PV) (v1 : PV) (v2 : PV) : Option R := (ob (binPV Try.prog .lss 3 (.tmp 22) (.tmp 21) v2 v1) fun v111 => (cb v111 (ob (indexAddrPV Try.prog 52 v0 v2) fun v112 => (ob (loadPV Try.prog 54 v112) fun v113 => (ob (putPV 3 0 3 (.pv (.agg [(.sc (.int Go.IntKind.i64 0)), (.sc (.int Go.IntKind.i64 0))])) v113) fun v114 => (ob (PV.at_ 3 0 0 v114) fun v115 => (ob (binPV Try.prog .gtr 2 (.tmp 30) (.const (.int Go.IntKind.i64 2199023255552)) v115 (.sc (.int Go.IntKind.i64 2199023255552))) fun v116 => (gcase false v116 (ob (PV.at_ 3 1 0 v114) fun v117 => (ob (binPV Try.prog .lss 3 (.tmp 34) (.const (.int Go.IntKind.i64 0)) v117 (.sc (.int Go.IntKind.i64 0))) fun v118 => (gcase false v118 (ob (PV.at_ 3 1 0 v114) fun v119 => (ob (binPV Try.prog .gtr 3 (.tmp 39) (.const (.int Go.IntKind.i64 1073741824)) v119 (.sc (.int Go.IntKind.i64 1073741824))) fun v120 => (cb v120 (kr (.sc (.bool false))) (ob (binPV Try.prog .gtr 3 (.tmp 42) (.const (.int Go.IntKind.i64 0)) v2 (.sc (.int Go.IntKind.i64 0))) fun v121 => (gcase true v121 (ob (PV.at_ 3 0 0 v114) fun v122 => (ob (binPV Try.prog .sub 3 (.tmp 48) (.const (.int Go.IntKind.i64 1)) v2 (.sc (.int Go.IntKind.i64 1))) fun v123 => (ob (indexAddrPV Try.prog 52 v0 v123) fun v124 => (ob (fieldAddrPV Try.prog 54 v124 0) fun v125 => (ob (loadPV Try.prog 2 v125) fun v126 => (ob (binPV Try.prog .leq 2 (.tmp 46) (.tmp 52) v122 v126) fun v127 => (gcase false v127 (ob (PV.at_ 3 1 0 v114) fun v128 => (ob (binPV Try.prog .sub 3 (.tmp 58) (.const (.int Go.IntKind.i64 1)) v2 (.sc (.int Go.IntKind.i64 1))) fun v129 => (ob (indexAddrPV Try.prog 52 v0 v129) fun v130 => (ob (fieldAddrPV Try.prog 54 v130 1) fun v131 => (ob (loadPV Try.prog 3 v131) fun v132 => (ob (binPV Try.prog .eql 3 (.tmp 56) (.tmp 62) v128 v132) fun v133 => (cb v133 (kr (.sc (.bool false))) (ob (binPV Try.prog .add 3 (.tmp 22) (.const (.int Go.IntKind.i64 1)) v2 (.sc (.int Go.IntKind.i64 1))) fun v134 => (kg v0 v1 v134))))))))) (kr (.sc (.bool false))) none))))))) (ob (binPV Try.prog .add 3 (.tmp 22) (.const (.int Go.IntKind.i64 1)) v2 (.sc (.int Go.IntKind.i64 1))) fun v136 => (kg v0 v1 v136)) none))))) (kr (.sc (.bool false))) none))) (kr (.sc (.bool false))) none)))))) (ke0)))
theorem e46_2 {R : Type} (C : Kallee) (L : Nat) (k : Ex → Env → Store → Option R) (gg : Env → Store → Option R) (v0 : PV) (v1 : PV) (v2 : PV) : execR Try.prog C hh L 46 (cAt (bodyOf Try.f46) [1, 1, 0, 1, 0, 0]) (Env.lay .nil [0, 21, 22] [(.pv v0), (.pv v1), (.pv v2)]) [] (loopK gg [0, 21, 22] 0 (prune (some ⟨[0, 21, 22], [], [(0, [])], [2]⟩) 0 k)) = d46_2 C L (fun v0 => k .ret (Env.lay .nil [2] [(.pv v0)]) []) (fun v0 v1 v2 => gg (Env.lay .nil [0, 21, 22] [(.pv v0), (.pv v1), (.pv v2)]) []) (k (.exit 0) (Env.lay .nil [] []) []) v0 v1 v2 := by kernel_rfl
noncomputable def d46_1i {R : Type} (C : Kallee) (L : Nat) (kr : PV → Option R) (ke0 : Option R) : Nat → PV → PV → PV → Option R
  | 0, _, _, _ => none
  | N + 1, v0, v1, v2 => d46_2 C L kr (fun v0 v1 v2 => d46_1i C L kr ke0 N v0 v1 v2) ke0 v0 v1 v2
noncomputable def d46_1 {R : Type} (C : Kallee) (L : Nat) (kr : PV → Option R) (ke0 : Option R) (v0 : PV) (v1 : PV) (v2 : PV) : Option R := d46_1i C L kr ke0 L v0 v1 v2
theorem d46_1_i {R : Type} (C : Kallee) (L : Nat) (k : Ex → Env → Store → Option R) (N : Nat) (v0 : PV) (v1 : PV) (v2 : PV) : iter (execR Try.prog C hh L 46 (cAt (bodyOf Try.f46) [1, 1, 0, 1, 0, 0])) [0, 21, 22] 0 (prune (some ⟨[0, 21, 22], [], [(0, [])], [2]⟩) 0 k) N (Env.lay .nil [0, 21, 22] [(.pv v0), (.pv v1), (.pv v2)]) [] = d46_1i C L (fun v0 => k .ret (Env.lay .nil [2] [(.pv v0)]) []) (k (.exit 0) (Env.lay .nil [] []) []) N v0 v1 v2 := by
  induction N generalizing v0 v1 v2 with
  | zero => rfl
  | succ N ih => exact Eq.trans (b := execR Try.prog C hh L 46 (cAt (bodyOf Try.f46) [1, 1, 0, 1, 0, 0]) (Env.lay .nil [0, 21, 22] [(.pv v0), (.pv v1), (.pv v2)]) [] (loopK (fun e s => iter (execR Try.prog C hh L 46 (cAt (bodyOf Try.f46) [1, 1, 0, 1, 0, 0])) [0, 21, 22] 0 (prune (some ⟨[0, 21, 22], [], [(0, [])], [2]⟩) 0 k) N e s) [0, 21, 22] 0 (prune (some ⟨[0, 21, 22], [], [(0, [])], [2]⟩) 0 k))) (by kernel_rfl) <| Eq.trans (e46_2 C L k (fun e s => iter (execR Try.prog C hh L 46 (cAt (bodyOf Try.f46) [1, 1, 0, 1, 0, 0])) [0, 21, 22] 0 (prune (some ⟨[0, 21, 22], [], [(0, [])], [2]⟩) 0 k) N e s) v0 v1 v2) (congrArg (fun kg => d46_2 C L (fun v0 => k .ret (Env.lay .nil [2] [(.pv v0)]) []) kg (k (.exit 0) (Env.lay .nil [] []) []) v0 v1 v2) (funext fun v0 => funext fun v1 => funext fun v2 => ih v0 v1 v2))
theorem e46_1 {R : Type} (C : Kallee) (L : Nat) (k : Ex → Env → Store → Option R) (v0 : PV) (v1 : PV) (v2 : PV) : execR Try.prog C hh L 46 (cAt (bodyOf Try.f46) [1, 1, 0, 1, 0]) (Env.lay .nil [0, 21, 22] [(.pv v0), (.pv v1), (.pv v2)]) [] k = d46_1 C L (fun v0 => k .ret (Env.lay .nil [2] [(.pv v0)]) []) (k (.exit 0) (Env.lay .nil [] []) []) v0 v1 v2 :=
  Eq.trans (b := iter (execR Try.prog C hh L 46 (cAt (bodyOf Try.f46) [1, 1, 0, 1, 0, 0])) [0, 21, 22] 0 (prune (some ⟨[0, 21, 22], [], [(0, [])], [2]⟩) 0 k) L (Env.lay .nil [0, 21, 22] [(.pv v0), (.pv v1), (.pv v2)]) []) (by kernel_rfl) (d46_1_i C L k L v0 v1 v2)
noncomputable def d46_3 (C : Kallee) (L : Nat)   : Option PV := (some (.sc (.bool true)))
theorem e46_3 (C : Kallee) (L : Nat)  : execR Try.prog C hh L 46 (cAt (bodyOf Try.f46) [1, 1, 1]) (Env.lay .nil [] []) [] (endP Try.prog Try.f46) = d46_3 C L := by kernel_rfl
noncomputable def g46_0 (C : Kallee) (X1 : PV → PV → PV → Option PV)  (v0 : PV) : Option PV := (ob ((lenPV Try.prog 52 v0).map fun n => .sc (goInt n)) fun v102 => (ob (binPV Try.prog .eql 3 (.tmp 6) (.const (.int Go.IntKind.i64 0)) v102 (.sc (.int Go.IntKind.i64 0))) fun v103 => (gcase false v103 (ob ((lenPV Try.prog 52 v0).map fun n => .sc (goInt n)) fun v104 => (ob (binPV Try.prog .gtr 3 (.tmp 10) (.const (.int Go.IntKind.i64 4096)) v104 (.sc (.int Go.IntKind.i64 4096))) fun v105 => (gcase false v105 (ob (indexAddrPV Try.prog 52 v0 (.sc (.int Go.IntKind.i64 0))) fun v106 => (ob (fieldAddrPV Try.prog 54 v106 0) fun v107 => (ob (loadPV Try.prog 2 v107) fun v108 => (ob (binPV Try.prog .neq 2 (.tmp 17) (.const (.int Go.IntKind.i64 0)) v108 (.sc (.int Go.IntKind.i64 0))) fun v109 => (cb v109 (some (.sc (.bool false))) (ob ((lenPV Try.prog 52 v0).map fun n => .sc (goInt n)) fun v110 => (X1 v0 v110 (.sc (.int Go.IntKind.i64 0))))))))) (some (.sc (.bool false))) none))) (some (.sc (.bool false))) none)))
noncomputable def d46_0 (C : Kallee) (L : Nat)  (v0 : PV) : Option PV := g46_0 C (fun v0 v1 v2 => d46_1 C L (fun v0 => (some v0)) (d46_3 C L) v0 v1 v2) v0
theorem e46_0 (C : Kallee) (L : Nat) (v0 : PV) : execR Try.prog C hh L 46 (cAt (bodyOf Try.f46) []) (Env.ofArgs [(.pv v0)] 0 .nil) [] (endP Try.prog Try.f46) = d46_0 C L v0 :=
  Eq.trans (b := g46_0 C (fun v0 v1 v2 => execR Try.prog C hh L 46 (cAt (bodyOf Try.f46) [1, 1, 0, 1, 0]) (Env.lay .nil [0, 21, 22] [(.pv v0), (.pv v1), (.pv v2)]) [] (leaveB 0 (nextT Try.prog C hh L 46 (cAt (bodyOf Try.f46) [1, 1, 1]) (endP Try.prog Try.f46)))) v0) (by kernel_rfl) (cg1 (fun X1 => g46_0 C X1 v0) (funext fun v0 => funext fun v1 => funext fun v2 => Eq.trans (e46_1 C L (leaveB 0 (nextT Try.prog C hh L 46 (cAt (bodyOf Try.f46) [1, 1, 1]) (endP Try.prog Try.f46))) v0 v1 v2) (cg2 (fun kr ke0 => d46_1 C L kr ke0 v0 v1 v2) (funext fun v0 => (by kernel_rfl)) (Eq.trans (b := execR Try.prog C hh L 46 (cAt (bodyOf Try.f46) [1, 1, 1]) (Env.lay .nil [] []) [] (endP Try.prog Try.f46)) (by kernel_rfl) (e46_3 C L)))))
theorem r46 (C : Kallee) (L : Nat) (v0 : PV) : bodyPR Try.prog C hh L 46 [v0] = d46_0 C L v0 := Eq.trans (bodyPR_eq (c := cAt (bodyOf Try.f46) []) [v0] Try.func46 (by kernel_rfl) (by kernel_rfl)) (e46_0 C L v0)

end
end Go.Lite

namespace Go.Lite
open Go Go.Proofs
set_option maxRecDepth 1000000
set_option linter.unusedVariables false
noncomputable section
/-! ## 49: muster/musterref11.Least -/
noncomputable def d49_0 (C : Kallee) (L : Nat)  (v0 : PV) (v1 : PV) (v2 : PV) : Option PV := (ob (callD C.pure (.clo 66 [] []) [v0, v1, v2] 0) fun v104 => (ob (unPV Try.prog .not v104) fun v105 => (cb v105 (some (.tup [(.sc (.int Go.IntKind.i64 0)), (.sc (.int Go.IntKind.i64 2))])) (ob (callD C.pure (.clo 67 [] []) [v0, v1, v2] 0) fun v106 => (some (.tup [v106, (.sc (.int Go.IntKind.i64 0))]))))))
theorem e49_0 (C : Kallee) (L : Nat) (v0 : PV) (v1 : PV) (v2 : PV) : execR Try.prog C hh L 49 (cAt (bodyOf Try.f49) []) (Env.ofArgs [(.pv v0), (.pv v1), (.pv v2)] 0 .nil) [] (endP Try.prog Try.f49) = d49_0 C L v0 v1 v2 := by kernel_rfl
theorem r49 (C : Kallee) (L : Nat) (v0 : PV) (v1 : PV) (v2 : PV) : bodyPR Try.prog C hh L 49 [v0, v1, v2] = d49_0 C L v0 v1 v2 := Eq.trans (bodyPR_eq (c := cAt (bodyOf Try.f49) []) [v0, v1, v2] Try.func49 (by kernel_rfl) (by kernel_rfl)) (e49_0 C L v0 v1 v2)

end
end Go.Lite

namespace Go.Lite
open Go Go.Proofs
set_option maxRecDepth 1000000
set_option linter.unusedVariables false
noncomputable section
/-! ## 50: muster/musterref10.Has -/
noncomputable def d50_2 {R : Type} (C : Kallee) (L : Nat) (kg : PV → PV → PV → Option R) (ke0 : PV → PV → Option R) (v0 : PV) (v1 : PV) (v2 : PV) : Option R := (ob (binPV Try.prog .lss 3 (.tmp 6) (.tmp 7) v2 v1) fun v103 => (cb v103 (ob (binPV Try.prog .quo 24 (.tmp 11) (.const (.int Go.IntKind.u32 2)) v0 (.sc (.int Go.IntKind.u32 2))) fun v104 => (ob (binPV Try.prog .add 3 (.tmp 9) (.const (.int Go.IntKind.i64 1)) v2 (.sc (.int Go.IntKind.i64 1))) fun v105 => (kg v104 v1 v105))) (ke0 v0 v1)))
theorem e50_2 {R : Type} (C : Kallee) (L : Nat) (k : Ex → Env → Store → Option R) (gg : Env → Store → Option R) (v0 : PV) (v1 : PV) (v2 : PV) : execR Try.prog C hh L 50 (cAt (bodyOf Try.f50) [1, 0, 1, 0, 0]) (Env.lay .nil [0, 1, 5] [(.pv v0), (.pv v1), (.pv v2)]) [] (loopK gg [0, 1, 5] 0 (prune (some ⟨[0, 1, 5], [], [(0, [0, 1])], []⟩) 0 k)) = d50_2 C L (fun v0 v1 v2 => gg (Env.lay .nil [0, 1, 5] [(.pv v0), (.pv v1), (.pv v2)]) []) (fun v0 v1 => k (.exit 0) (Env.lay .nil [0, 1] [(.pv v0), (.pv v1)]) []) v0 v1 v2 := by kernel_rfl
noncomputable def d50_1i {R : Type} (C : Kallee) (L : Nat) (ke0 : PV → PV → Option R) : Nat → PV → PV → PV → Option R
  | 0, _, _, _ => none
  | N + 1, v0, v1, v2 => d50_2 C L (fun v0 v1 v2 => d50_1i C L ke0 N v0 v1 v2) ke0 v0 v1 v2
noncomputable def d50_1 {R : Type} (C : Kallee) (L : Nat) (ke0 : PV → PV → Option R) (v0 : PV) (v1 : PV) (v2 : PV) : Option R := d50_1i C L ke0 L v0 v1 v2
theorem d50_1_i {R : Type} (C : Kallee) (L : Nat) (k : Ex → Env → Store → Option R) (N : Nat) (v0 : PV) (v1 : PV) (v2 : PV) : iter (execR Try.prog C hh L 50 (cAt (bodyOf Try.f50) [1, 0, 1, 0, 0])) [0, 1, 5] 0 (prune (some ⟨[0, 1, 5], [], [(0, [0, 1])], []⟩) 0 k) N (Env.lay .nil [0, 1, 5] [(.pv v0), (.pv v1), (.pv v2)]) [] = d50_1i C L (fun v0 v1 => k (.exit 0) (Env.lay .nil [0, 1] [(.pv v0), (.pv v1)]) []) N v0 v1 v2 := by
  induction N generalizing v0 v1 v2 with
  | zero => rfl
  | succ N ih => exact Eq.trans (b := execR Try.prog C hh L 50 (cAt (bodyOf Try.f50) [1, 0, 1, 0, 0]) (Env.lay .nil [0, 1, 5] [(.pv v0), (.pv v1), (.pv v2)]) [] (loopK (fun e s => iter (execR Try.prog C hh L 50 (cAt (bodyOf Try.f50) [1, 0, 1, 0, 0])) [0, 1, 5] 0 (prune (some ⟨[0, 1, 5], [], [(0, [0, 1])], []⟩) 0 k) N e s) [0, 1, 5] 0 (prune (some ⟨[0, 1, 5], [], [(0, [0, 1])], []⟩) 0 k))) (by kernel_rfl) <| Eq.trans (e50_2 C L k (fun e s => iter (execR Try.prog C hh L 50 (cAt (bodyOf Try.f50) [1, 0, 1, 0, 0])) [0, 1, 5] 0 (prune (some ⟨[0, 1, 5], [], [(0, [0, 1])], []⟩) 0 k) N e s) v0 v1 v2) (congrArg (fun kg => d50_2 C L kg (fun v0 v1 => k (.exit 0) (Env.lay .nil [0, 1] [(.pv v0), (.pv v1)]) []) v0 v1 v2) (funext fun v0 => funext fun v1 => funext fun v2 => ih v0 v1 v2))
theorem e50_1 {R : Type} (C : Kallee) (L : Nat) (k : Ex → Env → Store → Option R) (v0 : PV) (v1 : PV) (v2 : PV) : execR Try.prog C hh L 50 (cAt (bodyOf Try.f50) [1, 0, 1, 0]) (Env.lay .nil [0, 1, 5] [(.pv v0), (.pv v1), (.pv v2)]) [] k = d50_1 C L (fun v0 v1 => k (.exit 0) (Env.lay .nil [0, 1] [(.pv v0), (.pv v1)]) []) v0 v1 v2 :=
  Eq.trans (b := iter (execR Try.prog C hh L 50 (cAt (bodyOf Try.f50) [1, 0, 1, 0, 0])) [0, 1, 5] 0 (prune (some ⟨[0, 1, 5], [], [(0, [0, 1])], []⟩) 0 k) L (Env.lay .nil [0, 1, 5] [(.pv v0), (.pv v1), (.pv v2)]) []) (by kernel_rfl) (d50_1_i C L k L v0 v1 v2)
noncomputable def d50_3 (C : Kallee) (L : Nat)  (v0 : PV) (v1 : PV) : Option PV := (ob (binPV Try.prog .geq 3 (.tmp 13) (.const (.int Go.IntKind.i64 0)) v1 (.sc (.int Go.IntKind.i64 0))) fun v106 => (gcase true v106 (ob (binPV Try.prog .lss 3 (.tmp 16) (.const (.int Go.IntKind.i64 32)) v1 (.sc (.int Go.IntKind.i64 32))) fun v107 => (gcase true v107 (ob (binPV Try.prog .rem 24 (.tmp 20) (.const (.int Go.IntKind.u32 2)) v0 (.sc (.int Go.IntKind.u32 2))) fun v108 => (ob (binPV Try.prog .eql 24 (.tmp 21) (.const (.int Go.IntKind.u32 1)) v108 (.sc (.int Go.IntKind.u32 1))) fun v109 => (some v109))) (some (.sc (.bool false))) none)) (some (.sc (.bool false))) none))
theorem e50_3 (C : Kallee) (L : Nat) (v0 : PV) (v1 : PV) : execR Try.prog C hh L 50 (cAt (bodyOf Try.f50) [1, 1]) (Env.lay .nil [0, 1] [(.pv v0), (.pv v1)]) [] (endP Try.prog Try.f50) = d50_3 C L v0 v1 := by kernel_rfl
noncomputable def g50_0 (C : Kallee) (X1 : PV → PV → PV → Option PV)  (v0 : PV) (v1 : PV) : Option PV := (X1 v0 v1 (.sc (.int Go.IntKind.i64 0)))
noncomputable def d50_0 (C : Kallee) (L : Nat)  (v0 : PV) (v1 : PV) : Option PV := g50_0 C (fun v0 v1 v2 => d50_1 C L (fun v0 v1 => d50_3 C L v0 v1) v0 v1 v2) v0 v1
theorem e50_0 (C : Kallee) (L : Nat) (v0 : PV) (v1 : PV) : execR Try.prog C hh L 50 (cAt (bodyOf Try.f50) []) (Env.ofArgs [(.pv v0), (.pv v1)] 0 .nil) [] (endP Try.prog Try.f50) = d50_0 C L v0 v1 :=
  Eq.trans (b := g50_0 C (fun v0 v1 v2 => execR Try.prog C hh L 50 (cAt (bodyOf Try.f50) [1, 0, 1, 0]) (Env.lay .nil [0, 1, 5] [(.pv v0), (.pv v1), (.pv v2)]) [] (leaveB 0 (nextT Try.prog C hh L 50 (cAt (bodyOf Try.f50) [1, 1]) (endP Try.prog Try.f50)))) v0 v1) (by kernel_rfl) (cg1 (fun X1 => g50_0 C X1 v0 v1) (funext fun v0 => funext fun v1 => funext fun v2 => Eq.trans (e50_1 C L (leaveB 0 (nextT Try.prog C hh L 50 (cAt (bodyOf Try.f50) [1, 1]) (endP Try.prog Try.f50))) v0 v1 v2) (cg1 (fun ke0 => d50_1 C L ke0 v0 v1 v2) (funext fun v0 => funext fun v1 => (Eq.trans (b := execR Try.prog C hh L 50 (cAt (bodyOf Try.f50) [1, 1]) (Env.lay .nil [0, 1] [(.pv v0), (.pv v1)]) [] (endP Try.prog Try.f50)) (by kernel_rfl) (e50_3 C L v0 v1))))))
theorem r50 (C : Kallee) (L : Nat) (v0 : PV) (v1 : PV) : bodyPR Try.prog C hh L 50 [v0, v1] = d50_0 C L v0 v1 := Eq.trans (bodyPR_eq (c := cAt (bodyOf Try.f50) []) [v0, v1] Try.func50 (by kernel_rfl) (by kernel_rfl)) (e50_0 C L v0 v1)

end
end Go.Lite

namespace Go.Lite
open Go Go.Proofs
set_option maxRecDepth 1000000
set_option linter.unusedVariables false
noncomputable section
/-! ## 51: muster/musterref10.Of -/
noncomputable def d51_2 {R : Type} (C : Kallee) (L : Nat) (kr : PV → PV → Option R) (kg : PV → PV → PV → Option R) (ke0 : PV → Option R) (v0 : PV) (v1 : PV) (v2 : PV) : Option R := (ob ((lenPV Try.prog 50 v0).map fun n => .sc (goInt n)) fun v103 => (ob (binPV Try.prog .lss 3 (.tmp 6) (.tmp 8) v2 v103) fun v104 => (cb v104 (ob (indexAddrPV Try.prog 50 v0 v2) fun v105 => (ob (loadPV Try.prog 3 v105) fun v106 => (ob (binPV Try.prog .lss 3 (.tmp 15) (.const (.int Go.IntKind.i64 0)) v106 (.sc (.int Go.IntKind.i64 0))) fun v107 => (gcase false v107 (ob (indexAddrPV Try.prog 50 v0 v2) fun v108 => (ob (loadPV Try.prog 3 v108) fun v109 => (ob (binPV Try.prog .gtr 3 (.tmp 21) (.const (.int Go.IntKind.i64 31)) v109 (.sc (.int Go.IntKind.i64 31))) fun v110 => (cb v110 (kr (.sc (.int Go.IntKind.u32 0)) (.sc (.int Go.IntKind.i64 2))) (ob (indexAddrPV Try.prog 50 v0 v2) fun v111 => (ob (loadPV Try.prog 3 v111) fun v112 => (ob (callD C.pure (.clo 50 [] []) [v1, v112] 0) fun v113 => (ob (unPV Try.prog .not v113) fun v114 => (cb v114 (ob (indexAddrPV Try.prog 50 v0 v2) fun v115 => (ob (loadPV Try.prog 3 v115) fun v116 => (ob (callD C.pure (.clo 68 [] []) [v116] 0) fun v117 => (ob (binPV Try.prog .add 24 (.tmp 31) (.tmp 36) v1 v117) fun v118 => (ob (binPV Try.prog .add 3 (.tmp 10) (.const (.int Go.IntKind.i64 1)) v2 (.sc (.int Go.IntKind.i64 1))) fun v119 => (kg v0 v118 v119)))))) (ob (binPV Try.prog .add 3 (.tmp 10) (.const (.int Go.IntKind.i64 1)) v2 (.sc (.int Go.IntKind.i64 1))) fun v120 => (kg v0 v1 v120))))))))))) (kr (.sc (.int Go.IntKind.u32 0)) (.sc (.int Go.IntKind.i64 2))) none)))) (ke0 v1))))
theorem e51_2 {R : Type} (C : Kallee) (L : Nat) (k : Ex → Env → Store → Option R) (gg : Env → Store → Option R) (v0 : PV) (v1 : PV) (v2 : PV) : execR Try.prog C hh L 51 (cAt (bodyOf Try.f51) [1, 1, 0, 1, 0, 0]) (Env.lay .nil [0, 4, 5] [(.pv v0), (.pv v1), (.pv v2)]) [] (loopK gg [0, 4, 5] 0 (prune (some ⟨[0, 4, 5], [], [(0, [4])], [2, 3]⟩) 0 k)) = d51_2 C L (fun v0 v1 => k .ret (Env.lay .nil [2, 3] [(.pv v0), (.pv v1)]) []) (fun v0 v1 v2 => gg (Env.lay .nil [0, 4, 5] [(.pv v0), (.pv v1), (.pv v2)]) []) (fun v0 => k (.exit 0) (Env.lay .nil [4] [(.pv v0)]) []) v0 v1 v2 := by kernel_rfl
noncomputable def d51_1i {R : Type} (C : Kallee) (L : Nat) (kr : PV → PV → Option R) (ke0 : PV → Option R) : Nat → PV → PV → PV → Option R
  | 0, _, _, _ => none
  | N + 1, v0, v1, v2 => d51_2 C L kr (fun v0 v1 v2 => d51_1i C L kr ke0 N v0 v1 v2) ke0 v0 v1 v2
noncomputable def d51_1 {R : Type} (C : Kallee) (L : Nat) (kr : PV → PV → Option R) (ke0 : PV → Option R) (v0 : PV) (v1 : PV) (v2 : PV) : Option R := d51_1i C L kr ke0 L v0 v1 v2
theorem d51_1_i {R : Type} (C : Kallee) (L : Nat) (k : Ex → Env → Store → Option R) (N : Nat) (v0 : PV) (v1 : PV) (v2 : PV) : iter (execR Try.prog C hh L 51 (cAt (bodyOf Try.f51) [1, 1, 0, 1, 0, 0])) [0, 4, 5] 0 (prune (some ⟨[0, 4, 5], [], [(0, [4])], [2, 3]⟩) 0 k) N (Env.lay .nil [0, 4, 5] [(.pv v0), (.pv v1), (.pv v2)]) [] = d51_1i C L (fun v0 v1 => k .ret (Env.lay .nil [2, 3] [(.pv v0), (.pv v1)]) []) (fun v0 => k (.exit 0) (Env.lay .nil [4] [(.pv v0)]) []) N v0 v1 v2 := by
  induction N generalizing v0 v1 v2 with
  | zero => rfl
  | succ N ih => exact Eq.trans (b := execR Try.prog C hh L 51 (cAt (bodyOf Try.f51) [1, 1, 0, 1, 0, 0]) (Env.lay .nil [0, 4, 5] [(.pv v0), (.pv v1), (.pv v2)]) [] (loopK (fun e s => iter (execR Try.prog C hh L 51 (cAt (bodyOf Try.f51) [1, 1, 0, 1, 0, 0])) [0, 4, 5] 0 (prune (some ⟨[0, 4, 5], [], [(0, [4])], [2, 3]⟩) 0 k) N e s) [0, 4, 5] 0 (prune (some ⟨[0, 4, 5], [], [(0, [4])], [2, 3]⟩) 0 k))) (by kernel_rfl) <| Eq.trans (e51_2 C L k (fun e s => iter (execR Try.prog C hh L 51 (cAt (bodyOf Try.f51) [1, 1, 0, 1, 0, 0])) [0, 4, 5] 0 (prune (some ⟨[0, 4, 5], [], [(0, [4])], [2, 3]⟩) 0 k) N e s) v0 v1 v2) (congrArg (fun kg => d51_2 C L (fun v0 v1 => k .ret (Env.lay .nil [2, 3] [(.pv v0), (.pv v1)]) []) kg (fun v0 => k (.exit 0) (Env.lay .nil [4] [(.pv v0)]) []) v0 v1 v2) (funext fun v0 => funext fun v1 => funext fun v2 => ih v0 v1 v2))
theorem e51_1 {R : Type} (C : Kallee) (L : Nat) (k : Ex → Env → Store → Option R) (v0 : PV) (v1 : PV) (v2 : PV) : execR Try.prog C hh L 51 (cAt (bodyOf Try.f51) [1, 1, 0, 1, 0]) (Env.lay .nil [0, 4, 5] [(.pv v0), (.pv v1), (.pv v2)]) [] k = d51_1 C L (fun v0 v1 => k .ret (Env.lay .nil [2, 3] [(.pv v0), (.pv v1)]) []) (fun v0 => k (.exit 0) (Env.lay .nil [4] [(.pv v0)]) []) v0 v1 v2 :=
  Eq.trans (b := iter (execR Try.prog C hh L 51 (cAt (bodyOf Try.f51) [1, 1, 0, 1, 0, 0])) [0, 4, 5] 0 (prune (some ⟨[0, 4, 5], [], [(0, [4])], [2, 3]⟩) 0 k) L (Env.lay .nil [0, 4, 5] [(.pv v0), (.pv v1), (.pv v2)]) []) (by kernel_rfl) (d51_1_i C L k L v0 v1 v2)
noncomputable def d51_3 (C : Kallee) (L : Nat)  (v0 : PV) : Option PV := (some (.tup [v0, (.sc (.int Go.IntKind.i64 0))]))
theorem e51_3 (C : Kallee) (L : Nat) (v0 : PV) : execR Try.prog C hh L 51 (cAt (bodyOf Try.f51) [1, 1, 1]) (Env.lay .nil [4] [(.pv v0)]) [] (endP Try.prog Try.f51) = d51_3 C L v0 := by kernel_rfl
noncomputable def g51_0 (C : Kallee) (X1 : PV → PV → PV → Option PV)  (v0 : PV) : Option PV := (X1 v0 (.sc (.int Go.IntKind.u32 0)) (.sc (.int Go.IntKind.i64 0)))
noncomputable def d51_0 (C : Kallee) (L : Nat)  (v0 : PV) : Option PV := g51_0 C (fun v0 v1 v2 => d51_1 C L (fun v0 v1 => (some (.tup [v0, v1]))) (fun v0 => d51_3 C L v0) v0 v1 v2) v0
theorem e51_0 (C : Kallee) (L : Nat) (v0 : PV) : execR Try.prog C hh L 51 (cAt (bodyOf Try.f51) []) (Env.ofArgs [(.pv v0)] 0 .nil) [] (endP Try.prog Try.f51) = d51_0 C L v0 :=
  Eq.trans (b := g51_0 C (fun v0 v1 v2 => execR Try.prog C hh L 51 (cAt (bodyOf Try.f51) [1, 1, 0, 1, 0]) (Env.lay .nil [0, 4, 5] [(.pv v0), (.pv v1), (.pv v2)]) [] (leaveB 0 (nextT Try.prog C hh L 51 (cAt (bodyOf Try.f51) [1, 1, 1]) (endP Try.prog Try.f51)))) v0) (by kernel_rfl) (cg1 (fun X1 => g51_0 C X1 v0) (funext fun v0 => funext fun v1 => funext fun v2 => Eq.trans (e51_1 C L (leaveB 0 (nextT Try.prog C hh L 51 (cAt (bodyOf Try.f51) [1, 1, 1]) (endP Try.prog Try.f51))) v0 v1 v2) (cg2 (fun kr ke0 => d51_1 C L kr ke0 v0 v1 v2) (funext fun v0 => funext fun v1 => (by kernel_rfl)) (funext fun v0 => (Eq.trans (b := execR Try.prog C hh L 51 (cAt (bodyOf Try.f51) [1, 1, 1]) (Env.lay .nil [4] [(.pv v0)]) [] (endP Try.prog Try.f51)) (by kernel_rfl) (e51_3 C L v0))))))
theorem r51 (C : Kallee) (L : Nat) (v0 : PV) : bodyPR Try.prog C hh L 51 [v0] = d51_0 C L v0 := Eq.trans (bodyPR_eq (c := cAt (bodyOf Try.f51) []) [v0] Try.func51 (by kernel_rfl) (by kernel_rfl)) (e51_0 C L v0)

end
end Go.Lite

namespace Go.Lite
open Go Go.Proofs
set_option maxRecDepth 1000000
set_option linter.unusedVariables false
noncomputable section
/-! ## 54: muster/musterref11.Right -/
noncomputable def d54_2 {R : Type} (C : Kallee) (L : Nat) (kr : PV → Option R) (kg : PV → PV → Option R) (ke0 : Option R) (v0 : PV) (v1 : PV) : Option R := (ob ((lenPV Try.prog 52 v0).map fun n => .sc (goInt n)) fun v110 => (ob (binPV Try.prog .lss 3 (.tmp 19) (.tmp 21) v1 v110) fun v111 => (cb v111 (ob (indexAddrPV Try.prog 52 v0 v1) fun v112 => (ob (fieldAddrPV Try.prog 54 v112 0) fun v113 => (ob (loadPV Try.prog 2 v113) fun v114 => (ob (binPV Try.prog .gtr 2 (.tmp 29) (.const (.int Go.IntKind.i64 2199023255552)) v114 (.sc (.int Go.IntKind.i64 2199023255552))) fun v115 => (gcase false v115 (ob (indexAddrPV Try.prog 52 v0 v1) fun v116 => (ob (fieldAddrPV Try.prog 54 v116 1) fun v117 => (ob (loadPV Try.prog 3 v117) fun v118 => (ob (binPV Try.prog .lss 3 (.tmp 36) (.const (.int Go.IntKind.i64 0)) v118 (.sc (.int Go.IntKind.i64 0))) fun v119 => (gcase false v119 (ob (indexAddrPV Try.prog 52 v0 v1) fun v120 => (ob (fieldAddrPV Try.prog 54 v120 1) fun v121 => (ob (loadPV Try.prog 3 v121) fun v122 => (ob (binPV Try.prog .gtr 3 (.tmp 44) (.const (.int Go.IntKind.i64 1073741824)) v122 (.sc (.int Go.IntKind.i64 1073741824))) fun v123 => (cb v123 (kr (.sc (.bool false))) (ob (binPV Try.prog .gtr 3 (.tmp 47) (.const (.int Go.IntKind.i64 0)) v1 (.sc (.int Go.IntKind.i64 0))) fun v124 => (gcase true v124 (ob (indexAddrPV Try.prog 52 v0 v1) fun v125 => (ob (fieldAddrPV Try.prog 54 v125 0) fun v126 => (ob (loadPV Try.prog 2 v126) fun v127 => (ob (binPV Try.prog .sub 3 (.tmp 56) (.const (.int Go.IntKind.i64 1)) v1 (.sc (.int Go.IntKind.i64 1))) fun v128 => (ob (indexAddrPV Try.prog 52 v0 v128) fun v129 => (ob (fieldAddrPV Try.prog 54 v129 0) fun v130 => (ob (loadPV Try.prog 2 v130) fun v131 => (ob (binPV Try.prog .leq 2 (.tmp 54) (.tmp 60) v127 v131) fun v132 => (gcase false v132 (ob (indexAddrPV Try.prog 52 v0 v1) fun v133 => (ob (fieldAddrPV Try.prog 54 v133 1) fun v134 => (ob (loadPV Try.prog 3 v134) fun v135 => (ob (binPV Try.prog .sub 3 (.tmp 69) (.const (.int Go.IntKind.i64 1)) v1 (.sc (.int Go.IntKind.i64 1))) fun v136 => (ob (indexAddrPV Try.prog 52 v0 v136) fun v137 => (ob (fieldAddrPV Try.prog 54 v137 1) fun v138 => (ob (loadPV Try.prog 3 v138) fun v139 => (ob (binPV Try.prog .eql 3 (.tmp 67) (.tmp 73) v135 v139) fun v140 => (cb v140 (kr (.sc (.bool false))) (ob (binPV Try.prog .add 3 (.tmp 23) (.const (.int Go.IntKind.i64 1)) v1 (.sc (.int Go.IntKind.i64 1))) fun v141 => (kg v0 v141))))))))))) (kr (.sc (.bool false))) none))))))))) (ob (binPV Try.prog .add 3 (.tmp 23) (.const (.int Go.IntKind.i64 1)) v1 (.sc (.int Go.IntKind.i64 1))) fun v143 => (kg v0 v143)) none))))))) (kr (.sc (.bool false))) none))))) (kr (.sc (.bool false))) none))))) (ke0))))
theorem e54_2 {R : Type} (C : Kallee) (L : Nat) (k : Ex → Env → Store → Option R) (gg : Env → Store → Option R) (v0 : PV) (v1 : PV) : execR Try.prog C hh L 54 (cAt (bodyOf Try.f54) [1, 1, 0, 1, 0, 0]) (Env.lay .nil [0, 3] [(.pv v0), (.pv v1)]) [] (loopK gg [0, 3] 0 (prune (some ⟨[0, 3], [], [(0, [])], [2]⟩) 0 k)) = d54_2 C L (fun v0 => k .ret (Env.lay .nil [2] [(.pv v0)]) []) (fun v0 v1 => gg (Env.lay .nil [0, 3] [(.pv v0), (.pv v1)]) []) (k (.exit 0) (Env.lay .nil [] []) []) v0 v1 := by kernel_rfl
noncomputable def d54_1i {R : Type} (C : Kallee) (L : Nat) (kr : PV → Option R) (ke0 : Option R) : Nat → PV → PV → Option R
  | 0, _, _ => none
  | N + 1, v0, v1 => d54_2 C L kr (fun v0 v1 => d54_1i C L kr ke0 N v0 v1) ke0 v0 v1
noncomputable def d54_1 {R : Type} (C : Kallee) (L : Nat) (kr : PV → Option R) (ke0 : Option R) (v0 : PV) (v1 : PV) : Option R := d54_1i C L kr ke0 L v0 v1
theorem d54_1_i {R : Type} (C : Kallee) (L : Nat) (k : Ex → Env → Store → Option R) (N : Nat) (v0 : PV) (v1 : PV) : iter (execR Try.prog C hh L 54 (cAt (bodyOf Try.f54) [1, 1, 0, 1, 0, 0])) [0, 3] 0 (prune (some ⟨[0, 3], [], [(0, [])], [2]⟩) 0 k) N (Env.lay .nil [0, 3] [(.pv v0), (.pv v1)]) [] = d54_1i C L (fun v0 => k .ret (Env.lay .nil [2] [(.pv v0)]) []) (k (.exit 0) (Env.lay .nil [] []) []) N v0 v1 := by
  induction N generalizing v0 v1 with
  | zero => rfl
  | succ N ih => exact Eq.trans (b := execR Try.prog C hh L 54 (cAt (bodyOf Try.f54) [1, 1, 0, 1, 0, 0]) (Env.lay .nil [0, 3] [(.pv v0), (.pv v1)]) [] (loopK (fun e s => iter (execR Try.prog C hh L 54 (cAt (bodyOf Try.f54) [1, 1, 0, 1, 0, 0])) [0, 3] 0 (prune (some ⟨[0, 3], [], [(0, [])], [2]⟩) 0 k) N e s) [0, 3] 0 (prune (some ⟨[0, 3], [], [(0, [])], [2]⟩) 0 k))) (by kernel_rfl) <| Eq.trans (e54_2 C L k (fun e s => iter (execR Try.prog C hh L 54 (cAt (bodyOf Try.f54) [1, 1, 0, 1, 0, 0])) [0, 3] 0 (prune (some ⟨[0, 3], [], [(0, [])], [2]⟩) 0 k) N e s) v0 v1) (congrArg (fun kg => d54_2 C L (fun v0 => k .ret (Env.lay .nil [2] [(.pv v0)]) []) kg (k (.exit 0) (Env.lay .nil [] []) []) v0 v1) (funext fun v0 => funext fun v1 => ih v0 v1))
theorem e54_1 {R : Type} (C : Kallee) (L : Nat) (k : Ex → Env → Store → Option R) (v0 : PV) (v1 : PV) : execR Try.prog C hh L 54 (cAt (bodyOf Try.f54) [1, 1, 0, 1, 0]) (Env.lay .nil [0, 3] [(.pv v0), (.pv v1)]) [] k = d54_1 C L (fun v0 => k .ret (Env.lay .nil [2] [(.pv v0)]) []) (k (.exit 0) (Env.lay .nil [] []) []) v0 v1 :=
  Eq.trans (b := iter (execR Try.prog C hh L 54 (cAt (bodyOf Try.f54) [1, 1, 0, 1, 0, 0])) [0, 3] 0 (prune (some ⟨[0, 3], [], [(0, [])], [2]⟩) 0 k) L (Env.lay .nil [0, 3] [(.pv v0), (.pv v1)]) []) (by kernel_rfl) (d54_1_i C L k L v0 v1)
noncomputable def d54_3 (C : Kallee) (L : Nat)   : Option PV := (some (.sc (.bool true)))
theorem e54_3 (C : Kallee) (L : Nat)  : execR Try.prog C hh L 54 (cAt (bodyOf Try.f54) [1, 1, 1]) (Env.lay .nil [] []) [] (endP Try.prog Try.f54) = d54_3 C L := by kernel_rfl
noncomputable def g54_0 (C : Kallee) (X1 : PV → PV → Option PV)  (v0 : PV) : Option PV := (ob ((lenPV Try.prog 52 v0).map fun n => .sc (goInt n)) fun v102 => (ob (binPV Try.prog .lss 3 (.tmp 5) (.const (.int Go.IntKind.i64 1)) v102 (.sc (.int Go.IntKind.i64 1))) fun v103 => (gcase false v103 (ob ((lenPV Try.prog 52 v0).map fun n => .sc (goInt n)) fun v104 => (ob (binPV Try.prog .gtr 3 (.tmp 9) (.const (.int Go.IntKind.i64 4096)) v104 (.sc (.int Go.IntKind.i64 4096))) fun v105 => (gcase false v105 (ob (indexAddrPV Try.prog 52 v0 (.sc (.int Go.IntKind.i64 0))) fun v106 => (ob (fieldAddrPV Try.prog 54 v106 0) fun v107 => (ob (loadPV Try.prog 2 v107) fun v108 => (ob (binPV Try.prog .neq 2 (.tmp 16) (.const (.int Go.IntKind.i64 0)) v108 (.sc (.int Go.IntKind.i64 0))) fun v109 => (cb v109 (some (.sc (.bool false))) (X1 v0 (.sc (.int Go.IntKind.i64 0)))))))) (some (.sc (.bool false))) none))) (some (.sc (.bool false))) none)))
noncomputable def d54_0 (C : Kallee) (L : Nat)  (v0 : PV) : Option PV := g54_0 C (fun v0 v1 => d54_1 C L (fun v0 => (some v0)) (d54_3 C L) v0 v1) v0
theorem e54_0 (C : Kallee) (L : Nat) (v0 : PV) : execR Try.prog C hh L 54 (cAt (bodyOf Try.f54) []) (Env.ofArgs [(.pv v0)] 0 .nil) [] (endP Try.prog Try.f54) = d54_0 C L v0 :=
  Eq.trans (b := g54_0 C (fun v0 v1 => execR Try.prog C hh L 54 (cAt (bodyOf Try.f54) [1, 1, 0, 1, 0]) (Env.lay .nil [0, 3] [(.pv v0), (.pv v1)]) [] (leaveB 0 (nextT Try.prog C hh L 54 (cAt (bodyOf Try.f54) [1, 1, 1]) (endP Try.prog Try.f54)))) v0) (by kernel_rfl) (cg1 (fun X1 => g54_0 C X1 v0) (funext fun v0 => funext fun v1 => Eq.trans (e54_1 C L (leaveB 0 (nextT Try.prog C hh L 54 (cAt (bodyOf Try.f54) [1, 1, 1]) (endP Try.prog Try.f54))) v0 v1) (cg2 (fun kr ke0 => d54_1 C L kr ke0 v0 v1) (funext fun v0 => (by kernel_rfl)) (Eq.trans (b := execR Try.prog C hh L 54 (cAt (bodyOf Try.f54) [1, 1, 1]) (Env.lay .nil [] []) [] (endP Try.prog Try.f54)) (by kernel_rfl) (e54_3 C L)))))
theorem r54 (C : Kallee) (L : Nat) (v0 : PV) : bodyPR Try.prog C hh L 54 [v0] = d54_0 C L v0 := Eq.trans (bodyPR_eq (c := cAt (bodyOf Try.f54) []) [v0] Try.func54 (by kernel_rfl) (by kernel_rfl)) (e54_0 C L v0)

end
end Go.Lite

namespace Go.Lite
open Go Go.Proofs
set_option maxRecDepth 1000000
set_option linter.unusedVariables false
noncomputable section
/-! ## 55: slices.ContainsFunc[[]muster/api.Block,muster/api.Block] -/
noncomputable def d55_0 (C : Kallee) (L : Nat)  (v0 : PV) (v1 : PV) : Option PV := (ob (callD C.pure (.clo 70 [] []) [v0, v1] 0) fun v103 => (ob (binPV Try.prog .geq 3 (.tmp 7) (.const (.int Go.IntKind.i64 0)) v103 (.sc (.int Go.IntKind.i64 0))) fun v104 => (some v104)))
theorem e55_0 (C : Kallee) (L : Nat) (v0 : PV) (v1 : PV) : execR Try.prog C hh L 55 (cAt (bodyOf Try.f55) []) (Env.ofArgs [(.pv v0), (.pv v1)] 0 .nil) [] (endP Try.prog Try.f55) = d55_0 C L v0 v1 := by kernel_rfl
theorem r55 (C : Kallee) (L : Nat) (v0 : PV) (v1 : PV) : bodyPR Try.prog C hh L 55 [v0, v1] = d55_0 C L v0 v1 := Eq.trans (bodyPR_eq (c := cAt (bodyOf Try.f55) []) [v0, v1] Try.func55 (by kernel_rfl) (by kernel_rfl)) (e55_0 C L v0 v1)

end
end Go.Lite

namespace Go.Lite
open Go Go.Proofs
set_option maxRecDepth 1000000
set_option linter.unusedVariables false
noncomputable section
/-! ## 56: muster/profile.right$1 -/
noncomputable def d56_0 (C : Kallee) (L : Nat)  (v0 : PV) : Option PV := (ck (PV.hasLay 4 v0) ((ob (PV.at_ 4 1 0 v0) fun v102 => (ob (PV.at_ 4 2 0 v0) fun v103 => (ob (callD C.pure (.clo 39 [] []) [v102, v103] 0) fun v104 => (ob (unPV Try.prog .not v104) fun v105 => (some v105)))))))
theorem e56_0 (C : Kallee) (L : Nat) (v0 : PV) : execR Try.prog C hh L 56 (cAt (bodyOf Try.f56) []) (Env.ofArgs [(.pv v0)] 0 .nil) [] (endP Try.prog Try.f56) = d56_0 C L v0 := by kernel_rfl
theorem r56 (C : Kallee) (L : Nat) (v0 : PV) : bodyPR Try.prog C hh L 56 [v0] = d56_0 C L v0 := Eq.trans (bodyPR_eq (c := cAt (bodyOf Try.f56) []) [v0] Try.func56 (by kernel_rfl) (by kernel_rfl)) (e56_0 C L v0)

end
end Go.Lite

namespace Go.Lite
open Go Go.Proofs
set_option maxRecDepth 1000000
set_option linter.unusedVariables false
noncomputable section
/-! ## 59: muster/profile.open$1 -/
noncomputable def d59_0 (C : Kallee) (L : Nat)  (v0 : PV) (v1 : PV) (v2 : PV) (v3 : PV) : Option PV := (ob (loadPV Try.prog 22 v1) fun v105 => (ob (indexAddrPV Try.prog 22 v105 v0) fun v106 => (ob (loadPV Try.prog 52 v106) fun v107 => (ob (loadPV Try.prog 2 v2) fun v108 => (ob (loadPV Try.prog 2 v2) fun v109 => (ob (fieldAddrPV Try.prog 27 v3 2) fun v110 => (ob (loadPV Try.prog 2 v110) fun v111 => (ob (binPV Try.prog .add 2 (.tmp 14) (.tmp 16) v109 v111) fun v112 => (ob (callD C.pure (.clo 42 [] []) [v107, v108, v112] 0) fun v113 => (ob (extractPV v113 0) fun v114 => (ob (extractPV v113 1) fun v115 => (ob (fieldAddrPV Try.prog 27 v3 1) fun v116 => (ob (loadPV Try.prog 3 v116) fun v117 => (ob (binPV Try.prog .geq 3 (.tmp 21) (.tmp 23) v114 v117) fun v118 => (some v118)))))))))))))))
theorem e59_0 (C : Kallee) (L : Nat) (v0 : PV) (v1 : PV) (v2 : PV) (v3 : PV) : execR Try.prog C hh L 59 (cAt (bodyOf Try.f59) []) (Env.ofArgs [(.pv v0), (.pv v1), (.pv v2), (.pv v3)] 0 .nil) [] (endP Try.prog Try.f59) = d59_0 C L v0 v1 v2 v3 := by kernel_rfl
theorem r59 (C : Kallee) (L : Nat) (v0 : PV) (v1 : PV) (v2 : PV) (v3 : PV) : bodyPR Try.prog C hh L 59 [v0, v1, v2, v3] = d59_0 C L v0 v1 v2 v3 := Eq.trans (bodyPR_eq (c := cAt (bodyOf Try.f59) []) [v0, v1, v2, v3] Try.func59 (by kernel_rfl) (by kernel_rfl)) (e59_0 C L v0 v1 v2 v3)

end
end Go.Lite

namespace Go.Lite
open Go Go.Proofs
set_option maxRecDepth 1000000
set_option linter.unusedVariables false
noncomputable section
/-! ## 60: muster/musterref10.Minus -/
noncomputable def d60_3 {R : Type} (C : Kallee) (L : Nat) (kn : PV → PV → PV → PV → List PV → Option R) (v0 : PV) (v1 : PV) (v2 : PV) (x3 : List PV) : Option R := (ob (callD C.pure (.clo 50 [] []) [v0, v2] 0) fun v105 => (gcase true v105 (ob (callD C.pure (.clo 50 [] []) [v1, v2] 0) fun v106 => (ob (unPV Try.prog .not v106) fun v107 => (kn v0 v1 v2 v107 x3))) (kn v0 v1 v2 (.sc (.bool false)) x3) none))
theorem e60_3 {R : Type} (C : Kallee) (L : Nat) (k : Ex → Env → Store → Option R) (v0 : PV) (v1 : PV) (v2 : PV) (x3 : List PV) : execR Try.prog C hh L 60 (cAt (bodyOf Try.f60) [1, 1, 0, 1, 0, 0, 1, 0, 0, 0]) (Env.lay .nil [0, 1, 5, 6] [(.pv v0), (.pv v1), (.arr 0), (.pv v2)]) [.arr 0 false x3] k = d60_3 C L (fun v0 v1 v2 v3 x4 => k .normal (Env.lay .nil [0, 1, 5, 6, 21] [(.pv v0), (.pv v1), (.arr 0), (.pv v2), (.pv v3)]) [.arr 0 false x4]) v0 v1 v2 x3 := by kernel_rfl
noncomputable def d60_4 {R : Type} (C : Kallee) (L : Nat) (kg : PV → PV → PV → List PV → Option R) (v0 : PV) (v1 : PV) (v2 : PV) (v3 : PV) (x4 : List PV) : Option R := (cb v3 (ob (buildSliceAV Try.prog 50 1 [(0, v2)]) fun v109 => (oxs (appendTo Try.prog 50 50 0 x4 v109) fun x110 => (ob (binPV Try.prog .add 3 (.tmp 11) (.const (.int Go.IntKind.i64 1)) v2 (.sc (.int Go.IntKind.i64 1))) fun v111 => (kg v0 v1 v111 x110)))) (ob (binPV Try.prog .add 3 (.tmp 11) (.const (.int Go.IntKind.i64 1)) v2 (.sc (.int Go.IntKind.i64 1))) fun v112 => (kg v0 v1 v112 x4)))
theorem e60_4 {R : Type} (C : Kallee) (L : Nat) (k : Ex → Env → Store → Option R) (gg : Env → Store → Option R) (v0 : PV) (v1 : PV) (v2 : PV) (v3 : PV) (x4 : List PV) : execR Try.prog C hh L 60 (cAt (bodyOf Try.f60) [1, 1, 0, 1, 0, 0, 1, 0, 0, 1]) (Env.lay .nil [0, 1, 5, 6, 21] [(.pv v0), (.pv v1), (.arr 0), (.pv v2), (.pv v3)]) [.arr 0 false x4] (leaveB 1 (nextT Try.prog C hh L 60 (cAt (bodyOf Try.f60) [1, 1, 0, 1, 0, 0, 1, 1]) (loopK gg [0, 1, 5, 6] 1 (prune (some ⟨[0, 1, 5, 6], [], [(0, [5])], []⟩) 1 k)))) = d60_4 C L (fun v0 v1 v2 x3 => gg (Env.lay .nil [0, 1, 5, 6] [(.pv v0), (.pv v1), (.arr 0), (.pv v2)]) [.arr 0 false x3]) v0 v1 v2 v3 x4 := by kernel_rfl
noncomputable def g60_2 {R : Type} (C : Kallee) (X1 : PV → PV → PV → List PV → Option R) (ke0 : List PV → Option R) (kg : PV → PV → PV → List PV → Option R) (v0 : PV) (v1 : PV) (v2 : PV) (x3 : List PV) : Option R := (ob (binPV Try.prog .lss 3 (.tmp 9) (.const (.int Go.IntKind.i64 32)) v2 (.sc (.int Go.IntKind.i64 32))) fun v104 => (cb v104 (X1 v0 v1 v2 x3) (ke0 x3)))
noncomputable def d60_2 {R : Type} (C : Kallee) (L : Nat) (ke0 : List PV → Option R) (kg : PV → PV → PV → List PV → Option R) (v0 : PV) (v1 : PV) (v2 : PV) (x3 : List PV) : Option R := g60_2 C (fun v0 v1 v2 x3 => d60_3 C L (fun v0 v1 v2 v3 x4 => d60_4 C L kg v0 v1 v2 v3 x4) v0 v1 v2 x3) ke0 kg v0 v1 v2 x3
theorem e60_2 {R : Type} (C : Kallee) (L : Nat) (k : Ex → Env → Store → Option R) (gg : Env → Store → Option R) (v0 : PV) (v1 : PV) (v2 : PV) (x3 : List PV) : execR Try.prog C hh L 60 (cAt (bodyOf Try.f60) [1, 1, 0, 1, 0, 0]) (Env.lay .nil [0, 1, 5, 6] [(.pv v0), (.pv v1), (.arr 0), (.pv v2)]) [.arr 0 false x3] (loopK gg [0, 1, 5, 6] 1 (prune (some ⟨[0, 1, 5, 6], [], [(0, [5])], []⟩) 1 k)) = d60_2 C L (fun x0 => k (.exit 0) (Env.lay .nil [5] [(.arr 0)]) [.arr 0 false x0]) (fun v0 v1 v2 x3 => gg (Env.lay .nil [0, 1, 5, 6] [(.pv v0), (.pv v1), (.arr 0), (.pv v2)]) [.arr 0 false x3]) v0 v1 v2 x3 :=
  Eq.trans (b := g60_2 C (fun v0 v1 v2 x3 => execR Try.prog C hh L 60 (cAt (bodyOf Try.f60) [1, 1, 0, 1, 0, 0, 1, 0, 0, 0]) (Env.lay .nil [0, 1, 5, 6] [(.pv v0), (.pv v1), (.arr 0), (.pv v2)]) [.arr 0 false x3] (nextT Try.prog C hh L 60 (cAt (bodyOf Try.f60) [1, 1, 0, 1, 0, 0, 1, 0, 0, 1]) (leaveB 1 (nextT Try.prog C hh L 60 (cAt (bodyOf Try.f60) [1, 1, 0, 1, 0, 0, 1, 1]) (loopK gg [0, 1, 5, 6] 1 (prune (some ⟨[0, 1, 5, 6], [], [(0, [5])], []⟩) 1 k)))))) (fun x0 => k (.exit 0) (Env.lay .nil [5] [(.arr 0)]) [.arr 0 false x0]) (fun v0 v1 v2 x3 => gg (Env.lay .nil [0, 1, 5, 6] [(.pv v0), (.pv v1), (.arr 0), (.pv v2)]) [.arr 0 false x3]) v0 v1 v2 x3) (by kernel_rfl) (cg1 (fun X1 => g60_2 C X1 (fun x0 => k (.exit 0) (Env.lay .nil [5] [(.arr 0)]) [.arr 0 false x0]) (fun v0 v1 v2 x3 => gg (Env.lay .nil [0, 1, 5, 6] [(.pv v0), (.pv v1), (.arr 0), (.pv v2)]) [.arr 0 false x3]) v0 v1 v2 x3) (funext fun v0 => funext fun v1 => funext fun v2 => funext fun x3 => Eq.trans (e60_3 C L (nextT Try.prog C hh L 60 (cAt (bodyOf Try.f60) [1, 1, 0, 1, 0, 0, 1, 0, 0, 1]) (leaveB 1 (nextT Try.prog C hh L 60 (cAt (bodyOf Try.f60) [1, 1, 0, 1, 0, 0, 1, 1]) (loopK gg [0, 1, 5, 6] 1 (prune (some ⟨[0, 1, 5, 6], [], [(0, [5])], []⟩) 1 k))))) v0 v1 v2 x3) (cg1 (fun kn => d60_3 C L kn v0 v1 v2 x3) (funext fun v0 => funext fun v1 => funext fun v2 => funext fun v3 => funext fun x4 => (Eq.trans (b := execR Try.prog C hh L 60 (cAt (bodyOf Try.f60) [1, 1, 0, 1, 0, 0, 1, 0, 0, 1]) (Env.lay .nil [0, 1, 5, 6, 21] [(.pv v0), (.pv v1), (.arr 0), (.pv v2), (.pv v3)]) [.arr 0 false x4] (leaveB 1 (nextT Try.prog C hh L 60 (cAt (bodyOf Try.f60) [1, 1, 0, 1, 0, 0, 1, 1]) (loopK gg [0, 1, 5, 6] 1 (prune (some ⟨[0, 1, 5, 6], [], [(0, [5])], []⟩) 1 k))))) (by kernel_rfl) (e60_4 C L k gg v0 v1 v2 v3 x4))))))
noncomputable def d60_1i {R : Type} (C : Kallee) (L : Nat) (ke0 : List PV → Option R) : Nat → PV → PV → PV → List PV → Option R
  | 0, _, _, _, _ => none
  | N + 1, v0, v1, v2, x3 => d60_2 C L ke0 (fun v0 v1 v2 x3 => d60_1i C L ke0 N v0 v1 v2 x3) v0 v1 v2 x3
noncomputable def d60_1 {R : Type} (C : Kallee) (L : Nat) (ke0 : List PV → Option R) (v0 : PV) (v1 : PV) (v2 : PV) (x3 : List PV) : Option R := d60_1i C L ke0 L v0 v1 v2 x3
theorem d60_1_i {R : Type} (C : Kallee) (L : Nat) (k : Ex → Env → Store → Option R) (N : Nat) (v0 : PV) (v1 : PV) (v2 : PV) (x3 : List PV) : iter (execR Try.prog C hh L 60 (cAt (bodyOf Try.f60) [1, 1, 0, 1, 0, 0])) [0, 1, 5, 6] 1 (prune (some ⟨[0, 1, 5, 6], [], [(0, [5])], []⟩) 1 k) N (Env.lay .nil [0, 1, 5, 6] [(.pv v0), (.pv v1), (.arr 0), (.pv v2)]) [.arr 0 false x3] = d60_1i C L (fun x0 => k (.exit 0) (Env.lay .nil [5] [(.arr 0)]) [.arr 0 false x0]) N v0 v1 v2 x3 := by
  induction N generalizing v0 v1 v2 x3 with
  | zero => rfl
  | succ N ih => exact Eq.trans (b := execR Try.prog C hh L 60 (cAt (bodyOf Try.f60) [1, 1, 0, 1, 0, 0]) (Env.lay .nil [0, 1, 5, 6] [(.pv v0), (.pv v1), (.arr 0), (.pv v2)]) [.arr 0 false x3] (loopK (fun e s => iter (execR Try.prog C hh L 60 (cAt (bodyOf Try.f60) [1, 1, 0, 1, 0, 0])) [0, 1, 5, 6] 1 (prune (some ⟨[0, 1, 5, 6], [], [(0, [5])], []⟩) 1 k) N e s) [0, 1, 5, 6] 1 (prune (some ⟨[0, 1, 5, 6], [], [(0, [5])], []⟩) 1 k))) (by kernel_rfl) <| Eq.trans (e60_2 C L k (fun e s => iter (execR Try.prog C hh L 60 (cAt (bodyOf Try.f60) [1, 1, 0, 1, 0, 0])) [0, 1, 5, 6] 1 (prune (some ⟨[0, 1, 5, 6], [], [(0, [5])], []⟩) 1 k) N e s) v0 v1 v2 x3) (congrArg (fun kg => d60_2 C L (fun x0 => k (.exit 0) (Env.lay .nil [5] [(.arr 0)]) [.arr 0 false x0]) kg v0 v1 v2 x3) (funext fun v0 => funext fun v1 => funext fun v2 => funext fun x3 => ih v0 v1 v2 x3))
theorem e60_1 {R : Type} (C : Kallee) (L : Nat) (k : Ex → Env → Store → Option R) (v0 : PV) (v1 : PV) (v2 : PV) (x3 : List PV) : execR Try.prog C hh L 60 (cAt (bodyOf Try.f60) [1, 1, 0, 1, 0]) (Env.lay .nil [0, 1, 5, 6] [(.pv v0), (.pv v1), (.arr 0), (.pv v2)]) [.arr 0 false x3] k = d60_1 C L (fun x0 => k (.exit 0) (Env.lay .nil [5] [(.arr 0)]) [.arr 0 false x0]) v0 v1 v2 x3 :=
  Eq.trans (b := iter (execR Try.prog C hh L 60 (cAt (bodyOf Try.f60) [1, 1, 0, 1, 0, 0])) [0, 1, 5, 6] 1 (prune (some ⟨[0, 1, 5, 6], [], [(0, [5])], []⟩) 1 k) L (Env.lay .nil [0, 1, 5, 6] [(.pv v0), (.pv v1), (.arr 0), (.pv v2)]) [.arr 0 false x3]) (by kernel_rfl) (d60_1_i C L k L v0 v1 v2 x3)
noncomputable def d60_5 (C : Kallee) (L : Nat)  (x0 : List PV) : Option PV := (ob (callD C.pure (.clo 51 [] []) [(.list 0 false x0)] 0) fun v113 => (ob (extractPV v113 0) fun v114 => (ob (extractPV v113 1) fun v115 => (some v114))))
theorem e60_5 (C : Kallee) (L : Nat) (x0 : List PV) : execR Try.prog C hh L 60 (cAt (bodyOf Try.f60) [1, 1, 1]) (Env.lay .nil [5] [(.arr 0)]) [.arr 0 false x0] (endP Try.prog Try.f60) = d60_5 C L x0 := by kernel_rfl
noncomputable def g60_0 (C : Kallee) (X1 : PV → PV → PV → List PV → Option PV)  (v0 : PV) (v1 : PV) : Option PV := (X1 v0 v1 (.sc (.int Go.IntKind.i64 0)) [])
noncomputable def d60_0 (C : Kallee) (L : Nat)  (v0 : PV) (v1 : PV) : Option PV := g60_0 C (fun v0 v1 v2 x3 => d60_1 C L (fun x0 => d60_5 C L x0) v0 v1 v2 x3) v0 v1
theorem e60_0 (C : Kallee) (L : Nat) (v0 : PV) (v1 : PV) : execR Try.prog C hh L 60 (cAt (bodyOf Try.f60) []) (Env.ofArgs [(.pv v0), (.pv v1)] 0 .nil) [] (endP Try.prog Try.f60) = d60_0 C L v0 v1 :=
  Eq.trans (b := g60_0 C (fun v0 v1 v2 x3 => execR Try.prog C hh L 60 (cAt (bodyOf Try.f60) [1, 1, 0, 1, 0]) (Env.lay .nil [0, 1, 5, 6] [(.pv v0), (.pv v1), (.arr 0), (.pv v2)]) [.arr 0 false x3] (leaveB 0 (nextT Try.prog C hh L 60 (cAt (bodyOf Try.f60) [1, 1, 1]) (endP Try.prog Try.f60)))) v0 v1) (by kernel_rfl) (cg1 (fun X1 => g60_0 C X1 v0 v1) (funext fun v0 => funext fun v1 => funext fun v2 => funext fun x3 => Eq.trans (e60_1 C L (leaveB 0 (nextT Try.prog C hh L 60 (cAt (bodyOf Try.f60) [1, 1, 1]) (endP Try.prog Try.f60))) v0 v1 v2 x3) (cg1 (fun ke0 => d60_1 C L ke0 v0 v1 v2 x3) (funext fun x0 => (Eq.trans (b := execR Try.prog C hh L 60 (cAt (bodyOf Try.f60) [1, 1, 1]) (Env.lay .nil [5] [(.arr 0)]) [.arr 0 false x0] (endP Try.prog Try.f60)) (by kernel_rfl) (e60_5 C L x0))))))
theorem r60 (C : Kallee) (L : Nat) (v0 : PV) (v1 : PV) : bodyPR Try.prog C hh L 60 [v0, v1] = d60_0 C L v0 v1 := Eq.trans (bodyPR_eq (c := cAt (bodyOf Try.f60) []) [v0, v1] Try.func60 (by kernel_rfl) (by kernel_rfl)) (e60_0 C L v0 v1)

end
end Go.Lite

namespace Go.Lite
open Go Go.Proofs
set_option maxRecDepth 1000000
set_option linter.unusedVariables false
noncomputable section
/-! ## 63: muster/steps.window -/
noncomputable def d63_0 (C : Kallee) (L : Nat)  (v0 : PV) (v1 : PV) (v2 : PV) : Option PV := (ob (binPV Try.prog .geq 2 (.tmp 7) (.const (.int Go.IntKind.i64 0)) v1 (.sc (.int Go.IntKind.i64 0))) fun v104 => (gcase true v104 (ob (binPV Try.prog .lss 2 (.tmp 10) (.tmp 11) v1 v2) fun v105 => (gcase true v105 (ob (binPV Try.prog .leq 2 (.tmp 15) (.const (.int Go.IntKind.i64 2199023255552)) v2 (.sc (.int Go.IntKind.i64 2199023255552))) fun v106 => (gcase true v106 (ob (callD C.pure (.clo 46 [] []) [v0] 0) fun v107 => (some v107)) (some (.sc (.bool false))) none)) (some (.sc (.bool false))) none)) (some (.sc (.bool false))) none))
theorem e63_0 (C : Kallee) (L : Nat) (v0 : PV) (v1 : PV) (v2 : PV) : execR Try.prog C hh L 63 (cAt (bodyOf Try.f63) []) (Env.ofArgs [(.pv v0), (.pv v1), (.pv v2)] 0 .nil) [] (endP Try.prog Try.f63) = d63_0 C L v0 v1 v2 := by kernel_rfl
theorem r63 (C : Kallee) (L : Nat) (v0 : PV) (v1 : PV) (v2 : PV) : bodyPR Try.prog C hh L 63 [v0, v1, v2] = d63_0 C L v0 v1 v2 := Eq.trans (bodyPR_eq (c := cAt (bodyOf Try.f63) []) [v0, v1, v2] Try.func63 (by kernel_rfl) (by kernel_rfl)) (e63_0 C L v0 v1 v2)

end
end Go.Lite

namespace Go.Lite
open Go Go.Proofs
set_option maxRecDepth 1000000
set_option linter.unusedVariables false
noncomputable section
/-! ## 64: muster/steps.least -/
noncomputable def d64_2 {R : Type} (C : Kallee) (L : Nat) (ke0 : PV → Option R) (kg : PV → PV → PV → PV → PV → Option R) (v0 : PV) (v1 : PV) (v2 : PV) (v3 : PV) (v4 : PV) : Option R := (ob (binPV Try.prog .lss 3 (.tmp 23) (.tmp 22) v4 v3) fun v110 => (cb v110 (ob (indexAddrPV Try.prog 52 v2 v4) fun v111 => (ob (loadPV Try.prog 54 v111) fun v112 => (ob (putPV 3 0 3 (.pv (.agg [(.sc (.int Go.IntKind.i64 0)), (.sc (.int Go.IntKind.i64 0))])) v112) fun v113 => (ob (PV.at_ 3 0 0 v113) fun v114 => (ob (binPV Try.prog .geq 2 (.tmp 28) (.tmp 29) v114 v0) fun v115 => (cb v115 (ke0 v1) (ob (PV.at_ 3 1 0 v113) fun v116 => (ob (minPV Try.prog [v1, v116]) fun v117 => (ob (binPV Try.prog .add 3 (.tmp 23) (.const (.int Go.IntKind.i64 1)) v4 (.sc (.int Go.IntKind.i64 1))) fun v118 => (kg v0 v117 v2 v3 v118)))))))))) (ke0 v1)))
theorem e64_2 {R : Type} (C : Kallee) (L : Nat) (k : Ex → Env → Store → Option R) (gg : Env → Store → Option R) (v0 : PV) (v1 : PV) (v2 : PV) (v3 : PV) (v4 : PV) : execR Try.prog C hh L 64 (cAt (bodyOf Try.f64) [1, 1, 1, 0, 1, 0, 0]) (Env.lay .nil [2, 8, 21, 22, 23] [(.pv v0), (.pv v1), (.pv v2), (.pv v3), (.pv v4)]) [] (loopK gg [2, 8, 21, 22, 23] 0 (prune (some ⟨[2, 8, 21, 22, 23], [], [(0, [8])], []⟩) 0 k)) = d64_2 C L (fun v0 => k (.exit 0) (Env.lay .nil [8] [(.pv v0)]) []) (fun v0 v1 v2 v3 v4 => gg (Env.lay .nil [2, 8, 21, 22, 23] [(.pv v0), (.pv v1), (.pv v2), (.pv v3), (.pv v4)]) []) v0 v1 v2 v3 v4 := by kernel_rfl
noncomputable def d64_1i {R : Type} (C : Kallee) (L : Nat) (ke0 : PV → Option R) : Nat → PV → PV → PV → PV → PV → Option R
  | 0, _, _, _, _, _ => none
  | N + 1, v0, v1, v2, v3, v4 => d64_2 C L ke0 (fun v0 v1 v2 v3 v4 => d64_1i C L ke0 N v0 v1 v2 v3 v4) v0 v1 v2 v3 v4
noncomputable def d64_1 {R : Type} (C : Kallee) (L : Nat) (ke0 : PV → Option R) (v0 : PV) (v1 : PV) (v2 : PV) (v3 : PV) (v4 : PV) : Option R := d64_1i C L ke0 L v0 v1 v2 v3 v4
theorem d64_1_i {R : Type} (C : Kallee) (L : Nat) (k : Ex → Env → Store → Option R) (N : Nat) (v0 : PV) (v1 : PV) (v2 : PV) (v3 : PV) (v4 : PV) : iter (execR Try.prog C hh L 64 (cAt (bodyOf Try.f64) [1, 1, 1, 0, 1, 0, 0])) [2, 8, 21, 22, 23] 0 (prune (some ⟨[2, 8, 21, 22, 23], [], [(0, [8])], []⟩) 0 k) N (Env.lay .nil [2, 8, 21, 22, 23] [(.pv v0), (.pv v1), (.pv v2), (.pv v3), (.pv v4)]) [] = d64_1i C L (fun v0 => k (.exit 0) (Env.lay .nil [8] [(.pv v0)]) []) N v0 v1 v2 v3 v4 := by
  induction N generalizing v0 v1 v2 v3 v4 with
  | zero => rfl
  | succ N ih => exact Eq.trans (b := execR Try.prog C hh L 64 (cAt (bodyOf Try.f64) [1, 1, 1, 0, 1, 0, 0]) (Env.lay .nil [2, 8, 21, 22, 23] [(.pv v0), (.pv v1), (.pv v2), (.pv v3), (.pv v4)]) [] (loopK (fun e s => iter (execR Try.prog C hh L 64 (cAt (bodyOf Try.f64) [1, 1, 1, 0, 1, 0, 0])) [2, 8, 21, 22, 23] 0 (prune (some ⟨[2, 8, 21, 22, 23], [], [(0, [8])], []⟩) 0 k) N e s) [2, 8, 21, 22, 23] 0 (prune (some ⟨[2, 8, 21, 22, 23], [], [(0, [8])], []⟩) 0 k))) (by kernel_rfl) <| Eq.trans (e64_2 C L k (fun e s => iter (execR Try.prog C hh L 64 (cAt (bodyOf Try.f64) [1, 1, 1, 0, 1, 0, 0])) [2, 8, 21, 22, 23] 0 (prune (some ⟨[2, 8, 21, 22, 23], [], [(0, [8])], []⟩) 0 k) N e s) v0 v1 v2 v3 v4) (congrArg (fun kg => d64_2 C L (fun v0 => k (.exit 0) (Env.lay .nil [8] [(.pv v0)]) []) kg v0 v1 v2 v3 v4) (funext fun v0 => funext fun v1 => funext fun v2 => funext fun v3 => funext fun v4 => ih v0 v1 v2 v3 v4))
theorem e64_1 {R : Type} (C : Kallee) (L : Nat) (k : Ex → Env → Store → Option R) (v0 : PV) (v1 : PV) (v2 : PV) (v3 : PV) (v4 : PV) : execR Try.prog C hh L 64 (cAt (bodyOf Try.f64) [1, 1, 1, 0, 1, 0]) (Env.lay .nil [2, 8, 21, 22, 23] [(.pv v0), (.pv v1), (.pv v2), (.pv v3), (.pv v4)]) [] k = d64_1 C L (fun v0 => k (.exit 0) (Env.lay .nil [8] [(.pv v0)]) []) v0 v1 v2 v3 v4 :=
  Eq.trans (b := iter (execR Try.prog C hh L 64 (cAt (bodyOf Try.f64) [1, 1, 1, 0, 1, 0, 0])) [2, 8, 21, 22, 23] 0 (prune (some ⟨[2, 8, 21, 22, 23], [], [(0, [8])], []⟩) 0 k) L (Env.lay .nil [2, 8, 21, 22, 23] [(.pv v0), (.pv v1), (.pv v2), (.pv v3), (.pv v4)]) []) (by kernel_rfl) (d64_1_i C L k L v0 v1 v2 v3 v4)
noncomputable def d64_3 (C : Kallee) (L : Nat)  (v0 : PV) : Option PV := (some v0)
theorem e64_3 (C : Kallee) (L : Nat) (v0 : PV) : execR Try.prog C hh L 64 (cAt (bodyOf Try.f64) [1, 1, 1, 1]) (Env.lay .nil [8] [(.pv v0)]) [] (endP Try.prog Try.f64) = d64_3 C L v0 := by kernel_rfl
noncomputable def g64_0 (C : Kallee) (X1 : PV → PV → PV → PV → PV → Option PV)  (v0 : PV) (v1 : PV) (v2 : PV) : Option PV := (ob (callD C.pure (.clo 85 [] []) [v0, v1] 0) fun v104 => (ob (indexAddrPV Try.prog 52 v0 v104) fun v105 => (ob (fieldAddrPV Try.prog 54 v105 1) fun v106 => (ob (loadPV Try.prog 3 v106) fun v107 => (ob (slicePVd Try.prog 52 v0 (some v104) none none) fun v108 => (ob ((lenPV Try.prog 52 v108).map fun n => .sc (goInt n)) fun v109 => (X1 v2 v107 v108 v109 (.sc (.int Go.IntKind.i64 0)))))))))
noncomputable def d64_0 (C : Kallee) (L : Nat)  (v0 : PV) (v1 : PV) (v2 : PV) : Option PV := g64_0 C (fun v0 v1 v2 v3 v4 => d64_1 C L (fun v0 => d64_3 C L v0) v0 v1 v2 v3 v4) v0 v1 v2
theorem e64_0 (C : Kallee) (L : Nat) (v0 : PV) (v1 : PV) (v2 : PV) : execR Try.prog C hh L 64 (cAt (bodyOf Try.f64) []) (Env.ofArgs [(.pv v0), (.pv v1), (.pv v2)] 0 .nil) [] (endP Try.prog Try.f64) = d64_0 C L v0 v1 v2 :=
  Eq.trans (b := g64_0 C (fun v0 v1 v2 v3 v4 => execR Try.prog C hh L 64 (cAt (bodyOf Try.f64) [1, 1, 1, 0, 1, 0]) (Env.lay .nil [2, 8, 21, 22, 23] [(.pv v0), (.pv v1), (.pv v2), (.pv v3), (.pv v4)]) [] (leaveB 0 (nextT Try.prog C hh L 64 (cAt (bodyOf Try.f64) [1, 1, 1, 1]) (endP Try.prog Try.f64)))) v0 v1 v2) (by kernel_rfl) (cg1 (fun X1 => g64_0 C X1 v0 v1 v2) (funext fun v0 => funext fun v1 => funext fun v2 => funext fun v3 => funext fun v4 => Eq.trans (e64_1 C L (leaveB 0 (nextT Try.prog C hh L 64 (cAt (bodyOf Try.f64) [1, 1, 1, 1]) (endP Try.prog Try.f64))) v0 v1 v2 v3 v4) (cg1 (fun ke0 => d64_1 C L ke0 v0 v1 v2 v3 v4) (funext fun v0 => (Eq.trans (b := execR Try.prog C hh L 64 (cAt (bodyOf Try.f64) [1, 1, 1, 1]) (Env.lay .nil [8] [(.pv v0)]) [] (endP Try.prog Try.f64)) (by kernel_rfl) (e64_3 C L v0))))))
theorem r64 (C : Kallee) (L : Nat) (v0 : PV) (v1 : PV) (v2 : PV) : bodyPR Try.prog C hh L 64 [v0, v1, v2] = d64_0 C L v0 v1 v2 := Eq.trans (bodyPR_eq (c := cAt (bodyOf Try.f64) []) [v0, v1, v2] Try.func64 (by kernel_rfl) (by kernel_rfl)) (e64_0 C L v0 v1 v2)

end
end Go.Lite

namespace Go.Lite
open Go Go.Proofs
set_option maxRecDepth 1000000
set_option linter.unusedVariables false
noncomputable section
/-! ## 65: slices.IndexFunc[[][]muster/api.Cut,[]muster/api.Cut] -/
noncomputable def d65_2 {R : Type} (C : Kallee) (L : Nat) (kr : PV → Option R) (kg : PV → PV → PV → PV → Option R) (ke0 : Option R) (v0 : PV) (v1 : PV) (v2 : PV) (v3 : PV) : Option R := (ob (binPV Try.prog .lss 3 (.tmp 8) (.tmp 7) v3 v2) fun v104 => (cb v104 (ob (indexAddrPV Try.prog 22 v0 v3) fun v105 => (ob (loadPV Try.prog 52 v105) fun v106 => (ob (callD C.pure v1 [v106] 0) fun v107 => (cb v107 (kr v3) (ob (binPV Try.prog .add 3 (.tmp 8) (.const (.int Go.IntKind.i64 1)) v3 (.sc (.int Go.IntKind.i64 1))) fun v108 => (kg v0 v1 v2 v108)))))) (ke0)))
theorem e65_2 {R : Type} (C : Kallee) (L : Nat) (k : Ex → Env → Store → Option R) (gg : Env → Store → Option R) (v0 : PV) (v1 : PV) (v2 : PV) (v3 : PV) : execR Try.prog C hh L 65 (cAt (bodyOf Try.f65) [1, 0, 1, 0, 0]) (Env.lay .nil [0, 1, 7, 8] [(.pv v0), (.pv v1), (.pv v2), (.pv v3)]) [] (loopK gg [0, 1, 7, 8] 0 (prune (some ⟨[0, 1, 7, 8], [], [(0, [])], [4]⟩) 0 k)) = d65_2 C L (fun v0 => k .ret (Env.lay .nil [4] [(.pv v0)]) []) (fun v0 v1 v2 v3 => gg (Env.lay .nil [0, 1, 7, 8] [(.pv v0), (.pv v1), (.pv v2), (.pv v3)]) []) (k (.exit 0) (Env.lay .nil [] []) []) v0 v1 v2 v3 := by kernel_rfl
noncomputable def d65_1i {R : Type} (C : Kallee) (L : Nat) (kr : PV → Option R) (ke0 : Option R) : Nat → PV → PV → PV → PV → Option R
  | 0, _, _, _, _ => none
  | N + 1, v0, v1, v2, v3 => d65_2 C L kr (fun v0 v1 v2 v3 => d65_1i C L kr ke0 N v0 v1 v2 v3) ke0 v0 v1 v2 v3
noncomputable def d65_1 {R : Type} (C : Kallee) (L : Nat) (kr : PV → Option R) (ke0 : Option R) (v0 : PV) (v1 : PV) (v2 : PV) (v3 : PV) : Option R := d65_1i C L kr ke0 L v0 v1 v2 v3
theorem d65_1_i {R : Type} (C : Kallee) (L : Nat) (k : Ex → Env → Store → Option R) (N : Nat) (v0 : PV) (v1 : PV) (v2 : PV) (v3 : PV) : iter (execR Try.prog C hh L 65 (cAt (bodyOf Try.f65) [1, 0, 1, 0, 0])) [0, 1, 7, 8] 0 (prune (some ⟨[0, 1, 7, 8], [], [(0, [])], [4]⟩) 0 k) N (Env.lay .nil [0, 1, 7, 8] [(.pv v0), (.pv v1), (.pv v2), (.pv v3)]) [] = d65_1i C L (fun v0 => k .ret (Env.lay .nil [4] [(.pv v0)]) []) (k (.exit 0) (Env.lay .nil [] []) []) N v0 v1 v2 v3 := by
  induction N generalizing v0 v1 v2 v3 with
  | zero => rfl
  | succ N ih => exact Eq.trans (b := execR Try.prog C hh L 65 (cAt (bodyOf Try.f65) [1, 0, 1, 0, 0]) (Env.lay .nil [0, 1, 7, 8] [(.pv v0), (.pv v1), (.pv v2), (.pv v3)]) [] (loopK (fun e s => iter (execR Try.prog C hh L 65 (cAt (bodyOf Try.f65) [1, 0, 1, 0, 0])) [0, 1, 7, 8] 0 (prune (some ⟨[0, 1, 7, 8], [], [(0, [])], [4]⟩) 0 k) N e s) [0, 1, 7, 8] 0 (prune (some ⟨[0, 1, 7, 8], [], [(0, [])], [4]⟩) 0 k))) (by kernel_rfl) <| Eq.trans (e65_2 C L k (fun e s => iter (execR Try.prog C hh L 65 (cAt (bodyOf Try.f65) [1, 0, 1, 0, 0])) [0, 1, 7, 8] 0 (prune (some ⟨[0, 1, 7, 8], [], [(0, [])], [4]⟩) 0 k) N e s) v0 v1 v2 v3) (congrArg (fun kg => d65_2 C L (fun v0 => k .ret (Env.lay .nil [4] [(.pv v0)]) []) kg (k (.exit 0) (Env.lay .nil [] []) []) v0 v1 v2 v3) (funext fun v0 => funext fun v1 => funext fun v2 => funext fun v3 => ih v0 v1 v2 v3))
theorem e65_1 {R : Type} (C : Kallee) (L : Nat) (k : Ex → Env → Store → Option R) (v0 : PV) (v1 : PV) (v2 : PV) (v3 : PV) : execR Try.prog C hh L 65 (cAt (bodyOf Try.f65) [1, 0, 1, 0]) (Env.lay .nil [0, 1, 7, 8] [(.pv v0), (.pv v1), (.pv v2), (.pv v3)]) [] k = d65_1 C L (fun v0 => k .ret (Env.lay .nil [4] [(.pv v0)]) []) (k (.exit 0) (Env.lay .nil [] []) []) v0 v1 v2 v3 :=
  Eq.trans (b := iter (execR Try.prog C hh L 65 (cAt (bodyOf Try.f65) [1, 0, 1, 0, 0])) [0, 1, 7, 8] 0 (prune (some ⟨[0, 1, 7, 8], [], [(0, [])], [4]⟩) 0 k) L (Env.lay .nil [0, 1, 7, 8] [(.pv v0), (.pv v1), (.pv v2), (.pv v3)]) []) (by kernel_rfl) (d65_1_i C L k L v0 v1 v2 v3)
noncomputable def d65_3 (C : Kallee) (L : Nat)   : Option PV := (some (.sc (.int Go.IntKind.i64 (-1))))
theorem e65_3 (C : Kallee) (L : Nat)  : execR Try.prog C hh L 65 (cAt (bodyOf Try.f65) [1, 1]) (Env.lay .nil [] []) [] (endP Try.prog Try.f65) = d65_3 C L := by kernel_rfl
noncomputable def g65_0 (C : Kallee) (X1 : PV → PV → PV → PV → Option PV)  (v0 : PV) (v1 : PV) : Option PV := (ob ((lenPV Try.prog 22 v0).map fun n => .sc (goInt n)) fun v103 => (X1 v0 v1 v103 (.sc (.int Go.IntKind.i64 0))))
noncomputable def d65_0 (C : Kallee) (L : Nat)  (v0 : PV) (v1 : PV) : Option PV := g65_0 C (fun v0 v1 v2 v3 => d65_1 C L (fun v0 => (some v0)) (d65_3 C L) v0 v1 v2 v3) v0 v1
theorem e65_0 (C : Kallee) (L : Nat) (v0 : PV) (v1 : PV) : execR Try.prog C hh L 65 (cAt (bodyOf Try.f65) []) (Env.ofArgs [(.pv v0), (.pv v1)] 0 .nil) [] (endP Try.prog Try.f65) = d65_0 C L v0 v1 :=
  Eq.trans (b := g65_0 C (fun v0 v1 v2 v3 => execR Try.prog C hh L 65 (cAt (bodyOf Try.f65) [1, 0, 1, 0]) (Env.lay .nil [0, 1, 7, 8] [(.pv v0), (.pv v1), (.pv v2), (.pv v3)]) [] (leaveB 0 (nextT Try.prog C hh L 65 (cAt (bodyOf Try.f65) [1, 1]) (endP Try.prog Try.f65)))) v0 v1) (by kernel_rfl) (cg1 (fun X1 => g65_0 C X1 v0 v1) (funext fun v0 => funext fun v1 => funext fun v2 => funext fun v3 => Eq.trans (e65_1 C L (leaveB 0 (nextT Try.prog C hh L 65 (cAt (bodyOf Try.f65) [1, 1]) (endP Try.prog Try.f65))) v0 v1 v2 v3) (cg2 (fun kr ke0 => d65_1 C L kr ke0 v0 v1 v2 v3) (funext fun v0 => (by kernel_rfl)) (Eq.trans (b := execR Try.prog C hh L 65 (cAt (bodyOf Try.f65) [1, 1]) (Env.lay .nil [] []) [] (endP Try.prog Try.f65)) (by kernel_rfl) (e65_3 C L)))))
theorem r65 (C : Kallee) (L : Nat) (v0 : PV) (v1 : PV) : bodyPR Try.prog C hh L 65 [v0, v1] = d65_0 C L v0 v1 := Eq.trans (bodyPR_eq (c := cAt (bodyOf Try.f65) []) [v0, v1] Try.func65 (by kernel_rfl) (by kernel_rfl)) (e65_0 C L v0 v1)

end
end Go.Lite

namespace Go.Lite
open Go Go.Proofs
set_option maxRecDepth 1000000
set_option linter.unusedVariables false
noncomputable section
/-! ## 66: muster/musterref11.window -/
noncomputable def d66_0 (C : Kallee) (L : Nat)  (v0 : PV) (v1 : PV) (v2 : PV) : Option PV := (ob (callD C.pure (.clo 54 [] []) [v0] 0) fun v104 => (gcase true v104 (ob (binPV Try.prog .geq 2 (.tmp 10) (.const (.int Go.IntKind.i64 0)) v1 (.sc (.int Go.IntKind.i64 0))) fun v105 => (gcase true v105 (ob (binPV Try.prog .lss 2 (.tmp 14) (.tmp 15) v1 v2) fun v106 => (gcase true v106 (ob (binPV Try.prog .leq 2 (.tmp 19) (.const (.int Go.IntKind.i64 2199023255552)) v2 (.sc (.int Go.IntKind.i64 2199023255552))) fun v107 => (some v107)) (some (.sc (.bool false))) none)) (some (.sc (.bool false))) none)) (some (.sc (.bool false))) none))
theorem e66_0 (C : Kallee) (L : Nat) (v0 : PV) (v1 : PV) (v2 : PV) : execR Try.prog C hh L 66 (cAt (bodyOf Try.f66) []) (Env.ofArgs [(.pv v0), (.pv v1), (.pv v2)] 0 .nil) [] (endP Try.prog Try.f66) = d66_0 C L v0 v1 v2 := by kernel_rfl
theorem r66 (C : Kallee) (L : Nat) (v0 : PV) (v1 : PV) (v2 : PV) : bodyPR Try.prog C hh L 66 [v0, v1, v2] = d66_0 C L v0 v1 v2 := Eq.trans (bodyPR_eq (c := cAt (bodyOf Try.f66) []) [v0, v1, v2] Try.func66 (by kernel_rfl) (by kernel_rfl)) (e66_0 C L v0 v1 v2)

end
end Go.Lite

namespace Go.Lite
open Go Go.Proofs
set_option maxRecDepth 1000000
set_option linter.unusedVariables false
noncomputable section
/-! ## 67: muster/musterref11.least -/
noncomputable def d67_3 {R : Type} (C : Kallee) (L : Nat) (kn : PV → PV → PV → PV → PV → PV → Option R) (v0 : PV) (v1 : PV) (v2 : PV) (v3 : PV) (v4 : PV) : Option R := (ob (indexAddrPV Try.prog 52 v0 v4) fun v107 => (ob (fieldAddrPV Try.prog 54 v107 0) fun v108 => (ob (loadPV Try.prog 2 v108) fun v109 => (ob (binPV Try.prog .gtr 2 (.tmp 22) (.tmp 23) v109 v1) fun v110 => (gcase true v110 (ob (indexAddrPV Try.prog 52 v0 v4) fun v111 => (ob (fieldAddrPV Try.prog 54 v111 0) fun v112 => (ob (loadPV Try.prog 2 v112) fun v113 => (ob (binPV Try.prog .lss 2 (.tmp 30) (.tmp 31) v113 v2) fun v114 => (gcase true v114 (ob (indexAddrPV Try.prog 52 v0 v4) fun v115 => (ob (fieldAddrPV Try.prog 54 v115 1) fun v116 => (ob (loadPV Try.prog 3 v116) fun v117 => (ob (binPV Try.prog .lss 3 (.tmp 39) (.tmp 40) v117 v3) fun v118 => (kn v0 v1 v2 v3 v4 v118))))) (kn v0 v1 v2 v3 v4 (.sc (.bool false))) none))))) (kn v0 v1 v2 v3 v4 (.sc (.bool false))) none)))))
theorem e67_3 {R : Type} (C : Kallee) (L : Nat) (k : Ex → Env → Store → Option R) (v0 : PV) (v1 : PV) (v2 : PV) (v3 : PV) (v4 : PV) : execR Try.prog C hh L 67 (cAt (bodyOf Try.f67) [1, 1, 0, 1, 0, 0, 1, 0, 0, 0]) (Env.lay .nil [0, 1, 2, 7, 8] [(.pv v0), (.pv v1), (.pv v2), (.pv v3), (.pv v4)]) [] k = d67_3 C L (fun v0 v1 v2 v3 v4 v5 => k .normal (Env.lay .nil [0, 1, 2, 7, 8, 42] [(.pv v0), (.pv v1), (.pv v2), (.pv v3), (.pv v4), (.pv v5)]) []) v0 v1 v2 v3 v4 := by kernel_rfl
noncomputable def d67_4 {R : Type} (C : Kallee) (L : Nat) (kg : PV → PV → PV → PV → PV → Option R) (v0 : PV) (v1 : PV) (v2 : PV) (v3 : PV) (v4 : PV) (v5 : PV) : Option R := (cb v5 (ob (indexAddrPV Try.prog 52 v0 v4) fun v121 => (ob (fieldAddrPV Try.prog 54 v121 1) fun v122 => (ob (loadPV Try.prog 3 v122) fun v123 => (ob (binPV Try.prog .add 3 (.tmp 16) (.const (.int Go.IntKind.i64 1)) v4 (.sc (.int Go.IntKind.i64 1))) fun v124 => (kg v0 v1 v2 v123 v124))))) (ob (binPV Try.prog .add 3 (.tmp 16) (.const (.int Go.IntKind.i64 1)) v4 (.sc (.int Go.IntKind.i64 1))) fun v125 => (kg v0 v1 v2 v3 v125)))
theorem e67_4 {R : Type} (C : Kallee) (L : Nat) (k : Ex → Env → Store → Option R) (gg : Env → Store → Option R) (v0 : PV) (v1 : PV) (v2 : PV) (v3 : PV) (v4 : PV) (v5 : PV) : execR Try.prog C hh L 67 (cAt (bodyOf Try.f67) [1, 1, 0, 1, 0, 0, 1, 0, 0, 1]) (Env.lay .nil [0, 1, 2, 7, 8, 42] [(.pv v0), (.pv v1), (.pv v2), (.pv v3), (.pv v4), (.pv v5)]) [] (leaveB 1 (nextT Try.prog C hh L 67 (cAt (bodyOf Try.f67) [1, 1, 0, 1, 0, 0, 1, 1]) (loopK gg [0, 1, 2, 7, 8] 0 (prune (some ⟨[0, 1, 2, 7, 8], [], [(0, [7])], []⟩) 0 k)))) = d67_4 C L (fun v0 v1 v2 v3 v4 => gg (Env.lay .nil [0, 1, 2, 7, 8] [(.pv v0), (.pv v1), (.pv v2), (.pv v3), (.pv v4)]) []) v0 v1 v2 v3 v4 v5 := by kernel_rfl
noncomputable def g67_2 {R : Type} (C : Kallee) (X1 : PV → PV → PV → PV → PV → Option R) (ke0 : PV → Option R) (kg : PV → PV → PV → PV → PV → Option R) (v0 : PV) (v1 : PV) (v2 : PV) (v3 : PV) (v4 : PV) : Option R := (ob ((lenPV Try.prog 52 v0).map fun n => .sc (goInt n)) fun v105 => (ob (binPV Try.prog .lss 3 (.tmp 12) (.tmp 14) v4 v105) fun v106 => (cb v106 (X1 v0 v1 v2 v3 v4) (ke0 v3))))
noncomputable def d67_2 {R : Type} (C : Kallee) (L : Nat) (ke0 : PV → Option R) (kg : PV → PV → PV → PV → PV → Option R) (v0 : PV) (v1 : PV) (v2 : PV) (v3 : PV) (v4 : PV) : Option R := g67_2 C (fun v0 v1 v2 v3 v4 => d67_3 C L (fun v0 v1 v2 v3 v4 v5 => d67_4 C L kg v0 v1 v2 v3 v4 v5) v0 v1 v2 v3 v4) ke0 kg v0 v1 v2 v3 v4
theorem e67_2 {R : Type} (C : Kallee) (L : Nat) (k : Ex → Env → Store → Option R) (gg : Env → Store → Option R) (v0 : PV) (v1 : PV) (v2 : PV) (v3 : PV) (v4 : PV) : execR Try.prog C hh L 67 (cAt (bodyOf Try.f67) [1, 1, 0, 1, 0, 0]) (Env.lay .nil [0, 1, 2, 7, 8] [(.pv v0), (.pv v1), (.pv v2), (.pv v3), (.pv v4)]) [] (loopK gg [0, 1, 2, 7, 8] 0 (prune (some ⟨[0, 1, 2, 7, 8], [], [(0, [7])], []⟩) 0 k)) = d67_2 C L (fun v0 => k (.exit 0) (Env.lay .nil [7] [(.pv v0)]) []) (fun v0 v1 v2 v3 v4 => gg (Env.lay .nil [0, 1, 2, 7, 8] [(.pv v0), (.pv v1), (.pv v2), (.pv v3), (.pv v4)]) []) v0 v1 v2 v3 v4 :=
  Eq.trans (b := g67_2 C (fun v0 v1 v2 v3 v4 => execR Try.prog C hh L 67 (cAt (bodyOf Try.f67) [1, 1, 0, 1, 0, 0, 1, 0, 0, 0]) (Env.lay .nil [0, 1, 2, 7, 8] [(.pv v0), (.pv v1), (.pv v2), (.pv v3), (.pv v4)]) [] (nextT Try.prog C hh L 67 (cAt (bodyOf Try.f67) [1, 1, 0, 1, 0, 0, 1, 0, 0, 1]) (leaveB 1 (nextT Try.prog C hh L 67 (cAt (bodyOf Try.f67) [1, 1, 0, 1, 0, 0, 1, 1]) (loopK gg [0, 1, 2, 7, 8] 0 (prune (some ⟨[0, 1, 2, 7, 8], [], [(0, [7])], []⟩) 0 k)))))) (fun v0 => k (.exit 0) (Env.lay .nil [7] [(.pv v0)]) []) (fun v0 v1 v2 v3 v4 => gg (Env.lay .nil [0, 1, 2, 7, 8] [(.pv v0), (.pv v1), (.pv v2), (.pv v3), (.pv v4)]) []) v0 v1 v2 v3 v4) (by kernel_rfl) (cg1 (fun X1 => g67_2 C X1 (fun v0 => k (.exit 0) (Env.lay .nil [7] [(.pv v0)]) []) (fun v0 v1 v2 v3 v4 => gg (Env.lay .nil [0, 1, 2, 7, 8] [(.pv v0), (.pv v1), (.pv v2), (.pv v3), (.pv v4)]) []) v0 v1 v2 v3 v4) (funext fun v0 => funext fun v1 => funext fun v2 => funext fun v3 => funext fun v4 => Eq.trans (e67_3 C L (nextT Try.prog C hh L 67 (cAt (bodyOf Try.f67) [1, 1, 0, 1, 0, 0, 1, 0, 0, 1]) (leaveB 1 (nextT Try.prog C hh L 67 (cAt (bodyOf Try.f67) [1, 1, 0, 1, 0, 0, 1, 1]) (loopK gg [0, 1, 2, 7, 8] 0 (prune (some ⟨[0, 1, 2, 7, 8], [], [(0, [7])], []⟩) 0 k))))) v0 v1 v2 v3 v4) (cg1 (fun kn => d67_3 C L kn v0 v1 v2 v3 v4) (funext fun v0 => funext fun v1 => funext fun v2 => funext fun v3 => funext fun v4 => funext fun v5 => (Eq.trans (b := execR Try.prog C hh L 67 (cAt (bodyOf Try.f67) [1, 1, 0, 1, 0, 0, 1, 0, 0, 1]) (Env.lay .nil [0, 1, 2, 7, 8, 42] [(.pv v0), (.pv v1), (.pv v2), (.pv v3), (.pv v4), (.pv v5)]) [] (leaveB 1 (nextT Try.prog C hh L 67 (cAt (bodyOf Try.f67) [1, 1, 0, 1, 0, 0, 1, 1]) (loopK gg [0, 1, 2, 7, 8] 0 (prune (some ⟨[0, 1, 2, 7, 8], [], [(0, [7])], []⟩) 0 k))))) (by kernel_rfl) (e67_4 C L k gg v0 v1 v2 v3 v4 v5))))))
noncomputable def d67_1i {R : Type} (C : Kallee) (L : Nat) (ke0 : PV → Option R) : Nat → PV → PV → PV → PV → PV → Option R
  | 0, _, _, _, _, _ => none
  | N + 1, v0, v1, v2, v3, v4 => d67_2 C L ke0 (fun v0 v1 v2 v3 v4 => d67_1i C L ke0 N v0 v1 v2 v3 v4) v0 v1 v2 v3 v4
noncomputable def d67_1 {R : Type} (C : Kallee) (L : Nat) (ke0 : PV → Option R) (v0 : PV) (v1 : PV) (v2 : PV) (v3 : PV) (v4 : PV) : Option R := d67_1i C L ke0 L v0 v1 v2 v3 v4
theorem d67_1_i {R : Type} (C : Kallee) (L : Nat) (k : Ex → Env → Store → Option R) (N : Nat) (v0 : PV) (v1 : PV) (v2 : PV) (v3 : PV) (v4 : PV) : iter (execR Try.prog C hh L 67 (cAt (bodyOf Try.f67) [1, 1, 0, 1, 0, 0])) [0, 1, 2, 7, 8] 0 (prune (some ⟨[0, 1, 2, 7, 8], [], [(0, [7])], []⟩) 0 k) N (Env.lay .nil [0, 1, 2, 7, 8] [(.pv v0), (.pv v1), (.pv v2), (.pv v3), (.pv v4)]) [] = d67_1i C L (fun v0 => k (.exit 0) (Env.lay .nil [7] [(.pv v0)]) []) N v0 v1 v2 v3 v4 := by
  induction N generalizing v0 v1 v2 v3 v4 with
  | zero => rfl
  | succ N ih => exact Eq.trans (b := execR Try.prog C hh L 67 (cAt (bodyOf Try.f67) [1, 1, 0, 1, 0, 0]) (Env.lay .nil [0, 1, 2, 7, 8] [(.pv v0), (.pv v1), (.pv v2), (.pv v3), (.pv v4)]) [] (loopK (fun e s => iter (execR Try.prog C hh L 67 (cAt (bodyOf Try.f67) [1, 1, 0, 1, 0, 0])) [0, 1, 2, 7, 8] 0 (prune (some ⟨[0, 1, 2, 7, 8], [], [(0, [7])], []⟩) 0 k) N e s) [0, 1, 2, 7, 8] 0 (prune (some ⟨[0, 1, 2, 7, 8], [], [(0, [7])], []⟩) 0 k))) (by kernel_rfl) <| Eq.trans (e67_2 C L k (fun e s => iter (execR Try.prog C hh L 67 (cAt (bodyOf Try.f67) [1, 1, 0, 1, 0, 0])) [0, 1, 2, 7, 8] 0 (prune (some ⟨[0, 1, 2, 7, 8], [], [(0, [7])], []⟩) 0 k) N e s) v0 v1 v2 v3 v4) (congrArg (fun kg => d67_2 C L (fun v0 => k (.exit 0) (Env.lay .nil [7] [(.pv v0)]) []) kg v0 v1 v2 v3 v4) (funext fun v0 => funext fun v1 => funext fun v2 => funext fun v3 => funext fun v4 => ih v0 v1 v2 v3 v4))
theorem e67_1 {R : Type} (C : Kallee) (L : Nat) (k : Ex → Env → Store → Option R) (v0 : PV) (v1 : PV) (v2 : PV) (v3 : PV) (v4 : PV) : execR Try.prog C hh L 67 (cAt (bodyOf Try.f67) [1, 1, 0, 1, 0]) (Env.lay .nil [0, 1, 2, 7, 8] [(.pv v0), (.pv v1), (.pv v2), (.pv v3), (.pv v4)]) [] k = d67_1 C L (fun v0 => k (.exit 0) (Env.lay .nil [7] [(.pv v0)]) []) v0 v1 v2 v3 v4 :=
  Eq.trans (b := iter (execR Try.prog C hh L 67 (cAt (bodyOf Try.f67) [1, 1, 0, 1, 0, 0])) [0, 1, 2, 7, 8] 0 (prune (some ⟨[0, 1, 2, 7, 8], [], [(0, [7])], []⟩) 0 k) L (Env.lay .nil [0, 1, 2, 7, 8] [(.pv v0), (.pv v1), (.pv v2), (.pv v3), (.pv v4)]) []) (by kernel_rfl) (d67_1_i C L k L v0 v1 v2 v3 v4)
noncomputable def d67_5 (C : Kallee) (L : Nat)  (v0 : PV) : Option PV := (some v0)
theorem e67_5 (C : Kallee) (L : Nat) (v0 : PV) : execR Try.prog C hh L 67 (cAt (bodyOf Try.f67) [1, 1, 1]) (Env.lay .nil [7] [(.pv v0)]) [] (endP Try.prog Try.f67) = d67_5 C L v0 := by kernel_rfl
noncomputable def g67_0 (C : Kallee) (X1 : PV → PV → PV → PV → PV → Option PV)  (v0 : PV) (v1 : PV) (v2 : PV) : Option PV := (ob (callD C.pure (.clo 86 [] []) [v0, v1] 0) fun v104 => (X1 v0 v1 v2 v104 (.sc (.int Go.IntKind.i64 0))))
noncomputable def d67_0 (C : Kallee) (L : Nat)  (v0 : PV) (v1 : PV) (v2 : PV) : Option PV := g67_0 C (fun v0 v1 v2 v3 v4 => d67_1 C L (fun v0 => d67_5 C L v0) v0 v1 v2 v3 v4) v0 v1 v2
theorem e67_0 (C : Kallee) (L : Nat) (v0 : PV) (v1 : PV) (v2 : PV) : execR Try.prog C hh L 67 (cAt (bodyOf Try.f67) []) (Env.ofArgs [(.pv v0), (.pv v1), (.pv v2)] 0 .nil) [] (endP Try.prog Try.f67) = d67_0 C L v0 v1 v2 :=
  Eq.trans (b := g67_0 C (fun v0 v1 v2 v3 v4 => execR Try.prog C hh L 67 (cAt (bodyOf Try.f67) [1, 1, 0, 1, 0]) (Env.lay .nil [0, 1, 2, 7, 8] [(.pv v0), (.pv v1), (.pv v2), (.pv v3), (.pv v4)]) [] (leaveB 0 (nextT Try.prog C hh L 67 (cAt (bodyOf Try.f67) [1, 1, 1]) (endP Try.prog Try.f67)))) v0 v1 v2) (by kernel_rfl) (cg1 (fun X1 => g67_0 C X1 v0 v1 v2) (funext fun v0 => funext fun v1 => funext fun v2 => funext fun v3 => funext fun v4 => Eq.trans (e67_1 C L (leaveB 0 (nextT Try.prog C hh L 67 (cAt (bodyOf Try.f67) [1, 1, 1]) (endP Try.prog Try.f67))) v0 v1 v2 v3 v4) (cg1 (fun ke0 => d67_1 C L ke0 v0 v1 v2 v3 v4) (funext fun v0 => (Eq.trans (b := execR Try.prog C hh L 67 (cAt (bodyOf Try.f67) [1, 1, 1]) (Env.lay .nil [7] [(.pv v0)]) [] (endP Try.prog Try.f67)) (by kernel_rfl) (e67_5 C L v0))))))
theorem r67 (C : Kallee) (L : Nat) (v0 : PV) (v1 : PV) (v2 : PV) : bodyPR Try.prog C hh L 67 [v0, v1, v2] = d67_0 C L v0 v1 v2 := Eq.trans (bodyPR_eq (c := cAt (bodyOf Try.f67) []) [v0, v1, v2] Try.func67 (by kernel_rfl) (by kernel_rfl)) (e67_0 C L v0 v1 v2)

end
end Go.Lite

namespace Go.Lite
open Go Go.Proofs
set_option maxRecDepth 1000000
set_option linter.unusedVariables false
noncomputable section
/-! ## 68: muster/musterref10.bit -/
noncomputable def d68_2 {R : Type} (C : Kallee) (L : Nat) (kg : PV → PV → PV → Option R) (ke0 : PV → Option R) (v0 : PV) (v1 : PV) (v2 : PV) : Option R := (ob (binPV Try.prog .lss 3 (.tmp 5) (.tmp 6) v2 v0) fun v103 => (cb v103 (ob (binPV Try.prog .mul 24 (.tmp 10) (.const (.int Go.IntKind.u32 2)) v1 (.sc (.int Go.IntKind.u32 2))) fun v104 => (ob (binPV Try.prog .add 3 (.tmp 8) (.const (.int Go.IntKind.i64 1)) v2 (.sc (.int Go.IntKind.i64 1))) fun v105 => (kg v0 v104 v105))) (ke0 v1)))
theorem e68_2 {R : Type} (C : Kallee) (L : Nat) (k : Ex → Env → Store → Option R) (gg : Env → Store → Option R) (v0 : PV) (v1 : PV) (v2 : PV) : execR Try.prog C hh L 68 (cAt (bodyOf Try.f68) [1, 1, 0, 1, 0, 0]) (Env.lay .nil [0, 3, 4] [(.pv v0), (.pv v1), (.pv v2)]) [] (loopK gg [0, 3, 4] 0 (prune (some ⟨[0, 3, 4], [], [(0, [3])], []⟩) 0 k)) = d68_2 C L (fun v0 v1 v2 => gg (Env.lay .nil [0, 3, 4] [(.pv v0), (.pv v1), (.pv v2)]) []) (fun v0 => k (.exit 0) (Env.lay .nil [3] [(.pv v0)]) []) v0 v1 v2 := by kernel_rfl
noncomputable def d68_1i {R : Type} (C : Kallee) (L : Nat) (ke0 : PV → Option R) : Nat → PV → PV → PV → Option R
  | 0, _, _, _ => none
  | N + 1, v0, v1, v2 => d68_2 C L (fun v0 v1 v2 => d68_1i C L ke0 N v0 v1 v2) ke0 v0 v1 v2
noncomputable def d68_1 {R : Type} (C : Kallee) (L : Nat) (ke0 : PV → Option R) (v0 : PV) (v1 : PV) (v2 : PV) : Option R := d68_1i C L ke0 L v0 v1 v2
theorem d68_1_i {R : Type} (C : Kallee) (L : Nat) (k : Ex → Env → Store → Option R) (N : Nat) (v0 : PV) (v1 : PV) (v2 : PV) : iter (execR Try.prog C hh L 68 (cAt (bodyOf Try.f68) [1, 1, 0, 1, 0, 0])) [0, 3, 4] 0 (prune (some ⟨[0, 3, 4], [], [(0, [3])], []⟩) 0 k) N (Env.lay .nil [0, 3, 4] [(.pv v0), (.pv v1), (.pv v2)]) [] = d68_1i C L (fun v0 => k (.exit 0) (Env.lay .nil [3] [(.pv v0)]) []) N v0 v1 v2 := by
  induction N generalizing v0 v1 v2 with
  | zero => rfl
  | succ N ih => exact Eq.trans (b := execR Try.prog C hh L 68 (cAt (bodyOf Try.f68) [1, 1, 0, 1, 0, 0]) (Env.lay .nil [0, 3, 4] [(.pv v0), (.pv v1), (.pv v2)]) [] (loopK (fun e s => iter (execR Try.prog C hh L 68 (cAt (bodyOf Try.f68) [1, 1, 0, 1, 0, 0])) [0, 3, 4] 0 (prune (some ⟨[0, 3, 4], [], [(0, [3])], []⟩) 0 k) N e s) [0, 3, 4] 0 (prune (some ⟨[0, 3, 4], [], [(0, [3])], []⟩) 0 k))) (by kernel_rfl) <| Eq.trans (e68_2 C L k (fun e s => iter (execR Try.prog C hh L 68 (cAt (bodyOf Try.f68) [1, 1, 0, 1, 0, 0])) [0, 3, 4] 0 (prune (some ⟨[0, 3, 4], [], [(0, [3])], []⟩) 0 k) N e s) v0 v1 v2) (congrArg (fun kg => d68_2 C L kg (fun v0 => k (.exit 0) (Env.lay .nil [3] [(.pv v0)]) []) v0 v1 v2) (funext fun v0 => funext fun v1 => funext fun v2 => ih v0 v1 v2))
theorem e68_1 {R : Type} (C : Kallee) (L : Nat) (k : Ex → Env → Store → Option R) (v0 : PV) (v1 : PV) (v2 : PV) : execR Try.prog C hh L 68 (cAt (bodyOf Try.f68) [1, 1, 0, 1, 0]) (Env.lay .nil [0, 3, 4] [(.pv v0), (.pv v1), (.pv v2)]) [] k = d68_1 C L (fun v0 => k (.exit 0) (Env.lay .nil [3] [(.pv v0)]) []) v0 v1 v2 :=
  Eq.trans (b := iter (execR Try.prog C hh L 68 (cAt (bodyOf Try.f68) [1, 1, 0, 1, 0, 0])) [0, 3, 4] 0 (prune (some ⟨[0, 3, 4], [], [(0, [3])], []⟩) 0 k) L (Env.lay .nil [0, 3, 4] [(.pv v0), (.pv v1), (.pv v2)]) []) (by kernel_rfl) (d68_1_i C L k L v0 v1 v2)
noncomputable def d68_3 (C : Kallee) (L : Nat)  (v0 : PV) : Option PV := (some v0)
theorem e68_3 (C : Kallee) (L : Nat) (v0 : PV) : execR Try.prog C hh L 68 (cAt (bodyOf Try.f68) [1, 1, 1]) (Env.lay .nil [3] [(.pv v0)]) [] (endP Try.prog Try.f68) = d68_3 C L v0 := by kernel_rfl
noncomputable def g68_0 (C : Kallee) (X1 : PV → PV → PV → Option PV)  (v0 : PV) : Option PV := (X1 v0 (.sc (.int Go.IntKind.u32 1)) (.sc (.int Go.IntKind.i64 0)))
noncomputable def d68_0 (C : Kallee) (L : Nat)  (v0 : PV) : Option PV := g68_0 C (fun v0 v1 v2 => d68_1 C L (fun v0 => d68_3 C L v0) v0 v1 v2) v0
theorem e68_0 (C : Kallee) (L : Nat) (v0 : PV) : execR Try.prog C hh L 68 (cAt (bodyOf Try.f68) []) (Env.ofArgs [(.pv v0)] 0 .nil) [] (endP Try.prog Try.f68) = d68_0 C L v0 :=
  Eq.trans (b := g68_0 C (fun v0 v1 v2 => execR Try.prog C hh L 68 (cAt (bodyOf Try.f68) [1, 1, 0, 1, 0]) (Env.lay .nil [0, 3, 4] [(.pv v0), (.pv v1), (.pv v2)]) [] (leaveB 0 (nextT Try.prog C hh L 68 (cAt (bodyOf Try.f68) [1, 1, 1]) (endP Try.prog Try.f68)))) v0) (by kernel_rfl) (cg1 (fun X1 => g68_0 C X1 v0) (funext fun v0 => funext fun v1 => funext fun v2 => Eq.trans (e68_1 C L (leaveB 0 (nextT Try.prog C hh L 68 (cAt (bodyOf Try.f68) [1, 1, 1]) (endP Try.prog Try.f68))) v0 v1 v2) (cg1 (fun ke0 => d68_1 C L ke0 v0 v1 v2) (funext fun v0 => (Eq.trans (b := execR Try.prog C hh L 68 (cAt (bodyOf Try.f68) [1, 1, 1]) (Env.lay .nil [3] [(.pv v0)]) [] (endP Try.prog Try.f68)) (by kernel_rfl) (e68_3 C L v0))))))
theorem r68 (C : Kallee) (L : Nat) (v0 : PV) : bodyPR Try.prog C hh L 68 [v0] = d68_0 C L v0 := Eq.trans (bodyPR_eq (c := cAt (bodyOf Try.f68) []) [v0] Try.func68 (by kernel_rfl) (by kernel_rfl)) (e68_0 C L v0)

end
end Go.Lite

namespace Go.Lite
open Go Go.Proofs
set_option maxRecDepth 1000000
set_option linter.unusedVariables false
noncomputable section
/-! ## 7: muster/musterlaw12.big -/
noncomputable def d7_2 {R : Type} (C : Kallee) (L : Nat) (kg : PV → PV → PV → Option R) (ke0 : PV → PV → Option R) (v0 : PV) (v1 : PV) (v2 : PV) : Option R := (ob ((lenPV Try.prog 22 v0).map fun n => .sc (goInt n)) fun v103 => (ob (binPV Try.prog .lss 3 (.tmp 5) (.tmp 7) v2 v103) fun v104 => (cb v104 (ob (indexAddrPV Try.prog 22 v0 v2) fun v105 => (ob (loadPV Try.prog 52 v105) fun v106 => (ob ((lenPV Try.prog 52 v106).map fun n => .sc (goInt n)) fun v107 => (ob (binPV Try.prog .add 3 (.tmp 11) (.tmp 16) v1 v107) fun v108 => (ob (binPV Try.prog .add 3 (.tmp 9) (.const (.int Go.IntKind.i64 1)) v2 (.sc (.int Go.IntKind.i64 1))) fun v109 => (kg v0 v108 v109)))))) (ke0 v0 v1))))
theorem e7_2 {R : Type} (C : Kallee) (L : Nat) (k : Ex → Env → Store → Option R) (gg : Env → Store → Option R) (v0 : PV) (v1 : PV) (v2 : PV) : execR Try.prog C hh L 7 (cAt (bodyOf Try.f7) [1, 1, 0, 1, 0, 0]) (Env.lay .nil [0, 3, 4] [(.pv v0), (.pv v1), (.pv v2)]) [] (loopK gg [0, 3, 4] 0 (prune (some ⟨[0, 3, 4], [], [(0, [0, 3])], []⟩) 0 k)) = d7_2 C L (fun v0 v1 v2 => gg (Env.lay .nil [0, 3, 4] [(.pv v0), (.pv v1), (.pv v2)]) []) (fun v0 v1 => k (.exit 0) (Env.lay .nil [0, 3] [(.pv v0), (.pv v1)]) []) v0 v1 v2 := by kernel_rfl
noncomputable def d7_1i {R : Type} (C : Kallee) (L : Nat) (ke0 : PV → PV → Option R) : Nat → PV → PV → PV → Option R
  | 0, _, _, _ => none
  | N + 1, v0, v1, v2 => d7_2 C L (fun v0 v1 v2 => d7_1i C L ke0 N v0 v1 v2) ke0 v0 v1 v2
noncomputable def d7_1 {R : Type} (C : Kallee) (L : Nat) (ke0 : PV → PV → Option R) (v0 : PV) (v1 : PV) (v2 : PV) : Option R := d7_1i C L ke0 L v0 v1 v2
theorem d7_1_i {R : Type} (C : Kallee) (L : Nat) (k : Ex → Env → Store → Option R) (N : Nat) (v0 : PV) (v1 : PV) (v2 : PV) : iter (execR Try.prog C hh L 7 (cAt (bodyOf Try.f7) [1, 1, 0, 1, 0, 0])) [0, 3, 4] 0 (prune (some ⟨[0, 3, 4], [], [(0, [0, 3])], []⟩) 0 k) N (Env.lay .nil [0, 3, 4] [(.pv v0), (.pv v1), (.pv v2)]) [] = d7_1i C L (fun v0 v1 => k (.exit 0) (Env.lay .nil [0, 3] [(.pv v0), (.pv v1)]) []) N v0 v1 v2 := by
  induction N generalizing v0 v1 v2 with
  | zero => rfl
  | succ N ih => exact Eq.trans (b := execR Try.prog C hh L 7 (cAt (bodyOf Try.f7) [1, 1, 0, 1, 0, 0]) (Env.lay .nil [0, 3, 4] [(.pv v0), (.pv v1), (.pv v2)]) [] (loopK (fun e s => iter (execR Try.prog C hh L 7 (cAt (bodyOf Try.f7) [1, 1, 0, 1, 0, 0])) [0, 3, 4] 0 (prune (some ⟨[0, 3, 4], [], [(0, [0, 3])], []⟩) 0 k) N e s) [0, 3, 4] 0 (prune (some ⟨[0, 3, 4], [], [(0, [0, 3])], []⟩) 0 k))) (by kernel_rfl) <| Eq.trans (e7_2 C L k (fun e s => iter (execR Try.prog C hh L 7 (cAt (bodyOf Try.f7) [1, 1, 0, 1, 0, 0])) [0, 3, 4] 0 (prune (some ⟨[0, 3, 4], [], [(0, [0, 3])], []⟩) 0 k) N e s) v0 v1 v2) (congrArg (fun kg => d7_2 C L kg (fun v0 v1 => k (.exit 0) (Env.lay .nil [0, 3] [(.pv v0), (.pv v1)]) []) v0 v1 v2) (funext fun v0 => funext fun v1 => funext fun v2 => ih v0 v1 v2))
theorem e7_1 {R : Type} (C : Kallee) (L : Nat) (k : Ex → Env → Store → Option R) (v0 : PV) (v1 : PV) (v2 : PV) : execR Try.prog C hh L 7 (cAt (bodyOf Try.f7) [1, 1, 0, 1, 0]) (Env.lay .nil [0, 3, 4] [(.pv v0), (.pv v1), (.pv v2)]) [] k = d7_1 C L (fun v0 v1 => k (.exit 0) (Env.lay .nil [0, 3] [(.pv v0), (.pv v1)]) []) v0 v1 v2 :=
  Eq.trans (b := iter (execR Try.prog C hh L 7 (cAt (bodyOf Try.f7) [1, 1, 0, 1, 0, 0])) [0, 3, 4] 0 (prune (some ⟨[0, 3, 4], [], [(0, [0, 3])], []⟩) 0 k) L (Env.lay .nil [0, 3, 4] [(.pv v0), (.pv v1), (.pv v2)]) []) (by kernel_rfl) (d7_1_i C L k L v0 v1 v2)
noncomputable def d7_3 (C : Kallee) (L : Nat)  (v0 : PV) (v1 : PV) : Option PV := (ob (binPV Try.prog .gtr 3 (.tmp 18) (.const (.int Go.IntKind.i64 3000)) v1 (.sc (.int Go.IntKind.i64 3000))) fun v110 => (gcase false v110 (ob ((lenPV Try.prog 22 v0).map fun n => .sc (goInt n)) fun v111 => (ob (binPV Try.prog .gtr 3 (.tmp 22) (.const (.int Go.IntKind.i64 40)) v111 (.sc (.int Go.IntKind.i64 40))) fun v112 => (some v112))) (some (.sc (.bool true))) none))
theorem e7_3 (C : Kallee) (L : Nat) (v0 : PV) (v1 : PV) : execR Try.prog C hh L 7 (cAt (bodyOf Try.f7) [1, 1, 1]) (Env.lay .nil [0, 3] [(.pv v0), (.pv v1)]) [] (endP Try.prog Try.f7) = d7_3 C L v0 v1 := by kernel_rfl
noncomputable def g7_0 (C : Kallee) (X1 : PV → PV → PV → Option PV)  (v0 : PV) : Option PV := (X1 v0 (.sc (.int Go.IntKind.i64 0)) (.sc (.int Go.IntKind.i64 0)))
noncomputable def d7_0 (C : Kallee) (L : Nat)  (v0 : PV) : Option PV := g7_0 C (fun v0 v1 v2 => d7_1 C L (fun v0 v1 => d7_3 C L v0 v1) v0 v1 v2) v0
theorem e7_0 (C : Kallee) (L : Nat) (v0 : PV) : execR Try.prog C hh L 7 (cAt (bodyOf Try.f7) []) (Env.ofArgs [(.pv v0)] 0 .nil) [] (endP Try.prog Try.f7) = d7_0 C L v0 :=
  Eq.trans (b := g7_0 C (fun v0 v1 v2 => execR Try.prog C hh L 7 (cAt (bodyOf Try.f7) [1, 1, 0, 1, 0]) (Env.lay .nil [0, 3, 4] [(.pv v0), (.pv v1), (.pv v2)]) [] (leaveB 0 (nextT Try.prog C hh L 7 (cAt (bodyOf Try.f7) [1, 1, 1]) (endP Try.prog Try.f7)))) v0) (by kernel_rfl) (cg1 (fun X1 => g7_0 C X1 v0) (funext fun v0 => funext fun v1 => funext fun v2 => Eq.trans (e7_1 C L (leaveB 0 (nextT Try.prog C hh L 7 (cAt (bodyOf Try.f7) [1, 1, 1]) (endP Try.prog Try.f7))) v0 v1 v2) (cg1 (fun ke0 => d7_1 C L ke0 v0 v1 v2) (funext fun v0 => funext fun v1 => (Eq.trans (b := execR Try.prog C hh L 7 (cAt (bodyOf Try.f7) [1, 1, 1]) (Env.lay .nil [0, 3] [(.pv v0), (.pv v1)]) [] (endP Try.prog Try.f7)) (by kernel_rfl) (e7_3 C L v0 v1))))))
theorem r7 (C : Kallee) (L : Nat) (v0 : PV) : bodyPR Try.prog C hh L 7 [v0] = d7_0 C L v0 := Eq.trans (bodyPR_eq (c := cAt (bodyOf Try.f7) []) [v0] Try.func7 (by kernel_rfl) (by kernel_rfl)) (e7_0 C L v0)

end
end Go.Lite

namespace Go.Lite
open Go Go.Proofs
set_option maxRecDepth 1000000
set_option linter.unusedVariables false
noncomputable section
/-! ## 70: slices.IndexFunc[[]muster/api.Block,muster/api.Block] -/
noncomputable def d70_2 {R : Type} (C : Kallee) (L : Nat) (kr : PV → Option R) (kg : PV → PV → PV → PV → Option R) (ke0 : Option R) (v0 : PV) (v1 : PV) (v2 : PV) (v3 : PV) : Option R := (ob (binPV Try.prog .lss 3 (.tmp 8) (.tmp 7) v3 v2) fun v104 => (cb v104 (ob (indexAddrPV Try.prog 25 v0 v3) fun v105 => (ob (loadPV Try.prog 46 v105) fun v106 => (ob (callD C.pure v1 [v106] 0) fun v107 => (cb v107 (kr v3) (ob (binPV Try.prog .add 3 (.tmp 8) (.const (.int Go.IntKind.i64 1)) v3 (.sc (.int Go.IntKind.i64 1))) fun v108 => (kg v0 v1 v2 v108)))))) (ke0)))
theorem e70_2 {R : Type} (C : Kallee) (L : Nat) (k : Ex → Env → Store → Option R) (gg : Env → Store → Option R) (v0 : PV) (v1 : PV) (v2 : PV) (v3 : PV) : execR Try.prog C hh L 70 (cAt (bodyOf Try.f70) [1, 0, 1, 0, 0]) (Env.lay .nil [0, 1, 7, 8] [(.pv v0), (.pv v1), (.pv v2), (.pv v3)]) [] (loopK gg [0, 1, 7, 8] 0 (prune (some ⟨[0, 1, 7, 8], [], [(0, [])], [4]⟩) 0 k)) = d70_2 C L (fun v0 => k .ret (Env.lay .nil [4] [(.pv v0)]) []) (fun v0 v1 v2 v3 => gg (Env.lay .nil [0, 1, 7, 8] [(.pv v0), (.pv v1), (.pv v2), (.pv v3)]) []) (k (.exit 0) (Env.lay .nil [] []) []) v0 v1 v2 v3 := by kernel_rfl
noncomputable def d70_1i {R : Type} (C : Kallee) (L : Nat) (kr : PV → Option R) (ke0 : Option R) : Nat → PV → PV → PV → PV → Option R
  | 0, _, _, _, _ => none
  | N + 1, v0, v1, v2, v3 => d70_2 C L kr (fun v0 v1 v2 v3 => d70_1i C L kr ke0 N v0 v1 v2 v3) ke0 v0 v1 v2 v3
noncomputable def d70_1 {R : Type} (C : Kallee) (L : Nat) (kr : PV → Option R) (ke0 : Option R) (v0 : PV) (v1 : PV) (v2 : PV) (v3 : PV) : Option R := d70_1i C L kr ke0 L v0 v1 v2 v3
theorem d70_1_i {R : Type} (C : Kallee) (L : Nat) (k : Ex → Env → Store → Option R) (N : Nat) (v0 : PV) (v1 : PV) (v2 : PV) (v3 : PV) : iter (execR Try.prog C hh L 70 (cAt (bodyOf Try.f70) [1, 0, 1, 0, 0])) [0, 1, 7, 8] 0 (prune (some ⟨[0, 1, 7, 8], [], [(0, [])], [4]⟩) 0 k) N (Env.lay .nil [0, 1, 7, 8] [(.pv v0), (.pv v1), (.pv v2), (.pv v3)]) [] = d70_1i C L (fun v0 => k .ret (Env.lay .nil [4] [(.pv v0)]) []) (k (.exit 0) (Env.lay .nil [] []) []) N v0 v1 v2 v3 := by
  induction N generalizing v0 v1 v2 v3 with
  | zero => rfl
  | succ N ih => exact Eq.trans (b := execR Try.prog C hh L 70 (cAt (bodyOf Try.f70) [1, 0, 1, 0, 0]) (Env.lay .nil [0, 1, 7, 8] [(.pv v0), (.pv v1), (.pv v2), (.pv v3)]) [] (loopK (fun e s => iter (execR Try.prog C hh L 70 (cAt (bodyOf Try.f70) [1, 0, 1, 0, 0])) [0, 1, 7, 8] 0 (prune (some ⟨[0, 1, 7, 8], [], [(0, [])], [4]⟩) 0 k) N e s) [0, 1, 7, 8] 0 (prune (some ⟨[0, 1, 7, 8], [], [(0, [])], [4]⟩) 0 k))) (by kernel_rfl) <| Eq.trans (e70_2 C L k (fun e s => iter (execR Try.prog C hh L 70 (cAt (bodyOf Try.f70) [1, 0, 1, 0, 0])) [0, 1, 7, 8] 0 (prune (some ⟨[0, 1, 7, 8], [], [(0, [])], [4]⟩) 0 k) N e s) v0 v1 v2 v3) (congrArg (fun kg => d70_2 C L (fun v0 => k .ret (Env.lay .nil [4] [(.pv v0)]) []) kg (k (.exit 0) (Env.lay .nil [] []) []) v0 v1 v2 v3) (funext fun v0 => funext fun v1 => funext fun v2 => funext fun v3 => ih v0 v1 v2 v3))
theorem e70_1 {R : Type} (C : Kallee) (L : Nat) (k : Ex → Env → Store → Option R) (v0 : PV) (v1 : PV) (v2 : PV) (v3 : PV) : execR Try.prog C hh L 70 (cAt (bodyOf Try.f70) [1, 0, 1, 0]) (Env.lay .nil [0, 1, 7, 8] [(.pv v0), (.pv v1), (.pv v2), (.pv v3)]) [] k = d70_1 C L (fun v0 => k .ret (Env.lay .nil [4] [(.pv v0)]) []) (k (.exit 0) (Env.lay .nil [] []) []) v0 v1 v2 v3 :=
  Eq.trans (b := iter (execR Try.prog C hh L 70 (cAt (bodyOf Try.f70) [1, 0, 1, 0, 0])) [0, 1, 7, 8] 0 (prune (some ⟨[0, 1, 7, 8], [], [(0, [])], [4]⟩) 0 k) L (Env.lay .nil [0, 1, 7, 8] [(.pv v0), (.pv v1), (.pv v2), (.pv v3)]) []) (by kernel_rfl) (d70_1_i C L k L v0 v1 v2 v3)
noncomputable def d70_3 (C : Kallee) (L : Nat)   : Option PV := (some (.sc (.int Go.IntKind.i64 (-1))))
theorem e70_3 (C : Kallee) (L : Nat)  : execR Try.prog C hh L 70 (cAt (bodyOf Try.f70) [1, 1]) (Env.lay .nil [] []) [] (endP Try.prog Try.f70) = d70_3 C L := by kernel_rfl
noncomputable def g70_0 (C : Kallee) (X1 : PV → PV → PV → PV → Option PV)  (v0 : PV) (v1 : PV) : Option PV := (ob ((lenPV Try.prog 25 v0).map fun n => .sc (goInt n)) fun v103 => (X1 v0 v1 v103 (.sc (.int Go.IntKind.i64 0))))
noncomputable def d70_0 (C : Kallee) (L : Nat)  (v0 : PV) (v1 : PV) : Option PV := g70_0 C (fun v0 v1 v2 v3 => d70_1 C L (fun v0 => (some v0)) (d70_3 C L) v0 v1 v2 v3) v0 v1
theorem e70_0 (C : Kallee) (L : Nat) (v0 : PV) (v1 : PV) : execR Try.prog C hh L 70 (cAt (bodyOf Try.f70) []) (Env.ofArgs [(.pv v0), (.pv v1)] 0 .nil) [] (endP Try.prog Try.f70) = d70_0 C L v0 v1 :=
  Eq.trans (b := g70_0 C (fun v0 v1 v2 v3 => execR Try.prog C hh L 70 (cAt (bodyOf Try.f70) [1, 0, 1, 0]) (Env.lay .nil [0, 1, 7, 8] [(.pv v0), (.pv v1), (.pv v2), (.pv v3)]) [] (leaveB 0 (nextT Try.prog C hh L 70 (cAt (bodyOf Try.f70) [1, 1]) (endP Try.prog Try.f70)))) v0 v1) (by kernel_rfl) (cg1 (fun X1 => g70_0 C X1 v0 v1) (funext fun v0 => funext fun v1 => funext fun v2 => funext fun v3 => Eq.trans (e70_1 C L (leaveB 0 (nextT Try.prog C hh L 70 (cAt (bodyOf Try.f70) [1, 1]) (endP Try.prog Try.f70))) v0 v1 v2 v3) (cg2 (fun kr ke0 => d70_1 C L kr ke0 v0 v1 v2 v3) (funext fun v0 => (by kernel_rfl)) (Eq.trans (b := execR Try.prog C hh L 70 (cAt (bodyOf Try.f70) [1, 1]) (Env.lay .nil [] []) [] (endP Try.prog Try.f70)) (by kernel_rfl) (e70_3 C L)))))
theorem r70 (C : Kallee) (L : Nat) (v0 : PV) (v1 : PV) : bodyPR Try.prog C hh L 70 [v0, v1] = d70_0 C L v0 v1 := Eq.trans (bodyPR_eq (c := cAt (bodyOf Try.f70) []) [v0, v1] Try.func70 (by kernel_rfl) (by kernel_rfl)) (e70_0 C L v0 v1)

end
end Go.Lite

namespace Go.Lite
open Go Go.Proofs
set_option maxRecDepth 1000000
set_option linter.unusedVariables false
noncomputable section
/-! ## 85: muster/steps.place -/
noncomputable def d85_0 (C : Kallee) (L : Nat)  (v0 : PV) (v1 : PV) : Option PV := (ck (PV.hasLay 0 v0) ((ck (PV.hasLay 0 v1) ((ob ((lenPV Try.prog 52 v0).map fun n => .sc (goInt n)) fun v103 => (ob (callD C.pure (.clo 94 [] []) [v103, (.clo 95 [] [(.ro 0 v0), (.ro 0 v1)])] 1) fun v104 => (ob (binPV Try.prog .sub 3 (.tmp 8) (.const (.int Go.IntKind.i64 1)) v104 (.sc (.int Go.IntKind.i64 1))) fun v105 => (some v105))))))))
theorem e85_0 (C : Kallee) (L : Nat) (v0 : PV) (v1 : PV) : execR Try.prog C hh L 85 (cAt (bodyOf Try.f85) []) (Env.ofArgs [(.pv v0), (.pv v1)] 0 .nil) [] (endP Try.prog Try.f85) = d85_0 C L v0 v1 := by kernel_rfl
theorem r85 (C : Kallee) (L : Nat) (v0 : PV) (v1 : PV) : bodyPR Try.prog C hh L 85 [v0, v1] = d85_0 C L v0 v1 := Eq.trans (bodyPR_eq (c := cAt (bodyOf Try.f85) []) [v0, v1] Try.func85 (by kernel_rfl) (by kernel_rfl)) (e85_0 C L v0 v1)

end
end Go.Lite

namespace Go.Lite
open Go Go.Proofs
set_option maxRecDepth 1000000
set_option linter.unusedVariables false
noncomputable section
/-! ## 86: muster/musterref11.value -/
noncomputable def d86_2 {R : Type} (C : Kallee) (L : Nat) (kg : PV → PV → PV → PV → Option R) (ke0 : PV → Option R) (v0 : PV) (v1 : PV) (v2 : PV) (v3 : PV) : Option R := (ob ((lenPV Try.prog 52 v0).map fun n => .sc (goInt n)) fun v104 => (ob (binPV Try.prog .lss 3 (.tmp 7) (.tmp 9) v3 v104) fun v105 => (cb v105 (ob (indexAddrPV Try.prog 52 v0 v3) fun v106 => (ob (fieldAddrPV Try.prog 54 v106 0) fun v107 => (ob (loadPV Try.prog 2 v107) fun v108 => (ob (binPV Try.prog .leq 2 (.tmp 17) (.tmp 18) v108 v1) fun v109 => (cb v109 (ob (indexAddrPV Try.prog 52 v0 v3) fun v110 => (ob (fieldAddrPV Try.prog 54 v110 1) fun v111 => (ob (loadPV Try.prog 3 v111) fun v112 => (ob (binPV Try.prog .add 3 (.tmp 11) (.const (.int Go.IntKind.i64 1)) v3 (.sc (.int Go.IntKind.i64 1))) fun v113 => (kg v0 v1 v112 v113))))) (ob (binPV Try.prog .add 3 (.tmp 11) (.const (.int Go.IntKind.i64 1)) v3 (.sc (.int Go.IntKind.i64 1))) fun v114 => (kg v0 v1 v2 v114))))))) (ke0 v2))))
theorem e86_2 {R : Type} (C : Kallee) (L : Nat) (k : Ex → Env → Store → Option R) (gg : Env → Store → Option R) (v0 : PV) (v1 : PV) (v2 : PV) (v3 : PV) : execR Try.prog C hh L 86 (cAt (bodyOf Try.f86) [1, 1, 0, 1, 0, 0]) (Env.lay .nil [0, 1, 5, 6] [(.pv v0), (.pv v1), (.pv v2), (.pv v3)]) [] (loopK gg [0, 1, 5, 6] 0 (prune (some ⟨[0, 1, 5, 6], [], [(0, [5])], []⟩) 0 k)) = d86_2 C L (fun v0 v1 v2 v3 => gg (Env.lay .nil [0, 1, 5, 6] [(.pv v0), (.pv v1), (.pv v2), (.pv v3)]) []) (fun v0 => k (.exit 0) (Env.lay .nil [5] [(.pv v0)]) []) v0 v1 v2 v3 := by kernel_rfl
noncomputable def d86_1i {R : Type} (C : Kallee) (L : Nat) (ke0 : PV → Option R) : Nat → PV → PV → PV → PV → Option R
  | 0, _, _, _, _ => none
  | N + 1, v0, v1, v2, v3 => d86_2 C L (fun v0 v1 v2 v3 => d86_1i C L ke0 N v0 v1 v2 v3) ke0 v0 v1 v2 v3
noncomputable def d86_1 {R : Type} (C : Kallee) (L : Nat) (ke0 : PV → Option R) (v0 : PV) (v1 : PV) (v2 : PV) (v3 : PV) : Option R := d86_1i C L ke0 L v0 v1 v2 v3
theorem d86_1_i {R : Type} (C : Kallee) (L : Nat) (k : Ex → Env → Store → Option R) (N : Nat) (v0 : PV) (v1 : PV) (v2 : PV) (v3 : PV) : iter (execR Try.prog C hh L 86 (cAt (bodyOf Try.f86) [1, 1, 0, 1, 0, 0])) [0, 1, 5, 6] 0 (prune (some ⟨[0, 1, 5, 6], [], [(0, [5])], []⟩) 0 k) N (Env.lay .nil [0, 1, 5, 6] [(.pv v0), (.pv v1), (.pv v2), (.pv v3)]) [] = d86_1i C L (fun v0 => k (.exit 0) (Env.lay .nil [5] [(.pv v0)]) []) N v0 v1 v2 v3 := by
  induction N generalizing v0 v1 v2 v3 with
  | zero => rfl
  | succ N ih => exact Eq.trans (b := execR Try.prog C hh L 86 (cAt (bodyOf Try.f86) [1, 1, 0, 1, 0, 0]) (Env.lay .nil [0, 1, 5, 6] [(.pv v0), (.pv v1), (.pv v2), (.pv v3)]) [] (loopK (fun e s => iter (execR Try.prog C hh L 86 (cAt (bodyOf Try.f86) [1, 1, 0, 1, 0, 0])) [0, 1, 5, 6] 0 (prune (some ⟨[0, 1, 5, 6], [], [(0, [5])], []⟩) 0 k) N e s) [0, 1, 5, 6] 0 (prune (some ⟨[0, 1, 5, 6], [], [(0, [5])], []⟩) 0 k))) (by kernel_rfl) <| Eq.trans (e86_2 C L k (fun e s => iter (execR Try.prog C hh L 86 (cAt (bodyOf Try.f86) [1, 1, 0, 1, 0, 0])) [0, 1, 5, 6] 0 (prune (some ⟨[0, 1, 5, 6], [], [(0, [5])], []⟩) 0 k) N e s) v0 v1 v2 v3) (congrArg (fun kg => d86_2 C L kg (fun v0 => k (.exit 0) (Env.lay .nil [5] [(.pv v0)]) []) v0 v1 v2 v3) (funext fun v0 => funext fun v1 => funext fun v2 => funext fun v3 => ih v0 v1 v2 v3))
theorem e86_1 {R : Type} (C : Kallee) (L : Nat) (k : Ex → Env → Store → Option R) (v0 : PV) (v1 : PV) (v2 : PV) (v3 : PV) : execR Try.prog C hh L 86 (cAt (bodyOf Try.f86) [1, 1, 0, 1, 0]) (Env.lay .nil [0, 1, 5, 6] [(.pv v0), (.pv v1), (.pv v2), (.pv v3)]) [] k = d86_1 C L (fun v0 => k (.exit 0) (Env.lay .nil [5] [(.pv v0)]) []) v0 v1 v2 v3 :=
  Eq.trans (b := iter (execR Try.prog C hh L 86 (cAt (bodyOf Try.f86) [1, 1, 0, 1, 0, 0])) [0, 1, 5, 6] 0 (prune (some ⟨[0, 1, 5, 6], [], [(0, [5])], []⟩) 0 k) L (Env.lay .nil [0, 1, 5, 6] [(.pv v0), (.pv v1), (.pv v2), (.pv v3)]) []) (by kernel_rfl) (d86_1_i C L k L v0 v1 v2 v3)
noncomputable def d86_3 (C : Kallee) (L : Nat)  (v0 : PV) : Option PV := (some v0)
theorem e86_3 (C : Kallee) (L : Nat) (v0 : PV) : execR Try.prog C hh L 86 (cAt (bodyOf Try.f86) [1, 1, 1]) (Env.lay .nil [5] [(.pv v0)]) [] (endP Try.prog Try.f86) = d86_3 C L v0 := by kernel_rfl
noncomputable def g86_0 (C : Kallee) (X1 : PV → PV → PV → PV → Option PV)  (v0 : PV) (v1 : PV) : Option PV := (X1 v0 v1 (.sc (.int Go.IntKind.i64 0)) (.sc (.int Go.IntKind.i64 0)))
noncomputable def d86_0 (C : Kallee) (L : Nat)  (v0 : PV) (v1 : PV) : Option PV := g86_0 C (fun v0 v1 v2 v3 => d86_1 C L (fun v0 => d86_3 C L v0) v0 v1 v2 v3) v0 v1
theorem e86_0 (C : Kallee) (L : Nat) (v0 : PV) (v1 : PV) : execR Try.prog C hh L 86 (cAt (bodyOf Try.f86) []) (Env.ofArgs [(.pv v0), (.pv v1)] 0 .nil) [] (endP Try.prog Try.f86) = d86_0 C L v0 v1 :=
  Eq.trans (b := g86_0 C (fun v0 v1 v2 v3 => execR Try.prog C hh L 86 (cAt (bodyOf Try.f86) [1, 1, 0, 1, 0]) (Env.lay .nil [0, 1, 5, 6] [(.pv v0), (.pv v1), (.pv v2), (.pv v3)]) [] (leaveB 0 (nextT Try.prog C hh L 86 (cAt (bodyOf Try.f86) [1, 1, 1]) (endP Try.prog Try.f86)))) v0 v1) (by kernel_rfl) (cg1 (fun X1 => g86_0 C X1 v0 v1) (funext fun v0 => funext fun v1 => funext fun v2 => funext fun v3 => Eq.trans (e86_1 C L (leaveB 0 (nextT Try.prog C hh L 86 (cAt (bodyOf Try.f86) [1, 1, 1]) (endP Try.prog Try.f86))) v0 v1 v2 v3) (cg1 (fun ke0 => d86_1 C L ke0 v0 v1 v2 v3) (funext fun v0 => (Eq.trans (b := execR Try.prog C hh L 86 (cAt (bodyOf Try.f86) [1, 1, 1]) (Env.lay .nil [5] [(.pv v0)]) [] (endP Try.prog Try.f86)) (by kernel_rfl) (e86_3 C L v0))))))
theorem r86 (C : Kallee) (L : Nat) (v0 : PV) (v1 : PV) : bodyPR Try.prog C hh L 86 [v0, v1] = d86_0 C L v0 v1 := Eq.trans (bodyPR_eq (c := cAt (bodyOf Try.f86) []) [v0, v1] Try.func86 (by kernel_rfl) (by kernel_rfl)) (e86_0 C L v0 v1)

end
end Go.Lite

namespace Go.Lite
open Go Go.Proofs
set_option maxRecDepth 1000000
set_option linter.unusedVariables false
noncomputable section
/-! ## 9: muster/musterref12.Copy -/
noncomputable def d9_2 {R : Type} (C : Kallee) (L : Nat) (kg : PV → PV → List PV → Option R) (ke0 : List PV → Option R) (v0 : PV) (v1 : PV) (x2 : List PV) : Option R := (ob ((lenPV Try.prog 22 v0).map fun n => .sc (goInt n)) fun v103 => (ob (binPV Try.prog .lss 3 (.tmp 5) (.tmp 7) v1 v103) fun v104 => (cb v104 (ob (indexAddrPV Try.prog 22 v0 v1) fun v105 => (ob (loadPV Try.prog 52 v105) fun v106 => (ob (callD C.pure (.clo 27 [] []) [v106] 0) fun v107 => (ob (buildSliceAV Try.prog 22 1 [(0, v107)]) fun v108 => (oxs (appendTo Try.prog 22 22 0 x2 v108) fun x109 => (ob (binPV Try.prog .add 3 (.tmp 9) (.const (.int Go.IntKind.i64 1)) v1 (.sc (.int Go.IntKind.i64 1))) fun v110 => (kg v0 v110 x109))))))) (ke0 x2))))
theorem e9_2 {R : Type} (C : Kallee) (L : Nat) (k : Ex → Env → Store → Option R) (gg : Env → Store → Option R) (v0 : PV) (v1 : PV) (x2 : List PV) : execR Try.prog C hh L 9 (cAt (bodyOf Try.f9) [1, 1, 0, 1, 0, 0]) (Env.lay .nil [0, 3, 4] [(.pv v0), (.arr 0), (.pv v1)]) [.arr 0 false x2] (loopK gg [0, 3, 4] 1 (prune (some ⟨[0, 3, 4], [], [(0, [3])], []⟩) 1 k)) = d9_2 C L (fun v0 v1 x2 => gg (Env.lay .nil [0, 3, 4] [(.pv v0), (.arr 0), (.pv v1)]) [.arr 0 false x2]) (fun x0 => k (.exit 0) (Env.lay .nil [3] [(.arr 0)]) [.arr 0 false x0]) v0 v1 x2 := by kernel_rfl
noncomputable def d9_1i {R : Type} (C : Kallee) (L : Nat) (ke0 : List PV → Option R) : Nat → PV → PV → List PV → Option R
  | 0, _, _, _ => none
  | N + 1, v0, v1, x2 => d9_2 C L (fun v0 v1 x2 => d9_1i C L ke0 N v0 v1 x2) ke0 v0 v1 x2
noncomputable def d9_1 {R : Type} (C : Kallee) (L : Nat) (ke0 : List PV → Option R) (v0 : PV) (v1 : PV) (x2 : List PV) : Option R := d9_1i C L ke0 L v0 v1 x2
theorem d9_1_i {R : Type} (C : Kallee) (L : Nat) (k : Ex → Env → Store → Option R) (N : Nat) (v0 : PV) (v1 : PV) (x2 : List PV) : iter (execR Try.prog C hh L 9 (cAt (bodyOf Try.f9) [1, 1, 0, 1, 0, 0])) [0, 3, 4] 1 (prune (some ⟨[0, 3, 4], [], [(0, [3])], []⟩) 1 k) N (Env.lay .nil [0, 3, 4] [(.pv v0), (.arr 0), (.pv v1)]) [.arr 0 false x2] = d9_1i C L (fun x0 => k (.exit 0) (Env.lay .nil [3] [(.arr 0)]) [.arr 0 false x0]) N v0 v1 x2 := by
  induction N generalizing v0 v1 x2 with
  | zero => rfl
  | succ N ih => exact Eq.trans (b := execR Try.prog C hh L 9 (cAt (bodyOf Try.f9) [1, 1, 0, 1, 0, 0]) (Env.lay .nil [0, 3, 4] [(.pv v0), (.arr 0), (.pv v1)]) [.arr 0 false x2] (loopK (fun e s => iter (execR Try.prog C hh L 9 (cAt (bodyOf Try.f9) [1, 1, 0, 1, 0, 0])) [0, 3, 4] 1 (prune (some ⟨[0, 3, 4], [], [(0, [3])], []⟩) 1 k) N e s) [0, 3, 4] 1 (prune (some ⟨[0, 3, 4], [], [(0, [3])], []⟩) 1 k))) (by kernel_rfl) <| Eq.trans (e9_2 C L k (fun e s => iter (execR Try.prog C hh L 9 (cAt (bodyOf Try.f9) [1, 1, 0, 1, 0, 0])) [0, 3, 4] 1 (prune (some ⟨[0, 3, 4], [], [(0, [3])], []⟩) 1 k) N e s) v0 v1 x2) (congrArg (fun kg => d9_2 C L kg (fun x0 => k (.exit 0) (Env.lay .nil [3] [(.arr 0)]) [.arr 0 false x0]) v0 v1 x2) (funext fun v0 => funext fun v1 => funext fun x2 => ih v0 v1 x2))
theorem e9_1 {R : Type} (C : Kallee) (L : Nat) (k : Ex → Env → Store → Option R) (v0 : PV) (v1 : PV) (x2 : List PV) : execR Try.prog C hh L 9 (cAt (bodyOf Try.f9) [1, 1, 0, 1, 0]) (Env.lay .nil [0, 3, 4] [(.pv v0), (.arr 0), (.pv v1)]) [.arr 0 false x2] k = d9_1 C L (fun x0 => k (.exit 0) (Env.lay .nil [3] [(.arr 0)]) [.arr 0 false x0]) v0 v1 x2 :=
  Eq.trans (b := iter (execR Try.prog C hh L 9 (cAt (bodyOf Try.f9) [1, 1, 0, 1, 0, 0])) [0, 3, 4] 1 (prune (some ⟨[0, 3, 4], [], [(0, [3])], []⟩) 1 k) L (Env.lay .nil [0, 3, 4] [(.pv v0), (.arr 0), (.pv v1)]) [.arr 0 false x2]) (by kernel_rfl) (d9_1_i C L k L v0 v1 x2)
noncomputable def d9_3 (C : Kallee) (L : Nat)  (x0 : List PV) : Option PV := (some (.list 0 false x0))
theorem e9_3 (C : Kallee) (L : Nat) (x0 : List PV) : execR Try.prog C hh L 9 (cAt (bodyOf Try.f9) [1, 1, 1]) (Env.lay .nil [3] [(.arr 0)]) [.arr 0 false x0] (endP Try.prog Try.f9) = d9_3 C L x0 := by kernel_rfl
noncomputable def g9_0 (C : Kallee) (X1 : PV → PV → List PV → Option PV)  (v0 : PV) : Option PV := (X1 v0 (.sc (.int Go.IntKind.i64 0)) [])
noncomputable def d9_0 (C : Kallee) (L : Nat)  (v0 : PV) : Option PV := g9_0 C (fun v0 v1 x2 => d9_1 C L (fun x0 => d9_3 C L x0) v0 v1 x2) v0
theorem e9_0 (C : Kallee) (L : Nat) (v0 : PV) : execR Try.prog C hh L 9 (cAt (bodyOf Try.f9) []) (Env.ofArgs [(.pv v0)] 0 .nil) [] (endP Try.prog Try.f9) = d9_0 C L v0 :=
  Eq.trans (b := g9_0 C (fun v0 v1 x2 => execR Try.prog C hh L 9 (cAt (bodyOf Try.f9) [1, 1, 0, 1, 0]) (Env.lay .nil [0, 3, 4] [(.pv v0), (.arr 0), (.pv v1)]) [.arr 0 false x2] (leaveB 0 (nextT Try.prog C hh L 9 (cAt (bodyOf Try.f9) [1, 1, 1]) (endP Try.prog Try.f9)))) v0) (by kernel_rfl) (cg1 (fun X1 => g9_0 C X1 v0) (funext fun v0 => funext fun v1 => funext fun x2 => Eq.trans (e9_1 C L (leaveB 0 (nextT Try.prog C hh L 9 (cAt (bodyOf Try.f9) [1, 1, 1]) (endP Try.prog Try.f9))) v0 v1 x2) (cg1 (fun ke0 => d9_1 C L ke0 v0 v1 x2) (funext fun x0 => (Eq.trans (b := execR Try.prog C hh L 9 (cAt (bodyOf Try.f9) [1, 1, 1]) (Env.lay .nil [3] [(.arr 0)]) [.arr 0 false x0] (endP Try.prog Try.f9)) (by kernel_rfl) (e9_3 C L x0))))))
theorem r9 (C : Kallee) (L : Nat) (v0 : PV) : bodyPR Try.prog C hh L 9 [v0] = d9_0 C L v0 := Eq.trans (bodyPR_eq (c := cAt (bodyOf Try.f9) []) [v0] Try.func9 (by kernel_rfl) (by kernel_rfl)) (e9_0 C L v0)

end
end Go.Lite

namespace Go.Lite
open Go Go.Proofs
set_option maxRecDepth 1000000
set_option linter.unusedVariables false
noncomputable section
/-! ## 94: sort.Search -/
noncomputable def d94_2 {R : Type} (C : Kallee) (L : Nat) (kg : PV → PV → PV → Option R) (ke0 : PV → Option R) (v0 : PV) (v1 : PV) (v2 : PV) : Option R := (ob (binPV Try.prog .lss 3 (.tmp 9) (.tmp 10) v1 v2) fun v103 => (cb v103 (ob (binPV Try.prog .add 3 (.tmp 12) (.tmp 13) v1 v2) fun v104 => (ob (convPV Try.prog 3 83 v104) fun v105 => (ob (binPV Try.prog .shr 83 (.tmp 15) (.const (.int Go.IntKind.u64 1)) v105 (.sc (.int Go.IntKind.u64 1))) fun v106 => (ob (convPV Try.prog 83 3 v106) fun v107 => (ob (callD C.pure v0 [v107] 0) fun v108 => (ob (unPV Try.prog .not v108) fun v109 => (cb v109 (ob (binPV Try.prog .add 3 (.tmp 22) (.const (.int Go.IntKind.i64 1)) v107 (.sc (.int Go.IntKind.i64 1))) fun v110 => (kg v0 v110 v2)) (kg v0 v1 v107)))))))) (ke0 v1)))
theorem e94_2 {R : Type} (C : Kallee) (L : Nat) (k : Ex → Env → Store → Option R) (gg : Env → Store → Option R) (v0 : PV) (v1 : PV) (v2 : PV) : execR Try.prog C hh L 94 (cAt (bodyOf Try.f94) [1, 1, 0, 0, 0]) (Env.lay .nil [1, 5, 6] [(.pv v0), (.pv v1), (.pv v2)]) [] (loopK gg [1, 5, 6] 0 (prune (some ⟨[1, 5, 6], [], [(0, [5])], []⟩) 0 k)) = d94_2 C L (fun v0 v1 v2 => gg (Env.lay .nil [1, 5, 6] [(.pv v0), (.pv v1), (.pv v2)]) []) (fun v0 => k (.exit 0) (Env.lay .nil [5] [(.pv v0)]) []) v0 v1 v2 := by kernel_rfl
noncomputable def d94_1i {R : Type} (C : Kallee) (L : Nat) (ke0 : PV → Option R) : Nat → PV → PV → PV → Option R
  | 0, _, _, _ => none
  | N + 1, v0, v1, v2 => d94_2 C L (fun v0 v1 v2 => d94_1i C L ke0 N v0 v1 v2) ke0 v0 v1 v2
noncomputable def d94_1 {R : Type} (C : Kallee) (L : Nat) (ke0 : PV → Option R) (v0 : PV) (v1 : PV) (v2 : PV) : Option R := d94_1i C L ke0 L v0 v1 v2
theorem d94_1_i {R : Type} (C : Kallee) (L : Nat) (k : Ex → Env → Store → Option R) (N : Nat) (v0 : PV) (v1 : PV) (v2 : PV) : iter (execR Try.prog C hh L 94 (cAt (bodyOf Try.f94) [1, 1, 0, 0, 0])) [1, 5, 6] 0 (prune (some ⟨[1, 5, 6], [], [(0, [5])], []⟩) 0 k) N (Env.lay .nil [1, 5, 6] [(.pv v0), (.pv v1), (.pv v2)]) [] = d94_1i C L (fun v0 => k (.exit 0) (Env.lay .nil [5] [(.pv v0)]) []) N v0 v1 v2 := by
  induction N generalizing v0 v1 v2 with
  | zero => rfl
  | succ N ih => exact Eq.trans (b := execR Try.prog C hh L 94 (cAt (bodyOf Try.f94) [1, 1, 0, 0, 0]) (Env.lay .nil [1, 5, 6] [(.pv v0), (.pv v1), (.pv v2)]) [] (loopK (fun e s => iter (execR Try.prog C hh L 94 (cAt (bodyOf Try.f94) [1, 1, 0, 0, 0])) [1, 5, 6] 0 (prune (some ⟨[1, 5, 6], [], [(0, [5])], []⟩) 0 k) N e s) [1, 5, 6] 0 (prune (some ⟨[1, 5, 6], [], [(0, [5])], []⟩) 0 k))) (by kernel_rfl) <| Eq.trans (e94_2 C L k (fun e s => iter (execR Try.prog C hh L 94 (cAt (bodyOf Try.f94) [1, 1, 0, 0, 0])) [1, 5, 6] 0 (prune (some ⟨[1, 5, 6], [], [(0, [5])], []⟩) 0 k) N e s) v0 v1 v2) (congrArg (fun kg => d94_2 C L kg (fun v0 => k (.exit 0) (Env.lay .nil [5] [(.pv v0)]) []) v0 v1 v2) (funext fun v0 => funext fun v1 => funext fun v2 => ih v0 v1 v2))
theorem e94_1 {R : Type} (C : Kallee) (L : Nat) (k : Ex → Env → Store → Option R) (v0 : PV) (v1 : PV) (v2 : PV) : execR Try.prog C hh L 94 (cAt (bodyOf Try.f94) [1, 1, 0, 0]) (Env.lay .nil [1, 5, 6] [(.pv v0), (.pv v1), (.pv v2)]) [] k = d94_1 C L (fun v0 => k (.exit 0) (Env.lay .nil [5] [(.pv v0)]) []) v0 v1 v2 :=
  Eq.trans (b := iter (execR Try.prog C hh L 94 (cAt (bodyOf Try.f94) [1, 1, 0, 0, 0])) [1, 5, 6] 0 (prune (some ⟨[1, 5, 6], [], [(0, [5])], []⟩) 0 k) L (Env.lay .nil [1, 5, 6] [(.pv v0), (.pv v1), (.pv v2)]) []) (by kernel_rfl) (d94_1_i C L k L v0 v1 v2)
noncomputable def d94_3 (C : Kallee) (L : Nat)  (v0 : PV) : Option PV := (some v0)
theorem e94_3 (C : Kallee) (L : Nat) (v0 : PV) : execR Try.prog C hh L 94 (cAt (bodyOf Try.f94) [1, 1, 1]) (Env.lay .nil [5] [(.pv v0)]) [] (endP Try.prog Try.f94) = d94_3 C L v0 := by kernel_rfl
noncomputable def g94_0 (C : Kallee) (X1 : PV → PV → PV → Option PV)  (v0 : PV) (v1 : PV) : Option PV := (X1 v1 (.sc (.int Go.IntKind.i64 0)) v0)
noncomputable def d94_0 (C : Kallee) (L : Nat)  (v0 : PV) (v1 : PV) : Option PV := g94_0 C (fun v0 v1 v2 => d94_1 C L (fun v0 => d94_3 C L v0) v0 v1 v2) v0 v1
theorem e94_0 (C : Kallee) (L : Nat) (v0 : PV) (v1 : PV) : execR Try.prog C hh L 94 (cAt (bodyOf Try.f94) []) (Env.ofArgs [(.pv v0), (.pv v1)] 0 .nil) [] (endP Try.prog Try.f94) = d94_0 C L v0 v1 :=
  Eq.trans (b := g94_0 C (fun v0 v1 v2 => execR Try.prog C hh L 94 (cAt (bodyOf Try.f94) [1, 1, 0, 0]) (Env.lay .nil [1, 5, 6] [(.pv v0), (.pv v1), (.pv v2)]) [] (leaveB 0 (nextT Try.prog C hh L 94 (cAt (bodyOf Try.f94) [1, 1, 1]) (endP Try.prog Try.f94)))) v0 v1) (by kernel_rfl) (cg1 (fun X1 => g94_0 C X1 v0 v1) (funext fun v0 => funext fun v1 => funext fun v2 => Eq.trans (e94_1 C L (leaveB 0 (nextT Try.prog C hh L 94 (cAt (bodyOf Try.f94) [1, 1, 1]) (endP Try.prog Try.f94))) v0 v1 v2) (cg1 (fun ke0 => d94_1 C L ke0 v0 v1 v2) (funext fun v0 => (Eq.trans (b := execR Try.prog C hh L 94 (cAt (bodyOf Try.f94) [1, 1, 1]) (Env.lay .nil [5] [(.pv v0)]) [] (endP Try.prog Try.f94)) (by kernel_rfl) (e94_3 C L v0))))))
theorem r94 (C : Kallee) (L : Nat) (v0 : PV) (v1 : PV) : bodyPR Try.prog C hh L 94 [v0, v1] = d94_0 C L v0 v1 := Eq.trans (bodyPR_eq (c := cAt (bodyOf Try.f94) []) [v0, v1] Try.func94 (by kernel_rfl) (by kernel_rfl)) (e94_0 C L v0 v1)

end
end Go.Lite

namespace Go.Lite
open Go Go.Proofs
set_option maxRecDepth 1000000
set_option linter.unusedVariables false
noncomputable section
/-! ## 95: muster/steps.place$1 -/
noncomputable def d95_0 (C : Kallee) (L : Nat)  (v0 : PV) (v1 : PV) (v2 : PV) : Option PV := (ob (loadPV Try.prog 52 v1) fun v104 => (ob (indexAddrPV Try.prog 52 v104 v0) fun v105 => (ob (fieldAddrPV Try.prog 54 v105 0) fun v106 => (ob (loadPV Try.prog 2 v106) fun v107 => (ob (loadPV Try.prog 2 v2) fun v108 => (ob (binPV Try.prog .gtr 2 (.tmp 9) (.tmp 10) v107 v108) fun v109 => (some v109)))))))
theorem e95_0 (C : Kallee) (L : Nat) (v0 : PV) (v1 : PV) (v2 : PV) : execR Try.prog C hh L 95 (cAt (bodyOf Try.f95) []) (Env.ofArgs [(.pv v0), (.pv v1), (.pv v2)] 0 .nil) [] (endP Try.prog Try.f95) = d95_0 C L v0 v1 v2 := by kernel_rfl
theorem r95 (C : Kallee) (L : Nat) (v0 : PV) (v1 : PV) (v2 : PV) : bodyPR Try.prog C hh L 95 [v0, v1, v2] = d95_0 C L v0 v1 v2 := Eq.trans (bodyPR_eq (c := cAt (bodyOf Try.f95) []) [v0, v1, v2] Try.func95 (by kernel_rfl) (by kernel_rfl)) (e95_0 C L v0 v1 v2)

end
end Go.Lite
