import Derived.Test.YtjfjcigpjechfaaRe
import Derived.Test.YtjfjcigpjechfaaProg
import Derived.KernelRfl

namespace Go.Lite
open Go Go.Proofs
set_option maxRecDepth 1000000
set_option linter.unusedVariables false
noncomputable section
/-! ## 44: muster/musterref14.Find -/
noncomputable def d44_2 {R : Type} (C : Kallee) (L : Nat) (kr : PV → PV → Option R) (kg : PV → PV → PV → Option R) (ke0 : Option R) (v0 : PV) (v1 : PV) (v2 : PV) : Option R := (ob ((lenPV Try.prog 24 v0).map fun n => .sc (goInt n)) fun v103 => (ob (binPV Try.prog .lss 3 (.tmp 7) (.tmp 9) v2 v103) fun v104 => (cb v104 (ob (indexAddrPV Try.prog 24 v0 v2) fun v105 => (ob (fieldAddrPV Try.prog 45 v105 0) fun v106 => (ob (loadPV Try.prog 9 v106) fun v107 => (ob (binPV Try.prog .eql 9 (.tmp 17) (.tmp 18) v107 v1) fun v108 => (cb v108 (kr v2 (.sc (.bool true))) (ob (binPV Try.prog .add 3 (.tmp 11) (.const (.int Go.IntKind.i64 1)) v2 (.sc (.int Go.IntKind.i64 1))) fun v109 => (kg v0 v1 v109))))))) (ke0))))
theorem e44_2 {R : Type} (C : Kallee) (L : Nat) (k : Ex → Env → Store → Option R) (gg : Env → Store → Option R) (v0 : PV) (v1 : PV) (v2 : PV) : execR Try.prog C hh L 44 (cAt (bodyOf Try.f44) [1, 0, 1, 0, 0]) (Env.lay .nil [0, 1, 6] [(.pv v0), (.pv v1), (.pv v2)]) [] (loopK gg [0, 1, 6] 0 (prune (some ⟨[0, 1, 6], [], [(0, [])], [4, 5]⟩) 0 k)) = d44_2 C L (fun v0 v1 => k .ret (Env.lay .nil [4, 5] [(.pv v0), (.pv v1)]) []) (fun v0 v1 v2 => gg (Env.lay .nil [0, 1, 6] [(.pv v0), (.pv v1), (.pv v2)]) []) (k (.exit 0) (Env.lay .nil [] []) []) v0 v1 v2 := by kernel_rfl
noncomputable def d44_1i {R : Type} (C : Kallee) (L : Nat) (kr : PV → PV → Option R) (ke0 : Option R) : Nat → PV → PV → PV → Option R
  | 0, _, _, _ => none
  | N + 1, v0, v1, v2 => d44_2 C L kr (fun v0 v1 v2 => d44_1i C L kr ke0 N v0 v1 v2) ke0 v0 v1 v2
noncomputable def d44_1 {R : Type} (C : Kallee) (L : Nat) (kr : PV → PV → Option R) (ke0 : Option R) (v0 : PV) (v1 : PV) (v2 : PV) : Option R := d44_1i C L kr ke0 L v0 v1 v2
theorem d44_1_i {R : Type} (C : Kallee) (L : Nat) (k : Ex → Env → Store → Option R) (N : Nat) (v0 : PV) (v1 : PV) (v2 : PV) : iter (execR Try.prog C hh L 44 (cAt (bodyOf Try.f44) [1, 0, 1, 0, 0])) [0, 1, 6] 0 (prune (some ⟨[0, 1, 6], [], [(0, [])], [4, 5]⟩) 0 k) N (Env.lay .nil [0, 1, 6] [(.pv v0), (.pv v1), (.pv v2)]) [] = d44_1i C L (fun v0 v1 => k .ret (Env.lay .nil [4, 5] [(.pv v0), (.pv v1)]) []) (k (.exit 0) (Env.lay .nil [] []) []) N v0 v1 v2 := by
  induction N generalizing v0 v1 v2 with
  | zero => rfl
  | succ N ih => exact Eq.trans (b := execR Try.prog C hh L 44 (cAt (bodyOf Try.f44) [1, 0, 1, 0, 0]) (Env.lay .nil [0, 1, 6] [(.pv v0), (.pv v1), (.pv v2)]) [] (loopK (fun e s => iter (execR Try.prog C hh L 44 (cAt (bodyOf Try.f44) [1, 0, 1, 0, 0])) [0, 1, 6] 0 (prune (some ⟨[0, 1, 6], [], [(0, [])], [4, 5]⟩) 0 k) N e s) [0, 1, 6] 0 (prune (some ⟨[0, 1, 6], [], [(0, [])], [4, 5]⟩) 0 k))) (by kernel_rfl) <| Eq.trans (e44_2 C L k (fun e s => iter (execR Try.prog C hh L 44 (cAt (bodyOf Try.f44) [1, 0, 1, 0, 0])) [0, 1, 6] 0 (prune (some ⟨[0, 1, 6], [], [(0, [])], [4, 5]⟩) 0 k) N e s) v0 v1 v2) (congrArg (fun kg => d44_2 C L (fun v0 v1 => k .ret (Env.lay .nil [4, 5] [(.pv v0), (.pv v1)]) []) kg (k (.exit 0) (Env.lay .nil [] []) []) v0 v1 v2) (funext fun v0 => funext fun v1 => funext fun v2 => ih v0 v1 v2))
theorem e44_1 {R : Type} (C : Kallee) (L : Nat) (k : Ex → Env → Store → Option R) (v0 : PV) (v1 : PV) (v2 : PV) : execR Try.prog C hh L 44 (cAt (bodyOf Try.f44) [1, 0, 1, 0]) (Env.lay .nil [0, 1, 6] [(.pv v0), (.pv v1), (.pv v2)]) [] k = d44_1 C L (fun v0 v1 => k .ret (Env.lay .nil [4, 5] [(.pv v0), (.pv v1)]) []) (k (.exit 0) (Env.lay .nil [] []) []) v0 v1 v2 :=
  Eq.trans (b := iter (execR Try.prog C hh L 44 (cAt (bodyOf Try.f44) [1, 0, 1, 0, 0])) [0, 1, 6] 0 (prune (some ⟨[0, 1, 6], [], [(0, [])], [4, 5]⟩) 0 k) L (Env.lay .nil [0, 1, 6] [(.pv v0), (.pv v1), (.pv v2)]) []) (by kernel_rfl) (d44_1_i C L k L v0 v1 v2)
noncomputable def d44_3 (C : Kallee) (L : Nat)   : Option PV := (some (.tup [(.sc (.int Go.IntKind.i64 0)), (.sc (.bool false))]))
theorem e44_3 (C : Kallee) (L : Nat)  : execR Try.prog C hh L 44 (cAt (bodyOf Try.f44) [1, 1]) (Env.lay .nil [] []) [] (endP Try.prog Try.f44) = d44_3 C L := by kernel_rfl
noncomputable def g44_0 (C : Kallee) (X1 : PV → PV → PV → Option PV)  (v0 : PV) (v1 : PV) : Option PV := (X1 v0 v1 (.sc (.int Go.IntKind.i64 0)))
noncomputable def d44_0 (C : Kallee) (L : Nat)  (v0 : PV) (v1 : PV) : Option PV := g44_0 C (fun v0 v1 v2 => d44_1 C L (fun v0 v1 => (some (.tup [v0, v1]))) (d44_3 C L) v0 v1 v2) v0 v1
theorem e44_0 (C : Kallee) (L : Nat) (v0 : PV) (v1 : PV) : execR Try.prog C hh L 44 (cAt (bodyOf Try.f44) []) (Env.ofArgs [.pv v0, .pv v1] 0 .nil) [] (endP Try.prog Try.f44) = d44_0 C L v0 v1 :=
  Eq.trans (b := g44_0 C (fun v0 v1 v2 => execR Try.prog C hh L 44 (cAt (bodyOf Try.f44) [1, 0, 1, 0]) (Env.lay .nil [0, 1, 6] [(.pv v0), (.pv v1), (.pv v2)]) [] (leaveB 0 (nextT Try.prog C hh L 44 (cAt (bodyOf Try.f44) [1, 1]) (endP Try.prog Try.f44)))) v0 v1) (by kernel_rfl) (cg1 (fun X1 => g44_0 C X1 v0 v1) (funext fun v0 => funext fun v1 => funext fun v2 => Eq.trans (e44_1 C L (leaveB 0 (nextT Try.prog C hh L 44 (cAt (bodyOf Try.f44) [1, 1]) (endP Try.prog Try.f44))) v0 v1 v2) (cg2 (fun kr ke0 => d44_1 C L kr ke0 v0 v1 v2) (funext fun v0 => funext fun v1 => (by kernel_rfl)) (Eq.trans (b := execR Try.prog C hh L 44 (cAt (bodyOf Try.f44) [1, 1]) (Env.lay .nil [] []) [] (endP Try.prog Try.f44)) (by kernel_rfl) (e44_3 C L)))))
theorem r44 (C : Kallee) (L : Nat) (v0 : PV) (v1 : PV) : bodyPR Try.prog C hh L 44 [v0, v1] = d44_0 C L v0 v1 := Eq.trans (bodyPR_eq (c := cAt (bodyOf Try.f44) []) [v0, v1] Try.func44 (by kernel_rfl) (by kernel_rfl)) (e44_0 C L v0 v1)

end
end Go.Lite

namespace Go.Lite
open Go Go.Proofs
set_option maxRecDepth 1000000
set_option linter.unusedVariables false
noncomputable section
/-! ## 45: muster/musterref15.Qos -/
noncomputable def d45_3 {R : Type} (C : Kallee) (L : Nat) (kn : PV → PV → PV → PV → PV → PV → PV → Option R) (v0 : PV) (v1 : PV) (v2 : PV) (v3 : PV) (v4 : PV) (v5 : PV) : Option R := (ob (indexAddrPV Try.prog 100 v0 v4) fun v111 => (ob (fieldAddrPV Try.prog 107 v111 4) fun v112 => (ob (loadPV Try.prog 105 v112) fun v113 => (ob (binPV Try.prog .eql 105 (.tmp 30) (.const (.int Go.IntKind.u8 2)) v113 (.sc (.int Go.IntKind.u8 2))) fun v114 => (gcase true v114 (ob (indexAddrPV Try.prog 100 v0 v4) fun v115 => (ob (fieldAddrPV Try.prog 107 v115 3) fun v116 => (ob (fieldAddrPV Try.prog 31 v116 2) fun v117 => (ob (loadPV Try.prog 9 v117) fun v118 => (ob (binPV Try.prog .eql 9 (.tmp 38) (.tmp 39) v118 v1) fun v119 => (kn v0 v1 v2 v3 v4 v119 v5)))))) (kn v0 v1 v2 v3 v4 (.sc (.bool false)) v5) none)))))
theorem e45_3 {R : Type} (C : Kallee) (L : Nat) (k : Ex → Env → Store → Option R) (v0 : PV) (v1 : PV) (v2 : PV) (v3 : PV) (v4 : PV) (v5 : PV) : execR Try.prog C hh L 45 (cAt (bodyOf Try.f45) [1, 1, 1, 1, 0, 1, 0, 0, 1, 0, 0, 0]) (Env.lay .nil [1, 2, 9, 10, 11] [(.pv v0), (.pv v1), (.pv v2), (.pv v3), (.pv v4)]) [.var 6 (.pv v5)] k = d45_3 C L (fun v0 v1 v2 v3 v4 v5 v6 => k .normal (Env.lay .nil [1, 2, 9, 10, 11, 41] [(.pv v0), (.pv v1), (.pv v2), (.pv v3), (.pv v4), (.pv v5)]) [.var 6 (.pv v6)]) v0 v1 v2 v3 v4 v5 := by kernel_rfl
noncomputable def d45_4 {R : Type} (C : Kallee) (L : Nat) (kg : PV → PV → PV → PV → PV → PV → Option R) (v0 : PV) (v1 : PV) (v2 : PV) (v3 : PV) (v4 : PV) (v5 : PV) (v6 : PV) : Option R := (cb v5 (ob (indexAddrPV Try.prog 100 v0 v4) fun v121 => (ob (fieldAddrPV Try.prog 107 v121 3) fun v122 => (ob (fieldAddrPV Try.prog 31 v122 4) fun v123 => (ob (loadPV Try.prog 3 v123) fun v124 => (ob (indexAddrPV Try.prog 100 v0 v4) fun v125 => (ob (fieldAddrPV Try.prog 107 v125 3) fun v126 => (ob (fieldAddrPV Try.prog 31 v126 5) fun v127 => (ob (loadPV Try.prog 3 v127) fun v128 => (ob (binPV Try.prog .mul 3 (.tmp 48) (.tmp 54) v124 v128) fun v129 => (ob (binPV Try.prog .add 3 (.tmp 42) (.tmp 55) v2 v129) fun v130 => (ob (binPV Try.prog .add 3 (.tmp 57) (.const (.int Go.IntKind.i64 1)) v3 (.sc (.int Go.IntKind.i64 1))) fun v131 => (ob (binPV Try.prog .add 3 (.tmp 24) (.const (.int Go.IntKind.i64 1)) v4 (.sc (.int Go.IntKind.i64 1))) fun v132 => (kg v0 v1 v130 v131 v132 v6))))))))))))) (ob (binPV Try.prog .add 3 (.tmp 24) (.const (.int Go.IntKind.i64 1)) v4 (.sc (.int Go.IntKind.i64 1))) fun v133 => (kg v0 v1 v2 v3 v133 v6)))
theorem e45_4 {R : Type} (C : Kallee) (L : Nat) (k : Ex → Env → Store → Option R) (gg : Env → Store → Option R) (v0 : PV) (v1 : PV) (v2 : PV) (v3 : PV) (v4 : PV) (v5 : PV) (v6 : PV) : execR Try.prog C hh L 45 (cAt (bodyOf Try.f45) [1, 1, 1, 1, 0, 1, 0, 0, 1, 0, 0, 1]) (Env.lay .nil [1, 2, 9, 10, 11, 41] [(.pv v0), (.pv v1), (.pv v2), (.pv v3), (.pv v4), (.pv v5)]) [.var 6 (.pv v6)] (leaveB 1 (nextT Try.prog C hh L 45 (cAt (bodyOf Try.f45) [1, 1, 1, 1, 0, 1, 0, 0, 1, 1]) (loopK gg [1, 2, 9, 10, 11] 1 (prune (some ⟨[1, 2, 9, 10, 11], [], [(0, [9, 10])], []⟩) 1 k)))) = d45_4 C L (fun v0 v1 v2 v3 v4 v5 => gg (Env.lay .nil [1, 2, 9, 10, 11] [(.pv v0), (.pv v1), (.pv v2), (.pv v3), (.pv v4)]) [.var 6 (.pv v5)]) v0 v1 v2 v3 v4 v5 v6 := by kernel_rfl
noncomputable def g45_2 {R : Type} (C : Kallee) (X1 : PV → PV → PV → PV → PV → PV → Option R) (ke0 : PV → PV → PV → Option R) (kg : PV → PV → PV → PV → PV → PV → Option R) (v0 : PV) (v1 : PV) (v2 : PV) (v3 : PV) (v4 : PV) (v5 : PV) : Option R := (ob ((lenPV Try.prog 100 v0).map fun n => .sc (goInt n)) fun v109 => (ob (binPV Try.prog .lss 3 (.tmp 20) (.tmp 22) v4 v109) fun v110 => (cb v110 (X1 v0 v1 v2 v3 v4 v5) (ke0 v2 v3 v5))))
noncomputable def d45_2 {R : Type} (C : Kallee) (L : Nat) (ke0 : PV → PV → PV → Option R) (kg : PV → PV → PV → PV → PV → PV → Option R) (v0 : PV) (v1 : PV) (v2 : PV) (v3 : PV) (v4 : PV) (v5 : PV) : Option R := g45_2 C (fun v0 v1 v2 v3 v4 v5 => d45_3 C L (fun v0 v1 v2 v3 v4 v5 v6 => d45_4 C L kg v0 v1 v2 v3 v4 v5 v6) v0 v1 v2 v3 v4 v5) ke0 kg v0 v1 v2 v3 v4 v5
theorem e45_2 {R : Type} (C : Kallee) (L : Nat) (k : Ex → Env → Store → Option R) (gg : Env → Store → Option R) (v0 : PV) (v1 : PV) (v2 : PV) (v3 : PV) (v4 : PV) (v5 : PV) : execR Try.prog C hh L 45 (cAt (bodyOf Try.f45) [1, 1, 1, 1, 0, 1, 0, 0]) (Env.lay .nil [1, 2, 9, 10, 11] [(.pv v0), (.pv v1), (.pv v2), (.pv v3), (.pv v4)]) [.var 6 (.pv v5)] (loopK gg [1, 2, 9, 10, 11] 1 (prune (some ⟨[1, 2, 9, 10, 11], [], [(0, [9, 10])], []⟩) 1 k)) = d45_2 C L (fun v0 v1 v2 => k (.exit 0) (Env.lay .nil [9, 10] [(.pv v0), (.pv v1)]) [.var 6 (.pv v2)]) (fun v0 v1 v2 v3 v4 v5 => gg (Env.lay .nil [1, 2, 9, 10, 11] [(.pv v0), (.pv v1), (.pv v2), (.pv v3), (.pv v4)]) [.var 6 (.pv v5)]) v0 v1 v2 v3 v4 v5 :=
  Eq.trans (b := g45_2 C (fun v0 v1 v2 v3 v4 v5 => execR Try.prog C hh L 45 (cAt (bodyOf Try.f45) [1, 1, 1, 1, 0, 1, 0, 0, 1, 0, 0, 0]) (Env.lay .nil [1, 2, 9, 10, 11] [(.pv v0), (.pv v1), (.pv v2), (.pv v3), (.pv v4)]) [.var 6 (.pv v5)] (nextT Try.prog C hh L 45 (cAt (bodyOf Try.f45) [1, 1, 1, 1, 0, 1, 0, 0, 1, 0, 0, 1]) (leaveB 1 (nextT Try.prog C hh L 45 (cAt (bodyOf Try.f45) [1, 1, 1, 1, 0, 1, 0, 0, 1, 1]) (loopK gg [1, 2, 9, 10, 11] 1 (prune (some ⟨[1, 2, 9, 10, 11], [], [(0, [9, 10])], []⟩) 1 k)))))) (fun v0 v1 v2 => k (.exit 0) (Env.lay .nil [9, 10] [(.pv v0), (.pv v1)]) [.var 6 (.pv v2)]) (fun v0 v1 v2 v3 v4 v5 => gg (Env.lay .nil [1, 2, 9, 10, 11] [(.pv v0), (.pv v1), (.pv v2), (.pv v3), (.pv v4)]) [.var 6 (.pv v5)]) v0 v1 v2 v3 v4 v5) (by kernel_rfl) (cg1 (fun X1 => g45_2 C X1 (fun v0 v1 v2 => k (.exit 0) (Env.lay .nil [9, 10] [(.pv v0), (.pv v1)]) [.var 6 (.pv v2)]) (fun v0 v1 v2 v3 v4 v5 => gg (Env.lay .nil [1, 2, 9, 10, 11] [(.pv v0), (.pv v1), (.pv v2), (.pv v3), (.pv v4)]) [.var 6 (.pv v5)]) v0 v1 v2 v3 v4 v5) (funext fun v0 => funext fun v1 => funext fun v2 => funext fun v3 => funext fun v4 => funext fun v5 => Eq.trans (e45_3 C L (nextT Try.prog C hh L 45 (cAt (bodyOf Try.f45) [1, 1, 1, 1, 0, 1, 0, 0, 1, 0, 0, 1]) (leaveB 1 (nextT Try.prog C hh L 45 (cAt (bodyOf Try.f45) [1, 1, 1, 1, 0, 1, 0, 0, 1, 1]) (loopK gg [1, 2, 9, 10, 11] 1 (prune (some ⟨[1, 2, 9, 10, 11], [], [(0, [9, 10])], []⟩) 1 k))))) v0 v1 v2 v3 v4 v5) (cg1 (fun kn => d45_3 C L kn v0 v1 v2 v3 v4 v5) (funext fun v0 => funext fun v1 => funext fun v2 => funext fun v3 => funext fun v4 => funext fun v5 => funext fun v6 => (Eq.trans (b := execR Try.prog C hh L 45 (cAt (bodyOf Try.f45) [1, 1, 1, 1, 0, 1, 0, 0, 1, 0, 0, 1]) (Env.lay .nil [1, 2, 9, 10, 11, 41] [(.pv v0), (.pv v1), (.pv v2), (.pv v3), (.pv v4), (.pv v5)]) [.var 6 (.pv v6)] (leaveB 1 (nextT Try.prog C hh L 45 (cAt (bodyOf Try.f45) [1, 1, 1, 1, 0, 1, 0, 0, 1, 1]) (loopK gg [1, 2, 9, 10, 11] 1 (prune (some ⟨[1, 2, 9, 10, 11], [], [(0, [9, 10])], []⟩) 1 k))))) (by kernel_rfl) (e45_4 C L k gg v0 v1 v2 v3 v4 v5 v6))))))
noncomputable def d45_1i {R : Type} (C : Kallee) (L : Nat) (ke0 : PV → PV → PV → Option R) : Nat → PV → PV → PV → PV → PV → PV → Option R
  | 0, _, _, _, _, _, _ => none
  | N + 1, v0, v1, v2, v3, v4, v5 => d45_2 C L ke0 (fun v0 v1 v2 v3 v4 v5 => d45_1i C L ke0 N v0 v1 v2 v3 v4 v5) v0 v1 v2 v3 v4 v5
noncomputable def d45_1 {R : Type} (C : Kallee) (L : Nat) (ke0 : PV → PV → PV → Option R) (v0 : PV) (v1 : PV) (v2 : PV) (v3 : PV) (v4 : PV) (v5 : PV) : Option R := d45_1i C L ke0 L v0 v1 v2 v3 v4 v5
theorem d45_1_i {R : Type} (C : Kallee) (L : Nat) (k : Ex → Env → Store → Option R) (N : Nat) (v0 : PV) (v1 : PV) (v2 : PV) (v3 : PV) (v4 : PV) (v5 : PV) : iter (execR Try.prog C hh L 45 (cAt (bodyOf Try.f45) [1, 1, 1, 1, 0, 1, 0, 0])) [1, 2, 9, 10, 11] 1 (prune (some ⟨[1, 2, 9, 10, 11], [], [(0, [9, 10])], []⟩) 1 k) N (Env.lay .nil [1, 2, 9, 10, 11] [(.pv v0), (.pv v1), (.pv v2), (.pv v3), (.pv v4)]) [.var 6 (.pv v5)] = d45_1i C L (fun v0 v1 v2 => k (.exit 0) (Env.lay .nil [9, 10] [(.pv v0), (.pv v1)]) [.var 6 (.pv v2)]) N v0 v1 v2 v3 v4 v5 := by
  induction N generalizing v0 v1 v2 v3 v4 v5 with
  | zero => rfl
  | succ N ih => exact Eq.trans (b := execR Try.prog C hh L 45 (cAt (bodyOf Try.f45) [1, 1, 1, 1, 0, 1, 0, 0]) (Env.lay .nil [1, 2, 9, 10, 11] [(.pv v0), (.pv v1), (.pv v2), (.pv v3), (.pv v4)]) [.var 6 (.pv v5)] (loopK (fun e s => iter (execR Try.prog C hh L 45 (cAt (bodyOf Try.f45) [1, 1, 1, 1, 0, 1, 0, 0])) [1, 2, 9, 10, 11] 1 (prune (some ⟨[1, 2, 9, 10, 11], [], [(0, [9, 10])], []⟩) 1 k) N e s) [1, 2, 9, 10, 11] 1 (prune (some ⟨[1, 2, 9, 10, 11], [], [(0, [9, 10])], []⟩) 1 k))) (by kernel_rfl) <| Eq.trans (e45_2 C L k (fun e s => iter (execR Try.prog C hh L 45 (cAt (bodyOf Try.f45) [1, 1, 1, 1, 0, 1, 0, 0])) [1, 2, 9, 10, 11] 1 (prune (some ⟨[1, 2, 9, 10, 11], [], [(0, [9, 10])], []⟩) 1 k) N e s) v0 v1 v2 v3 v4 v5) (congrArg (fun kg => d45_2 C L (fun v0 v1 v2 => k (.exit 0) (Env.lay .nil [9, 10] [(.pv v0), (.pv v1)]) [.var 6 (.pv v2)]) kg v0 v1 v2 v3 v4 v5) (funext fun v0 => funext fun v1 => funext fun v2 => funext fun v3 => funext fun v4 => funext fun v5 => ih v0 v1 v2 v3 v4 v5))
theorem e45_1 {R : Type} (C : Kallee) (L : Nat) (k : Ex → Env → Store → Option R) (v0 : PV) (v1 : PV) (v2 : PV) (v3 : PV) (v4 : PV) (v5 : PV) : execR Try.prog C hh L 45 (cAt (bodyOf Try.f45) [1, 1, 1, 1, 0, 1, 0]) (Env.lay .nil [1, 2, 9, 10, 11] [(.pv v0), (.pv v1), (.pv v2), (.pv v3), (.pv v4)]) [.var 6 (.pv v5)] k = d45_1 C L (fun v0 v1 v2 => k (.exit 0) (Env.lay .nil [9, 10] [(.pv v0), (.pv v1)]) [.var 6 (.pv v2)]) v0 v1 v2 v3 v4 v5 :=
  Eq.trans (b := iter (execR Try.prog C hh L 45 (cAt (bodyOf Try.f45) [1, 1, 1, 1, 0, 1, 0, 0])) [1, 2, 9, 10, 11] 1 (prune (some ⟨[1, 2, 9, 10, 11], [], [(0, [9, 10])], []⟩) 1 k) L (Env.lay .nil [1, 2, 9, 10, 11] [(.pv v0), (.pv v1), (.pv v2), (.pv v3), (.pv v4)]) [.var 6 (.pv v5)]) (by kernel_rfl) (d45_1_i C L k L v0 v1 v2 v3 v4 v5)
noncomputable def d45_5 (C : Kallee) (L : Nat)  (v0 : PV) (v1 : PV) (v2 : PV) : Option PV := (some (.tup [v0, v1, (.sc (.int Go.IntKind.i64 0))]))
theorem e45_5 (C : Kallee) (L : Nat) (v0 : PV) (v1 : PV) (v2 : PV) : execR Try.prog C hh L 45 (cAt (bodyOf Try.f45) [1, 1, 1, 1, 1]) (Env.lay .nil [9, 10] [(.pv v0), (.pv v1)]) [.var 6 (.pv v2)] (endP Try.prog Try.f45) = d45_5 C L v0 v1 v2 := by kernel_rfl
noncomputable def g45_0 (C : Kallee) (X1 : PV → PV → PV → PV → PV → PV → Option PV)  (v0 : PV) (v1 : PV) (v2 : PV) : Option PV := (ck (PV.hasLay 6 v0) ((ob (callD C.pure (.clo 35 [] []) [v0] false) fun v104 => (ob (unPV Try.prog .not v104) fun v105 => (cb v105 (some (.tup [(.sc (.int Go.IntKind.i64 0)), (.sc (.int Go.IntKind.i64 0)), (.sc (.int Go.IntKind.i64 2))])) (ob (PV.at_ 6 3 0 v0) fun v106 => (ob (callD C.pure (.clo 69 [] []) [v106, v2] false) fun v107 => (ob (binPV Try.prog .lss 3 (.tmp 18) (.const (.int Go.IntKind.i64 0)) v107 (.sc (.int Go.IntKind.i64 0))) fun v108 => (cb v108 (some (.tup [(.sc (.int Go.IntKind.i64 0)), (.sc (.int Go.IntKind.i64 0)), (.sc (.int Go.IntKind.i64 141))])) (X1 v1 v2 (.sc (.int Go.IntKind.i64 0)) (.sc (.int Go.IntKind.i64 0)) (.sc (.int Go.IntKind.i64 0)) v0))))))))))
noncomputable def d45_0 (C : Kallee) (L : Nat)  (v0 : PV) (v1 : PV) (v2 : PV) : Option PV := g45_0 C (fun v0 v1 v2 v3 v4 v5 => d45_1 C L (fun v0 v1 v2 => d45_5 C L v0 v1 v2) v0 v1 v2 v3 v4 v5) v0 v1 v2
theorem e45_0 (C : Kallee) (L : Nat) (v0 : PV) (v1 : PV) (v2 : PV) : execR Try.prog C hh L 45 (cAt (bodyOf Try.f45) []) (Env.ofArgs [.pv v0, .pv v1, .pv v2] 0 .nil) [] (endP Try.prog Try.f45) = d45_0 C L v0 v1 v2 :=
  Eq.trans (b := g45_0 C (fun v0 v1 v2 v3 v4 v5 => execR Try.prog C hh L 45 (cAt (bodyOf Try.f45) [1, 1, 1, 1, 0, 1, 0]) (Env.lay .nil [1, 2, 9, 10, 11] [(.pv v0), (.pv v1), (.pv v2), (.pv v3), (.pv v4)]) [.var 6 (.pv v5)] (leaveB 0 (nextT Try.prog C hh L 45 (cAt (bodyOf Try.f45) [1, 1, 1, 1, 1]) (endP Try.prog Try.f45)))) v0 v1 v2) (by kernel_rfl) (cg1 (fun X1 => g45_0 C X1 v0 v1 v2) (funext fun v0 => funext fun v1 => funext fun v2 => funext fun v3 => funext fun v4 => funext fun v5 => Eq.trans (e45_1 C L (leaveB 0 (nextT Try.prog C hh L 45 (cAt (bodyOf Try.f45) [1, 1, 1, 1, 1]) (endP Try.prog Try.f45))) v0 v1 v2 v3 v4 v5) (cg1 (fun ke0 => d45_1 C L ke0 v0 v1 v2 v3 v4 v5) (funext fun v0 => funext fun v1 => funext fun v2 => (Eq.trans (b := execR Try.prog C hh L 45 (cAt (bodyOf Try.f45) [1, 1, 1, 1, 1]) (Env.lay .nil [9, 10] [(.pv v0), (.pv v1)]) [.var 6 (.pv v2)] (endP Try.prog Try.f45)) (by kernel_rfl) (e45_5 C L v0 v1 v2))))))
theorem r45 (C : Kallee) (L : Nat) (v0 : PV) (v1 : PV) (v2 : PV) : bodyPR Try.prog C hh L 45 [v0, v1, v2] = d45_0 C L v0 v1 v2 := Eq.trans (bodyPR_eq (c := cAt (bodyOf Try.f45) []) [v0, v1, v2] Try.func45 (by kernel_rfl) (by kernel_rfl)) (e45_0 C L v0 v1 v2)

end
end Go.Lite

namespace Go.Lite
open Go Go.Proofs
set_option maxRecDepth 1000000
set_option linter.unusedVariables false
noncomputable section
/-! ## 46: muster/musterref10.List -/
noncomputable def d46_2 {R : Type} (C : Kallee) (L : Nat) (kg : PV → PV → List PV → Option R) (ke0 : List PV → Option R) (v0 : PV) (v1 : PV) (x2 : List PV) : Option R := (ob (binPV Try.prog .lss 3 (.tmp 5) (.const (.int Go.IntKind.i64 32)) v1 (.sc (.int Go.IntKind.i64 32))) fun v103 => (cb v103 (ob (callD C.pure (.clo 72 [] []) [v0, v1] false) fun v104 => (cb v104 (ob (buildSliceAV Try.prog 22 1 [(0, v1)]) fun v105 => (oxs (appendTo Try.prog 22 22 0 x2 v105) fun x106 => (ob (binPV Try.prog .add 3 (.tmp 7) (.const (.int Go.IntKind.i64 1)) v1 (.sc (.int Go.IntKind.i64 1))) fun v107 => (kg v0 v107 x106)))) (ob (binPV Try.prog .add 3 (.tmp 7) (.const (.int Go.IntKind.i64 1)) v1 (.sc (.int Go.IntKind.i64 1))) fun v108 => (kg v0 v108 x2)))) (ke0 x2)))
theorem e46_2 {R : Type} (C : Kallee) (L : Nat) (k : Ex → Env → Store → Option R) (gg : Env → Store → Option R) (v0 : PV) (v1 : PV) (x2 : List PV) : execR Try.prog C hh L 46 (cAt (bodyOf Try.f46) [1, 1, 0, 1, 0, 0]) (Env.lay .nil [0, 3, 4] [(.pv v0), (.arr 0), (.pv v1)]) [.arr 0 false x2] (loopK gg [0, 3, 4] 1 (prune (some ⟨[0, 3, 4], [], [(0, [3])], []⟩) 1 k)) = d46_2 C L (fun v0 v1 x2 => gg (Env.lay .nil [0, 3, 4] [(.pv v0), (.arr 0), (.pv v1)]) [.arr 0 false x2]) (fun x0 => k (.exit 0) (Env.lay .nil [3] [(.arr 0)]) [.arr 0 false x0]) v0 v1 x2 := by kernel_rfl
noncomputable def d46_1i {R : Type} (C : Kallee) (L : Nat) (ke0 : List PV → Option R) : Nat → PV → PV → List PV → Option R
  | 0, _, _, _ => none
  | N + 1, v0, v1, x2 => d46_2 C L (fun v0 v1 x2 => d46_1i C L ke0 N v0 v1 x2) ke0 v0 v1 x2
noncomputable def d46_1 {R : Type} (C : Kallee) (L : Nat) (ke0 : List PV → Option R) (v0 : PV) (v1 : PV) (x2 : List PV) : Option R := d46_1i C L ke0 L v0 v1 x2
theorem d46_1_i {R : Type} (C : Kallee) (L : Nat) (k : Ex → Env → Store → Option R) (N : Nat) (v0 : PV) (v1 : PV) (x2 : List PV) : iter (execR Try.prog C hh L 46 (cAt (bodyOf Try.f46) [1, 1, 0, 1, 0, 0])) [0, 3, 4] 1 (prune (some ⟨[0, 3, 4], [], [(0, [3])], []⟩) 1 k) N (Env.lay .nil [0, 3, 4] [(.pv v0), (.arr 0), (.pv v1)]) [.arr 0 false x2] = d46_1i C L (fun x0 => k (.exit 0) (Env.lay .nil [3] [(.arr 0)]) [.arr 0 false x0]) N v0 v1 x2 := by
  induction N generalizing v0 v1 x2 with
  | zero => rfl
  | succ N ih => exact Eq.trans (b := execR Try.prog C hh L 46 (cAt (bodyOf Try.f46) [1, 1, 0, 1, 0, 0]) (Env.lay .nil [0, 3, 4] [(.pv v0), (.arr 0), (.pv v1)]) [.arr 0 false x2] (loopK (fun e s => iter (execR Try.prog C hh L 46 (cAt (bodyOf Try.f46) [1, 1, 0, 1, 0, 0])) [0, 3, 4] 1 (prune (some ⟨[0, 3, 4], [], [(0, [3])], []⟩) 1 k) N e s) [0, 3, 4] 1 (prune (some ⟨[0, 3, 4], [], [(0, [3])], []⟩) 1 k))) (by kernel_rfl) <| Eq.trans (e46_2 C L k (fun e s => iter (execR Try.prog C hh L 46 (cAt (bodyOf Try.f46) [1, 1, 0, 1, 0, 0])) [0, 3, 4] 1 (prune (some ⟨[0, 3, 4], [], [(0, [3])], []⟩) 1 k) N e s) v0 v1 x2) (congrArg (fun kg => d46_2 C L kg (fun x0 => k (.exit 0) (Env.lay .nil [3] [(.arr 0)]) [.arr 0 false x0]) v0 v1 x2) (funext fun v0 => funext fun v1 => funext fun x2 => ih v0 v1 x2))
theorem e46_1 {R : Type} (C : Kallee) (L : Nat) (k : Ex → Env → Store → Option R) (v0 : PV) (v1 : PV) (x2 : List PV) : execR Try.prog C hh L 46 (cAt (bodyOf Try.f46) [1, 1, 0, 1, 0]) (Env.lay .nil [0, 3, 4] [(.pv v0), (.arr 0), (.pv v1)]) [.arr 0 false x2] k = d46_1 C L (fun x0 => k (.exit 0) (Env.lay .nil [3] [(.arr 0)]) [.arr 0 false x0]) v0 v1 x2 :=
  Eq.trans (b := iter (execR Try.prog C hh L 46 (cAt (bodyOf Try.f46) [1, 1, 0, 1, 0, 0])) [0, 3, 4] 1 (prune (some ⟨[0, 3, 4], [], [(0, [3])], []⟩) 1 k) L (Env.lay .nil [0, 3, 4] [(.pv v0), (.arr 0), (.pv v1)]) [.arr 0 false x2]) (by kernel_rfl) (d46_1_i C L k L v0 v1 x2)
noncomputable def d46_3 (C : Kallee) (L : Nat)  (x0 : List PV) : Option PV := (some (.list 0 false x0))
theorem e46_3 (C : Kallee) (L : Nat) (x0 : List PV) : execR Try.prog C hh L 46 (cAt (bodyOf Try.f46) [1, 1, 1]) (Env.lay .nil [3] [(.arr 0)]) [.arr 0 false x0] (endP Try.prog Try.f46) = d46_3 C L x0 := by kernel_rfl
noncomputable def g46_0 (C : Kallee) (X1 : PV → PV → List PV → Option PV)  (v0 : PV) : Option PV := (X1 v0 (.sc (.int Go.IntKind.i64 0)) [])
noncomputable def d46_0 (C : Kallee) (L : Nat)  (v0 : PV) : Option PV := g46_0 C (fun v0 v1 x2 => d46_1 C L (fun x0 => d46_3 C L x0) v0 v1 x2) v0
theorem e46_0 (C : Kallee) (L : Nat) (v0 : PV) : execR Try.prog C hh L 46 (cAt (bodyOf Try.f46) []) (Env.ofArgs [.pv v0] 0 .nil) [] (endP Try.prog Try.f46) = d46_0 C L v0 :=
  Eq.trans (b := g46_0 C (fun v0 v1 x2 => execR Try.prog C hh L 46 (cAt (bodyOf Try.f46) [1, 1, 0, 1, 0]) (Env.lay .nil [0, 3, 4] [(.pv v0), (.arr 0), (.pv v1)]) [.arr 0 false x2] (leaveB 0 (nextT Try.prog C hh L 46 (cAt (bodyOf Try.f46) [1, 1, 1]) (endP Try.prog Try.f46)))) v0) (by kernel_rfl) (cg1 (fun X1 => g46_0 C X1 v0) (funext fun v0 => funext fun v1 => funext fun x2 => Eq.trans (e46_1 C L (leaveB 0 (nextT Try.prog C hh L 46 (cAt (bodyOf Try.f46) [1, 1, 1]) (endP Try.prog Try.f46))) v0 v1 x2) (cg1 (fun ke0 => d46_1 C L ke0 v0 v1 x2) (funext fun x0 => (Eq.trans (b := execR Try.prog C hh L 46 (cAt (bodyOf Try.f46) [1, 1, 1]) (Env.lay .nil [3] [(.arr 0)]) [.arr 0 false x0] (endP Try.prog Try.f46)) (by kernel_rfl) (e46_3 C L x0))))))
theorem r46 (C : Kallee) (L : Nat) (v0 : PV) : bodyPR Try.prog C hh L 46 [v0] = d46_0 C L v0 := Eq.trans (bodyPR_eq (c := cAt (bodyOf Try.f46) []) [v0] Try.func46 (by kernel_rfl) (by kernel_rfl)) (e46_0 C L v0)

end
end Go.Lite

namespace Go.Lite
open Go Go.Proofs
set_option maxRecDepth 1000000
set_option linter.unusedVariables false
noncomputable section
/-! ## 47: muster/musterref13.Able -/
noncomputable def d47_3 {R : Type} (C : Kallee) (L : Nat) (kn : PV → PV → PV → PV → PV → List PV → Option R) (v0 : PV) (v1 : PV) (v2 : PV) (v3 : PV) (x4 : List PV) : Option R := (ob (callD C.pure (.clo 72 [] []) [v1, v3] false) fun v108 => (gcase true v108 (ob (indexAddrPV Try.prog 60 v0 v3) fun v109 => (ob (fieldAddrPV Try.prog 87 v109 0) fun v110 => (ob (loadPV Try.prog 3 v110) fun v111 => (ob (binPV Try.prog .geq 3 (.tmp 29) (.tmp 30) v111 v2) fun v112 => (kn v0 v1 v2 v3 v112 x4))))) (kn v0 v1 v2 v3 (.sc (.bool false)) x4) none))
theorem e47_3 {R : Type} (C : Kallee) (L : Nat) (k : Ex → Env → Store → Option R) (v0 : PV) (v1 : PV) (v2 : PV) (v3 : PV) (x4 : List PV) : execR Try.prog C hh L 47 (cAt (bodyOf Try.f47) [1, 1, 0, 1, 0, 0, 1, 0, 0, 0]) (Env.lay .nil [0, 1, 2, 7, 8] [(.pv v0), (.pv v1), (.pv v2), (.arr 0), (.pv v3)]) [.arr 0 false x4] k = d47_3 C L (fun v0 v1 v2 v3 v4 x5 => k .normal (Env.lay .nil [0, 1, 2, 7, 8, 32] [(.pv v0), (.pv v1), (.pv v2), (.arr 0), (.pv v3), (.pv v4)]) [.arr 0 false x5]) v0 v1 v2 v3 x4 := by kernel_rfl
noncomputable def d47_4 {R : Type} (C : Kallee) (L : Nat) (kg : PV → PV → PV → PV → List PV → Option R) (v0 : PV) (v1 : PV) (v2 : PV) (v3 : PV) (v4 : PV) (x5 : List PV) : Option R := (cb v4 (ob (buildSliceAV Try.prog 22 1 [(0, v3)]) fun v115 => (oxs (appendTo Try.prog 22 22 0 x5 v115) fun x116 => (ob (binPV Try.prog .add 3 (.tmp 19) (.const (.int Go.IntKind.i64 1)) v3 (.sc (.int Go.IntKind.i64 1))) fun v117 => (kg v0 v1 v2 v117 x116)))) (ob (binPV Try.prog .add 3 (.tmp 19) (.const (.int Go.IntKind.i64 1)) v3 (.sc (.int Go.IntKind.i64 1))) fun v118 => (kg v0 v1 v2 v118 x5)))
theorem e47_4 {R : Type} (C : Kallee) (L : Nat) (k : Ex → Env → Store → Option R) (gg : Env → Store → Option R) (v0 : PV) (v1 : PV) (v2 : PV) (v3 : PV) (v4 : PV) (x5 : List PV) : execR Try.prog C hh L 47 (cAt (bodyOf Try.f47) [1, 1, 0, 1, 0, 0, 1, 0, 0, 1]) (Env.lay .nil [0, 1, 2, 7, 8, 32] [(.pv v0), (.pv v1), (.pv v2), (.arr 0), (.pv v3), (.pv v4)]) [.arr 0 false x5] (leaveB 1 (nextT Try.prog C hh L 47 (cAt (bodyOf Try.f47) [1, 1, 0, 1, 0, 0, 1, 1]) (loopK gg [0, 1, 2, 7, 8] 1 (prune (some ⟨[0, 1, 2, 7, 8], [], [(0, [7])], []⟩) 1 k)))) = d47_4 C L (fun v0 v1 v2 v3 x4 => gg (Env.lay .nil [0, 1, 2, 7, 8] [(.pv v0), (.pv v1), (.pv v2), (.arr 0), (.pv v3)]) [.arr 0 false x4]) v0 v1 v2 v3 v4 x5 := by kernel_rfl
noncomputable def g47_2 {R : Type} (C : Kallee) (X1 : PV → PV → PV → PV → List PV → Option R) (ke0 : List PV → Option R) (kg : PV → PV → PV → PV → List PV → Option R) (v0 : PV) (v1 : PV) (v2 : PV) (v3 : PV) (x4 : List PV) : Option R := (ob ((lenPV Try.prog 60 v0).map fun n => .sc (goInt n)) fun v105 => (ob (binPV Try.prog .lss 3 (.tmp 11) (.tmp 13) v3 v105) fun v106 => (gcase true v106 (ob (binPV Try.prog .lss 3 (.tmp 16) (.const (.int Go.IntKind.i64 32)) v3 (.sc (.int Go.IntKind.i64 32))) fun v107 => (cb v107 (X1 v0 v1 v2 v3 x4) (ke0 x4))) (ke0 x4) none)))
noncomputable def d47_2 {R : Type} (C : Kallee) (L : Nat) (ke0 : List PV → Option R) (kg : PV → PV → PV → PV → List PV → Option R) (v0 : PV) (v1 : PV) (v2 : PV) (v3 : PV) (x4 : List PV) : Option R := g47_2 C (fun v0 v1 v2 v3 x4 => d47_3 C L (fun v0 v1 v2 v3 v4 x5 => d47_4 C L kg v0 v1 v2 v3 v4 x5) v0 v1 v2 v3 x4) ke0 kg v0 v1 v2 v3 x4
theorem e47_2 {R : Type} (C : Kallee) (L : Nat) (k : Ex → Env → Store → Option R) (gg : Env → Store → Option R) (v0 : PV) (v1 : PV) (v2 : PV) (v3 : PV) (x4 : List PV) : execR Try.prog C hh L 47 (cAt (bodyOf Try.f47) [1, 1, 0, 1, 0, 0]) (Env.lay .nil [0, 1, 2, 7, 8] [(.pv v0), (.pv v1), (.pv v2), (.arr 0), (.pv v3)]) [.arr 0 false x4] (loopK gg [0, 1, 2, 7, 8] 1 (prune (some ⟨[0, 1, 2, 7, 8], [], [(0, [7])], []⟩) 1 k)) = d47_2 C L (fun x0 => k (.exit 0) (Env.lay .nil [7] [(.arr 0)]) [.arr 0 false x0]) (fun v0 v1 v2 v3 x4 => gg (Env.lay .nil [0, 1, 2, 7, 8] [(.pv v0), (.pv v1), (.pv v2), (.arr 0), (.pv v3)]) [.arr 0 false x4]) v0 v1 v2 v3 x4 :=
  Eq.trans (b := g47_2 C (fun v0 v1 v2 v3 x4 => execR Try.prog C hh L 47 (cAt (bodyOf Try.f47) [1, 1, 0, 1, 0, 0, 1, 0, 0, 0]) (Env.lay .nil [0, 1, 2, 7, 8] [(.pv v0), (.pv v1), (.pv v2), (.arr 0), (.pv v3)]) [.arr 0 false x4] (nextT Try.prog C hh L 47 (cAt (bodyOf Try.f47) [1, 1, 0, 1, 0, 0, 1, 0, 0, 1]) (leaveB 1 (nextT Try.prog C hh L 47 (cAt (bodyOf Try.f47) [1, 1, 0, 1, 0, 0, 1, 1]) (loopK gg [0, 1, 2, 7, 8] 1 (prune (some ⟨[0, 1, 2, 7, 8], [], [(0, [7])], []⟩) 1 k)))))) (fun x0 => k (.exit 0) (Env.lay .nil [7] [(.arr 0)]) [.arr 0 false x0]) (fun v0 v1 v2 v3 x4 => gg (Env.lay .nil [0, 1, 2, 7, 8] [(.pv v0), (.pv v1), (.pv v2), (.arr 0), (.pv v3)]) [.arr 0 false x4]) v0 v1 v2 v3 x4) (by kernel_rfl) (cg1 (fun X1 => g47_2 C X1 (fun x0 => k (.exit 0) (Env.lay .nil [7] [(.arr 0)]) [.arr 0 false x0]) (fun v0 v1 v2 v3 x4 => gg (Env.lay .nil [0, 1, 2, 7, 8] [(.pv v0), (.pv v1), (.pv v2), (.arr 0), (.pv v3)]) [.arr 0 false x4]) v0 v1 v2 v3 x4) (funext fun v0 => funext fun v1 => funext fun v2 => funext fun v3 => funext fun x4 => Eq.trans (e47_3 C L (nextT Try.prog C hh L 47 (cAt (bodyOf Try.f47) [1, 1, 0, 1, 0, 0, 1, 0, 0, 1]) (leaveB 1 (nextT Try.prog C hh L 47 (cAt (bodyOf Try.f47) [1, 1, 0, 1, 0, 0, 1, 1]) (loopK gg [0, 1, 2, 7, 8] 1 (prune (some ⟨[0, 1, 2, 7, 8], [], [(0, [7])], []⟩) 1 k))))) v0 v1 v2 v3 x4) (cg1 (fun kn => d47_3 C L kn v0 v1 v2 v3 x4) (funext fun v0 => funext fun v1 => funext fun v2 => funext fun v3 => funext fun v4 => funext fun x5 => (Eq.trans (b := execR Try.prog C hh L 47 (cAt (bodyOf Try.f47) [1, 1, 0, 1, 0, 0, 1, 0, 0, 1]) (Env.lay .nil [0, 1, 2, 7, 8, 32] [(.pv v0), (.pv v1), (.pv v2), (.arr 0), (.pv v3), (.pv v4)]) [.arr 0 false x5] (leaveB 1 (nextT Try.prog C hh L 47 (cAt (bodyOf Try.f47) [1, 1, 0, 1, 0, 0, 1, 1]) (loopK gg [0, 1, 2, 7, 8] 1 (prune (some ⟨[0, 1, 2, 7, 8], [], [(0, [7])], []⟩) 1 k))))) (by kernel_rfl) (e47_4 C L k gg v0 v1 v2 v3 v4 x5))))))
noncomputable def d47_1i {R : Type} (C : Kallee) (L : Nat) (ke0 : List PV → Option R) : Nat → PV → PV → PV → PV → List PV → Option R
  | 0, _, _, _, _, _ => none
  | N + 1, v0, v1, v2, v3, x4 => d47_2 C L ke0 (fun v0 v1 v2 v3 x4 => d47_1i C L ke0 N v0 v1 v2 v3 x4) v0 v1 v2 v3 x4
noncomputable def d47_1 {R : Type} (C : Kallee) (L : Nat) (ke0 : List PV → Option R) (v0 : PV) (v1 : PV) (v2 : PV) (v3 : PV) (x4 : List PV) : Option R := d47_1i C L ke0 L v0 v1 v2 v3 x4
theorem d47_1_i {R : Type} (C : Kallee) (L : Nat) (k : Ex → Env → Store → Option R) (N : Nat) (v0 : PV) (v1 : PV) (v2 : PV) (v3 : PV) (x4 : List PV) : iter (execR Try.prog C hh L 47 (cAt (bodyOf Try.f47) [1, 1, 0, 1, 0, 0])) [0, 1, 2, 7, 8] 1 (prune (some ⟨[0, 1, 2, 7, 8], [], [(0, [7])], []⟩) 1 k) N (Env.lay .nil [0, 1, 2, 7, 8] [(.pv v0), (.pv v1), (.pv v2), (.arr 0), (.pv v3)]) [.arr 0 false x4] = d47_1i C L (fun x0 => k (.exit 0) (Env.lay .nil [7] [(.arr 0)]) [.arr 0 false x0]) N v0 v1 v2 v3 x4 := by
  induction N generalizing v0 v1 v2 v3 x4 with
  | zero => rfl
  | succ N ih => exact Eq.trans (b := execR Try.prog C hh L 47 (cAt (bodyOf Try.f47) [1, 1, 0, 1, 0, 0]) (Env.lay .nil [0, 1, 2, 7, 8] [(.pv v0), (.pv v1), (.pv v2), (.arr 0), (.pv v3)]) [.arr 0 false x4] (loopK (fun e s => iter (execR Try.prog C hh L 47 (cAt (bodyOf Try.f47) [1, 1, 0, 1, 0, 0])) [0, 1, 2, 7, 8] 1 (prune (some ⟨[0, 1, 2, 7, 8], [], [(0, [7])], []⟩) 1 k) N e s) [0, 1, 2, 7, 8] 1 (prune (some ⟨[0, 1, 2, 7, 8], [], [(0, [7])], []⟩) 1 k))) (by kernel_rfl) <| Eq.trans (e47_2 C L k (fun e s => iter (execR Try.prog C hh L 47 (cAt (bodyOf Try.f47) [1, 1, 0, 1, 0, 0])) [0, 1, 2, 7, 8] 1 (prune (some ⟨[0, 1, 2, 7, 8], [], [(0, [7])], []⟩) 1 k) N e s) v0 v1 v2 v3 x4) (congrArg (fun kg => d47_2 C L (fun x0 => k (.exit 0) (Env.lay .nil [7] [(.arr 0)]) [.arr 0 false x0]) kg v0 v1 v2 v3 x4) (funext fun v0 => funext fun v1 => funext fun v2 => funext fun v3 => funext fun x4 => ih v0 v1 v2 v3 x4))
theorem e47_1 {R : Type} (C : Kallee) (L : Nat) (k : Ex → Env → Store → Option R) (v0 : PV) (v1 : PV) (v2 : PV) (v3 : PV) (x4 : List PV) : execR Try.prog C hh L 47 (cAt (bodyOf Try.f47) [1, 1, 0, 1, 0]) (Env.lay .nil [0, 1, 2, 7, 8] [(.pv v0), (.pv v1), (.pv v2), (.arr 0), (.pv v3)]) [.arr 0 false x4] k = d47_1 C L (fun x0 => k (.exit 0) (Env.lay .nil [7] [(.arr 0)]) [.arr 0 false x0]) v0 v1 v2 v3 x4 :=
  Eq.trans (b := iter (execR Try.prog C hh L 47 (cAt (bodyOf Try.f47) [1, 1, 0, 1, 0, 0])) [0, 1, 2, 7, 8] 1 (prune (some ⟨[0, 1, 2, 7, 8], [], [(0, [7])], []⟩) 1 k) L (Env.lay .nil [0, 1, 2, 7, 8] [(.pv v0), (.pv v1), (.pv v2), (.arr 0), (.pv v3)]) [.arr 0 false x4]) (by kernel_rfl) (d47_1_i C L k L v0 v1 v2 v3 x4)
noncomputable def d47_5 (C : Kallee) (L : Nat)  (x0 : List PV) : Option PV := (ob (callD C.pure (.clo 71 [] []) [(.list 0 false x0)] false) fun v119 => (ob (extractPV v119 0) fun v120 => (ob (extractPV v119 1) fun v121 => (some v120))))
theorem e47_5 (C : Kallee) (L : Nat) (x0 : List PV) : execR Try.prog C hh L 47 (cAt (bodyOf Try.f47) [1, 1, 1]) (Env.lay .nil [7] [(.arr 0)]) [.arr 0 false x0] (endP Try.prog Try.f47) = d47_5 C L x0 := by kernel_rfl
noncomputable def g47_0 (C : Kallee) (X1 : PV → PV → PV → PV → List PV → Option PV)  (v0 : PV) (v1 : PV) (v2 : PV) : Option PV := (X1 v0 v1 v2 (.sc (.int Go.IntKind.i64 0)) [])
noncomputable def d47_0 (C : Kallee) (L : Nat)  (v0 : PV) (v1 : PV) (v2 : PV) : Option PV := g47_0 C (fun v0 v1 v2 v3 x4 => d47_1 C L (fun x0 => d47_5 C L x0) v0 v1 v2 v3 x4) v0 v1 v2
theorem e47_0 (C : Kallee) (L : Nat) (v0 : PV) (v1 : PV) (v2 : PV) : execR Try.prog C hh L 47 (cAt (bodyOf Try.f47) []) (Env.ofArgs [.pv v0, .pv v1, .pv v2] 0 .nil) [] (endP Try.prog Try.f47) = d47_0 C L v0 v1 v2 :=
  Eq.trans (b := g47_0 C (fun v0 v1 v2 v3 x4 => execR Try.prog C hh L 47 (cAt (bodyOf Try.f47) [1, 1, 0, 1, 0]) (Env.lay .nil [0, 1, 2, 7, 8] [(.pv v0), (.pv v1), (.pv v2), (.arr 0), (.pv v3)]) [.arr 0 false x4] (leaveB 0 (nextT Try.prog C hh L 47 (cAt (bodyOf Try.f47) [1, 1, 1]) (endP Try.prog Try.f47)))) v0 v1 v2) (by kernel_rfl) (cg1 (fun X1 => g47_0 C X1 v0 v1 v2) (funext fun v0 => funext fun v1 => funext fun v2 => funext fun v3 => funext fun x4 => Eq.trans (e47_1 C L (leaveB 0 (nextT Try.prog C hh L 47 (cAt (bodyOf Try.f47) [1, 1, 1]) (endP Try.prog Try.f47))) v0 v1 v2 v3 x4) (cg1 (fun ke0 => d47_1 C L ke0 v0 v1 v2 v3 x4) (funext fun x0 => (Eq.trans (b := execR Try.prog C hh L 47 (cAt (bodyOf Try.f47) [1, 1, 1]) (Env.lay .nil [7] [(.arr 0)]) [.arr 0 false x0] (endP Try.prog Try.f47)) (by kernel_rfl) (e47_5 C L x0))))))
theorem r47 (C : Kallee) (L : Nat) (v0 : PV) (v1 : PV) (v2 : PV) : bodyPR Try.prog C hh L 47 [v0, v1, v2] = d47_0 C L v0 v1 v2 := Eq.trans (bodyPR_eq (c := cAt (bodyOf Try.f47) []) [v0, v1, v2] Try.func47 (by kernel_rfl) (by kernel_rfl)) (e47_0 C L v0 v1 v2)

end
end Go.Lite

namespace Go.Lite
open Go Go.Proofs
set_option maxRecDepth 1000000
set_option linter.unusedVariables false
noncomputable section
/-! ## 48: muster/tree.Path -/
noncomputable def d48_0 (C : Kallee) (L : Nat)  (v0 : PV) (v1 : PV) : Option PV := (ob (callD C.pure (.clo 58 [] []) [v0, v1] false) fun v103 => (ob (extractPV v103 0) fun v104 => (ob (extractPV v103 1) fun v105 => (ob (binPV Try.prog .neq 38 (.tmp 14) (.const (.int Go.IntKind.i64 0)) v105 (.sc (.int Go.IntKind.i64 0))) fun v106 => (cb v106 (some (.tup [(.sc (.slice none 0 0)), v105])) (ob (callD C.pure (.clo 59 [] []) [v0, v104] false) fun v107 => (some (.tup [v107, (.sc (.int Go.IntKind.i64 0))]))))))))
theorem e48_0 (C : Kallee) (L : Nat) (v0 : PV) (v1 : PV) : execR Try.prog C hh L 48 (cAt (bodyOf Try.f48) []) (Env.ofArgs [.pv v0, .pv v1] 0 .nil) [] (endP Try.prog Try.f48) = d48_0 C L v0 v1 := by kernel_rfl
theorem r48 (C : Kallee) (L : Nat) (v0 : PV) (v1 : PV) : bodyPR Try.prog C hh L 48 [v0, v1] = d48_0 C L v0 v1 := Eq.trans (bodyPR_eq (c := cAt (bodyOf Try.f48) []) [v0, v1] Try.func48 (by kernel_rfl) (by kernel_rfl)) (e48_0 C L v0 v1)

end
end Go.Lite

namespace Go.Lite
open Go Go.Proofs
set_option maxRecDepth 1000000
set_option linter.unusedVariables false
noncomputable section
/-! ## 49: slices.ContainsFunc[[]string,string] -/
noncomputable def d49_0 (C : Kallee) (L : Nat)  (v0 : PV) (v1 : PV) : Option PV := (ob (callD C.pure (.clo 79 [] []) [v0, v1] false) fun v103 => (ob (binPV Try.prog .geq 3 (.tmp 7) (.const (.int Go.IntKind.i64 0)) v103 (.sc (.int Go.IntKind.i64 0))) fun v104 => (some v104)))
theorem e49_0 (C : Kallee) (L : Nat) (v0 : PV) (v1 : PV) : execR Try.prog C hh L 49 (cAt (bodyOf Try.f49) []) (Env.ofArgs [.pv v0, .pv v1] 0 .nil) [] (endP Try.prog Try.f49) = d49_0 C L v0 v1 := by kernel_rfl
theorem r49 (C : Kallee) (L : Nat) (v0 : PV) (v1 : PV) : bodyPR Try.prog C hh L 49 [v0, v1] = d49_0 C L v0 v1 := Eq.trans (bodyPR_eq (c := cAt (bodyOf Try.f49) []) [v0, v1] Try.func49 (by kernel_rfl) (by kernel_rfl)) (e49_0 C L v0 v1)

end
end Go.Lite

namespace Go.Lite
open Go Go.Proofs
set_option maxRecDepth 1000000
set_option linter.unusedVariables false
noncomputable section
/-! ## 50: muster/parts.Admits$1 -/
noncomputable def d50_0 (C : Kallee) (L : Nat)  (v0 : PV) (v1 : PV) : Option PV := (ob (loadPV Try.prog 32 v1) fun v103 => (ob (callD C.pure (.clo 51 [] []) [v103, v0] false) fun v104 => (some v104)))
theorem e50_0 (C : Kallee) (L : Nat) (v0 : PV) (v1 : PV) : execR Try.prog C hh L 50 (cAt (bodyOf Try.f50) []) (Env.ofArgs [.pv v0, .pv v1] 0 .nil) [] (endP Try.prog Try.f50) = d50_0 C L v0 v1 := by kernel_rfl
theorem r50 (C : Kallee) (L : Nat) (v0 : PV) (v1 : PV) : bodyPR Try.prog C hh L 50 [v0, v1] = d50_0 C L v0 v1 := Eq.trans (bodyPR_eq (c := cAt (bodyOf Try.f50) []) [v0, v1] Try.func50 (by kernel_rfl) (by kernel_rfl)) (e50_0 C L v0 v1)

end
end Go.Lite

namespace Go.Lite
open Go Go.Proofs
set_option maxRecDepth 1000000
set_option linter.unusedVariables false
noncomputable section
/-! ## 51: slices.Contains[[]string,string] -/
noncomputable def d51_0 (C : Kallee) (L : Nat)  (v0 : PV) (v1 : PV) : Option PV := (ob (callD C.pure (.clo 80 [] []) [v0, v1] false) fun v103 => (ob (binPV Try.prog .geq 3 (.tmp 7) (.const (.int Go.IntKind.i64 0)) v103 (.sc (.int Go.IntKind.i64 0))) fun v104 => (some v104)))
theorem e51_0 (C : Kallee) (L : Nat) (v0 : PV) (v1 : PV) : execR Try.prog C hh L 51 (cAt (bodyOf Try.f51) []) (Env.ofArgs [.pv v0, .pv v1] 0 .nil) [] (endP Try.prog Try.f51) = d51_0 C L v0 v1 := by kernel_rfl
theorem r51 (C : Kallee) (L : Nat) (v0 : PV) (v1 : PV) : bodyPR Try.prog C hh L 51 [v0, v1] = d51_0 C L v0 v1 := Eq.trans (bodyPR_eq (c := cAt (bodyOf Try.f51) []) [v0, v1] Try.func51 (by kernel_rfl) (by kernel_rfl)) (e51_0 C L v0 v1)

end
end Go.Lite

namespace Go.Lite
open Go Go.Proofs
set_option maxRecDepth 1000000
set_option linter.unusedVariables false
noncomputable section
/-! ## 52: muster/musterref14.Path -/
noncomputable def d52_2 {R : Type} (C : Kallee) (L : Nat) (kg : PV → PV → List PV → Option R) (ke0 : List PV → Option R) (v0 : PV) (v1 : PV) (x2 : List PV) : Option R := (ob (indexAddrPV Try.prog 24 v0 v1) fun v110 => (ob (fieldAddrPV Try.prog 45 v110 1) fun v111 => (ob (loadPV Try.prog 9 v111) fun v112 => (ob (binPV Try.prog .neq 9 (.tmp 26) (.const (.string ⟨#[]⟩)) v112 (.sc (.string ⟨#[]⟩))) fun v113 => (cb v113 (ob (indexAddrPV Try.prog 24 v0 v1) fun v114 => (ob (fieldAddrPV Try.prog 45 v114 1) fun v115 => (ob (loadPV Try.prog 9 v115) fun v116 => (ob (callD C.pure (.clo 44 [] []) [v0, v116] false) fun v117 => (ob (extractPV v117 0) fun v118 => (ob (extractPV v117 1) fun v119 => (ob (indexAddrPV Try.prog 24 v0 v118) fun v120 => (ob (fieldAddrPV Try.prog 45 v120 0) fun v121 => (ob (loadPV Try.prog 9 v121) fun v122 => (ob (buildSliceAV Try.prog 32 1 [(0, v122)]) fun v123 => (oxs (appendTo Try.prog 32 32 0 x2 v123) fun x124 => (kg v0 v118 x124)))))))))))) (ke0 x2))))))
theorem e52_2 {R : Type} (C : Kallee) (L : Nat) (k : Ex → Env → Store → Option R) (gg : Env → Store → Option R) (v0 : PV) (v1 : PV) (x2 : List PV) : execR Try.prog C hh L 52 (cAt (bodyOf Try.f52) [1, 1, 1, 1, 1, 0, 0, 0]) (Env.lay .nil [0, 6, 8] [(.pv v0), (.pv v1), (.arr 0)]) [.arr 0 false x2] (loopK gg [0, 6, 8] 1 (prune (some ⟨[0, 6, 8], [], [(0, [8])], []⟩) 1 k)) = d52_2 C L (fun v0 v1 x2 => gg (Env.lay .nil [0, 6, 8] [(.pv v0), (.pv v1), (.arr 0)]) [.arr 0 false x2]) (fun x0 => k (.exit 0) (Env.lay .nil [8] [(.arr 0)]) [.arr 0 false x0]) v0 v1 x2 := by kernel_rfl
noncomputable def d52_1i {R : Type} (C : Kallee) (L : Nat) (ke0 : List PV → Option R) : Nat → PV → PV → List PV → Option R
  | 0, _, _, _ => none
  | N + 1, v0, v1, x2 => d52_2 C L (fun v0 v1 x2 => d52_1i C L ke0 N v0 v1 x2) ke0 v0 v1 x2
noncomputable def d52_1 {R : Type} (C : Kallee) (L : Nat) (ke0 : List PV → Option R) (v0 : PV) (v1 : PV) (x2 : List PV) : Option R := d52_1i C L ke0 L v0 v1 x2
theorem d52_1_i {R : Type} (C : Kallee) (L : Nat) (k : Ex → Env → Store → Option R) (N : Nat) (v0 : PV) (v1 : PV) (x2 : List PV) : iter (execR Try.prog C hh L 52 (cAt (bodyOf Try.f52) [1, 1, 1, 1, 1, 0, 0, 0])) [0, 6, 8] 1 (prune (some ⟨[0, 6, 8], [], [(0, [8])], []⟩) 1 k) N (Env.lay .nil [0, 6, 8] [(.pv v0), (.pv v1), (.arr 0)]) [.arr 0 false x2] = d52_1i C L (fun x0 => k (.exit 0) (Env.lay .nil [8] [(.arr 0)]) [.arr 0 false x0]) N v0 v1 x2 := by
  induction N generalizing v0 v1 x2 with
  | zero => rfl
  | succ N ih => exact Eq.trans (b := execR Try.prog C hh L 52 (cAt (bodyOf Try.f52) [1, 1, 1, 1, 1, 0, 0, 0]) (Env.lay .nil [0, 6, 8] [(.pv v0), (.pv v1), (.arr 0)]) [.arr 0 false x2] (loopK (fun e s => iter (execR Try.prog C hh L 52 (cAt (bodyOf Try.f52) [1, 1, 1, 1, 1, 0, 0, 0])) [0, 6, 8] 1 (prune (some ⟨[0, 6, 8], [], [(0, [8])], []⟩) 1 k) N e s) [0, 6, 8] 1 (prune (some ⟨[0, 6, 8], [], [(0, [8])], []⟩) 1 k))) (by kernel_rfl) <| Eq.trans (e52_2 C L k (fun e s => iter (execR Try.prog C hh L 52 (cAt (bodyOf Try.f52) [1, 1, 1, 1, 1, 0, 0, 0])) [0, 6, 8] 1 (prune (some ⟨[0, 6, 8], [], [(0, [8])], []⟩) 1 k) N e s) v0 v1 x2) (congrArg (fun kg => d52_2 C L kg (fun x0 => k (.exit 0) (Env.lay .nil [8] [(.arr 0)]) [.arr 0 false x0]) v0 v1 x2) (funext fun v0 => funext fun v1 => funext fun x2 => ih v0 v1 x2))
theorem e52_1 {R : Type} (C : Kallee) (L : Nat) (k : Ex → Env → Store → Option R) (v0 : PV) (v1 : PV) (x2 : List PV) : execR Try.prog C hh L 52 (cAt (bodyOf Try.f52) [1, 1, 1, 1, 1, 0, 0]) (Env.lay .nil [0, 6, 8] [(.pv v0), (.pv v1), (.arr 0)]) [.arr 0 false x2] k = d52_1 C L (fun x0 => k (.exit 0) (Env.lay .nil [8] [(.arr 0)]) [.arr 0 false x0]) v0 v1 x2 :=
  Eq.trans (b := iter (execR Try.prog C hh L 52 (cAt (bodyOf Try.f52) [1, 1, 1, 1, 1, 0, 0, 0])) [0, 6, 8] 1 (prune (some ⟨[0, 6, 8], [], [(0, [8])], []⟩) 1 k) L (Env.lay .nil [0, 6, 8] [(.pv v0), (.pv v1), (.arr 0)]) [.arr 0 false x2]) (by kernel_rfl) (d52_1_i C L k L v0 v1 x2)
noncomputable def d52_3 (C : Kallee) (L : Nat)  (x0 : List PV) : Option PV := (some (.tup [(.list 0 false x0), (.sc (.int Go.IntKind.i64 0))]))
theorem e52_3 (C : Kallee) (L : Nat) (x0 : List PV) : execR Try.prog C hh L 52 (cAt (bodyOf Try.f52) [1, 1, 1, 1, 1, 1]) (Env.lay .nil [8] [(.arr 0)]) [.arr 0 false x0] (endP Try.prog Try.f52) = d52_3 C L x0 := by kernel_rfl
noncomputable def g52_0 (C : Kallee) (X1 : PV → PV → List PV → Option PV)  (v0 : PV) (v1 : PV) : Option PV := (ob (callD C.pure (.clo 70 [] []) [v0] false) fun v103 => (ob (unPV Try.prog .not v103) fun v104 => (cb v104 (some (.tup [(.sc (.slice none 0 0)), (.sc (.int Go.IntKind.i64 2))])) (ob (callD C.pure (.clo 44 [] []) [v0, v1] false) fun v105 => (ob (extractPV v105 0) fun v106 => (ob (extractPV v105 1) fun v107 => (ob (unPV Try.prog .not v107) fun v108 => (cb v108 (some (.tup [(.sc (.slice none 0 0)), (.sc (.int Go.IntKind.i64 141))])) (oxs (buildXs Try.prog 32 0 1 [(0, v1)]) fun x109 => (X1 v0 v106 x109))))))))))
noncomputable def d52_0 (C : Kallee) (L : Nat)  (v0 : PV) (v1 : PV) : Option PV := g52_0 C (fun v0 v1 x2 => d52_1 C L (fun x0 => d52_3 C L x0) v0 v1 x2) v0 v1
theorem e52_0 (C : Kallee) (L : Nat) (v0 : PV) (v1 : PV) : execR Try.prog C hh L 52 (cAt (bodyOf Try.f52) []) (Env.ofArgs [.pv v0, .pv v1] 0 .nil) [] (endP Try.prog Try.f52) = d52_0 C L v0 v1 :=
  Eq.trans (b := g52_0 C (fun v0 v1 x2 => execR Try.prog C hh L 52 (cAt (bodyOf Try.f52) [1, 1, 1, 1, 1, 0, 0]) (Env.lay .nil [0, 6, 8] [(.pv v0), (.pv v1), (.arr 0)]) [.arr 0 false x2] (leaveB 0 (nextT Try.prog C hh L 52 (cAt (bodyOf Try.f52) [1, 1, 1, 1, 1, 1]) (endP Try.prog Try.f52)))) v0 v1) (by kernel_rfl) (cg1 (fun X1 => g52_0 C X1 v0 v1) (funext fun v0 => funext fun v1 => funext fun x2 => Eq.trans (e52_1 C L (leaveB 0 (nextT Try.prog C hh L 52 (cAt (bodyOf Try.f52) [1, 1, 1, 1, 1, 1]) (endP Try.prog Try.f52))) v0 v1 x2) (cg1 (fun ke0 => d52_1 C L ke0 v0 v1 x2) (funext fun x0 => (Eq.trans (b := execR Try.prog C hh L 52 (cAt (bodyOf Try.f52) [1, 1, 1, 1, 1, 1]) (Env.lay .nil [8] [(.arr 0)]) [.arr 0 false x0] (endP Try.prog Try.f52)) (by kernel_rfl) (e52_3 C L x0))))))
theorem r52 (C : Kallee) (L : Nat) (v0 : PV) (v1 : PV) : bodyPR Try.prog C hh L 52 [v0, v1] = d52_0 C L v0 v1 := Eq.trans (bodyPR_eq (c := cAt (bodyOf Try.f52) []) [v0, v1] Try.func52 (by kernel_rfl) (by kernel_rfl)) (e52_0 C L v0 v1)

end
end Go.Lite

namespace Go.Lite
open Go Go.Proofs
set_option maxRecDepth 1000000
set_option linter.unusedVariables false
noncomputable section
/-! ## 53: muster/musterref14.In -/
noncomputable def d53_2 {R : Type} (C : Kallee) (L : Nat) (kr : PV → Option R) (kg : PV → PV → PV → Option R) (ke0 : Option R) (v0 : PV) (v1 : PV) (v2 : PV) : Option R := (ob ((lenPV Try.prog 32 v0).map fun n => .sc (goInt n)) fun v103 => (ob (binPV Try.prog .lss 3 (.tmp 6) (.tmp 8) v2 v103) fun v104 => (cb v104 (ob (indexAddrPV Try.prog 32 v0 v2) fun v105 => (ob (loadPV Try.prog 9 v105) fun v106 => (ob (binPV Try.prog .eql 9 (.tmp 15) (.tmp 16) v106 v1) fun v107 => (cb v107 (kr (.sc (.bool true))) (ob (binPV Try.prog .add 3 (.tmp 10) (.const (.int Go.IntKind.i64 1)) v2 (.sc (.int Go.IntKind.i64 1))) fun v108 => (kg v0 v1 v108)))))) (ke0))))
theorem e53_2 {R : Type} (C : Kallee) (L : Nat) (k : Ex → Env → Store → Option R) (gg : Env → Store → Option R) (v0 : PV) (v1 : PV) (v2 : PV) : execR Try.prog C hh L 53 (cAt (bodyOf Try.f53) [1, 0, 1, 0, 0]) (Env.lay .nil [0, 1, 5] [(.pv v0), (.pv v1), (.pv v2)]) [] (loopK gg [0, 1, 5] 0 (prune (some ⟨[0, 1, 5], [], [(0, [])], [4]⟩) 0 k)) = d53_2 C L (fun v0 => k .ret (Env.lay .nil [4] [(.pv v0)]) []) (fun v0 v1 v2 => gg (Env.lay .nil [0, 1, 5] [(.pv v0), (.pv v1), (.pv v2)]) []) (k (.exit 0) (Env.lay .nil [] []) []) v0 v1 v2 := by kernel_rfl
noncomputable def d53_1i {R : Type} (C : Kallee) (L : Nat) (kr : PV → Option R) (ke0 : Option R) : Nat → PV → PV → PV → Option R
  | 0, _, _, _ => none
  | N + 1, v0, v1, v2 => d53_2 C L kr (fun v0 v1 v2 => d53_1i C L kr ke0 N v0 v1 v2) ke0 v0 v1 v2
noncomputable def d53_1 {R : Type} (C : Kallee) (L : Nat) (kr : PV → Option R) (ke0 : Option R) (v0 : PV) (v1 : PV) (v2 : PV) : Option R := d53_1i C L kr ke0 L v0 v1 v2
theorem d53_1_i {R : Type} (C : Kallee) (L : Nat) (k : Ex → Env → Store → Option R) (N : Nat) (v0 : PV) (v1 : PV) (v2 : PV) : iter (execR Try.prog C hh L 53 (cAt (bodyOf Try.f53) [1, 0, 1, 0, 0])) [0, 1, 5] 0 (prune (some ⟨[0, 1, 5], [], [(0, [])], [4]⟩) 0 k) N (Env.lay .nil [0, 1, 5] [(.pv v0), (.pv v1), (.pv v2)]) [] = d53_1i C L (fun v0 => k .ret (Env.lay .nil [4] [(.pv v0)]) []) (k (.exit 0) (Env.lay .nil [] []) []) N v0 v1 v2 := by
  induction N generalizing v0 v1 v2 with
  | zero => rfl
  | succ N ih => exact Eq.trans (b := execR Try.prog C hh L 53 (cAt (bodyOf Try.f53) [1, 0, 1, 0, 0]) (Env.lay .nil [0, 1, 5] [(.pv v0), (.pv v1), (.pv v2)]) [] (loopK (fun e s => iter (execR Try.prog C hh L 53 (cAt (bodyOf Try.f53) [1, 0, 1, 0, 0])) [0, 1, 5] 0 (prune (some ⟨[0, 1, 5], [], [(0, [])], [4]⟩) 0 k) N e s) [0, 1, 5] 0 (prune (some ⟨[0, 1, 5], [], [(0, [])], [4]⟩) 0 k))) (by kernel_rfl) <| Eq.trans (e53_2 C L k (fun e s => iter (execR Try.prog C hh L 53 (cAt (bodyOf Try.f53) [1, 0, 1, 0, 0])) [0, 1, 5] 0 (prune (some ⟨[0, 1, 5], [], [(0, [])], [4]⟩) 0 k) N e s) v0 v1 v2) (congrArg (fun kg => d53_2 C L (fun v0 => k .ret (Env.lay .nil [4] [(.pv v0)]) []) kg (k (.exit 0) (Env.lay .nil [] []) []) v0 v1 v2) (funext fun v0 => funext fun v1 => funext fun v2 => ih v0 v1 v2))
theorem e53_1 {R : Type} (C : Kallee) (L : Nat) (k : Ex → Env → Store → Option R) (v0 : PV) (v1 : PV) (v2 : PV) : execR Try.prog C hh L 53 (cAt (bodyOf Try.f53) [1, 0, 1, 0]) (Env.lay .nil [0, 1, 5] [(.pv v0), (.pv v1), (.pv v2)]) [] k = d53_1 C L (fun v0 => k .ret (Env.lay .nil [4] [(.pv v0)]) []) (k (.exit 0) (Env.lay .nil [] []) []) v0 v1 v2 :=
  Eq.trans (b := iter (execR Try.prog C hh L 53 (cAt (bodyOf Try.f53) [1, 0, 1, 0, 0])) [0, 1, 5] 0 (prune (some ⟨[0, 1, 5], [], [(0, [])], [4]⟩) 0 k) L (Env.lay .nil [0, 1, 5] [(.pv v0), (.pv v1), (.pv v2)]) []) (by kernel_rfl) (d53_1_i C L k L v0 v1 v2)
noncomputable def d53_3 (C : Kallee) (L : Nat)   : Option PV := (some (.sc (.bool false)))
theorem e53_3 (C : Kallee) (L : Nat)  : execR Try.prog C hh L 53 (cAt (bodyOf Try.f53) [1, 1]) (Env.lay .nil [] []) [] (endP Try.prog Try.f53) = d53_3 C L := by kernel_rfl
noncomputable def g53_0 (C : Kallee) (X1 : PV → PV → PV → Option PV)  (v0 : PV) (v1 : PV) : Option PV := (X1 v0 v1 (.sc (.int Go.IntKind.i64 0)))
noncomputable def d53_0 (C : Kallee) (L : Nat)  (v0 : PV) (v1 : PV) : Option PV := g53_0 C (fun v0 v1 v2 => d53_1 C L (fun v0 => (some v0)) (d53_3 C L) v0 v1 v2) v0 v1
theorem e53_0 (C : Kallee) (L : Nat) (v0 : PV) (v1 : PV) : execR Try.prog C hh L 53 (cAt (bodyOf Try.f53) []) (Env.ofArgs [.pv v0, .pv v1] 0 .nil) [] (endP Try.prog Try.f53) = d53_0 C L v0 v1 :=
  Eq.trans (b := g53_0 C (fun v0 v1 v2 => execR Try.prog C hh L 53 (cAt (bodyOf Try.f53) [1, 0, 1, 0]) (Env.lay .nil [0, 1, 5] [(.pv v0), (.pv v1), (.pv v2)]) [] (leaveB 0 (nextT Try.prog C hh L 53 (cAt (bodyOf Try.f53) [1, 1]) (endP Try.prog Try.f53)))) v0 v1) (by kernel_rfl) (cg1 (fun X1 => g53_0 C X1 v0 v1) (funext fun v0 => funext fun v1 => funext fun v2 => Eq.trans (e53_1 C L (leaveB 0 (nextT Try.prog C hh L 53 (cAt (bodyOf Try.f53) [1, 1]) (endP Try.prog Try.f53))) v0 v1 v2) (cg2 (fun kr ke0 => d53_1 C L kr ke0 v0 v1 v2) (funext fun v0 => (by kernel_rfl)) (Eq.trans (b := execR Try.prog C hh L 53 (cAt (bodyOf Try.f53) [1, 1]) (Env.lay .nil [] []) [] (endP Try.prog Try.f53)) (by kernel_rfl) (e53_3 C L)))))
theorem r53 (C : Kallee) (L : Nat) (v0 : PV) (v1 : PV) : bodyPR Try.prog C hh L 53 [v0, v1] = d53_0 C L v0 v1 := Eq.trans (bodyPR_eq (c := cAt (bodyOf Try.f53) []) [v0, v1] Try.func53 (by kernel_rfl) (by kernel_rfl)) (e53_0 C L v0 v1)

end
end Go.Lite

namespace Go.Lite
open Go Go.Proofs
set_option maxRecDepth 1000000
set_option linter.unusedVariables false
noncomputable section
/-! ## 54: muster/musterkit.SameInts -/
noncomputable def d54_2 {R : Type} (C : Kallee) (L : Nat) (kr : PV → Option R) (kg : PV → PV → PV → Option R) (ke0 : Option R) (v0 : PV) (v1 : PV) (v2 : PV) : Option R := (ob ((lenPV Try.prog 22 v0).map fun n => .sc (goInt n)) fun v106 => (ob (binPV Try.prog .lss 3 (.tmp 11) (.tmp 13) v2 v106) fun v107 => (cb v107 (ob (indexAddrPV Try.prog 22 v0 v2) fun v108 => (ob (loadPV Try.prog 3 v108) fun v109 => (ob (indexAddrPV Try.prog 22 v1 v2) fun v110 => (ob (loadPV Try.prog 3 v110) fun v111 => (ob (binPV Try.prog .neq 3 (.tmp 20) (.tmp 24) v109 v111) fun v112 => (cb v112 (kr (.sc (.bool false))) (ob (binPV Try.prog .add 3 (.tmp 15) (.const (.int Go.IntKind.i64 1)) v2 (.sc (.int Go.IntKind.i64 1))) fun v113 => (kg v0 v1 v113)))))))) (ke0))))
theorem e54_2 {R : Type} (C : Kallee) (L : Nat) (k : Ex → Env → Store → Option R) (gg : Env → Store → Option R) (v0 : PV) (v1 : PV) (v2 : PV) : execR Try.prog C hh L 54 (cAt (bodyOf Try.f54) [1, 1, 0, 1, 0, 0]) (Env.lay .nil [0, 1, 5] [(.pv v0), (.pv v1), (.pv v2)]) [] (loopK gg [0, 1, 5] 0 (prune (some ⟨[0, 1, 5], [], [(0, [])], [4]⟩) 0 k)) = d54_2 C L (fun v0 => k .ret (Env.lay .nil [4] [(.pv v0)]) []) (fun v0 v1 v2 => gg (Env.lay .nil [0, 1, 5] [(.pv v0), (.pv v1), (.pv v2)]) []) (k (.exit 0) (Env.lay .nil [] []) []) v0 v1 v2 := by kernel_rfl
noncomputable def d54_1i {R : Type} (C : Kallee) (L : Nat) (kr : PV → Option R) (ke0 : Option R) : Nat → PV → PV → PV → Option R
  | 0, _, _, _ => none
  | N + 1, v0, v1, v2 => d54_2 C L kr (fun v0 v1 v2 => d54_1i C L kr ke0 N v0 v1 v2) ke0 v0 v1 v2
noncomputable def d54_1 {R : Type} (C : Kallee) (L : Nat) (kr : PV → Option R) (ke0 : Option R) (v0 : PV) (v1 : PV) (v2 : PV) : Option R := d54_1i C L kr ke0 L v0 v1 v2
theorem d54_1_i {R : Type} (C : Kallee) (L : Nat) (k : Ex → Env → Store → Option R) (N : Nat) (v0 : PV) (v1 : PV) (v2 : PV) : iter (execR Try.prog C hh L 54 (cAt (bodyOf Try.f54) [1, 1, 0, 1, 0, 0])) [0, 1, 5] 0 (prune (some ⟨[0, 1, 5], [], [(0, [])], [4]⟩) 0 k) N (Env.lay .nil [0, 1, 5] [(.pv v0), (.pv v1), (.pv v2)]) [] = d54_1i C L (fun v0 => k .ret (Env.lay .nil [4] [(.pv v0)]) []) (k (.exit 0) (Env.lay .nil [] []) []) N v0 v1 v2 := by
  induction N generalizing v0 v1 v2 with
  | zero => rfl
  | succ N ih => exact Eq.trans (b := execR Try.prog C hh L 54 (cAt (bodyOf Try.f54) [1, 1, 0, 1, 0, 0]) (Env.lay .nil [0, 1, 5] [(.pv v0), (.pv v1), (.pv v2)]) [] (loopK (fun e s => iter (execR Try.prog C hh L 54 (cAt (bodyOf Try.f54) [1, 1, 0, 1, 0, 0])) [0, 1, 5] 0 (prune (some ⟨[0, 1, 5], [], [(0, [])], [4]⟩) 0 k) N e s) [0, 1, 5] 0 (prune (some ⟨[0, 1, 5], [], [(0, [])], [4]⟩) 0 k))) (by kernel_rfl) <| Eq.trans (e54_2 C L k (fun e s => iter (execR Try.prog C hh L 54 (cAt (bodyOf Try.f54) [1, 1, 0, 1, 0, 0])) [0, 1, 5] 0 (prune (some ⟨[0, 1, 5], [], [(0, [])], [4]⟩) 0 k) N e s) v0 v1 v2) (congrArg (fun kg => d54_2 C L (fun v0 => k .ret (Env.lay .nil [4] [(.pv v0)]) []) kg (k (.exit 0) (Env.lay .nil [] []) []) v0 v1 v2) (funext fun v0 => funext fun v1 => funext fun v2 => ih v0 v1 v2))
theorem e54_1 {R : Type} (C : Kallee) (L : Nat) (k : Ex → Env → Store → Option R) (v0 : PV) (v1 : PV) (v2 : PV) : execR Try.prog C hh L 54 (cAt (bodyOf Try.f54) [1, 1, 0, 1, 0]) (Env.lay .nil [0, 1, 5] [(.pv v0), (.pv v1), (.pv v2)]) [] k = d54_1 C L (fun v0 => k .ret (Env.lay .nil [4] [(.pv v0)]) []) (k (.exit 0) (Env.lay .nil [] []) []) v0 v1 v2 :=
  Eq.trans (b := iter (execR Try.prog C hh L 54 (cAt (bodyOf Try.f54) [1, 1, 0, 1, 0, 0])) [0, 1, 5] 0 (prune (some ⟨[0, 1, 5], [], [(0, [])], [4]⟩) 0 k) L (Env.lay .nil [0, 1, 5] [(.pv v0), (.pv v1), (.pv v2)]) []) (by kernel_rfl) (d54_1_i C L k L v0 v1 v2)
noncomputable def d54_3 (C : Kallee) (L : Nat)   : Option PV := (some (.sc (.bool true)))
theorem e54_3 (C : Kallee) (L : Nat)  : execR Try.prog C hh L 54 (cAt (bodyOf Try.f54) [1, 1, 1]) (Env.lay .nil [] []) [] (endP Try.prog Try.f54) = d54_3 C L := by kernel_rfl
noncomputable def g54_0 (C : Kallee) (X1 : PV → PV → PV → Option PV)  (v0 : PV) (v1 : PV) : Option PV := (ob ((lenPV Try.prog 22 v0).map fun n => .sc (goInt n)) fun v103 => (ob ((lenPV Try.prog 22 v1).map fun n => .sc (goInt n)) fun v104 => (ob (binPV Try.prog .neq 3 (.tmp 7) (.tmp 9) v103 v104) fun v105 => (cb v105 (some (.sc (.bool false))) (X1 v0 v1 (.sc (.int Go.IntKind.i64 0)))))))
noncomputable def d54_0 (C : Kallee) (L : Nat)  (v0 : PV) (v1 : PV) : Option PV := g54_0 C (fun v0 v1 v2 => d54_1 C L (fun v0 => (some v0)) (d54_3 C L) v0 v1 v2) v0 v1
theorem e54_0 (C : Kallee) (L : Nat) (v0 : PV) (v1 : PV) : execR Try.prog C hh L 54 (cAt (bodyOf Try.f54) []) (Env.ofArgs [.pv v0, .pv v1] 0 .nil) [] (endP Try.prog Try.f54) = d54_0 C L v0 v1 :=
  Eq.trans (b := g54_0 C (fun v0 v1 v2 => execR Try.prog C hh L 54 (cAt (bodyOf Try.f54) [1, 1, 0, 1, 0]) (Env.lay .nil [0, 1, 5] [(.pv v0), (.pv v1), (.pv v2)]) [] (leaveB 0 (nextT Try.prog C hh L 54 (cAt (bodyOf Try.f54) [1, 1, 1]) (endP Try.prog Try.f54)))) v0 v1) (by kernel_rfl) (cg1 (fun X1 => g54_0 C X1 v0 v1) (funext fun v0 => funext fun v1 => funext fun v2 => Eq.trans (e54_1 C L (leaveB 0 (nextT Try.prog C hh L 54 (cAt (bodyOf Try.f54) [1, 1, 1]) (endP Try.prog Try.f54))) v0 v1 v2) (cg2 (fun kr ke0 => d54_1 C L kr ke0 v0 v1 v2) (funext fun v0 => (by kernel_rfl)) (Eq.trans (b := execR Try.prog C hh L 54 (cAt (bodyOf Try.f54) [1, 1, 1]) (Env.lay .nil [] []) [] (endP Try.prog Try.f54)) (by kernel_rfl) (e54_3 C L)))))
theorem r54 (C : Kallee) (L : Nat) (v0 : PV) (v1 : PV) : bodyPR Try.prog C hh L 54 [v0, v1] = d54_0 C L v0 v1 := Eq.trans (bodyPR_eq (c := cAt (bodyOf Try.f54) []) [v0, v1] Try.func54 (by kernel_rfl) (by kernel_rfl)) (e54_0 C L v0 v1)

end
end Go.Lite

namespace Go.Lite
open Go Go.Proofs
set_option maxRecDepth 1000000
set_option linter.unusedVariables false
noncomputable section
/-! ## 55: muster/musterkit.SameParts -/
noncomputable def d55_2 {R : Type} (C : Kallee) (L : Nat) (kr : PV → Option R) (kg : PV → PV → PV → Option R) (ke0 : Option R) (v0 : PV) (v1 : PV) (v2 : PV) : Option R := (ob ((lenPV Try.prog 23 v0).map fun n => .sc (goInt n)) fun v106 => (ob (binPV Try.prog .lss 3 (.tmp 11) (.tmp 13) v2 v106) fun v107 => (cb v107 (ob (indexAddrPV Try.prog 23 v0 v2) fun v108 => (ob (loadPV Try.prog 58 v108) fun v109 => (ob (indexAddrPV Try.prog 23 v1 v2) fun v110 => (ob (loadPV Try.prog 58 v110) fun v111 => (ob (callD C.pure (.clo 81 [] []) [v109, v111] false) fun v112 => (ob (unPV Try.prog .not v112) fun v113 => (cb v113 (kr (.sc (.bool false))) (ob (binPV Try.prog .add 3 (.tmp 15) (.const (.int Go.IntKind.i64 1)) v2 (.sc (.int Go.IntKind.i64 1))) fun v114 => (kg v0 v1 v114))))))))) (ke0))))
theorem e55_2 {R : Type} (C : Kallee) (L : Nat) (k : Ex → Env → Store → Option R) (gg : Env → Store → Option R) (v0 : PV) (v1 : PV) (v2 : PV) : execR Try.prog C hh L 55 (cAt (bodyOf Try.f55) [1, 1, 0, 1, 0, 0]) (Env.lay .nil [0, 1, 5] [(.pv v0), (.pv v1), (.pv v2)]) [] (loopK gg [0, 1, 5] 0 (prune (some ⟨[0, 1, 5], [], [(0, [])], [4]⟩) 0 k)) = d55_2 C L (fun v0 => k .ret (Env.lay .nil [4] [(.pv v0)]) []) (fun v0 v1 v2 => gg (Env.lay .nil [0, 1, 5] [(.pv v0), (.pv v1), (.pv v2)]) []) (k (.exit 0) (Env.lay .nil [] []) []) v0 v1 v2 := by kernel_rfl
noncomputable def d55_1i {R : Type} (C : Kallee) (L : Nat) (kr : PV → Option R) (ke0 : Option R) : Nat → PV → PV → PV → Option R
  | 0, _, _, _ => none
  | N + 1, v0, v1, v2 => d55_2 C L kr (fun v0 v1 v2 => d55_1i C L kr ke0 N v0 v1 v2) ke0 v0 v1 v2
noncomputable def d55_1 {R : Type} (C : Kallee) (L : Nat) (kr : PV → Option R) (ke0 : Option R) (v0 : PV) (v1 : PV) (v2 : PV) : Option R := d55_1i C L kr ke0 L v0 v1 v2
theorem d55_1_i {R : Type} (C : Kallee) (L : Nat) (k : Ex → Env → Store → Option R) (N : Nat) (v0 : PV) (v1 : PV) (v2 : PV) : iter (execR Try.prog C hh L 55 (cAt (bodyOf Try.f55) [1, 1, 0, 1, 0, 0])) [0, 1, 5] 0 (prune (some ⟨[0, 1, 5], [], [(0, [])], [4]⟩) 0 k) N (Env.lay .nil [0, 1, 5] [(.pv v0), (.pv v1), (.pv v2)]) [] = d55_1i C L (fun v0 => k .ret (Env.lay .nil [4] [(.pv v0)]) []) (k (.exit 0) (Env.lay .nil [] []) []) N v0 v1 v2 := by
  induction N generalizing v0 v1 v2 with
  | zero => rfl
  | succ N ih => exact Eq.trans (b := execR Try.prog C hh L 55 (cAt (bodyOf Try.f55) [1, 1, 0, 1, 0, 0]) (Env.lay .nil [0, 1, 5] [(.pv v0), (.pv v1), (.pv v2)]) [] (loopK (fun e s => iter (execR Try.prog C hh L 55 (cAt (bodyOf Try.f55) [1, 1, 0, 1, 0, 0])) [0, 1, 5] 0 (prune (some ⟨[0, 1, 5], [], [(0, [])], [4]⟩) 0 k) N e s) [0, 1, 5] 0 (prune (some ⟨[0, 1, 5], [], [(0, [])], [4]⟩) 0 k))) (by kernel_rfl) <| Eq.trans (e55_2 C L k (fun e s => iter (execR Try.prog C hh L 55 (cAt (bodyOf Try.f55) [1, 1, 0, 1, 0, 0])) [0, 1, 5] 0 (prune (some ⟨[0, 1, 5], [], [(0, [])], [4]⟩) 0 k) N e s) v0 v1 v2) (congrArg (fun kg => d55_2 C L (fun v0 => k .ret (Env.lay .nil [4] [(.pv v0)]) []) kg (k (.exit 0) (Env.lay .nil [] []) []) v0 v1 v2) (funext fun v0 => funext fun v1 => funext fun v2 => ih v0 v1 v2))
theorem e55_1 {R : Type} (C : Kallee) (L : Nat) (k : Ex → Env → Store → Option R) (v0 : PV) (v1 : PV) (v2 : PV) : execR Try.prog C hh L 55 (cAt (bodyOf Try.f55) [1, 1, 0, 1, 0]) (Env.lay .nil [0, 1, 5] [(.pv v0), (.pv v1), (.pv v2)]) [] k = d55_1 C L (fun v0 => k .ret (Env.lay .nil [4] [(.pv v0)]) []) (k (.exit 0) (Env.lay .nil [] []) []) v0 v1 v2 :=
  Eq.trans (b := iter (execR Try.prog C hh L 55 (cAt (bodyOf Try.f55) [1, 1, 0, 1, 0, 0])) [0, 1, 5] 0 (prune (some ⟨[0, 1, 5], [], [(0, [])], [4]⟩) 0 k) L (Env.lay .nil [0, 1, 5] [(.pv v0), (.pv v1), (.pv v2)]) []) (by kernel_rfl) (d55_1_i C L k L v0 v1 v2)
noncomputable def d55_3 (C : Kallee) (L : Nat)   : Option PV := (some (.sc (.bool true)))
theorem e55_3 (C : Kallee) (L : Nat)  : execR Try.prog C hh L 55 (cAt (bodyOf Try.f55) [1, 1, 1]) (Env.lay .nil [] []) [] (endP Try.prog Try.f55) = d55_3 C L := by kernel_rfl
noncomputable def g55_0 (C : Kallee) (X1 : PV → PV → PV → Option PV)  (v0 : PV) (v1 : PV) : Option PV := (ob ((lenPV Try.prog 23 v0).map fun n => .sc (goInt n)) fun v103 => (ob ((lenPV Try.prog 23 v1).map fun n => .sc (goInt n)) fun v104 => (ob (binPV Try.prog .neq 3 (.tmp 7) (.tmp 9) v103 v104) fun v105 => (cb v105 (some (.sc (.bool false))) (X1 v0 v1 (.sc (.int Go.IntKind.i64 0)))))))
noncomputable def d55_0 (C : Kallee) (L : Nat)  (v0 : PV) (v1 : PV) : Option PV := g55_0 C (fun v0 v1 v2 => d55_1 C L (fun v0 => (some v0)) (d55_3 C L) v0 v1 v2) v0 v1
theorem e55_0 (C : Kallee) (L : Nat) (v0 : PV) (v1 : PV) : execR Try.prog C hh L 55 (cAt (bodyOf Try.f55) []) (Env.ofArgs [.pv v0, .pv v1] 0 .nil) [] (endP Try.prog Try.f55) = d55_0 C L v0 v1 :=
  Eq.trans (b := g55_0 C (fun v0 v1 v2 => execR Try.prog C hh L 55 (cAt (bodyOf Try.f55) [1, 1, 0, 1, 0]) (Env.lay .nil [0, 1, 5] [(.pv v0), (.pv v1), (.pv v2)]) [] (leaveB 0 (nextT Try.prog C hh L 55 (cAt (bodyOf Try.f55) [1, 1, 1]) (endP Try.prog Try.f55)))) v0 v1) (by kernel_rfl) (cg1 (fun X1 => g55_0 C X1 v0 v1) (funext fun v0 => funext fun v1 => funext fun v2 => Eq.trans (e55_1 C L (leaveB 0 (nextT Try.prog C hh L 55 (cAt (bodyOf Try.f55) [1, 1, 1]) (endP Try.prog Try.f55))) v0 v1 v2) (cg2 (fun kr ke0 => d55_1 C L kr ke0 v0 v1 v2) (funext fun v0 => (by kernel_rfl)) (Eq.trans (b := execR Try.prog C hh L 55 (cAt (bodyOf Try.f55) [1, 1, 1]) (Env.lay .nil [] []) [] (endP Try.prog Try.f55)) (by kernel_rfl) (e55_3 C L)))))
theorem r55 (C : Kallee) (L : Nat) (v0 : PV) (v1 : PV) : bodyPR Try.prog C hh L 55 [v0, v1] = d55_0 C L v0 v1 := Eq.trans (bodyPR_eq (c := cAt (bodyOf Try.f55) []) [v0, v1] Try.func55 (by kernel_rfl) (by kernel_rfl)) (e55_0 C L v0 v1)

end
end Go.Lite

namespace Go.Lite
open Go Go.Proofs
set_option maxRecDepth 1000000
set_option linter.unusedVariables false
noncomputable section
/-! ## 56: muster/musterkit.SameAccounts -/
noncomputable def d56_2 {R : Type} (C : Kallee) (L : Nat) (kr : PV → Option R) (kg : PV → PV → PV → Option R) (ke0 : Option R) (v0 : PV) (v1 : PV) (v2 : PV) : Option R := (ob ((lenPV Try.prog 24 v0).map fun n => .sc (goInt n)) fun v106 => (ob (binPV Try.prog .lss 3 (.tmp 11) (.tmp 13) v2 v106) fun v107 => (cb v107 (ob (indexAddrPV Try.prog 24 v0 v2) fun v108 => (ob (loadPV Try.prog 45 v108) fun v109 => (ob (indexAddrPV Try.prog 24 v1 v2) fun v110 => (ob (loadPV Try.prog 45 v110) fun v111 => (ob (binPV Try.prog .neq 45 (.tmp 20) (.tmp 24) v109 v111) fun v112 => (cb v112 (kr (.sc (.bool false))) (ob (binPV Try.prog .add 3 (.tmp 15) (.const (.int Go.IntKind.i64 1)) v2 (.sc (.int Go.IntKind.i64 1))) fun v113 => (kg v0 v1 v113)))))))) (ke0))))
theorem e56_2 {R : Type} (C : Kallee) (L : Nat) (k : Ex → Env → Store → Option R) (gg : Env → Store → Option R) (v0 : PV) (v1 : PV) (v2 : PV) : execR Try.prog C hh L 56 (cAt (bodyOf Try.f56) [1, 1, 0, 1, 0, 0]) (Env.lay .nil [0, 1, 5] [(.pv v0), (.pv v1), (.pv v2)]) [] (loopK gg [0, 1, 5] 0 (prune (some ⟨[0, 1, 5], [], [(0, [])], [4]⟩) 0 k)) = d56_2 C L (fun v0 => k .ret (Env.lay .nil [4] [(.pv v0)]) []) (fun v0 v1 v2 => gg (Env.lay .nil [0, 1, 5] [(.pv v0), (.pv v1), (.pv v2)]) []) (k (.exit 0) (Env.lay .nil [] []) []) v0 v1 v2 := by kernel_rfl
noncomputable def d56_1i {R : Type} (C : Kallee) (L : Nat) (kr : PV → Option R) (ke0 : Option R) : Nat → PV → PV → PV → Option R
  | 0, _, _, _ => none
  | N + 1, v0, v1, v2 => d56_2 C L kr (fun v0 v1 v2 => d56_1i C L kr ke0 N v0 v1 v2) ke0 v0 v1 v2
noncomputable def d56_1 {R : Type} (C : Kallee) (L : Nat) (kr : PV → Option R) (ke0 : Option R) (v0 : PV) (v1 : PV) (v2 : PV) : Option R := d56_1i C L kr ke0 L v0 v1 v2
theorem d56_1_i {R : Type} (C : Kallee) (L : Nat) (k : Ex → Env → Store → Option R) (N : Nat) (v0 : PV) (v1 : PV) (v2 : PV) : iter (execR Try.prog C hh L 56 (cAt (bodyOf Try.f56) [1, 1, 0, 1, 0, 0])) [0, 1, 5] 0 (prune (some ⟨[0, 1, 5], [], [(0, [])], [4]⟩) 0 k) N (Env.lay .nil [0, 1, 5] [(.pv v0), (.pv v1), (.pv v2)]) [] = d56_1i C L (fun v0 => k .ret (Env.lay .nil [4] [(.pv v0)]) []) (k (.exit 0) (Env.lay .nil [] []) []) N v0 v1 v2 := by
  induction N generalizing v0 v1 v2 with
  | zero => rfl
  | succ N ih => exact Eq.trans (b := execR Try.prog C hh L 56 (cAt (bodyOf Try.f56) [1, 1, 0, 1, 0, 0]) (Env.lay .nil [0, 1, 5] [(.pv v0), (.pv v1), (.pv v2)]) [] (loopK (fun e s => iter (execR Try.prog C hh L 56 (cAt (bodyOf Try.f56) [1, 1, 0, 1, 0, 0])) [0, 1, 5] 0 (prune (some ⟨[0, 1, 5], [], [(0, [])], [4]⟩) 0 k) N e s) [0, 1, 5] 0 (prune (some ⟨[0, 1, 5], [], [(0, [])], [4]⟩) 0 k))) (by kernel_rfl) <| Eq.trans (e56_2 C L k (fun e s => iter (execR Try.prog C hh L 56 (cAt (bodyOf Try.f56) [1, 1, 0, 1, 0, 0])) [0, 1, 5] 0 (prune (some ⟨[0, 1, 5], [], [(0, [])], [4]⟩) 0 k) N e s) v0 v1 v2) (congrArg (fun kg => d56_2 C L (fun v0 => k .ret (Env.lay .nil [4] [(.pv v0)]) []) kg (k (.exit 0) (Env.lay .nil [] []) []) v0 v1 v2) (funext fun v0 => funext fun v1 => funext fun v2 => ih v0 v1 v2))
theorem e56_1 {R : Type} (C : Kallee) (L : Nat) (k : Ex → Env → Store → Option R) (v0 : PV) (v1 : PV) (v2 : PV) : execR Try.prog C hh L 56 (cAt (bodyOf Try.f56) [1, 1, 0, 1, 0]) (Env.lay .nil [0, 1, 5] [(.pv v0), (.pv v1), (.pv v2)]) [] k = d56_1 C L (fun v0 => k .ret (Env.lay .nil [4] [(.pv v0)]) []) (k (.exit 0) (Env.lay .nil [] []) []) v0 v1 v2 :=
  Eq.trans (b := iter (execR Try.prog C hh L 56 (cAt (bodyOf Try.f56) [1, 1, 0, 1, 0, 0])) [0, 1, 5] 0 (prune (some ⟨[0, 1, 5], [], [(0, [])], [4]⟩) 0 k) L (Env.lay .nil [0, 1, 5] [(.pv v0), (.pv v1), (.pv v2)]) []) (by kernel_rfl) (d56_1_i C L k L v0 v1 v2)
noncomputable def d56_3 (C : Kallee) (L : Nat)   : Option PV := (some (.sc (.bool true)))
theorem e56_3 (C : Kallee) (L : Nat)  : execR Try.prog C hh L 56 (cAt (bodyOf Try.f56) [1, 1, 1]) (Env.lay .nil [] []) [] (endP Try.prog Try.f56) = d56_3 C L := by kernel_rfl
noncomputable def g56_0 (C : Kallee) (X1 : PV → PV → PV → Option PV)  (v0 : PV) (v1 : PV) : Option PV := (ob ((lenPV Try.prog 24 v0).map fun n => .sc (goInt n)) fun v103 => (ob ((lenPV Try.prog 24 v1).map fun n => .sc (goInt n)) fun v104 => (ob (binPV Try.prog .neq 3 (.tmp 7) (.tmp 9) v103 v104) fun v105 => (cb v105 (some (.sc (.bool false))) (X1 v0 v1 (.sc (.int Go.IntKind.i64 0)))))))
noncomputable def d56_0 (C : Kallee) (L : Nat)  (v0 : PV) (v1 : PV) : Option PV := g56_0 C (fun v0 v1 v2 => d56_1 C L (fun v0 => (some v0)) (d56_3 C L) v0 v1 v2) v0 v1
theorem e56_0 (C : Kallee) (L : Nat) (v0 : PV) (v1 : PV) : execR Try.prog C hh L 56 (cAt (bodyOf Try.f56) []) (Env.ofArgs [.pv v0, .pv v1] 0 .nil) [] (endP Try.prog Try.f56) = d56_0 C L v0 v1 :=
  Eq.trans (b := g56_0 C (fun v0 v1 v2 => execR Try.prog C hh L 56 (cAt (bodyOf Try.f56) [1, 1, 0, 1, 0]) (Env.lay .nil [0, 1, 5] [(.pv v0), (.pv v1), (.pv v2)]) [] (leaveB 0 (nextT Try.prog C hh L 56 (cAt (bodyOf Try.f56) [1, 1, 1]) (endP Try.prog Try.f56)))) v0 v1) (by kernel_rfl) (cg1 (fun X1 => g56_0 C X1 v0 v1) (funext fun v0 => funext fun v1 => funext fun v2 => Eq.trans (e56_1 C L (leaveB 0 (nextT Try.prog C hh L 56 (cAt (bodyOf Try.f56) [1, 1, 1]) (endP Try.prog Try.f56))) v0 v1 v2) (cg2 (fun kr ke0 => d56_1 C L kr ke0 v0 v1 v2) (funext fun v0 => (by kernel_rfl)) (Eq.trans (b := execR Try.prog C hh L 56 (cAt (bodyOf Try.f56) [1, 1, 1]) (Env.lay .nil [] []) [] (endP Try.prog Try.f56)) (by kernel_rfl) (e56_3 C L)))))
theorem r56 (C : Kallee) (L : Nat) (v0 : PV) (v1 : PV) : bodyPR Try.prog C hh L 56 [v0, v1] = d56_0 C L v0 v1 := Eq.trans (bodyPR_eq (c := cAt (bodyOf Try.f56) []) [v0, v1] Try.func56 (by kernel_rfl) (by kernel_rfl)) (e56_0 C L v0 v1)

end
end Go.Lite

namespace Go.Lite
open Go Go.Proofs
set_option maxRecDepth 1000000
set_option linter.unusedVariables false
noncomputable section
/-! ## 57: muster/musterkit.SameQos -/
noncomputable def d57_2 {R : Type} (C : Kallee) (L : Nat) (kr : PV → Option R) (kg : PV → PV → PV → Option R) (ke0 : Option R) (v0 : PV) (v1 : PV) (v2 : PV) : Option R := (ob ((lenPV Try.prog 25 v0).map fun n => .sc (goInt n)) fun v106 => (ob (binPV Try.prog .lss 3 (.tmp 11) (.tmp 13) v2 v106) fun v107 => (cb v107 (ob (indexAddrPV Try.prog 25 v0 v2) fun v108 => (ob (loadPV Try.prog 84 v108) fun v109 => (ob (indexAddrPV Try.prog 25 v1 v2) fun v110 => (ob (loadPV Try.prog 84 v110) fun v111 => (ob (binPV Try.prog .neq 84 (.tmp 20) (.tmp 24) v109 v111) fun v112 => (cb v112 (kr (.sc (.bool false))) (ob (binPV Try.prog .add 3 (.tmp 15) (.const (.int Go.IntKind.i64 1)) v2 (.sc (.int Go.IntKind.i64 1))) fun v113 => (kg v0 v1 v113)))))))) (ke0))))
theorem e57_2 {R : Type} (C : Kallee) (L : Nat) (k : Ex → Env → Store → Option R) (gg : Env → Store → Option R) (v0 : PV) (v1 : PV) (v2 : PV) : execR Try.prog C hh L 57 (cAt (bodyOf Try.f57) [1, 1, 0, 1, 0, 0]) (Env.lay .nil [0, 1, 5] [(.pv v0), (.pv v1), (.pv v2)]) [] (loopK gg [0, 1, 5] 0 (prune (some ⟨[0, 1, 5], [], [(0, [])], [4]⟩) 0 k)) = d57_2 C L (fun v0 => k .ret (Env.lay .nil [4] [(.pv v0)]) []) (fun v0 v1 v2 => gg (Env.lay .nil [0, 1, 5] [(.pv v0), (.pv v1), (.pv v2)]) []) (k (.exit 0) (Env.lay .nil [] []) []) v0 v1 v2 := by kernel_rfl
noncomputable def d57_1i {R : Type} (C : Kallee) (L : Nat) (kr : PV → Option R) (ke0 : Option R) : Nat → PV → PV → PV → Option R
  | 0, _, _, _ => none
  | N + 1, v0, v1, v2 => d57_2 C L kr (fun v0 v1 v2 => d57_1i C L kr ke0 N v0 v1 v2) ke0 v0 v1 v2
noncomputable def d57_1 {R : Type} (C : Kallee) (L : Nat) (kr : PV → Option R) (ke0 : Option R) (v0 : PV) (v1 : PV) (v2 : PV) : Option R := d57_1i C L kr ke0 L v0 v1 v2
theorem d57_1_i {R : Type} (C : Kallee) (L : Nat) (k : Ex → Env → Store → Option R) (N : Nat) (v0 : PV) (v1 : PV) (v2 : PV) : iter (execR Try.prog C hh L 57 (cAt (bodyOf Try.f57) [1, 1, 0, 1, 0, 0])) [0, 1, 5] 0 (prune (some ⟨[0, 1, 5], [], [(0, [])], [4]⟩) 0 k) N (Env.lay .nil [0, 1, 5] [(.pv v0), (.pv v1), (.pv v2)]) [] = d57_1i C L (fun v0 => k .ret (Env.lay .nil [4] [(.pv v0)]) []) (k (.exit 0) (Env.lay .nil [] []) []) N v0 v1 v2 := by
  induction N generalizing v0 v1 v2 with
  | zero => rfl
  | succ N ih => exact Eq.trans (b := execR Try.prog C hh L 57 (cAt (bodyOf Try.f57) [1, 1, 0, 1, 0, 0]) (Env.lay .nil [0, 1, 5] [(.pv v0), (.pv v1), (.pv v2)]) [] (loopK (fun e s => iter (execR Try.prog C hh L 57 (cAt (bodyOf Try.f57) [1, 1, 0, 1, 0, 0])) [0, 1, 5] 0 (prune (some ⟨[0, 1, 5], [], [(0, [])], [4]⟩) 0 k) N e s) [0, 1, 5] 0 (prune (some ⟨[0, 1, 5], [], [(0, [])], [4]⟩) 0 k))) (by kernel_rfl) <| Eq.trans (e57_2 C L k (fun e s => iter (execR Try.prog C hh L 57 (cAt (bodyOf Try.f57) [1, 1, 0, 1, 0, 0])) [0, 1, 5] 0 (prune (some ⟨[0, 1, 5], [], [(0, [])], [4]⟩) 0 k) N e s) v0 v1 v2) (congrArg (fun kg => d57_2 C L (fun v0 => k .ret (Env.lay .nil [4] [(.pv v0)]) []) kg (k (.exit 0) (Env.lay .nil [] []) []) v0 v1 v2) (funext fun v0 => funext fun v1 => funext fun v2 => ih v0 v1 v2))
theorem e57_1 {R : Type} (C : Kallee) (L : Nat) (k : Ex → Env → Store → Option R) (v0 : PV) (v1 : PV) (v2 : PV) : execR Try.prog C hh L 57 (cAt (bodyOf Try.f57) [1, 1, 0, 1, 0]) (Env.lay .nil [0, 1, 5] [(.pv v0), (.pv v1), (.pv v2)]) [] k = d57_1 C L (fun v0 => k .ret (Env.lay .nil [4] [(.pv v0)]) []) (k (.exit 0) (Env.lay .nil [] []) []) v0 v1 v2 :=
  Eq.trans (b := iter (execR Try.prog C hh L 57 (cAt (bodyOf Try.f57) [1, 1, 0, 1, 0, 0])) [0, 1, 5] 0 (prune (some ⟨[0, 1, 5], [], [(0, [])], [4]⟩) 0 k) L (Env.lay .nil [0, 1, 5] [(.pv v0), (.pv v1), (.pv v2)]) []) (by kernel_rfl) (d57_1_i C L k L v0 v1 v2)
noncomputable def d57_3 (C : Kallee) (L : Nat)   : Option PV := (some (.sc (.bool true)))
theorem e57_3 (C : Kallee) (L : Nat)  : execR Try.prog C hh L 57 (cAt (bodyOf Try.f57) [1, 1, 1]) (Env.lay .nil [] []) [] (endP Try.prog Try.f57) = d57_3 C L := by kernel_rfl
noncomputable def g57_0 (C : Kallee) (X1 : PV → PV → PV → Option PV)  (v0 : PV) (v1 : PV) : Option PV := (ob ((lenPV Try.prog 25 v0).map fun n => .sc (goInt n)) fun v103 => (ob ((lenPV Try.prog 25 v1).map fun n => .sc (goInt n)) fun v104 => (ob (binPV Try.prog .neq 3 (.tmp 7) (.tmp 9) v103 v104) fun v105 => (cb v105 (some (.sc (.bool false))) (X1 v0 v1 (.sc (.int Go.IntKind.i64 0)))))))
noncomputable def d57_0 (C : Kallee) (L : Nat)  (v0 : PV) (v1 : PV) : Option PV := g57_0 C (fun v0 v1 v2 => d57_1 C L (fun v0 => (some v0)) (d57_3 C L) v0 v1 v2) v0 v1
theorem e57_0 (C : Kallee) (L : Nat) (v0 : PV) (v1 : PV) : execR Try.prog C hh L 57 (cAt (bodyOf Try.f57) []) (Env.ofArgs [.pv v0, .pv v1] 0 .nil) [] (endP Try.prog Try.f57) = d57_0 C L v0 v1 :=
  Eq.trans (b := g57_0 C (fun v0 v1 v2 => execR Try.prog C hh L 57 (cAt (bodyOf Try.f57) [1, 1, 0, 1, 0]) (Env.lay .nil [0, 1, 5] [(.pv v0), (.pv v1), (.pv v2)]) [] (leaveB 0 (nextT Try.prog C hh L 57 (cAt (bodyOf Try.f57) [1, 1, 1]) (endP Try.prog Try.f57)))) v0 v1) (by kernel_rfl) (cg1 (fun X1 => g57_0 C X1 v0 v1) (funext fun v0 => funext fun v1 => funext fun v2 => Eq.trans (e57_1 C L (leaveB 0 (nextT Try.prog C hh L 57 (cAt (bodyOf Try.f57) [1, 1, 1]) (endP Try.prog Try.f57))) v0 v1 v2) (cg2 (fun kr ke0 => d57_1 C L kr ke0 v0 v1 v2) (funext fun v0 => (by kernel_rfl)) (Eq.trans (b := execR Try.prog C hh L 57 (cAt (bodyOf Try.f57) [1, 1, 1]) (Env.lay .nil [] []) [] (endP Try.prog Try.f57)) (by kernel_rfl) (e57_3 C L)))))
theorem r57 (C : Kallee) (L : Nat) (v0 : PV) (v1 : PV) : bodyPR Try.prog C hh L 57 [v0, v1] = d57_0 C L v0 v1 := Eq.trans (bodyPR_eq (c := cAt (bodyOf Try.f57) []) [v0, v1] Try.func57 (by kernel_rfl) (by kernel_rfl)) (e57_0 C L v0 v1)

end
end Go.Lite

namespace Go.Lite
open Go Go.Proofs
set_option maxRecDepth 1000000
set_option linter.unusedVariables false
noncomputable section
/-! ## 58: muster/tree.place -/
noncomputable def d58_0 (C : Kallee) (L : Nat)  (v0 : PV) (v1 : PV) : Option PV := (ob (callD C.pure (.clo 17 [] []) [v0] false) fun v103 => (ob (unPV Try.prog .not v103) fun v104 => (cb v104 (some (.tup [(.sc (.int Go.IntKind.i64 0)), (.sc (.int Go.IntKind.i64 2))])) (ob (callD C.pure (.clo 40 [] []) [v0, v1] false) fun v105 => (ob (extractPV v105 0) fun v106 => (ob (extractPV v105 1) fun v107 => (ob (unPV Try.prog .not v107) fun v108 => (cb v108 (some (.tup [(.sc (.int Go.IntKind.i64 0)), (.sc (.int Go.IntKind.i64 141))])) (some (.tup [v106, (.sc (.int Go.IntKind.i64 0))]))))))))))
theorem e58_0 (C : Kallee) (L : Nat) (v0 : PV) (v1 : PV) : execR Try.prog C hh L 58 (cAt (bodyOf Try.f58) []) (Env.ofArgs [.pv v0, .pv v1] 0 .nil) [] (endP Try.prog Try.f58) = d58_0 C L v0 v1 := by kernel_rfl
theorem r58 (C : Kallee) (L : Nat) (v0 : PV) (v1 : PV) : bodyPR Try.prog C hh L 58 [v0, v1] = d58_0 C L v0 v1 := Eq.trans (bodyPR_eq (c := cAt (bodyOf Try.f58) []) [v0, v1] Try.func58 (by kernel_rfl) (by kernel_rfl)) (e58_0 C L v0 v1)

end
end Go.Lite

namespace Go.Lite
open Go Go.Proofs
set_option maxRecDepth 1000000
set_option linter.unusedVariables false
noncomputable section
/-! ## 59: muster/tree.up -/
noncomputable def d59_2 {R : Type} (C : Kallee) (L : Nat) (kg : PV → PV → List PV → Option R) (ke0 : List PV → Option R) (v0 : PV) (v1 : PV) (x2 : List PV) : Option R := (ob (indexAddrPV Try.prog 24 v0 v1) fun v107 => (ob (fieldAddrPV Try.prog 45 v107 1) fun v108 => (ob (loadPV Try.prog 9 v108) fun v109 => (ob (binPV Try.prog .neq 9 (.tmp 16) (.const (.string ⟨#[]⟩)) v109 (.sc (.string ⟨#[]⟩))) fun v110 => (cb v110 (ob (indexAddrPV Try.prog 24 v0 v1) fun v111 => (ob (fieldAddrPV Try.prog 45 v111 1) fun v112 => (ob (loadPV Try.prog 9 v112) fun v113 => (ob (callD C.pure (.clo 40 [] []) [v0, v113] false) fun v114 => (ob (extractPV v114 0) fun v115 => (ob (extractPV v114 1) fun v116 => (ob (indexAddrPV Try.prog 24 v0 v115) fun v117 => (ob (fieldAddrPV Try.prog 45 v117 0) fun v118 => (ob (loadPV Try.prog 9 v118) fun v119 => (ob (buildSliceAV Try.prog 32 1 [(0, v119)]) fun v120 => (oxs (appendTo Try.prog 32 32 0 x2 v120) fun x121 => (kg v0 v115 x121)))))))))))) (ke0 x2))))))
theorem e59_2 {R : Type} (C : Kallee) (L : Nat) (k : Ex → Env → Store → Option R) (gg : Env → Store → Option R) (v0 : PV) (v1 : PV) (x2 : List PV) : execR Try.prog C hh L 59 (cAt (bodyOf Try.f59) [1, 1, 0, 0, 0]) (Env.lay .nil [0, 1, 5] [(.pv v0), (.pv v1), (.arr 0)]) [.arr 0 false x2] (loopK gg [0, 1, 5] 1 (prune (some ⟨[0, 1, 5], [], [(0, [5])], []⟩) 1 k)) = d59_2 C L (fun v0 v1 x2 => gg (Env.lay .nil [0, 1, 5] [(.pv v0), (.pv v1), (.arr 0)]) [.arr 0 false x2]) (fun x0 => k (.exit 0) (Env.lay .nil [5] [(.arr 0)]) [.arr 0 false x0]) v0 v1 x2 := by kernel_rfl
noncomputable def d59_1i {R : Type} (C : Kallee) (L : Nat) (ke0 : List PV → Option R) : Nat → PV → PV → List PV → Option R
  | 0, _, _, _ => none
  | N + 1, v0, v1, x2 => d59_2 C L (fun v0 v1 x2 => d59_1i C L ke0 N v0 v1 x2) ke0 v0 v1 x2
noncomputable def d59_1 {R : Type} (C : Kallee) (L : Nat) (ke0 : List PV → Option R) (v0 : PV) (v1 : PV) (x2 : List PV) : Option R := d59_1i C L ke0 L v0 v1 x2
theorem d59_1_i {R : Type} (C : Kallee) (L : Nat) (k : Ex → Env → Store → Option R) (N : Nat) (v0 : PV) (v1 : PV) (x2 : List PV) : iter (execR Try.prog C hh L 59 (cAt (bodyOf Try.f59) [1, 1, 0, 0, 0])) [0, 1, 5] 1 (prune (some ⟨[0, 1, 5], [], [(0, [5])], []⟩) 1 k) N (Env.lay .nil [0, 1, 5] [(.pv v0), (.pv v1), (.arr 0)]) [.arr 0 false x2] = d59_1i C L (fun x0 => k (.exit 0) (Env.lay .nil [5] [(.arr 0)]) [.arr 0 false x0]) N v0 v1 x2 := by
  induction N generalizing v0 v1 x2 with
  | zero => rfl
  | succ N ih => exact Eq.trans (b := execR Try.prog C hh L 59 (cAt (bodyOf Try.f59) [1, 1, 0, 0, 0]) (Env.lay .nil [0, 1, 5] [(.pv v0), (.pv v1), (.arr 0)]) [.arr 0 false x2] (loopK (fun e s => iter (execR Try.prog C hh L 59 (cAt (bodyOf Try.f59) [1, 1, 0, 0, 0])) [0, 1, 5] 1 (prune (some ⟨[0, 1, 5], [], [(0, [5])], []⟩) 1 k) N e s) [0, 1, 5] 1 (prune (some ⟨[0, 1, 5], [], [(0, [5])], []⟩) 1 k))) (by kernel_rfl) <| Eq.trans (e59_2 C L k (fun e s => iter (execR Try.prog C hh L 59 (cAt (bodyOf Try.f59) [1, 1, 0, 0, 0])) [0, 1, 5] 1 (prune (some ⟨[0, 1, 5], [], [(0, [5])], []⟩) 1 k) N e s) v0 v1 x2) (congrArg (fun kg => d59_2 C L kg (fun x0 => k (.exit 0) (Env.lay .nil [5] [(.arr 0)]) [.arr 0 false x0]) v0 v1 x2) (funext fun v0 => funext fun v1 => funext fun x2 => ih v0 v1 x2))
theorem e59_1 {R : Type} (C : Kallee) (L : Nat) (k : Ex → Env → Store → Option R) (v0 : PV) (v1 : PV) (x2 : List PV) : execR Try.prog C hh L 59 (cAt (bodyOf Try.f59) [1, 1, 0, 0]) (Env.lay .nil [0, 1, 5] [(.pv v0), (.pv v1), (.arr 0)]) [.arr 0 false x2] k = d59_1 C L (fun x0 => k (.exit 0) (Env.lay .nil [5] [(.arr 0)]) [.arr 0 false x0]) v0 v1 x2 :=
  Eq.trans (b := iter (execR Try.prog C hh L 59 (cAt (bodyOf Try.f59) [1, 1, 0, 0, 0])) [0, 1, 5] 1 (prune (some ⟨[0, 1, 5], [], [(0, [5])], []⟩) 1 k) L (Env.lay .nil [0, 1, 5] [(.pv v0), (.pv v1), (.arr 0)]) [.arr 0 false x2]) (by kernel_rfl) (d59_1_i C L k L v0 v1 x2)
noncomputable def d59_3 (C : Kallee) (L : Nat)  (x0 : List PV) : Option PV := (some (.list 0 false x0))
theorem e59_3 (C : Kallee) (L : Nat) (x0 : List PV) : execR Try.prog C hh L 59 (cAt (bodyOf Try.f59) [1, 1, 1]) (Env.lay .nil [5] [(.arr 0)]) [.arr 0 false x0] (endP Try.prog Try.f59) = d59_3 C L x0 := by kernel_rfl
noncomputable def g59_0 (C : Kallee) (X1 : PV → PV → List PV → Option PV)  (v0 : PV) (v1 : PV) : Option PV := (ob (indexAddrPV Try.prog 24 v0 v1) fun v103 => (ob (fieldAddrPV Try.prog 45 v103 0) fun v104 => (ob (loadPV Try.prog 9 v104) fun v105 => (oxs (buildXs Try.prog 32 0 1 [(0, v105)]) fun x106 => (X1 v0 v1 x106)))))
noncomputable def d59_0 (C : Kallee) (L : Nat)  (v0 : PV) (v1 : PV) : Option PV := g59_0 C (fun v0 v1 x2 => d59_1 C L (fun x0 => d59_3 C L x0) v0 v1 x2) v0 v1
theorem e59_0 (C : Kallee) (L : Nat) (v0 : PV) (v1 : PV) : execR Try.prog C hh L 59 (cAt (bodyOf Try.f59) []) (Env.ofArgs [.pv v0, .pv v1] 0 .nil) [] (endP Try.prog Try.f59) = d59_0 C L v0 v1 :=
  Eq.trans (b := g59_0 C (fun v0 v1 x2 => execR Try.prog C hh L 59 (cAt (bodyOf Try.f59) [1, 1, 0, 0]) (Env.lay .nil [0, 1, 5] [(.pv v0), (.pv v1), (.arr 0)]) [.arr 0 false x2] (leaveB 0 (nextT Try.prog C hh L 59 (cAt (bodyOf Try.f59) [1, 1, 1]) (endP Try.prog Try.f59)))) v0 v1) (by kernel_rfl) (cg1 (fun X1 => g59_0 C X1 v0 v1) (funext fun v0 => funext fun v1 => funext fun x2 => Eq.trans (e59_1 C L (leaveB 0 (nextT Try.prog C hh L 59 (cAt (bodyOf Try.f59) [1, 1, 1]) (endP Try.prog Try.f59))) v0 v1 x2) (cg1 (fun ke0 => d59_1 C L ke0 v0 v1 x2) (funext fun x0 => (Eq.trans (b := execR Try.prog C hh L 59 (cAt (bodyOf Try.f59) [1, 1, 1]) (Env.lay .nil [5] [(.arr 0)]) [.arr 0 false x0] (endP Try.prog Try.f59)) (by kernel_rfl) (e59_3 C L x0))))))
theorem r59 (C : Kallee) (L : Nat) (v0 : PV) (v1 : PV) : bodyPR Try.prog C hh L 59 [v0, v1] = d59_0 C L v0 v1 := Eq.trans (bodyPR_eq (c := cAt (bodyOf Try.f59) []) [v0, v1] Try.func59 (by kernel_rfl) (by kernel_rfl)) (e59_0 C L v0 v1)

end
end Go.Lite

namespace Go.Lite
open Go Go.Proofs
set_option maxRecDepth 1000000
set_option linter.unusedVariables false
noncomputable section
/-! ## 60: muster/musterkit.CopyPart -/
noncomputable def d60_0 (C : Kallee) (L : Nat)  (v0 : PV) : Option PV := (ck (PV.hasLay 6 v0) ((ob (PV.at_ 6 4 0 v0) fun v102 => (ob (callD C.pure (.clo 82 [] []) [v102] false) fun v103 => (ob (putPV 6 4 0 (.pv v0) v103) fun v104 => (ob (putPV 6 0 6 (.pv (.agg [(.sc (.string ⟨#[]⟩)), (.sc (.int Go.IntKind.u32 0)), (.sc (.int Go.IntKind.i64 0)), (.sc (.int Go.IntKind.i64 0)), (.sc (.slice none 0 0))])) v104) fun v105 => (some v105)))))))
theorem e60_0 (C : Kallee) (L : Nat) (v0 : PV) : execR Try.prog C hh L 60 (cAt (bodyOf Try.f60) []) (Env.ofArgs [.pv v0] 0 .nil) [] (endP Try.prog Try.f60) = d60_0 C L v0 := by kernel_rfl
theorem r60 (C : Kallee) (L : Nat) (v0 : PV) : bodyPR Try.prog C hh L 60 [v0] = d60_0 C L v0 := Eq.trans (bodyPR_eq (c := cAt (bodyOf Try.f60) []) [v0] Try.func60 (by kernel_rfl) (by kernel_rfl)) (e60_0 C L v0)

end
end Go.Lite

namespace Go.Lite
open Go Go.Proofs
set_option maxRecDepth 1000000
set_option linter.unusedVariables false
noncomputable section
/-! ## 61: muster/nodes.Right -/
noncomputable def d61_0 (C : Kallee) (L : Nat)  (v0 : PV) : Option PV := (ob ((lenPV Try.prog 60 v0).map fun n => .sc (goInt n)) fun v102 => (ob (binPV Try.prog .geq 3 (.tmp 5) (.const (.int Go.IntKind.i64 1)) v102 (.sc (.int Go.IntKind.i64 1))) fun v103 => (gcase true v103 (ob ((lenPV Try.prog 60 v0).map fun n => .sc (goInt n)) fun v104 => (ob (binPV Try.prog .leq 3 (.tmp 9) (.const (.int Go.IntKind.i64 32)) v104 (.sc (.int Go.IntKind.i64 32))) fun v105 => (gcase true v105 (ob (callD C.pure (.clo 84 [] []) [v0, (.clo 83 [] [])] false) fun v106 => (ob (unPV Try.prog .not v106) fun v107 => (some v107))) (some (.sc (.bool false))) none))) (some (.sc (.bool false))) none)))
theorem e61_0 (C : Kallee) (L : Nat) (v0 : PV) : execR Try.prog C hh L 61 (cAt (bodyOf Try.f61) []) (Env.ofArgs [.pv v0] 0 .nil) [] (endP Try.prog Try.f61) = d61_0 C L v0 := by kernel_rfl
theorem r61 (C : Kallee) (L : Nat) (v0 : PV) : bodyPR Try.prog C hh L 61 [v0] = d61_0 C L v0 := Eq.trans (bodyPR_eq (c := cAt (bodyOf Try.f61) []) [v0] Try.func61 (by kernel_rfl) (by kernel_rfl)) (e61_0 C L v0)

end
end Go.Lite

namespace Go.Lite
open Go Go.Proofs
set_option maxRecDepth 1000000
set_option linter.unusedVariables false
noncomputable section
/-! ## 62: muster/nodes.some -/
noncomputable def d62_3 {R : Type} (C : Kallee) (L : Nat) (kn : PV → PV → PV → PV → PV → PV → PV → PV → Option R) (v0 : PV) (v1 : PV) (v2 : PV) (v3 : PV) (v4 : PV) (v5 : PV) (v6 : PV) : Option R := (ob (binPV Try.prog .lss 3 (.tmp 15) (.const (.int Go.IntKind.i64 32)) v2 (.sc (.int Go.IntKind.i64 32))) fun v109 => (gcase true v109 (ob (callD C.pure v0 [v2, v6] false) fun v110 => (kn v0 v1 v2 v3 v4 v5 v110 v6)) (kn v0 v1 v2 v3 v4 v5 (.sc (.bool false)) v6) none))
theorem e62_3 {R : Type} (C : Kallee) (L : Nat) (k : Ex → Env → Store → Option R) (v0 : PV) (v1 : PV) (v2 : PV) (v3 : PV) (v4 : PV) (v5 : PV) (v6 : PV) : execR Try.prog C hh L 62 (cAt (bodyOf Try.f62) [1, 1, 0, 1, 0, 0, 1, 1, 0, 0, 1, 0]) (Env.lay .nil [1, 5, 6, 7, 8, 9, 10] [(.pv v0), (.pv v1), (.pv v2), (.ptr 0 0 0), (.pv v3), (.pv v4), (.pv v5)]) [.var 4 (.pv v6)] k = d62_3 C L (fun v0 v1 v2 v3 v4 v5 v6 v7 => k .normal (Env.lay .nil [1, 5, 6, 8, 9, 10, 22] [(.pv v0), (.pv v1), (.pv v2), (.pv v3), (.pv v4), (.pv v5), (.pv v6)]) [.var 4 (.pv v7)]) v0 v1 v2 v3 v4 v5 v6 := by kernel_rfl
noncomputable def d62_4 {R : Type} (C : Kallee) (L : Nat) (kg : PV → PV → PV → PV → PV → Option R) (v0 : PV) (v1 : PV) (v2 : PV) (v3 : PV) (v4 : PV) (v5 : PV) (v6 : PV) (v7 : PV) : Option R := (cb v6 (ob (binPV Try.prog .shl 56 (.const (.int Go.IntKind.u32 1)) (.tmp 24) (.sc (.int Go.IntKind.u32 1)) v2) fun v112 => (ob (binPV Try.prog .or 56 (.tmp 23) (.tmp 25) v1 v112) fun v113 => (ob (binPV Try.prog .add 3 (.tmp 10) (.const (.int Go.IntKind.i64 1)) v5 (.sc (.int Go.IntKind.i64 1))) fun v114 => (kg v0 v113 v3 v4 v114)))) (ob (binPV Try.prog .add 3 (.tmp 10) (.const (.int Go.IntKind.i64 1)) v5 (.sc (.int Go.IntKind.i64 1))) fun v115 => (kg v0 v1 v3 v4 v115)))
theorem e62_4 {R : Type} (C : Kallee) (L : Nat) (k : Ex → Env → Store → Option R) (gg : Env → Store → Option R) (v0 : PV) (v1 : PV) (v2 : PV) (v3 : PV) (v4 : PV) (v5 : PV) (v6 : PV) (v7 : PV) : execR Try.prog C hh L 62 (cAt (bodyOf Try.f62) [1, 1, 0, 1, 0, 0, 1, 1, 0, 0, 1, 1]) (Env.lay .nil [1, 5, 6, 8, 9, 10, 22] [(.pv v0), (.pv v1), (.pv v2), (.pv v3), (.pv v4), (.pv v5), (.pv v6)]) [.var 4 (.pv v7)] (leaveB 1 (nextT Try.prog C hh L 62 (cAt (bodyOf Try.f62) [1, 1, 0, 1, 0, 0, 1, 1, 1]) (loopK gg [1, 5, 8, 9, 10] 0 (prune (some ⟨[1, 5, 8, 9, 10], [], [(0, [5])], []⟩) 0 k)))) = d62_4 C L (fun v0 v1 v2 v3 v4 => gg (Env.lay .nil [1, 5, 8, 9, 10] [(.pv v0), (.pv v1), (.pv v2), (.pv v3), (.pv v4)]) []) v0 v1 v2 v3 v4 v5 v6 v7 := by kernel_rfl
noncomputable def g62_2 {R : Type} (C : Kallee) (X1 : PV → PV → PV → PV → PV → PV → PV → Option R) (ke0 : PV → Option R) (kg : PV → PV → PV → PV → PV → Option R) (v0 : PV) (v1 : PV) (v2 : PV) (v3 : PV) (v4 : PV) : Option R := (ob (binPV Try.prog .lss 3 (.tmp 10) (.tmp 9) v4 v3) fun v105 => (cb v105 (ob (indexAddrPV Try.prog 60 v2 v4) fun v106 => (ob (loadPV Try.prog 87 v106) fun v107 => (ob (putPV 4 0 4 (.pv (.agg [(.sc (.int Go.IntKind.i64 0)), (.sc (.bool false)), (.sc (.int Go.IntKind.i64 0))])) v107) fun v108 => (X1 v0 v1 v4 v2 v3 v4 v108)))) (ke0 v1)))
noncomputable def d62_2 {R : Type} (C : Kallee) (L : Nat) (ke0 : PV → Option R) (kg : PV → PV → PV → PV → PV → Option R) (v0 : PV) (v1 : PV) (v2 : PV) (v3 : PV) (v4 : PV) : Option R := g62_2 C (fun v0 v1 v2 v3 v4 v5 v6 => d62_3 C L (fun v0 v1 v2 v3 v4 v5 v6 v7 => d62_4 C L kg v0 v1 v2 v3 v4 v5 v6 v7) v0 v1 v2 v3 v4 v5 v6) ke0 kg v0 v1 v2 v3 v4
theorem e62_2 {R : Type} (C : Kallee) (L : Nat) (k : Ex → Env → Store → Option R) (gg : Env → Store → Option R) (v0 : PV) (v1 : PV) (v2 : PV) (v3 : PV) (v4 : PV) : execR Try.prog C hh L 62 (cAt (bodyOf Try.f62) [1, 1, 0, 1, 0, 0]) (Env.lay .nil [1, 5, 8, 9, 10] [(.pv v0), (.pv v1), (.pv v2), (.pv v3), (.pv v4)]) [] (loopK gg [1, 5, 8, 9, 10] 0 (prune (some ⟨[1, 5, 8, 9, 10], [], [(0, [5])], []⟩) 0 k)) = d62_2 C L (fun v0 => k (.exit 0) (Env.lay .nil [5] [(.pv v0)]) []) (fun v0 v1 v2 v3 v4 => gg (Env.lay .nil [1, 5, 8, 9, 10] [(.pv v0), (.pv v1), (.pv v2), (.pv v3), (.pv v4)]) []) v0 v1 v2 v3 v4 :=
  Eq.trans (b := g62_2 C (fun v0 v1 v2 v3 v4 v5 v6 => execR Try.prog C hh L 62 (cAt (bodyOf Try.f62) [1, 1, 0, 1, 0, 0, 1, 1, 0, 0, 1, 0]) (Env.lay .nil [1, 5, 6, 7, 8, 9, 10] [(.pv v0), (.pv v1), (.pv v2), (.ptr 0 0 0), (.pv v3), (.pv v4), (.pv v5)]) [.var 4 (.pv v6)] (nextT Try.prog C hh L 62 (cAt (bodyOf Try.f62) [1, 1, 0, 1, 0, 0, 1, 1, 0, 0, 1, 1]) (leaveB 1 (nextT Try.prog C hh L 62 (cAt (bodyOf Try.f62) [1, 1, 0, 1, 0, 0, 1, 1, 1]) (loopK gg [1, 5, 8, 9, 10] 0 (prune (some ⟨[1, 5, 8, 9, 10], [], [(0, [5])], []⟩) 0 k)))))) (fun v0 => k (.exit 0) (Env.lay .nil [5] [(.pv v0)]) []) (fun v0 v1 v2 v3 v4 => gg (Env.lay .nil [1, 5, 8, 9, 10] [(.pv v0), (.pv v1), (.pv v2), (.pv v3), (.pv v4)]) []) v0 v1 v2 v3 v4) (by kernel_rfl) (cg1 (fun X1 => g62_2 C X1 (fun v0 => k (.exit 0) (Env.lay .nil [5] [(.pv v0)]) []) (fun v0 v1 v2 v3 v4 => gg (Env.lay .nil [1, 5, 8, 9, 10] [(.pv v0), (.pv v1), (.pv v2), (.pv v3), (.pv v4)]) []) v0 v1 v2 v3 v4) (funext fun v0 => funext fun v1 => funext fun v2 => funext fun v3 => funext fun v4 => funext fun v5 => funext fun v6 => Eq.trans (e62_3 C L (nextT Try.prog C hh L 62 (cAt (bodyOf Try.f62) [1, 1, 0, 1, 0, 0, 1, 1, 0, 0, 1, 1]) (leaveB 1 (nextT Try.prog C hh L 62 (cAt (bodyOf Try.f62) [1, 1, 0, 1, 0, 0, 1, 1, 1]) (loopK gg [1, 5, 8, 9, 10] 0 (prune (some ⟨[1, 5, 8, 9, 10], [], [(0, [5])], []⟩) 0 k))))) v0 v1 v2 v3 v4 v5 v6) (cg1 (fun kn => d62_3 C L kn v0 v1 v2 v3 v4 v5 v6) (funext fun v0 => funext fun v1 => funext fun v2 => funext fun v3 => funext fun v4 => funext fun v5 => funext fun v6 => funext fun v7 => (Eq.trans (b := execR Try.prog C hh L 62 (cAt (bodyOf Try.f62) [1, 1, 0, 1, 0, 0, 1, 1, 0, 0, 1, 1]) (Env.lay .nil [1, 5, 6, 8, 9, 10, 22] [(.pv v0), (.pv v1), (.pv v2), (.pv v3), (.pv v4), (.pv v5), (.pv v6)]) [.var 4 (.pv v7)] (leaveB 1 (nextT Try.prog C hh L 62 (cAt (bodyOf Try.f62) [1, 1, 0, 1, 0, 0, 1, 1, 1]) (loopK gg [1, 5, 8, 9, 10] 0 (prune (some ⟨[1, 5, 8, 9, 10], [], [(0, [5])], []⟩) 0 k))))) (by kernel_rfl) (e62_4 C L k gg v0 v1 v2 v3 v4 v5 v6 v7))))))
noncomputable def d62_1i {R : Type} (C : Kallee) (L : Nat) (ke0 : PV → Option R) : Nat → PV → PV → PV → PV → PV → Option R
  | 0, _, _, _, _, _ => none
  | N + 1, v0, v1, v2, v3, v4 => d62_2 C L ke0 (fun v0 v1 v2 v3 v4 => d62_1i C L ke0 N v0 v1 v2 v3 v4) v0 v1 v2 v3 v4
noncomputable def d62_1 {R : Type} (C : Kallee) (L : Nat) (ke0 : PV → Option R) (v0 : PV) (v1 : PV) (v2 : PV) (v3 : PV) (v4 : PV) : Option R := d62_1i C L ke0 L v0 v1 v2 v3 v4
theorem d62_1_i {R : Type} (C : Kallee) (L : Nat) (k : Ex → Env → Store → Option R) (N : Nat) (v0 : PV) (v1 : PV) (v2 : PV) (v3 : PV) (v4 : PV) : iter (execR Try.prog C hh L 62 (cAt (bodyOf Try.f62) [1, 1, 0, 1, 0, 0])) [1, 5, 8, 9, 10] 0 (prune (some ⟨[1, 5, 8, 9, 10], [], [(0, [5])], []⟩) 0 k) N (Env.lay .nil [1, 5, 8, 9, 10] [(.pv v0), (.pv v1), (.pv v2), (.pv v3), (.pv v4)]) [] = d62_1i C L (fun v0 => k (.exit 0) (Env.lay .nil [5] [(.pv v0)]) []) N v0 v1 v2 v3 v4 := by
  induction N generalizing v0 v1 v2 v3 v4 with
  | zero => rfl
  | succ N ih => exact Eq.trans (b := execR Try.prog C hh L 62 (cAt (bodyOf Try.f62) [1, 1, 0, 1, 0, 0]) (Env.lay .nil [1, 5, 8, 9, 10] [(.pv v0), (.pv v1), (.pv v2), (.pv v3), (.pv v4)]) [] (loopK (fun e s => iter (execR Try.prog C hh L 62 (cAt (bodyOf Try.f62) [1, 1, 0, 1, 0, 0])) [1, 5, 8, 9, 10] 0 (prune (some ⟨[1, 5, 8, 9, 10], [], [(0, [5])], []⟩) 0 k) N e s) [1, 5, 8, 9, 10] 0 (prune (some ⟨[1, 5, 8, 9, 10], [], [(0, [5])], []⟩) 0 k))) (by kernel_rfl) <| Eq.trans (e62_2 C L k (fun e s => iter (execR Try.prog C hh L 62 (cAt (bodyOf Try.f62) [1, 1, 0, 1, 0, 0])) [1, 5, 8, 9, 10] 0 (prune (some ⟨[1, 5, 8, 9, 10], [], [(0, [5])], []⟩) 0 k) N e s) v0 v1 v2 v3 v4) (congrArg (fun kg => d62_2 C L (fun v0 => k (.exit 0) (Env.lay .nil [5] [(.pv v0)]) []) kg v0 v1 v2 v3 v4) (funext fun v0 => funext fun v1 => funext fun v2 => funext fun v3 => funext fun v4 => ih v0 v1 v2 v3 v4))
theorem e62_1 {R : Type} (C : Kallee) (L : Nat) (k : Ex → Env → Store → Option R) (v0 : PV) (v1 : PV) (v2 : PV) (v3 : PV) (v4 : PV) : execR Try.prog C hh L 62 (cAt (bodyOf Try.f62) [1, 1, 0, 1, 0]) (Env.lay .nil [1, 5, 8, 9, 10] [(.pv v0), (.pv v1), (.pv v2), (.pv v3), (.pv v4)]) [] k = d62_1 C L (fun v0 => k (.exit 0) (Env.lay .nil [5] [(.pv v0)]) []) v0 v1 v2 v3 v4 :=
  Eq.trans (b := iter (execR Try.prog C hh L 62 (cAt (bodyOf Try.f62) [1, 1, 0, 1, 0, 0])) [1, 5, 8, 9, 10] 0 (prune (some ⟨[1, 5, 8, 9, 10], [], [(0, [5])], []⟩) 0 k) L (Env.lay .nil [1, 5, 8, 9, 10] [(.pv v0), (.pv v1), (.pv v2), (.pv v3), (.pv v4)]) []) (by kernel_rfl) (d62_1_i C L k L v0 v1 v2 v3 v4)
noncomputable def d62_5 (C : Kallee) (L : Nat)  (v0 : PV) : Option PV := (some v0)
theorem e62_5 (C : Kallee) (L : Nat) (v0 : PV) : execR Try.prog C hh L 62 (cAt (bodyOf Try.f62) [1, 1, 1]) (Env.lay .nil [5] [(.pv v0)]) [] (endP Try.prog Try.f62) = d62_5 C L v0 := by kernel_rfl
noncomputable def g62_0 (C : Kallee) (X1 : PV → PV → PV → PV → PV → Option PV)  (v0 : PV) (v1 : PV) : Option PV := (ob ((lenPV Try.prog 60 v0).map fun n => .sc (goInt n)) fun v103 => (X1 v1 (.sc (.int Go.IntKind.u32 0)) v0 v103 (.sc (.int Go.IntKind.i64 0))))
noncomputable def d62_0 (C : Kallee) (L : Nat)  (v0 : PV) (v1 : PV) : Option PV := g62_0 C (fun v0 v1 v2 v3 v4 => d62_1 C L (fun v0 => d62_5 C L v0) v0 v1 v2 v3 v4) v0 v1
theorem e62_0 (C : Kallee) (L : Nat) (v0 : PV) (v1 : PV) : execR Try.prog C hh L 62 (cAt (bodyOf Try.f62) []) (Env.ofArgs [.pv v0, .pv v1] 0 .nil) [] (endP Try.prog Try.f62) = d62_0 C L v0 v1 :=
  Eq.trans (b := g62_0 C (fun v0 v1 v2 v3 v4 => execR Try.prog C hh L 62 (cAt (bodyOf Try.f62) [1, 1, 0, 1, 0]) (Env.lay .nil [1, 5, 8, 9, 10] [(.pv v0), (.pv v1), (.pv v2), (.pv v3), (.pv v4)]) [] (leaveB 0 (nextT Try.prog C hh L 62 (cAt (bodyOf Try.f62) [1, 1, 1]) (endP Try.prog Try.f62)))) v0 v1) (by kernel_rfl) (cg1 (fun X1 => g62_0 C X1 v0 v1) (funext fun v0 => funext fun v1 => funext fun v2 => funext fun v3 => funext fun v4 => Eq.trans (e62_1 C L (leaveB 0 (nextT Try.prog C hh L 62 (cAt (bodyOf Try.f62) [1, 1, 1]) (endP Try.prog Try.f62))) v0 v1 v2 v3 v4) (cg1 (fun ke0 => d62_1 C L ke0 v0 v1 v2 v3 v4) (funext fun v0 => (Eq.trans (b := execR Try.prog C hh L 62 (cAt (bodyOf Try.f62) [1, 1, 1]) (Env.lay .nil [5] [(.pv v0)]) [] (endP Try.prog Try.f62)) (by kernel_rfl) (e62_5 C L v0))))))
theorem r62 (C : Kallee) (L : Nat) (v0 : PV) (v1 : PV) : bodyPR Try.prog C hh L 62 [v0, v1] = d62_0 C L v0 v1 := Eq.trans (bodyPR_eq (c := cAt (bodyOf Try.f62) []) [v0, v1] Try.func62 (by kernel_rfl) (by kernel_rfl)) (e62_0 C L v0 v1)

end
end Go.Lite

namespace Go.Lite
open Go Go.Proofs
set_option maxRecDepth 1000000
set_option linter.unusedVariables false
noncomputable section
/-! ## 63: muster/nodes.Up$1 -/
noncomputable def d63_0 (C : Kallee) (L : Nat)  (v0 : PV) (v1 : PV) : Option PV := (ck (PV.hasLay 4 v1) ((ob (PV.at_ 4 1 0 v1) fun v103 => (some v103))))
theorem e63_0 (C : Kallee) (L : Nat) (v0 : PV) (v1 : PV) : execR Try.prog C hh L 63 (cAt (bodyOf Try.f63) []) (Env.ofArgs [.pv v0, .pv v1] 0 .nil) [] (endP Try.prog Try.f63) = d63_0 C L v0 v1 := by kernel_rfl
theorem r63 (C : Kallee) (L : Nat) (v0 : PV) (v1 : PV) : bodyPR Try.prog C hh L 63 [v0, v1] = d63_0 C L v0 v1 := Eq.trans (bodyPR_eq (c := cAt (bodyOf Try.f63) []) [v0, v1] Try.func63 (by kernel_rfl) (by kernel_rfl)) (e63_0 C L v0 v1)

end
end Go.Lite

namespace Go.Lite
open Go Go.Proofs
set_option maxRecDepth 1000000
set_option linter.unusedVariables false
noncomputable section
/-! ## 64: strings.ContainsFunc -/
noncomputable def d64_0 (C : Kallee) (L : Nat)  (v0 : PV) (v1 : PV) : Option PV := (ob (callD C.pure (.clo 85 [] []) [v0, v1] false) fun v103 => (ob (binPV Try.prog .geq 3 (.tmp 7) (.const (.int Go.IntKind.i64 0)) v103 (.sc (.int Go.IntKind.i64 0))) fun v104 => (some v104)))
theorem e64_0 (C : Kallee) (L : Nat) (v0 : PV) (v1 : PV) : execR Try.prog C hh L 64 (cAt (bodyOf Try.f64) []) (Env.ofArgs [.pv v0, .pv v1] 0 .nil) [] (endP Try.prog Try.f64) = d64_0 C L v0 v1 := by kernel_rfl
theorem r64 (C : Kallee) (L : Nat) (v0 : PV) (v1 : PV) : bodyPR Try.prog C hh L 64 [v0, v1] = d64_0 C L v0 v1 := Eq.trans (bodyPR_eq (c := cAt (bodyOf Try.f64) []) [v0, v1] Try.func64 (by kernel_rfl) (by kernel_rfl)) (e64_0 C L v0 v1)

end
end Go.Lite

namespace Go.Lite
open Go Go.Proofs
set_option maxRecDepth 1000000
set_option linter.unusedVariables false
noncomputable section
/-! ## 65: muster/tree.Name$1 -/
noncomputable def d65_0 (C : Kallee) (L : Nat)  (v0 : PV) : Option PV := (ob (binPV Try.prog .neq 21 (.tmp 3) (.const (.int Go.IntKind.i32 45)) v0 (.sc (.int Go.IntKind.i32 45))) fun v102 => (gcase true v102 (ob (binPV Try.prog .neq 21 (.tmp 6) (.const (.int Go.IntKind.i32 95)) v0 (.sc (.int Go.IntKind.i32 95))) fun v103 => (gcase true v103 (ob (binPV Try.prog .lss 21 (.tmp 10) (.const (.int Go.IntKind.i32 48)) v0 (.sc (.int Go.IntKind.i32 48))) fun v104 => (gcase false v104 (ob (binPV Try.prog .gtr 21 (.tmp 13) (.const (.int Go.IntKind.i32 57)) v0 (.sc (.int Go.IntKind.i32 57))) fun v105 => (gcase true v105 (ob (binPV Try.prog .lss 21 (.tmp 18) (.const (.int Go.IntKind.i32 97)) v0 (.sc (.int Go.IntKind.i32 97))) fun v106 => (gcase false v106 (ob (binPV Try.prog .gtr 21 (.tmp 21) (.const (.int Go.IntKind.i32 122)) v0 (.sc (.int Go.IntKind.i32 122))) fun v107 => (some v107)) (some (.sc (.bool true))) none)) (some (.sc (.bool false))) none)) (ob (binPV Try.prog .lss 21 (.tmp 18) (.const (.int Go.IntKind.i32 97)) v0 (.sc (.int Go.IntKind.i32 97))) fun v110 => (gcase false v110 (ob (binPV Try.prog .gtr 21 (.tmp 21) (.const (.int Go.IntKind.i32 122)) v0 (.sc (.int Go.IntKind.i32 122))) fun v111 => (some v111)) (some (.sc (.bool true))) none)) none)) (some (.sc (.bool false))) none)) (some (.sc (.bool false))) none))
theorem e65_0 (C : Kallee) (L : Nat) (v0 : PV) : execR Try.prog C hh L 65 (cAt (bodyOf Try.f65) []) (Env.ofArgs [.pv v0] 0 .nil) [] (endP Try.prog Try.f65) = d65_0 C L v0 := by kernel_rfl
theorem r65 (C : Kallee) (L : Nat) (v0 : PV) : bodyPR Try.prog C hh L 65 [v0] = d65_0 C L v0 := Eq.trans (bodyPR_eq (c := cAt (bodyOf Try.f65) []) [v0] Try.func65 (by kernel_rfl) (by kernel_rfl)) (e65_0 C L v0)

end
end Go.Lite

namespace Go.Lite
open Go Go.Proofs
set_option maxRecDepth 1000000
set_option linter.unusedVariables false
noncomputable section
/-! ## 66: muster/quota.find -/
noncomputable def d66_0 (C : Kallee) (L : Nat)  (v0 : PV) (v1 : PV) : Option PV := (ck (PV.hasLay 0 v1) ((ob (callD C.pure (.clo 86 [] []) [v0, (.clo 87 [] [(.ro 0 v1)])] true) fun v103 => (some v103))))
theorem e66_0 (C : Kallee) (L : Nat) (v0 : PV) (v1 : PV) : execR Try.prog C hh L 66 (cAt (bodyOf Try.f66) []) (Env.ofArgs [.pv v0, .pv v1] 0 .nil) [] (endP Try.prog Try.f66) = d66_0 C L v0 v1 := by kernel_rfl
theorem r66 (C : Kallee) (L : Nat) (v0 : PV) (v1 : PV) : bodyPR Try.prog C hh L 66 [v0, v1] = d66_0 C L v0 v1 := Eq.trans (bodyPR_eq (c := cAt (bodyOf Try.f66) []) [v0, v1] Try.func66 (by kernel_rfl) (by kernel_rfl)) (e66_0 C L v0 v1)

end
end Go.Lite

namespace Go.Lite
open Go Go.Proofs
set_option maxRecDepth 1000000
set_option linter.unusedVariables false
noncomputable section
/-! ## 67: muster/quota.limit -/
noncomputable def d67_0 (C : Kallee) (L : Nat)  (v0 : PV) : Option PV := (ob (callD C.pure (.clo 88 [] []) [v0, (.clo 89 [] [])] false) fun v102 => (ob (unPV Try.prog .not v102) fun v103 => (some v103)))
theorem e67_0 (C : Kallee) (L : Nat) (v0 : PV) : execR Try.prog C hh L 67 (cAt (bodyOf Try.f67) []) (Env.ofArgs [.pv v0] 0 .nil) [] (endP Try.prog Try.f67) = d67_0 C L v0 := by kernel_rfl
theorem r67 (C : Kallee) (L : Nat) (v0 : PV) : bodyPR Try.prog C hh L 67 [v0] = d67_0 C L v0 := Eq.trans (bodyPR_eq (c := cAt (bodyOf Try.f67) []) [v0] Try.func67 (by kernel_rfl) (by kernel_rfl)) (e67_0 C L v0)

end
end Go.Lite

namespace Go.Lite
open Go Go.Proofs
set_option maxRecDepth 1000000
set_option linter.unusedVariables false
noncomputable section
/-! ## 68: muster/musterref13.Right -/
noncomputable def d68_2 {R : Type} (C : Kallee) (L : Nat) (kr : PV → Option R) (kg : PV → PV → Option R) (ke0 : PV → Option R) (v0 : PV) (v1 : PV) : Option R := (ob ((lenPV Try.prog 60 v0).map fun n => .sc (goInt n)) fun v102 => (ob (binPV Try.prog .lss 3 (.tmp 4) (.tmp 6) v1 v102) fun v103 => (cb v103 (ob (indexAddrPV Try.prog 60 v0 v1) fun v104 => (ob (fieldAddrPV Try.prog 87 v104 0) fun v105 => (ob (loadPV Try.prog 3 v105) fun v106 => (ob (binPV Try.prog .lss 3 (.tmp 14) (.const (.int Go.IntKind.i64 1)) v106 (.sc (.int Go.IntKind.i64 1))) fun v107 => (gcase false v107 (ob (indexAddrPV Try.prog 60 v0 v1) fun v108 => (ob (fieldAddrPV Try.prog 87 v108 0) fun v109 => (ob (loadPV Try.prog 3 v109) fun v110 => (ob (binPV Try.prog .gtr 3 (.tmp 21) (.const (.int Go.IntKind.i64 64)) v110 (.sc (.int Go.IntKind.i64 64))) fun v111 => (gcase false v111 (ob (indexAddrPV Try.prog 60 v0 v1) fun v112 => (ob (fieldAddrPV Try.prog 87 v112 2) fun v113 => (ob (loadPV Try.prog 3 v113) fun v114 => (ob (binPV Try.prog .lss 3 (.tmp 29) (.const (.int Go.IntKind.i64 1)) v114 (.sc (.int Go.IntKind.i64 1))) fun v115 => (gcase false v115 (ob (indexAddrPV Try.prog 60 v0 v1) fun v116 => (ob (fieldAddrPV Try.prog 87 v116 2) fun v117 => (ob (loadPV Try.prog 3 v117) fun v118 => (ob (binPV Try.prog .gtr 3 (.tmp 37) (.const (.int Go.IntKind.i64 1073741824)) v118 (.sc (.int Go.IntKind.i64 1073741824))) fun v119 => (cb v119 (kr (.sc (.bool false))) (ob (binPV Try.prog .add 3 (.tmp 8) (.const (.int Go.IntKind.i64 1)) v1 (.sc (.int Go.IntKind.i64 1))) fun v120 => (kg v0 v120))))))) (kr (.sc (.bool false))) none))))) (kr (.sc (.bool false))) none))))) (kr (.sc (.bool false))) none))))) (ke0 v0))))
theorem e68_2 {R : Type} (C : Kallee) (L : Nat) (k : Ex → Env → Store → Option R) (gg : Env → Store → Option R) (v0 : PV) (v1 : PV) : execR Try.prog C hh L 68 (cAt (bodyOf Try.f68) [1, 0, 1, 0, 0]) (Env.lay .nil [0, 3] [(.pv v0), (.pv v1)]) [] (loopK gg [0, 3] 0 (prune (some ⟨[0, 3], [], [(0, [0])], [2]⟩) 0 k)) = d68_2 C L (fun v0 => k .ret (Env.lay .nil [2] [(.pv v0)]) []) (fun v0 v1 => gg (Env.lay .nil [0, 3] [(.pv v0), (.pv v1)]) []) (fun v0 => k (.exit 0) (Env.lay .nil [0] [(.pv v0)]) []) v0 v1 := by kernel_rfl
noncomputable def d68_1i {R : Type} (C : Kallee) (L : Nat) (kr : PV → Option R) (ke0 : PV → Option R) : Nat → PV → PV → Option R
  | 0, _, _ => none
  | N + 1, v0, v1 => d68_2 C L kr (fun v0 v1 => d68_1i C L kr ke0 N v0 v1) ke0 v0 v1
noncomputable def d68_1 {R : Type} (C : Kallee) (L : Nat) (kr : PV → Option R) (ke0 : PV → Option R) (v0 : PV) (v1 : PV) : Option R := d68_1i C L kr ke0 L v0 v1
theorem d68_1_i {R : Type} (C : Kallee) (L : Nat) (k : Ex → Env → Store → Option R) (N : Nat) (v0 : PV) (v1 : PV) : iter (execR Try.prog C hh L 68 (cAt (bodyOf Try.f68) [1, 0, 1, 0, 0])) [0, 3] 0 (prune (some ⟨[0, 3], [], [(0, [0])], [2]⟩) 0 k) N (Env.lay .nil [0, 3] [(.pv v0), (.pv v1)]) [] = d68_1i C L (fun v0 => k .ret (Env.lay .nil [2] [(.pv v0)]) []) (fun v0 => k (.exit 0) (Env.lay .nil [0] [(.pv v0)]) []) N v0 v1 := by
  induction N generalizing v0 v1 with
  | zero => rfl
  | succ N ih => exact Eq.trans (b := execR Try.prog C hh L 68 (cAt (bodyOf Try.f68) [1, 0, 1, 0, 0]) (Env.lay .nil [0, 3] [(.pv v0), (.pv v1)]) [] (loopK (fun e s => iter (execR Try.prog C hh L 68 (cAt (bodyOf Try.f68) [1, 0, 1, 0, 0])) [0, 3] 0 (prune (some ⟨[0, 3], [], [(0, [0])], [2]⟩) 0 k) N e s) [0, 3] 0 (prune (some ⟨[0, 3], [], [(0, [0])], [2]⟩) 0 k))) (by kernel_rfl) <| Eq.trans (e68_2 C L k (fun e s => iter (execR Try.prog C hh L 68 (cAt (bodyOf Try.f68) [1, 0, 1, 0, 0])) [0, 3] 0 (prune (some ⟨[0, 3], [], [(0, [0])], [2]⟩) 0 k) N e s) v0 v1) (congrArg (fun kg => d68_2 C L (fun v0 => k .ret (Env.lay .nil [2] [(.pv v0)]) []) kg (fun v0 => k (.exit 0) (Env.lay .nil [0] [(.pv v0)]) []) v0 v1) (funext fun v0 => funext fun v1 => ih v0 v1))
theorem e68_1 {R : Type} (C : Kallee) (L : Nat) (k : Ex → Env → Store → Option R) (v0 : PV) (v1 : PV) : execR Try.prog C hh L 68 (cAt (bodyOf Try.f68) [1, 0, 1, 0]) (Env.lay .nil [0, 3] [(.pv v0), (.pv v1)]) [] k = d68_1 C L (fun v0 => k .ret (Env.lay .nil [2] [(.pv v0)]) []) (fun v0 => k (.exit 0) (Env.lay .nil [0] [(.pv v0)]) []) v0 v1 :=
  Eq.trans (b := iter (execR Try.prog C hh L 68 (cAt (bodyOf Try.f68) [1, 0, 1, 0, 0])) [0, 3] 0 (prune (some ⟨[0, 3], [], [(0, [0])], [2]⟩) 0 k) L (Env.lay .nil [0, 3] [(.pv v0), (.pv v1)]) []) (by kernel_rfl) (d68_1_i C L k L v0 v1)
noncomputable def d68_3 (C : Kallee) (L : Nat)  (v0 : PV) : Option PV := (ob ((lenPV Try.prog 60 v0).map fun n => .sc (goInt n)) fun v124 => (ob (binPV Try.prog .geq 3 (.tmp 41) (.const (.int Go.IntKind.i64 1)) v124 (.sc (.int Go.IntKind.i64 1))) fun v125 => (gcase true v125 (ob ((lenPV Try.prog 60 v0).map fun n => .sc (goInt n)) fun v126 => (ob (binPV Try.prog .leq 3 (.tmp 45) (.const (.int Go.IntKind.i64 32)) v126 (.sc (.int Go.IntKind.i64 32))) fun v127 => (some v127))) (some (.sc (.bool false))) none)))
theorem e68_3 (C : Kallee) (L : Nat) (v0 : PV) : execR Try.prog C hh L 68 (cAt (bodyOf Try.f68) [1, 1]) (Env.lay .nil [0] [(.pv v0)]) [] (endP Try.prog Try.f68) = d68_3 C L v0 := by kernel_rfl
noncomputable def g68_0 (C : Kallee) (X1 : PV → PV → Option PV)  (v0 : PV) : Option PV := (X1 v0 (.sc (.int Go.IntKind.i64 0)))
noncomputable def d68_0 (C : Kallee) (L : Nat)  (v0 : PV) : Option PV := g68_0 C (fun v0 v1 => d68_1 C L (fun v0 => (some v0)) (fun v0 => d68_3 C L v0) v0 v1) v0
theorem e68_0 (C : Kallee) (L : Nat) (v0 : PV) : execR Try.prog C hh L 68 (cAt (bodyOf Try.f68) []) (Env.ofArgs [.pv v0] 0 .nil) [] (endP Try.prog Try.f68) = d68_0 C L v0 :=
  Eq.trans (b := g68_0 C (fun v0 v1 => execR Try.prog C hh L 68 (cAt (bodyOf Try.f68) [1, 0, 1, 0]) (Env.lay .nil [0, 3] [(.pv v0), (.pv v1)]) [] (leaveB 0 (nextT Try.prog C hh L 68 (cAt (bodyOf Try.f68) [1, 1]) (endP Try.prog Try.f68)))) v0) (by kernel_rfl) (cg1 (fun X1 => g68_0 C X1 v0) (funext fun v0 => funext fun v1 => Eq.trans (e68_1 C L (leaveB 0 (nextT Try.prog C hh L 68 (cAt (bodyOf Try.f68) [1, 1]) (endP Try.prog Try.f68))) v0 v1) (cg2 (fun kr ke0 => d68_1 C L kr ke0 v0 v1) (funext fun v0 => (by kernel_rfl)) (funext fun v0 => (Eq.trans (b := execR Try.prog C hh L 68 (cAt (bodyOf Try.f68) [1, 1]) (Env.lay .nil [0] [(.pv v0)]) [] (endP Try.prog Try.f68)) (by kernel_rfl) (e68_3 C L v0))))))
theorem r68 (C : Kallee) (L : Nat) (v0 : PV) : bodyPR Try.prog C hh L 68 [v0] = d68_0 C L v0 := Eq.trans (bodyPR_eq (c := cAt (bodyOf Try.f68) []) [v0] Try.func68 (by kernel_rfl) (by kernel_rfl)) (e68_0 C L v0)

end
end Go.Lite

namespace Go.Lite
open Go Go.Proofs
set_option maxRecDepth 1000000
set_option linter.unusedVariables false
noncomputable section
/-! ## 69: muster/musterref15.quality -/
noncomputable def d69_2 {R : Type} (C : Kallee) (L : Nat) (kr : PV → Option R) (kg : PV → PV → PV → Option R) (ke0 : Option R) (v0 : PV) (v1 : PV) (v2 : PV) : Option R := (ob ((lenPV Try.prog 25 v0).map fun n => .sc (goInt n)) fun v103 => (ob (binPV Try.prog .lss 3 (.tmp 6) (.tmp 8) v2 v103) fun v104 => (cb v104 (ob (indexAddrPV Try.prog 25 v0 v2) fun v105 => (ob (fieldAddrPV Try.prog 84 v105 0) fun v106 => (ob (loadPV Try.prog 9 v106) fun v107 => (ob (binPV Try.prog .eql 9 (.tmp 16) (.tmp 17) v107 v1) fun v108 => (cb v108 (kr v2) (ob (binPV Try.prog .add 3 (.tmp 10) (.const (.int Go.IntKind.i64 1)) v2 (.sc (.int Go.IntKind.i64 1))) fun v109 => (kg v0 v1 v109))))))) (ke0))))
theorem e69_2 {R : Type} (C : Kallee) (L : Nat) (k : Ex → Env → Store → Option R) (gg : Env → Store → Option R) (v0 : PV) (v1 : PV) (v2 : PV) : execR Try.prog C hh L 69 (cAt (bodyOf Try.f69) [1, 0, 1, 0, 0]) (Env.lay .nil [0, 1, 5] [(.pv v0), (.pv v1), (.pv v2)]) [] (loopK gg [0, 1, 5] 0 (prune (some ⟨[0, 1, 5], [], [(0, [])], [4]⟩) 0 k)) = d69_2 C L (fun v0 => k .ret (Env.lay .nil [4] [(.pv v0)]) []) (fun v0 v1 v2 => gg (Env.lay .nil [0, 1, 5] [(.pv v0), (.pv v1), (.pv v2)]) []) (k (.exit 0) (Env.lay .nil [] []) []) v0 v1 v2 := by kernel_rfl
noncomputable def d69_1i {R : Type} (C : Kallee) (L : Nat) (kr : PV → Option R) (ke0 : Option R) : Nat → PV → PV → PV → Option R
  | 0, _, _, _ => none
  | N + 1, v0, v1, v2 => d69_2 C L kr (fun v0 v1 v2 => d69_1i C L kr ke0 N v0 v1 v2) ke0 v0 v1 v2
noncomputable def d69_1 {R : Type} (C : Kallee) (L : Nat) (kr : PV → Option R) (ke0 : Option R) (v0 : PV) (v1 : PV) (v2 : PV) : Option R := d69_1i C L kr ke0 L v0 v1 v2
theorem d69_1_i {R : Type} (C : Kallee) (L : Nat) (k : Ex → Env → Store → Option R) (N : Nat) (v0 : PV) (v1 : PV) (v2 : PV) : iter (execR Try.prog C hh L 69 (cAt (bodyOf Try.f69) [1, 0, 1, 0, 0])) [0, 1, 5] 0 (prune (some ⟨[0, 1, 5], [], [(0, [])], [4]⟩) 0 k) N (Env.lay .nil [0, 1, 5] [(.pv v0), (.pv v1), (.pv v2)]) [] = d69_1i C L (fun v0 => k .ret (Env.lay .nil [4] [(.pv v0)]) []) (k (.exit 0) (Env.lay .nil [] []) []) N v0 v1 v2 := by
  induction N generalizing v0 v1 v2 with
  | zero => rfl
  | succ N ih => exact Eq.trans (b := execR Try.prog C hh L 69 (cAt (bodyOf Try.f69) [1, 0, 1, 0, 0]) (Env.lay .nil [0, 1, 5] [(.pv v0), (.pv v1), (.pv v2)]) [] (loopK (fun e s => iter (execR Try.prog C hh L 69 (cAt (bodyOf Try.f69) [1, 0, 1, 0, 0])) [0, 1, 5] 0 (prune (some ⟨[0, 1, 5], [], [(0, [])], [4]⟩) 0 k) N e s) [0, 1, 5] 0 (prune (some ⟨[0, 1, 5], [], [(0, [])], [4]⟩) 0 k))) (by kernel_rfl) <| Eq.trans (e69_2 C L k (fun e s => iter (execR Try.prog C hh L 69 (cAt (bodyOf Try.f69) [1, 0, 1, 0, 0])) [0, 1, 5] 0 (prune (some ⟨[0, 1, 5], [], [(0, [])], [4]⟩) 0 k) N e s) v0 v1 v2) (congrArg (fun kg => d69_2 C L (fun v0 => k .ret (Env.lay .nil [4] [(.pv v0)]) []) kg (k (.exit 0) (Env.lay .nil [] []) []) v0 v1 v2) (funext fun v0 => funext fun v1 => funext fun v2 => ih v0 v1 v2))
theorem e69_1 {R : Type} (C : Kallee) (L : Nat) (k : Ex → Env → Store → Option R) (v0 : PV) (v1 : PV) (v2 : PV) : execR Try.prog C hh L 69 (cAt (bodyOf Try.f69) [1, 0, 1, 0]) (Env.lay .nil [0, 1, 5] [(.pv v0), (.pv v1), (.pv v2)]) [] k = d69_1 C L (fun v0 => k .ret (Env.lay .nil [4] [(.pv v0)]) []) (k (.exit 0) (Env.lay .nil [] []) []) v0 v1 v2 :=
  Eq.trans (b := iter (execR Try.prog C hh L 69 (cAt (bodyOf Try.f69) [1, 0, 1, 0, 0])) [0, 1, 5] 0 (prune (some ⟨[0, 1, 5], [], [(0, [])], [4]⟩) 0 k) L (Env.lay .nil [0, 1, 5] [(.pv v0), (.pv v1), (.pv v2)]) []) (by kernel_rfl) (d69_1_i C L k L v0 v1 v2)
noncomputable def d69_3 (C : Kallee) (L : Nat)   : Option PV := (some (.sc (.int Go.IntKind.i64 (-1))))
theorem e69_3 (C : Kallee) (L : Nat)  : execR Try.prog C hh L 69 (cAt (bodyOf Try.f69) [1, 1]) (Env.lay .nil [] []) [] (endP Try.prog Try.f69) = d69_3 C L := by kernel_rfl
noncomputable def g69_0 (C : Kallee) (X1 : PV → PV → PV → Option PV)  (v0 : PV) (v1 : PV) : Option PV := (X1 v0 v1 (.sc (.int Go.IntKind.i64 0)))
noncomputable def d69_0 (C : Kallee) (L : Nat)  (v0 : PV) (v1 : PV) : Option PV := g69_0 C (fun v0 v1 v2 => d69_1 C L (fun v0 => (some v0)) (d69_3 C L) v0 v1 v2) v0 v1
theorem e69_0 (C : Kallee) (L : Nat) (v0 : PV) (v1 : PV) : execR Try.prog C hh L 69 (cAt (bodyOf Try.f69) []) (Env.ofArgs [.pv v0, .pv v1] 0 .nil) [] (endP Try.prog Try.f69) = d69_0 C L v0 v1 :=
  Eq.trans (b := g69_0 C (fun v0 v1 v2 => execR Try.prog C hh L 69 (cAt (bodyOf Try.f69) [1, 0, 1, 0]) (Env.lay .nil [0, 1, 5] [(.pv v0), (.pv v1), (.pv v2)]) [] (leaveB 0 (nextT Try.prog C hh L 69 (cAt (bodyOf Try.f69) [1, 1]) (endP Try.prog Try.f69)))) v0 v1) (by kernel_rfl) (cg1 (fun X1 => g69_0 C X1 v0 v1) (funext fun v0 => funext fun v1 => funext fun v2 => Eq.trans (e69_1 C L (leaveB 0 (nextT Try.prog C hh L 69 (cAt (bodyOf Try.f69) [1, 1]) (endP Try.prog Try.f69))) v0 v1 v2) (cg2 (fun kr ke0 => d69_1 C L kr ke0 v0 v1 v2) (funext fun v0 => (by kernel_rfl)) (Eq.trans (b := execR Try.prog C hh L 69 (cAt (bodyOf Try.f69) [1, 1]) (Env.lay .nil [] []) [] (endP Try.prog Try.f69)) (by kernel_rfl) (e69_3 C L)))))
theorem r69 (C : Kallee) (L : Nat) (v0 : PV) (v1 : PV) : bodyPR Try.prog C hh L 69 [v0, v1] = d69_0 C L v0 v1 := Eq.trans (bodyPR_eq (c := cAt (bodyOf Try.f69) []) [v0, v1] Try.func69 (by kernel_rfl) (by kernel_rfl)) (e69_0 C L v0 v1)

end
end Go.Lite

namespace Go.Lite
open Go Go.Proofs
set_option maxRecDepth 1000000
set_option linter.unusedVariables false
noncomputable section
/-! ## 70: muster/musterref14.Right -/
noncomputable def d70_2 {R : Type} (C : Kallee) (L : Nat) (kr : PV → Option R) (kg : PV → PV → Option R) (ke0 : PV → Option R) (v0 : PV) (v1 : PV) : Option R := (ob ((lenPV Try.prog 24 v0).map fun n => .sc (goInt n)) fun v102 => (ob (binPV Try.prog .lss 3 (.tmp 9) (.tmp 11) v1 v102) fun v103 => (cb v103 (ob (indexAddrPV Try.prog 24 v0 v1) fun v104 => (ob (loadPV Try.prog 45 v104) fun v105 => (ob (putPV 4 0 4 (.pv (.agg [(.sc (.string ⟨#[]⟩)), (.sc (.string ⟨#[]⟩)), (.sc (.int Go.IntKind.i64 0))])) v105) fun v106 => (ob (slicePVd Try.prog 24 v0 none (some v1) none) fun v107 => (ob (PV.at_ 4 0 0 v106) fun v108 => (ob (callD C.pure (.clo 44 [] []) [v107, v108] false) fun v109 => (ob (extractPV v109 0) fun v110 => (ob (extractPV v109 1) fun v111 => (ob (slicePVd Try.prog 24 v0 none (some v1) none) fun v112 => (ob (PV.at_ 4 1 0 v106) fun v113 => (ob (callD C.pure (.clo 44 [] []) [v112, v113] false) fun v114 => (ob (extractPV v114 0) fun v115 => (ob (extractPV v114 1) fun v116 => (ob (PV.at_ 4 0 0 v106) fun v117 => (ob (callD C.pure (.clo 37 [] []) [v117] false) fun v118 => (ob (unPV Try.prog .not v118) fun v119 => (gcase false v119 (gcase false v111 (ob (PV.at_ 4 1 0 v106) fun v120 => (ob (binPV Try.prog .neq 9 (.tmp 46) (.const (.string ⟨#[]⟩)) v120 (.sc (.string ⟨#[]⟩))) fun v121 => (gcase true v121 (ob (unPV Try.prog .not v116) fun v122 => (gcase false v122 (ob (PV.at_ 4 2 0 v106) fun v123 => (ob (binPV Try.prog .lss 3 (.tmp 55) (.const (.int Go.IntKind.i64 (-1))) v123 (.sc (.int Go.IntKind.i64 (-1)))) fun v124 => (gcase false v124 (ob (PV.at_ 4 2 0 v106) fun v125 => (ob (binPV Try.prog .gtr 3 (.tmp 60) (.const (.int Go.IntKind.i64 1073741824)) v125 (.sc (.int Go.IntKind.i64 1073741824))) fun v126 => (cb v126 (kr (.sc (.bool false))) (ob (binPV Try.prog .add 3 (.tmp 13) (.const (.int Go.IntKind.i64 1)) v1 (.sc (.int Go.IntKind.i64 1))) fun v127 => (kg v0 v127))))) (kr (.sc (.bool false))) none))) (kr (.sc (.bool false))) none)) (ob (PV.at_ 4 2 0 v106) fun v130 => (ob (binPV Try.prog .lss 3 (.tmp 55) (.const (.int Go.IntKind.i64 (-1))) v130 (.sc (.int Go.IntKind.i64 (-1)))) fun v131 => (gcase false v131 (ob (PV.at_ 4 2 0 v106) fun v132 => (ob (binPV Try.prog .gtr 3 (.tmp 60) (.const (.int Go.IntKind.i64 1073741824)) v132 (.sc (.int Go.IntKind.i64 1073741824))) fun v133 => (cb v133 (kr (.sc (.bool false))) (ob (binPV Try.prog .add 3 (.tmp 13) (.const (.int Go.IntKind.i64 1)) v1 (.sc (.int Go.IntKind.i64 1))) fun v134 => (kg v0 v134))))) (kr (.sc (.bool false))) none))) none))) (kr (.sc (.bool false))) none) (kr (.sc (.bool false))) none))))))))))))))))) (ke0 v0))))
theorem e70_2 {R : Type} (C : Kallee) (L : Nat) (k : Ex → Env → Store → Option R) (gg : Env → Store → Option R) (v0 : PV) (v1 : PV) : execR Try.prog C hh L 70 (cAt (bodyOf Try.f70) [1, 0, 1, 0, 0]) (Env.lay .nil [0, 3] [(.pv v0), (.pv v1)]) [] (loopK gg [0, 3] 0 (prune (some ⟨[0, 3], [], [(0, [0])], [2]⟩) 0 k)) = d70_2 C L (fun v0 => k .ret (Env.lay .nil [2] [(.pv v0)]) []) (fun v0 v1 => gg (Env.lay .nil [0, 3] [(.pv v0), (.pv v1)]) []) (fun v0 => k (.exit 0) (Env.lay .nil [0] [(.pv v0)]) []) v0 v1 := by kernel_rfl
noncomputable def d70_1i {R : Type} (C : Kallee) (L : Nat) (kr : PV → Option R) (ke0 : PV → Option R) : Nat → PV → PV → Option R
  | 0, _, _ => none
  | N + 1, v0, v1 => d70_2 C L kr (fun v0 v1 => d70_1i C L kr ke0 N v0 v1) ke0 v0 v1
noncomputable def d70_1 {R : Type} (C : Kallee) (L : Nat) (kr : PV → Option R) (ke0 : PV → Option R) (v0 : PV) (v1 : PV) : Option R := d70_1i C L kr ke0 L v0 v1
theorem d70_1_i {R : Type} (C : Kallee) (L : Nat) (k : Ex → Env → Store → Option R) (N : Nat) (v0 : PV) (v1 : PV) : iter (execR Try.prog C hh L 70 (cAt (bodyOf Try.f70) [1, 0, 1, 0, 0])) [0, 3] 0 (prune (some ⟨[0, 3], [], [(0, [0])], [2]⟩) 0 k) N (Env.lay .nil [0, 3] [(.pv v0), (.pv v1)]) [] = d70_1i C L (fun v0 => k .ret (Env.lay .nil [2] [(.pv v0)]) []) (fun v0 => k (.exit 0) (Env.lay .nil [0] [(.pv v0)]) []) N v0 v1 := by
  induction N generalizing v0 v1 with
  | zero => rfl
  | succ N ih => exact Eq.trans (b := execR Try.prog C hh L 70 (cAt (bodyOf Try.f70) [1, 0, 1, 0, 0]) (Env.lay .nil [0, 3] [(.pv v0), (.pv v1)]) [] (loopK (fun e s => iter (execR Try.prog C hh L 70 (cAt (bodyOf Try.f70) [1, 0, 1, 0, 0])) [0, 3] 0 (prune (some ⟨[0, 3], [], [(0, [0])], [2]⟩) 0 k) N e s) [0, 3] 0 (prune (some ⟨[0, 3], [], [(0, [0])], [2]⟩) 0 k))) (by kernel_rfl) <| Eq.trans (e70_2 C L k (fun e s => iter (execR Try.prog C hh L 70 (cAt (bodyOf Try.f70) [1, 0, 1, 0, 0])) [0, 3] 0 (prune (some ⟨[0, 3], [], [(0, [0])], [2]⟩) 0 k) N e s) v0 v1) (congrArg (fun kg => d70_2 C L (fun v0 => k .ret (Env.lay .nil [2] [(.pv v0)]) []) kg (fun v0 => k (.exit 0) (Env.lay .nil [0] [(.pv v0)]) []) v0 v1) (funext fun v0 => funext fun v1 => ih v0 v1))
theorem e70_1 {R : Type} (C : Kallee) (L : Nat) (k : Ex → Env → Store → Option R) (v0 : PV) (v1 : PV) : execR Try.prog C hh L 70 (cAt (bodyOf Try.f70) [1, 0, 1, 0]) (Env.lay .nil [0, 3] [(.pv v0), (.pv v1)]) [] k = d70_1 C L (fun v0 => k .ret (Env.lay .nil [2] [(.pv v0)]) []) (fun v0 => k (.exit 0) (Env.lay .nil [0] [(.pv v0)]) []) v0 v1 :=
  Eq.trans (b := iter (execR Try.prog C hh L 70 (cAt (bodyOf Try.f70) [1, 0, 1, 0, 0])) [0, 3] 0 (prune (some ⟨[0, 3], [], [(0, [0])], [2]⟩) 0 k) L (Env.lay .nil [0, 3] [(.pv v0), (.pv v1)]) []) (by kernel_rfl) (d70_1_i C L k L v0 v1)
noncomputable def d70_3 (C : Kallee) (L : Nat)  (v0 : PV) : Option PV := (ob ((lenPV Try.prog 24 v0).map fun n => .sc (goInt n)) fun v139 => (ob (binPV Try.prog .geq 3 (.tmp 64) (.const (.int Go.IntKind.i64 1)) v139 (.sc (.int Go.IntKind.i64 1))) fun v140 => (gcase true v140 (ob ((lenPV Try.prog 24 v0).map fun n => .sc (goInt n)) fun v141 => (ob (binPV Try.prog .leq 3 (.tmp 68) (.const (.int Go.IntKind.i64 16)) v141 (.sc (.int Go.IntKind.i64 16))) fun v142 => (some v142))) (some (.sc (.bool false))) none)))
theorem e70_3 (C : Kallee) (L : Nat) (v0 : PV) : execR Try.prog C hh L 70 (cAt (bodyOf Try.f70) [1, 1]) (Env.lay .nil [0] [(.pv v0)]) [] (endP Try.prog Try.f70) = d70_3 C L v0 := by kernel_rfl
noncomputable def g70_0 (C : Kallee) (X1 : PV → PV → Option PV)  (v0 : PV) : Option PV := (X1 v0 (.sc (.int Go.IntKind.i64 0)))
noncomputable def d70_0 (C : Kallee) (L : Nat)  (v0 : PV) : Option PV := g70_0 C (fun v0 v1 => d70_1 C L (fun v0 => (some v0)) (fun v0 => d70_3 C L v0) v0 v1) v0
theorem e70_0 (C : Kallee) (L : Nat) (v0 : PV) : execR Try.prog C hh L 70 (cAt (bodyOf Try.f70) []) (Env.ofArgs [.pv v0] 0 .nil) [] (endP Try.prog Try.f70) = d70_0 C L v0 :=
  Eq.trans (b := g70_0 C (fun v0 v1 => execR Try.prog C hh L 70 (cAt (bodyOf Try.f70) [1, 0, 1, 0]) (Env.lay .nil [0, 3] [(.pv v0), (.pv v1)]) [] (leaveB 0 (nextT Try.prog C hh L 70 (cAt (bodyOf Try.f70) [1, 1]) (endP Try.prog Try.f70)))) v0) (by kernel_rfl) (cg1 (fun X1 => g70_0 C X1 v0) (funext fun v0 => funext fun v1 => Eq.trans (e70_1 C L (leaveB 0 (nextT Try.prog C hh L 70 (cAt (bodyOf Try.f70) [1, 1]) (endP Try.prog Try.f70))) v0 v1) (cg2 (fun kr ke0 => d70_1 C L kr ke0 v0 v1) (funext fun v0 => (by kernel_rfl)) (funext fun v0 => (Eq.trans (b := execR Try.prog C hh L 70 (cAt (bodyOf Try.f70) [1, 1]) (Env.lay .nil [0] [(.pv v0)]) [] (endP Try.prog Try.f70)) (by kernel_rfl) (e70_3 C L v0))))))
theorem r70 (C : Kallee) (L : Nat) (v0 : PV) : bodyPR Try.prog C hh L 70 [v0] = d70_0 C L v0 := Eq.trans (bodyPR_eq (c := cAt (bodyOf Try.f70) []) [v0] Try.func70 (by kernel_rfl) (by kernel_rfl)) (e70_0 C L v0)

end
end Go.Lite

namespace Go.Lite
open Go Go.Proofs
set_option maxRecDepth 1000000
set_option linter.unusedVariables false
noncomputable section
/-! ## 71: muster/musterref10.Of -/
noncomputable def d71_2 {R : Type} (C : Kallee) (L : Nat) (kr : PV → PV → Option R) (kg : PV → PV → PV → Option R) (ke0 : PV → Option R) (v0 : PV) (v1 : PV) (v2 : PV) : Option R := (ob ((lenPV Try.prog 22 v0).map fun n => .sc (goInt n)) fun v103 => (ob (binPV Try.prog .lss 3 (.tmp 6) (.tmp 8) v2 v103) fun v104 => (cb v104 (ob (indexAddrPV Try.prog 22 v0 v2) fun v105 => (ob (loadPV Try.prog 3 v105) fun v106 => (ob (binPV Try.prog .lss 3 (.tmp 15) (.const (.int Go.IntKind.i64 0)) v106 (.sc (.int Go.IntKind.i64 0))) fun v107 => (gcase false v107 (ob (indexAddrPV Try.prog 22 v0 v2) fun v108 => (ob (loadPV Try.prog 3 v108) fun v109 => (ob (binPV Try.prog .gtr 3 (.tmp 21) (.const (.int Go.IntKind.i64 31)) v109 (.sc (.int Go.IntKind.i64 31))) fun v110 => (cb v110 (kr (.sc (.int Go.IntKind.u32 0)) (.sc (.int Go.IntKind.i64 2))) (ob (indexAddrPV Try.prog 22 v0 v2) fun v111 => (ob (loadPV Try.prog 3 v111) fun v112 => (ob (callD C.pure (.clo 72 [] []) [v1, v112] false) fun v113 => (ob (unPV Try.prog .not v113) fun v114 => (cb v114 (ob (indexAddrPV Try.prog 22 v0 v2) fun v115 => (ob (loadPV Try.prog 3 v115) fun v116 => (ob (callD C.pure (.clo 90 [] []) [v116] false) fun v117 => (ob (binPV Try.prog .add 56 (.tmp 31) (.tmp 36) v1 v117) fun v118 => (ob (binPV Try.prog .add 3 (.tmp 10) (.const (.int Go.IntKind.i64 1)) v2 (.sc (.int Go.IntKind.i64 1))) fun v119 => (kg v0 v118 v119)))))) (ob (binPV Try.prog .add 3 (.tmp 10) (.const (.int Go.IntKind.i64 1)) v2 (.sc (.int Go.IntKind.i64 1))) fun v120 => (kg v0 v1 v120))))))))))) (kr (.sc (.int Go.IntKind.u32 0)) (.sc (.int Go.IntKind.i64 2))) none)))) (ke0 v1))))
theorem e71_2 {R : Type} (C : Kallee) (L : Nat) (k : Ex → Env → Store → Option R) (gg : Env → Store → Option R) (v0 : PV) (v1 : PV) (v2 : PV) : execR Try.prog C hh L 71 (cAt (bodyOf Try.f71) [1, 1, 0, 1, 0, 0]) (Env.lay .nil [0, 4, 5] [(.pv v0), (.pv v1), (.pv v2)]) [] (loopK gg [0, 4, 5] 0 (prune (some ⟨[0, 4, 5], [], [(0, [4])], [2, 3]⟩) 0 k)) = d71_2 C L (fun v0 v1 => k .ret (Env.lay .nil [2, 3] [(.pv v0), (.pv v1)]) []) (fun v0 v1 v2 => gg (Env.lay .nil [0, 4, 5] [(.pv v0), (.pv v1), (.pv v2)]) []) (fun v0 => k (.exit 0) (Env.lay .nil [4] [(.pv v0)]) []) v0 v1 v2 := by kernel_rfl
noncomputable def d71_1i {R : Type} (C : Kallee) (L : Nat) (kr : PV → PV → Option R) (ke0 : PV → Option R) : Nat → PV → PV → PV → Option R
  | 0, _, _, _ => none
  | N + 1, v0, v1, v2 => d71_2 C L kr (fun v0 v1 v2 => d71_1i C L kr ke0 N v0 v1 v2) ke0 v0 v1 v2
noncomputable def d71_1 {R : Type} (C : Kallee) (L : Nat) (kr : PV → PV → Option R) (ke0 : PV → Option R) (v0 : PV) (v1 : PV) (v2 : PV) : Option R := d71_1i C L kr ke0 L v0 v1 v2
theorem d71_1_i {R : Type} (C : Kallee) (L : Nat) (k : Ex → Env → Store → Option R) (N : Nat) (v0 : PV) (v1 : PV) (v2 : PV) : iter (execR Try.prog C hh L 71 (cAt (bodyOf Try.f71) [1, 1, 0, 1, 0, 0])) [0, 4, 5] 0 (prune (some ⟨[0, 4, 5], [], [(0, [4])], [2, 3]⟩) 0 k) N (Env.lay .nil [0, 4, 5] [(.pv v0), (.pv v1), (.pv v2)]) [] = d71_1i C L (fun v0 v1 => k .ret (Env.lay .nil [2, 3] [(.pv v0), (.pv v1)]) []) (fun v0 => k (.exit 0) (Env.lay .nil [4] [(.pv v0)]) []) N v0 v1 v2 := by
  induction N generalizing v0 v1 v2 with
  | zero => rfl
  | succ N ih => exact Eq.trans (b := execR Try.prog C hh L 71 (cAt (bodyOf Try.f71) [1, 1, 0, 1, 0, 0]) (Env.lay .nil [0, 4, 5] [(.pv v0), (.pv v1), (.pv v2)]) [] (loopK (fun e s => iter (execR Try.prog C hh L 71 (cAt (bodyOf Try.f71) [1, 1, 0, 1, 0, 0])) [0, 4, 5] 0 (prune (some ⟨[0, 4, 5], [], [(0, [4])], [2, 3]⟩) 0 k) N e s) [0, 4, 5] 0 (prune (some ⟨[0, 4, 5], [], [(0, [4])], [2, 3]⟩) 0 k))) (by kernel_rfl) <| Eq.trans (e71_2 C L k (fun e s => iter (execR Try.prog C hh L 71 (cAt (bodyOf Try.f71) [1, 1, 0, 1, 0, 0])) [0, 4, 5] 0 (prune (some ⟨[0, 4, 5], [], [(0, [4])], [2, 3]⟩) 0 k) N e s) v0 v1 v2) (congrArg (fun kg => d71_2 C L (fun v0 v1 => k .ret (Env.lay .nil [2, 3] [(.pv v0), (.pv v1)]) []) kg (fun v0 => k (.exit 0) (Env.lay .nil [4] [(.pv v0)]) []) v0 v1 v2) (funext fun v0 => funext fun v1 => funext fun v2 => ih v0 v1 v2))
theorem e71_1 {R : Type} (C : Kallee) (L : Nat) (k : Ex → Env → Store → Option R) (v0 : PV) (v1 : PV) (v2 : PV) : execR Try.prog C hh L 71 (cAt (bodyOf Try.f71) [1, 1, 0, 1, 0]) (Env.lay .nil [0, 4, 5] [(.pv v0), (.pv v1), (.pv v2)]) [] k = d71_1 C L (fun v0 v1 => k .ret (Env.lay .nil [2, 3] [(.pv v0), (.pv v1)]) []) (fun v0 => k (.exit 0) (Env.lay .nil [4] [(.pv v0)]) []) v0 v1 v2 :=
  Eq.trans (b := iter (execR Try.prog C hh L 71 (cAt (bodyOf Try.f71) [1, 1, 0, 1, 0, 0])) [0, 4, 5] 0 (prune (some ⟨[0, 4, 5], [], [(0, [4])], [2, 3]⟩) 0 k) L (Env.lay .nil [0, 4, 5] [(.pv v0), (.pv v1), (.pv v2)]) []) (by kernel_rfl) (d71_1_i C L k L v0 v1 v2)
noncomputable def d71_3 (C : Kallee) (L : Nat)  (v0 : PV) : Option PV := (some (.tup [v0, (.sc (.int Go.IntKind.i64 0))]))
theorem e71_3 (C : Kallee) (L : Nat) (v0 : PV) : execR Try.prog C hh L 71 (cAt (bodyOf Try.f71) [1, 1, 1]) (Env.lay .nil [4] [(.pv v0)]) [] (endP Try.prog Try.f71) = d71_3 C L v0 := by kernel_rfl
noncomputable def g71_0 (C : Kallee) (X1 : PV → PV → PV → Option PV)  (v0 : PV) : Option PV := (X1 v0 (.sc (.int Go.IntKind.u32 0)) (.sc (.int Go.IntKind.i64 0)))
noncomputable def d71_0 (C : Kallee) (L : Nat)  (v0 : PV) : Option PV := g71_0 C (fun v0 v1 v2 => d71_1 C L (fun v0 v1 => (some (.tup [v0, v1]))) (fun v0 => d71_3 C L v0) v0 v1 v2) v0
theorem e71_0 (C : Kallee) (L : Nat) (v0 : PV) : execR Try.prog C hh L 71 (cAt (bodyOf Try.f71) []) (Env.ofArgs [.pv v0] 0 .nil) [] (endP Try.prog Try.f71) = d71_0 C L v0 :=
  Eq.trans (b := g71_0 C (fun v0 v1 v2 => execR Try.prog C hh L 71 (cAt (bodyOf Try.f71) [1, 1, 0, 1, 0]) (Env.lay .nil [0, 4, 5] [(.pv v0), (.pv v1), (.pv v2)]) [] (leaveB 0 (nextT Try.prog C hh L 71 (cAt (bodyOf Try.f71) [1, 1, 1]) (endP Try.prog Try.f71)))) v0) (by kernel_rfl) (cg1 (fun X1 => g71_0 C X1 v0) (funext fun v0 => funext fun v1 => funext fun v2 => Eq.trans (e71_1 C L (leaveB 0 (nextT Try.prog C hh L 71 (cAt (bodyOf Try.f71) [1, 1, 1]) (endP Try.prog Try.f71))) v0 v1 v2) (cg2 (fun kr ke0 => d71_1 C L kr ke0 v0 v1 v2) (funext fun v0 => funext fun v1 => (by kernel_rfl)) (funext fun v0 => (Eq.trans (b := execR Try.prog C hh L 71 (cAt (bodyOf Try.f71) [1, 1, 1]) (Env.lay .nil [4] [(.pv v0)]) [] (endP Try.prog Try.f71)) (by kernel_rfl) (e71_3 C L v0))))))
theorem r71 (C : Kallee) (L : Nat) (v0 : PV) : bodyPR Try.prog C hh L 71 [v0] = d71_0 C L v0 := Eq.trans (bodyPR_eq (c := cAt (bodyOf Try.f71) []) [v0] Try.func71 (by kernel_rfl) (by kernel_rfl)) (e71_0 C L v0)

end
end Go.Lite

namespace Go.Lite
open Go Go.Proofs
set_option maxRecDepth 1000000
set_option linter.unusedVariables false
noncomputable section
/-! ## 72: muster/musterref10.Has -/
noncomputable def d72_2 {R : Type} (C : Kallee) (L : Nat) (kg : PV → PV → PV → Option R) (ke0 : PV → PV → Option R) (v0 : PV) (v1 : PV) (v2 : PV) : Option R := (ob (binPV Try.prog .lss 3 (.tmp 6) (.tmp 7) v2 v1) fun v103 => (cb v103 (ob (binPV Try.prog .quo 56 (.tmp 11) (.const (.int Go.IntKind.u32 2)) v0 (.sc (.int Go.IntKind.u32 2))) fun v104 => (ob (binPV Try.prog .add 3 (.tmp 9) (.const (.int Go.IntKind.i64 1)) v2 (.sc (.int Go.IntKind.i64 1))) fun v105 => (kg v104 v1 v105))) (ke0 v0 v1)))
theorem e72_2 {R : Type} (C : Kallee) (L : Nat) (k : Ex → Env → Store → Option R) (gg : Env → Store → Option R) (v0 : PV) (v1 : PV) (v2 : PV) : execR Try.prog C hh L 72 (cAt (bodyOf Try.f72) [1, 0, 1, 0, 0]) (Env.lay .nil [0, 1, 5] [(.pv v0), (.pv v1), (.pv v2)]) [] (loopK gg [0, 1, 5] 0 (prune (some ⟨[0, 1, 5], [], [(0, [0, 1])], []⟩) 0 k)) = d72_2 C L (fun v0 v1 v2 => gg (Env.lay .nil [0, 1, 5] [(.pv v0), (.pv v1), (.pv v2)]) []) (fun v0 v1 => k (.exit 0) (Env.lay .nil [0, 1] [(.pv v0), (.pv v1)]) []) v0 v1 v2 := by kernel_rfl
noncomputable def d72_1i {R : Type} (C : Kallee) (L : Nat) (ke0 : PV → PV → Option R) : Nat → PV → PV → PV → Option R
  | 0, _, _, _ => none
  | N + 1, v0, v1, v2 => d72_2 C L (fun v0 v1 v2 => d72_1i C L ke0 N v0 v1 v2) ke0 v0 v1 v2
noncomputable def d72_1 {R : Type} (C : Kallee) (L : Nat) (ke0 : PV → PV → Option R) (v0 : PV) (v1 : PV) (v2 : PV) : Option R := d72_1i C L ke0 L v0 v1 v2
theorem d72_1_i {R : Type} (C : Kallee) (L : Nat) (k : Ex → Env → Store → Option R) (N : Nat) (v0 : PV) (v1 : PV) (v2 : PV) : iter (execR Try.prog C hh L 72 (cAt (bodyOf Try.f72) [1, 0, 1, 0, 0])) [0, 1, 5] 0 (prune (some ⟨[0, 1, 5], [], [(0, [0, 1])], []⟩) 0 k) N (Env.lay .nil [0, 1, 5] [(.pv v0), (.pv v1), (.pv v2)]) [] = d72_1i C L (fun v0 v1 => k (.exit 0) (Env.lay .nil [0, 1] [(.pv v0), (.pv v1)]) []) N v0 v1 v2 := by
  induction N generalizing v0 v1 v2 with
  | zero => rfl
  | succ N ih => exact Eq.trans (b := execR Try.prog C hh L 72 (cAt (bodyOf Try.f72) [1, 0, 1, 0, 0]) (Env.lay .nil [0, 1, 5] [(.pv v0), (.pv v1), (.pv v2)]) [] (loopK (fun e s => iter (execR Try.prog C hh L 72 (cAt (bodyOf Try.f72) [1, 0, 1, 0, 0])) [0, 1, 5] 0 (prune (some ⟨[0, 1, 5], [], [(0, [0, 1])], []⟩) 0 k) N e s) [0, 1, 5] 0 (prune (some ⟨[0, 1, 5], [], [(0, [0, 1])], []⟩) 0 k))) (by kernel_rfl) <| Eq.trans (e72_2 C L k (fun e s => iter (execR Try.prog C hh L 72 (cAt (bodyOf Try.f72) [1, 0, 1, 0, 0])) [0, 1, 5] 0 (prune (some ⟨[0, 1, 5], [], [(0, [0, 1])], []⟩) 0 k) N e s) v0 v1 v2) (congrArg (fun kg => d72_2 C L kg (fun v0 v1 => k (.exit 0) (Env.lay .nil [0, 1] [(.pv v0), (.pv v1)]) []) v0 v1 v2) (funext fun v0 => funext fun v1 => funext fun v2 => ih v0 v1 v2))
theorem e72_1 {R : Type} (C : Kallee) (L : Nat) (k : Ex → Env → Store → Option R) (v0 : PV) (v1 : PV) (v2 : PV) : execR Try.prog C hh L 72 (cAt (bodyOf Try.f72) [1, 0, 1, 0]) (Env.lay .nil [0, 1, 5] [(.pv v0), (.pv v1), (.pv v2)]) [] k = d72_1 C L (fun v0 v1 => k (.exit 0) (Env.lay .nil [0, 1] [(.pv v0), (.pv v1)]) []) v0 v1 v2 :=
  Eq.trans (b := iter (execR Try.prog C hh L 72 (cAt (bodyOf Try.f72) [1, 0, 1, 0, 0])) [0, 1, 5] 0 (prune (some ⟨[0, 1, 5], [], [(0, [0, 1])], []⟩) 0 k) L (Env.lay .nil [0, 1, 5] [(.pv v0), (.pv v1), (.pv v2)]) []) (by kernel_rfl) (d72_1_i C L k L v0 v1 v2)
noncomputable def d72_3 (C : Kallee) (L : Nat)  (v0 : PV) (v1 : PV) : Option PV := (ob (binPV Try.prog .geq 3 (.tmp 13) (.const (.int Go.IntKind.i64 0)) v1 (.sc (.int Go.IntKind.i64 0))) fun v106 => (gcase true v106 (ob (binPV Try.prog .lss 3 (.tmp 16) (.const (.int Go.IntKind.i64 32)) v1 (.sc (.int Go.IntKind.i64 32))) fun v107 => (gcase true v107 (ob (binPV Try.prog .rem 56 (.tmp 20) (.const (.int Go.IntKind.u32 2)) v0 (.sc (.int Go.IntKind.u32 2))) fun v108 => (ob (binPV Try.prog .eql 56 (.tmp 21) (.const (.int Go.IntKind.u32 1)) v108 (.sc (.int Go.IntKind.u32 1))) fun v109 => (some v109))) (some (.sc (.bool false))) none)) (some (.sc (.bool false))) none))
theorem e72_3 (C : Kallee) (L : Nat) (v0 : PV) (v1 : PV) : execR Try.prog C hh L 72 (cAt (bodyOf Try.f72) [1, 1]) (Env.lay .nil [0, 1] [(.pv v0), (.pv v1)]) [] (endP Try.prog Try.f72) = d72_3 C L v0 v1 := by kernel_rfl
noncomputable def g72_0 (C : Kallee) (X1 : PV → PV → PV → Option PV)  (v0 : PV) (v1 : PV) : Option PV := (X1 v0 v1 (.sc (.int Go.IntKind.i64 0)))
noncomputable def d72_0 (C : Kallee) (L : Nat)  (v0 : PV) (v1 : PV) : Option PV := g72_0 C (fun v0 v1 v2 => d72_1 C L (fun v0 v1 => d72_3 C L v0 v1) v0 v1 v2) v0 v1
theorem e72_0 (C : Kallee) (L : Nat) (v0 : PV) (v1 : PV) : execR Try.prog C hh L 72 (cAt (bodyOf Try.f72) []) (Env.ofArgs [.pv v0, .pv v1] 0 .nil) [] (endP Try.prog Try.f72) = d72_0 C L v0 v1 :=
  Eq.trans (b := g72_0 C (fun v0 v1 v2 => execR Try.prog C hh L 72 (cAt (bodyOf Try.f72) [1, 0, 1, 0]) (Env.lay .nil [0, 1, 5] [(.pv v0), (.pv v1), (.pv v2)]) [] (leaveB 0 (nextT Try.prog C hh L 72 (cAt (bodyOf Try.f72) [1, 1]) (endP Try.prog Try.f72)))) v0 v1) (by kernel_rfl) (cg1 (fun X1 => g72_0 C X1 v0 v1) (funext fun v0 => funext fun v1 => funext fun v2 => Eq.trans (e72_1 C L (leaveB 0 (nextT Try.prog C hh L 72 (cAt (bodyOf Try.f72) [1, 1]) (endP Try.prog Try.f72))) v0 v1 v2) (cg1 (fun ke0 => d72_1 C L ke0 v0 v1 v2) (funext fun v0 => funext fun v1 => (Eq.trans (b := execR Try.prog C hh L 72 (cAt (bodyOf Try.f72) [1, 1]) (Env.lay .nil [0, 1] [(.pv v0), (.pv v1)]) [] (endP Try.prog Try.f72)) (by kernel_rfl) (e72_3 C L v0 v1))))))
theorem r72 (C : Kallee) (L : Nat) (v0 : PV) (v1 : PV) : bodyPR Try.prog C hh L 72 [v0, v1] = d72_0 C L v0 v1 := Eq.trans (bodyPR_eq (c := cAt (bodyOf Try.f72) []) [v0, v1] Try.func72 (by kernel_rfl) (by kernel_rfl)) (e72_0 C L v0 v1)

end
end Go.Lite

namespace Go.Lite
open Go Go.Proofs
set_option maxRecDepth 1000000
set_option linter.unusedVariables false
noncomputable section
/-! ## 73: muster/tree.find[muster/api.Account] -/
noncomputable def d73_0 (C : Kallee) (L : Nat)  (v0 : PV) (v1 : PV) : Option PV := (ob (callD C.pure (.clo 91 [] []) [v0, v1] false) fun v103 => (ob (maxPV Try.prog [v103, (.sc (.int Go.IntKind.i64 0))]) fun v104 => (ob (binPV Try.prog .geq 3 (.tmp 12) (.const (.int Go.IntKind.i64 0)) v103 (.sc (.int Go.IntKind.i64 0))) fun v105 => (some (.tup [v104, v105])))))
theorem e73_0 (C : Kallee) (L : Nat) (v0 : PV) (v1 : PV) : execR Try.prog C hh L 73 (cAt (bodyOf Try.f73) []) (Env.ofArgs [.pv v0, .pv v1] 0 .nil) [] (endP Try.prog Try.f73) = d73_0 C L v0 v1 := by kernel_rfl
theorem r73 (C : Kallee) (L : Nat) (v0 : PV) (v1 : PV) : bodyPR Try.prog C hh L 73 [v0, v1] = d73_0 C L v0 v1 := Eq.trans (bodyPR_eq (c := cAt (bodyOf Try.f73) []) [v0, v1] Try.func73 (by kernel_rfl) (by kernel_rfl)) (e73_0 C L v0 v1)

end
end Go.Lite

namespace Go.Lite
open Go Go.Proofs
set_option maxRecDepth 1000000
set_option linter.unusedVariables false
noncomputable section
/-! ## 74: muster/tree.Find$1 -/
noncomputable def d74_0 (C : Kallee) (L : Nat)  (v0 : PV) (v1 : PV) : Option PV := (ck (PV.hasLay 4 v0) ((ob (PV.at_ 4 0 0 v0) fun v103 => (ob (loadPV Try.prog 9 v1) fun v104 => (ob (binPV Try.prog .eql 9 (.tmp 5) (.tmp 6) v103 v104) fun v105 => (some v105))))))
theorem e74_0 (C : Kallee) (L : Nat) (v0 : PV) (v1 : PV) : execR Try.prog C hh L 74 (cAt (bodyOf Try.f74) []) (Env.ofArgs [.pv v0, .pv v1] 0 .nil) [] (endP Try.prog Try.f74) = d74_0 C L v0 v1 := by kernel_rfl
theorem r74 (C : Kallee) (L : Nat) (v0 : PV) (v1 : PV) : bodyPR Try.prog C hh L 74 [v0, v1] = d74_0 C L v0 v1 := Eq.trans (bodyPR_eq (c := cAt (bodyOf Try.f74) []) [v0, v1] Try.func74 (by kernel_rfl) (by kernel_rfl)) (e74_0 C L v0 v1)

end
end Go.Lite

namespace Go.Lite
open Go Go.Proofs
set_option maxRecDepth 1000000
set_option linter.unusedVariables false
noncomputable section
/-! ## 75: muster/quota.count -/
noncomputable def d75_3 {R : Type} (C : Kallee) (L : Nat) (kn : PV → PV → PV → PV → PV → PV → PV → PV → Option R) (v0 : PV) (v1 : PV) (v2 : PV) (v3 : PV) (v4 : PV) (v5 : PV) (v6 : PV) : Option R := (ob (PV.at_ 18 11 0 v6) fun v110 => (ob (binPV Try.prog .eql 105 (.tmp 17) (.const (.int Go.IntKind.u8 2)) v110 (.sc (.int Go.IntKind.u8 2))) fun v111 => (gcase true v111 (ob (PV.at_ 18 3 9 v6) fun v112 => (ob (callD C.pure v0 [v112] false) fun v113 => (kn v0 v1 v2 v3 v4 v5 v113 v6))) (kn v0 v1 v2 v3 v4 v5 (.sc (.bool false)) v6) none)))
theorem e75_3 {R : Type} (C : Kallee) (L : Nat) (k : Ex → Env → Store → Option R) (v0 : PV) (v1 : PV) (v2 : PV) (v3 : PV) (v4 : PV) (v5 : PV) (v6 : PV) : execR Try.prog C hh L 75 (cAt (bodyOf Try.f75) [1, 1, 0, 1, 0, 0, 1, 1, 0, 0, 1, 0]) (Env.lay .nil [1, 6, 7, 9, 10, 11, 12] [(.pv v0), (.pv v1), (.pv v2), (.ptr 0 0 0), (.pv v3), (.pv v4), (.pv v5)]) [.var 18 (.pv v6)] k = d75_3 C L (fun v0 v1 v2 v3 v4 v5 v6 v7 => k .normal (Env.lay .nil [1, 6, 7, 9, 10, 11, 12, 24] [(.pv v0), (.pv v1), (.pv v2), (.ptr 0 0 0), (.pv v3), (.pv v4), (.pv v5), (.pv v6)]) [.var 18 (.pv v7)]) v0 v1 v2 v3 v4 v5 v6 := by kernel_rfl
noncomputable def d75_4 {R : Type} (C : Kallee) (L : Nat) (kg : PV → PV → PV → PV → PV → PV → Option R) (v0 : PV) (v1 : PV) (v2 : PV) (v3 : PV) (v4 : PV) (v5 : PV) (v6 : PV) (v7 : PV) : Option R := (cb v6 (ob (PV.at_ 18 7 0 v7) fun v115 => (ob (PV.at_ 18 8 0 v7) fun v116 => (ob (binPV Try.prog .mul 3 (.tmp 28) (.tmp 31) v115 v116) fun v117 => (ob (binPV Try.prog .add 3 (.tmp 25) (.tmp 32) v1 v117) fun v118 => (ob (binPV Try.prog .add 3 (.tmp 34) (.const (.int Go.IntKind.i64 1)) v2 (.sc (.int Go.IntKind.i64 1))) fun v119 => (ob (binPV Try.prog .add 3 (.tmp 12) (.const (.int Go.IntKind.i64 1)) v5 (.sc (.int Go.IntKind.i64 1))) fun v120 => (kg v0 v118 v119 v3 v4 v120))))))) (ob (binPV Try.prog .add 3 (.tmp 12) (.const (.int Go.IntKind.i64 1)) v5 (.sc (.int Go.IntKind.i64 1))) fun v121 => (kg v0 v1 v2 v3 v4 v121)))
theorem e75_4 {R : Type} (C : Kallee) (L : Nat) (k : Ex → Env → Store → Option R) (gg : Env → Store → Option R) (v0 : PV) (v1 : PV) (v2 : PV) (v3 : PV) (v4 : PV) (v5 : PV) (v6 : PV) (v7 : PV) : execR Try.prog C hh L 75 (cAt (bodyOf Try.f75) [1, 1, 0, 1, 0, 0, 1, 1, 0, 0, 1, 1]) (Env.lay .nil [1, 6, 7, 9, 10, 11, 12, 24] [(.pv v0), (.pv v1), (.pv v2), (.ptr 0 0 0), (.pv v3), (.pv v4), (.pv v5), (.pv v6)]) [.var 18 (.pv v7)] (leaveB 1 (nextT Try.prog C hh L 75 (cAt (bodyOf Try.f75) [1, 1, 0, 1, 0, 0, 1, 1, 1]) (loopK gg [1, 6, 7, 10, 11, 12] 0 (prune (some ⟨[1, 6, 7, 10, 11, 12], [], [(0, [6, 7])], []⟩) 0 k)))) = d75_4 C L (fun v0 v1 v2 v3 v4 v5 => gg (Env.lay .nil [1, 6, 7, 10, 11, 12] [(.pv v0), (.pv v1), (.pv v2), (.pv v3), (.pv v4), (.pv v5)]) []) v0 v1 v2 v3 v4 v5 v6 v7 := by kernel_rfl
noncomputable def g75_2 {R : Type} (C : Kallee) (X1 : PV → PV → PV → PV → PV → PV → PV → Option R) (ke0 : PV → PV → Option R) (kg : PV → PV → PV → PV → PV → PV → Option R) (v0 : PV) (v1 : PV) (v2 : PV) (v3 : PV) (v4 : PV) (v5 : PV) : Option R := (ob (binPV Try.prog .lss 3 (.tmp 12) (.tmp 11) v5 v4) fun v106 => (cb v106 (ob (indexAddrPV Try.prog 100 v3 v5) fun v107 => (ob (loadPV Try.prog 107 v107) fun v108 => (ob (putPV 18 0 18 (.pv (.agg [(.sc (.int Go.IntKind.i64 0)), (.sc (.int Go.IntKind.i64 0)), (.sc (.int Go.IntKind.i64 0)), (.sc (.string ⟨#[]⟩)), (.sc (.string ⟨#[]⟩)), (.sc (.string ⟨#[]⟩)), (.sc (.string ⟨#[]⟩)), (.sc (.int Go.IntKind.i64 0)), (.sc (.int Go.IntKind.i64 0)), (.sc (.int Go.IntKind.i64 0)), (.sc (.slice none 0 0)), (.sc (.int Go.IntKind.u8 0)), (.sc (.int Go.IntKind.i64 0)), (.sc (.int Go.IntKind.i64 0)), (.sc (.int Go.IntKind.i64 0)), (.sc (.int Go.IntKind.u32 0)), (.sc (.int Go.IntKind.i64 0))])) v108) fun v109 => (X1 v0 v1 v2 v3 v4 v5 v109)))) (ke0 v1 v2)))
noncomputable def d75_2 {R : Type} (C : Kallee) (L : Nat) (ke0 : PV → PV → Option R) (kg : PV → PV → PV → PV → PV → PV → Option R) (v0 : PV) (v1 : PV) (v2 : PV) (v3 : PV) (v4 : PV) (v5 : PV) : Option R := g75_2 C (fun v0 v1 v2 v3 v4 v5 v6 => d75_3 C L (fun v0 v1 v2 v3 v4 v5 v6 v7 => d75_4 C L kg v0 v1 v2 v3 v4 v5 v6 v7) v0 v1 v2 v3 v4 v5 v6) ke0 kg v0 v1 v2 v3 v4 v5
theorem e75_2 {R : Type} (C : Kallee) (L : Nat) (k : Ex → Env → Store → Option R) (gg : Env → Store → Option R) (v0 : PV) (v1 : PV) (v2 : PV) (v3 : PV) (v4 : PV) (v5 : PV) : execR Try.prog C hh L 75 (cAt (bodyOf Try.f75) [1, 1, 0, 1, 0, 0]) (Env.lay .nil [1, 6, 7, 10, 11, 12] [(.pv v0), (.pv v1), (.pv v2), (.pv v3), (.pv v4), (.pv v5)]) [] (loopK gg [1, 6, 7, 10, 11, 12] 0 (prune (some ⟨[1, 6, 7, 10, 11, 12], [], [(0, [6, 7])], []⟩) 0 k)) = d75_2 C L (fun v0 v1 => k (.exit 0) (Env.lay .nil [6, 7] [(.pv v0), (.pv v1)]) []) (fun v0 v1 v2 v3 v4 v5 => gg (Env.lay .nil [1, 6, 7, 10, 11, 12] [(.pv v0), (.pv v1), (.pv v2), (.pv v3), (.pv v4), (.pv v5)]) []) v0 v1 v2 v3 v4 v5 :=
  Eq.trans (b := g75_2 C (fun v0 v1 v2 v3 v4 v5 v6 => execR Try.prog C hh L 75 (cAt (bodyOf Try.f75) [1, 1, 0, 1, 0, 0, 1, 1, 0, 0, 1, 0]) (Env.lay .nil [1, 6, 7, 9, 10, 11, 12] [(.pv v0), (.pv v1), (.pv v2), (.ptr 0 0 0), (.pv v3), (.pv v4), (.pv v5)]) [.var 18 (.pv v6)] (nextT Try.prog C hh L 75 (cAt (bodyOf Try.f75) [1, 1, 0, 1, 0, 0, 1, 1, 0, 0, 1, 1]) (leaveB 1 (nextT Try.prog C hh L 75 (cAt (bodyOf Try.f75) [1, 1, 0, 1, 0, 0, 1, 1, 1]) (loopK gg [1, 6, 7, 10, 11, 12] 0 (prune (some ⟨[1, 6, 7, 10, 11, 12], [], [(0, [6, 7])], []⟩) 0 k)))))) (fun v0 v1 => k (.exit 0) (Env.lay .nil [6, 7] [(.pv v0), (.pv v1)]) []) (fun v0 v1 v2 v3 v4 v5 => gg (Env.lay .nil [1, 6, 7, 10, 11, 12] [(.pv v0), (.pv v1), (.pv v2), (.pv v3), (.pv v4), (.pv v5)]) []) v0 v1 v2 v3 v4 v5) (by kernel_rfl) (cg1 (fun X1 => g75_2 C X1 (fun v0 v1 => k (.exit 0) (Env.lay .nil [6, 7] [(.pv v0), (.pv v1)]) []) (fun v0 v1 v2 v3 v4 v5 => gg (Env.lay .nil [1, 6, 7, 10, 11, 12] [(.pv v0), (.pv v1), (.pv v2), (.pv v3), (.pv v4), (.pv v5)]) []) v0 v1 v2 v3 v4 v5) (funext fun v0 => funext fun v1 => funext fun v2 => funext fun v3 => funext fun v4 => funext fun v5 => funext fun v6 => Eq.trans (e75_3 C L (nextT Try.prog C hh L 75 (cAt (bodyOf Try.f75) [1, 1, 0, 1, 0, 0, 1, 1, 0, 0, 1, 1]) (leaveB 1 (nextT Try.prog C hh L 75 (cAt (bodyOf Try.f75) [1, 1, 0, 1, 0, 0, 1, 1, 1]) (loopK gg [1, 6, 7, 10, 11, 12] 0 (prune (some ⟨[1, 6, 7, 10, 11, 12], [], [(0, [6, 7])], []⟩) 0 k))))) v0 v1 v2 v3 v4 v5 v6) (cg1 (fun kn => d75_3 C L kn v0 v1 v2 v3 v4 v5 v6) (funext fun v0 => funext fun v1 => funext fun v2 => funext fun v3 => funext fun v4 => funext fun v5 => funext fun v6 => funext fun v7 => (Eq.trans (b := execR Try.prog C hh L 75 (cAt (bodyOf Try.f75) [1, 1, 0, 1, 0, 0, 1, 1, 0, 0, 1, 1]) (Env.lay .nil [1, 6, 7, 9, 10, 11, 12, 24] [(.pv v0), (.pv v1), (.pv v2), (.ptr 0 0 0), (.pv v3), (.pv v4), (.pv v5), (.pv v6)]) [.var 18 (.pv v7)] (leaveB 1 (nextT Try.prog C hh L 75 (cAt (bodyOf Try.f75) [1, 1, 0, 1, 0, 0, 1, 1, 1]) (loopK gg [1, 6, 7, 10, 11, 12] 0 (prune (some ⟨[1, 6, 7, 10, 11, 12], [], [(0, [6, 7])], []⟩) 0 k))))) (by kernel_rfl) (e75_4 C L k gg v0 v1 v2 v3 v4 v5 v6 v7))))))
noncomputable def d75_1i {R : Type} (C : Kallee) (L : Nat) (ke0 : PV → PV → Option R) : Nat → PV → PV → PV → PV → PV → PV → Option R
  | 0, _, _, _, _, _, _ => none
  | N + 1, v0, v1, v2, v3, v4, v5 => d75_2 C L ke0 (fun v0 v1 v2 v3 v4 v5 => d75_1i C L ke0 N v0 v1 v2 v3 v4 v5) v0 v1 v2 v3 v4 v5
noncomputable def d75_1 {R : Type} (C : Kallee) (L : Nat) (ke0 : PV → PV → Option R) (v0 : PV) (v1 : PV) (v2 : PV) (v3 : PV) (v4 : PV) (v5 : PV) : Option R := d75_1i C L ke0 L v0 v1 v2 v3 v4 v5
theorem d75_1_i {R : Type} (C : Kallee) (L : Nat) (k : Ex → Env → Store → Option R) (N : Nat) (v0 : PV) (v1 : PV) (v2 : PV) (v3 : PV) (v4 : PV) (v5 : PV) : iter (execR Try.prog C hh L 75 (cAt (bodyOf Try.f75) [1, 1, 0, 1, 0, 0])) [1, 6, 7, 10, 11, 12] 0 (prune (some ⟨[1, 6, 7, 10, 11, 12], [], [(0, [6, 7])], []⟩) 0 k) N (Env.lay .nil [1, 6, 7, 10, 11, 12] [(.pv v0), (.pv v1), (.pv v2), (.pv v3), (.pv v4), (.pv v5)]) [] = d75_1i C L (fun v0 v1 => k (.exit 0) (Env.lay .nil [6, 7] [(.pv v0), (.pv v1)]) []) N v0 v1 v2 v3 v4 v5 := by
  induction N generalizing v0 v1 v2 v3 v4 v5 with
  | zero => rfl
  | succ N ih => exact Eq.trans (b := execR Try.prog C hh L 75 (cAt (bodyOf Try.f75) [1, 1, 0, 1, 0, 0]) (Env.lay .nil [1, 6, 7, 10, 11, 12] [(.pv v0), (.pv v1), (.pv v2), (.pv v3), (.pv v4), (.pv v5)]) [] (loopK (fun e s => iter (execR Try.prog C hh L 75 (cAt (bodyOf Try.f75) [1, 1, 0, 1, 0, 0])) [1, 6, 7, 10, 11, 12] 0 (prune (some ⟨[1, 6, 7, 10, 11, 12], [], [(0, [6, 7])], []⟩) 0 k) N e s) [1, 6, 7, 10, 11, 12] 0 (prune (some ⟨[1, 6, 7, 10, 11, 12], [], [(0, [6, 7])], []⟩) 0 k))) (by kernel_rfl) <| Eq.trans (e75_2 C L k (fun e s => iter (execR Try.prog C hh L 75 (cAt (bodyOf Try.f75) [1, 1, 0, 1, 0, 0])) [1, 6, 7, 10, 11, 12] 0 (prune (some ⟨[1, 6, 7, 10, 11, 12], [], [(0, [6, 7])], []⟩) 0 k) N e s) v0 v1 v2 v3 v4 v5) (congrArg (fun kg => d75_2 C L (fun v0 v1 => k (.exit 0) (Env.lay .nil [6, 7] [(.pv v0), (.pv v1)]) []) kg v0 v1 v2 v3 v4 v5) (funext fun v0 => funext fun v1 => funext fun v2 => funext fun v3 => funext fun v4 => funext fun v5 => ih v0 v1 v2 v3 v4 v5))
theorem e75_1 {R : Type} (C : Kallee) (L : Nat) (k : Ex → Env → Store → Option R) (v0 : PV) (v1 : PV) (v2 : PV) (v3 : PV) (v4 : PV) (v5 : PV) : execR Try.prog C hh L 75 (cAt (bodyOf Try.f75) [1, 1, 0, 1, 0]) (Env.lay .nil [1, 6, 7, 10, 11, 12] [(.pv v0), (.pv v1), (.pv v2), (.pv v3), (.pv v4), (.pv v5)]) [] k = d75_1 C L (fun v0 v1 => k (.exit 0) (Env.lay .nil [6, 7] [(.pv v0), (.pv v1)]) []) v0 v1 v2 v3 v4 v5 :=
  Eq.trans (b := iter (execR Try.prog C hh L 75 (cAt (bodyOf Try.f75) [1, 1, 0, 1, 0, 0])) [1, 6, 7, 10, 11, 12] 0 (prune (some ⟨[1, 6, 7, 10, 11, 12], [], [(0, [6, 7])], []⟩) 0 k) L (Env.lay .nil [1, 6, 7, 10, 11, 12] [(.pv v0), (.pv v1), (.pv v2), (.pv v3), (.pv v4), (.pv v5)]) []) (by kernel_rfl) (d75_1_i C L k L v0 v1 v2 v3 v4 v5)
noncomputable def d75_5 (C : Kallee) (L : Nat)  (v0 : PV) (v1 : PV) : Option PV := (some (.tup [v0, v1]))
theorem e75_5 (C : Kallee) (L : Nat) (v0 : PV) (v1 : PV) : execR Try.prog C hh L 75 (cAt (bodyOf Try.f75) [1, 1, 1]) (Env.lay .nil [6, 7] [(.pv v0), (.pv v1)]) [] (endP Try.prog Try.f75) = d75_5 C L v0 v1 := by kernel_rfl
noncomputable def g75_0 (C : Kallee) (X1 : PV → PV → PV → PV → PV → PV → Option PV)  (v0 : PV) (v1 : PV) : Option PV := (ob ((lenPV Try.prog 100 v0).map fun n => .sc (goInt n)) fun v103 => (X1 v1 (.sc (.int Go.IntKind.i64 0)) (.sc (.int Go.IntKind.i64 0)) v0 v103 (.sc (.int Go.IntKind.i64 0))))
noncomputable def d75_0 (C : Kallee) (L : Nat)  (v0 : PV) (v1 : PV) : Option PV := g75_0 C (fun v0 v1 v2 v3 v4 v5 => d75_1 C L (fun v0 v1 => d75_5 C L v0 v1) v0 v1 v2 v3 v4 v5) v0 v1
theorem e75_0 (C : Kallee) (L : Nat) (v0 : PV) (v1 : PV) : execR Try.prog C hh L 75 (cAt (bodyOf Try.f75) []) (Env.ofArgs [.pv v0, .pv v1] 0 .nil) [] (endP Try.prog Try.f75) = d75_0 C L v0 v1 :=
  Eq.trans (b := g75_0 C (fun v0 v1 v2 v3 v4 v5 => execR Try.prog C hh L 75 (cAt (bodyOf Try.f75) [1, 1, 0, 1, 0]) (Env.lay .nil [1, 6, 7, 10, 11, 12] [(.pv v0), (.pv v1), (.pv v2), (.pv v3), (.pv v4), (.pv v5)]) [] (leaveB 0 (nextT Try.prog C hh L 75 (cAt (bodyOf Try.f75) [1, 1, 1]) (endP Try.prog Try.f75)))) v0 v1) (by kernel_rfl) (cg1 (fun X1 => g75_0 C X1 v0 v1) (funext fun v0 => funext fun v1 => funext fun v2 => funext fun v3 => funext fun v4 => funext fun v5 => Eq.trans (e75_1 C L (leaveB 0 (nextT Try.prog C hh L 75 (cAt (bodyOf Try.f75) [1, 1, 1]) (endP Try.prog Try.f75))) v0 v1 v2 v3 v4 v5) (cg1 (fun ke0 => d75_1 C L ke0 v0 v1 v2 v3 v4 v5) (funext fun v0 => funext fun v1 => (Eq.trans (b := execR Try.prog C hh L 75 (cAt (bodyOf Try.f75) [1, 1, 1]) (Env.lay .nil [6, 7] [(.pv v0), (.pv v1)]) [] (endP Try.prog Try.f75)) (by kernel_rfl) (e75_5 C L v0 v1))))))
theorem r75 (C : Kallee) (L : Nat) (v0 : PV) (v1 : PV) : bodyPR Try.prog C hh L 75 [v0, v1] = d75_0 C L v0 v1 := Eq.trans (bodyPR_eq (c := cAt (bodyOf Try.f75) []) [v0, v1] Try.func75 (by kernel_rfl) (by kernel_rfl)) (e75_0 C L v0 v1)

end
end Go.Lite

namespace Go.Lite
open Go Go.Proofs
set_option maxRecDepth 1000000
set_option linter.unusedVariables false
noncomputable section
/-! ## 76: muster/quota.Qos$1 -/
noncomputable def d76_0 (C : Kallee) (L : Nat)  (v0 : PV) (v1 : PV) : Option PV := (ck (PV.hasLay 9 v0) ((ob (PV.at_ 9 2 0 v0) fun v103 => (ob (loadPV Try.prog 9 v1) fun v104 => (ob (binPV Try.prog .eql 9 (.tmp 5) (.tmp 6) v103 v104) fun v105 => (some v105))))))
theorem e76_0 (C : Kallee) (L : Nat) (v0 : PV) (v1 : PV) : execR Try.prog C hh L 76 (cAt (bodyOf Try.f76) []) (Env.ofArgs [.pv v0, .pv v1] 0 .nil) [] (endP Try.prog Try.f76) = d76_0 C L v0 v1 := by kernel_rfl
theorem r76 (C : Kallee) (L : Nat) (v0 : PV) (v1 : PV) : bodyPR Try.prog C hh L 76 [v0, v1] = d76_0 C L v0 v1 := Eq.trans (bodyPR_eq (c := cAt (bodyOf Try.f76) []) [v0, v1] Try.func76 (by kernel_rfl) (by kernel_rfl)) (e76_0 C L v0 v1)

end
end Go.Lite

namespace Go.Lite
open Go Go.Proofs
set_option maxRecDepth 1000000
set_option linter.unusedVariables false
noncomputable section
/-! ## 77: math/bits.OnesCount32 -/
noncomputable def d77_0 (C : Kallee) (L : Nat)  (v0 : PV) : Option PV := (ob (binPV Try.prog .shr 55 (.tmp 3) (.const (.int Go.IntKind.u64 24)) v0 (.sc (.int Go.IntKind.u64 24))) fun v102 => (ob (indexPV Try.prog 9 (.sc (.string ⟨#[0, 1, 1, 2, 1, 2, 2, 3, 1, 2, 2, 3, 2, 3, 3, 4, 1, 2, 2, 3, 2, 3, 3, 4, 2, 3, 3, 4, 3, 4, 4, 5, 1, 2, 2, 3, 2, 3, 3, 4, 2, 3, 3, 4, 3, 4, 4, 5, 2, 3, 3, 4, 3, 4, 4, 5, 3, 4, 4, 5, 4, 5, 5, 6, 1, 2, 2, 3, 2, 3, 3, 4, 2, 3, 3, 4, 3, 4, 4, 5, 2, 3, 3, 4, 3, 4, 4, 5, 3, 4, 4, 5, 4, 5, 5, 6, 2, 3, 3, 4, 3, 4, 4, 5, 3, 4, 4, 5, 4, 5, 5, 6, 3, 4, 4, 5, 4, 5, 5, 6, 4, 5, 5, 6, 5, 6, 6, 7, 1, 2, 2, 3, 2, 3, 3, 4, 2, 3, 3, 4, 3, 4, 4, 5, 2, 3, 3, 4, 3, 4, 4, 5, 3, 4, 4, 5, 4, 5, 5, 6, 2, 3, 3, 4, 3, 4, 4, 5, 3, 4, 4, 5, 4, 5, 5, 6, 3, 4, 4, 5, 4, 5, 5, 6, 4, 5, 5, 6, 5, 6, 6, 7, 2, 3, 3, 4, 3, 4, 4, 5, 3, 4, 4, 5, 4, 5, 5, 6, 3, 4, 4, 5, 4, 5, 5, 6, 4, 5, 5, 6, 5, 6, 6, 7, 3, 4, 4, 5, 4, 5, 5, 6, 4, 5, 5, 6, 5, 6, 6, 7, 4, 5, 5, 6, 5, 6, 6, 7, 5, 6, 6, 7, 6, 7, 7, 8]⟩)) v102) fun v103 => (ob (binPV Try.prog .shr 55 (.tmp 6) (.const (.int Go.IntKind.u64 16)) v0 (.sc (.int Go.IntKind.u64 16))) fun v104 => (ob (binPV Try.prog .and 55 (.tmp 7) (.const (.int Go.IntKind.u32 255)) v104 (.sc (.int Go.IntKind.u32 255))) fun v105 => (ob (indexPV Try.prog 9 (.sc (.string ⟨#[0, 1, 1, 2, 1, 2, 2, 3, 1, 2, 2, 3, 2, 3, 3, 4, 1, 2, 2, 3, 2, 3, 3, 4, 2, 3, 3, 4, 3, 4, 4, 5, 1, 2, 2, 3, 2, 3, 3, 4, 2, 3, 3, 4, 3, 4, 4, 5, 2, 3, 3, 4, 3, 4, 4, 5, 3, 4, 4, 5, 4, 5, 5, 6, 1, 2, 2, 3, 2, 3, 3, 4, 2, 3, 3, 4, 3, 4, 4, 5, 2, 3, 3, 4, 3, 4, 4, 5, 3, 4, 4, 5, 4, 5, 5, 6, 2, 3, 3, 4, 3, 4, 4, 5, 3, 4, 4, 5, 4, 5, 5, 6, 3, 4, 4, 5, 4, 5, 5, 6, 4, 5, 5, 6, 5, 6, 6, 7, 1, 2, 2, 3, 2, 3, 3, 4, 2, 3, 3, 4, 3, 4, 4, 5, 2, 3, 3, 4, 3, 4, 4, 5, 3, 4, 4, 5, 4, 5, 5, 6, 2, 3, 3, 4, 3, 4, 4, 5, 3, 4, 4, 5, 4, 5, 5, 6, 3, 4, 4, 5, 4, 5, 5, 6, 4, 5, 5, 6, 5, 6, 6, 7, 2, 3, 3, 4, 3, 4, 4, 5, 3, 4, 4, 5, 4, 5, 5, 6, 3, 4, 4, 5, 4, 5, 5, 6, 4, 5, 5, 6, 5, 6, 6, 7, 3, 4, 4, 5, 4, 5, 5, 6, 4, 5, 5, 6, 5, 6, 6, 7, 4, 5, 5, 6, 5, 6, 6, 7, 5, 6, 6, 7, 6, 7, 7, 8]⟩)) v105) fun v106 => (ob (binPV Try.prog .add 5 (.tmp 5) (.tmp 9) v103 v106) fun v107 => (ob (binPV Try.prog .shr 55 (.tmp 11) (.const (.int Go.IntKind.u64 8)) v0 (.sc (.int Go.IntKind.u64 8))) fun v108 => (ob (binPV Try.prog .and 55 (.tmp 12) (.const (.int Go.IntKind.u32 255)) v108 (.sc (.int Go.IntKind.u32 255))) fun v109 => (ob (indexPV Try.prog 9 (.sc (.string ⟨#[0, 1, 1, 2, 1, 2, 2, 3, 1, 2, 2, 3, 2, 3, 3, 4, 1, 2, 2, 3, 2, 3, 3, 4, 2, 3, 3, 4, 3, 4, 4, 5, 1, 2, 2, 3, 2, 3, 3, 4, 2, 3, 3, 4, 3, 4, 4, 5, 2, 3, 3, 4, 3, 4, 4, 5, 3, 4, 4, 5, 4, 5, 5, 6, 1, 2, 2, 3, 2, 3, 3, 4, 2, 3, 3, 4, 3, 4, 4, 5, 2, 3, 3, 4, 3, 4, 4, 5, 3, 4, 4, 5, 4, 5, 5, 6, 2, 3, 3, 4, 3, 4, 4, 5, 3, 4, 4, 5, 4, 5, 5, 6, 3, 4, 4, 5, 4, 5, 5, 6, 4, 5, 5, 6, 5, 6, 6, 7, 1, 2, 2, 3, 2, 3, 3, 4, 2, 3, 3, 4, 3, 4, 4, 5, 2, 3, 3, 4, 3, 4, 4, 5, 3, 4, 4, 5, 4, 5, 5, 6, 2, 3, 3, 4, 3, 4, 4, 5, 3, 4, 4, 5, 4, 5, 5, 6, 3, 4, 4, 5, 4, 5, 5, 6, 4, 5, 5, 6, 5, 6, 6, 7, 2, 3, 3, 4, 3, 4, 4, 5, 3, 4, 4, 5, 4, 5, 5, 6, 3, 4, 4, 5, 4, 5, 5, 6, 4, 5, 5, 6, 5, 6, 6, 7, 3, 4, 4, 5, 4, 5, 5, 6, 4, 5, 5, 6, 5, 6, 6, 7, 4, 5, 5, 6, 5, 6, 6, 7, 5, 6, 6, 7, 6, 7, 7, 8]⟩)) v109) fun v110 => (ob (binPV Try.prog .add 5 (.tmp 10) (.tmp 14) v107 v110) fun v111 => (ob (binPV Try.prog .and 55 (.tmp 16) (.const (.int Go.IntKind.u32 255)) v0 (.sc (.int Go.IntKind.u32 255))) fun v112 => (ob (indexPV Try.prog 9 (.sc (.string ⟨#[0, 1, 1, 2, 1, 2, 2, 3, 1, 2, 2, 3, 2, 3, 3, 4, 1, 2, 2, 3, 2, 3, 3, 4, 2, 3, 3, 4, 3, 4, 4, 5, 1, 2, 2, 3, 2, 3, 3, 4, 2, 3, 3, 4, 3, 4, 4, 5, 2, 3, 3, 4, 3, 4, 4, 5, 3, 4, 4, 5, 4, 5, 5, 6, 1, 2, 2, 3, 2, 3, 3, 4, 2, 3, 3, 4, 3, 4, 4, 5, 2, 3, 3, 4, 3, 4, 4, 5, 3, 4, 4, 5, 4, 5, 5, 6, 2, 3, 3, 4, 3, 4, 4, 5, 3, 4, 4, 5, 4, 5, 5, 6, 3, 4, 4, 5, 4, 5, 5, 6, 4, 5, 5, 6, 5, 6, 6, 7, 1, 2, 2, 3, 2, 3, 3, 4, 2, 3, 3, 4, 3, 4, 4, 5, 2, 3, 3, 4, 3, 4, 4, 5, 3, 4, 4, 5, 4, 5, 5, 6, 2, 3, 3, 4, 3, 4, 4, 5, 3, 4, 4, 5, 4, 5, 5, 6, 3, 4, 4, 5, 4, 5, 5, 6, 4, 5, 5, 6, 5, 6, 6, 7, 2, 3, 3, 4, 3, 4, 4, 5, 3, 4, 4, 5, 4, 5, 5, 6, 3, 4, 4, 5, 4, 5, 5, 6, 4, 5, 5, 6, 5, 6, 6, 7, 3, 4, 4, 5, 4, 5, 5, 6, 4, 5, 5, 6, 5, 6, 6, 7, 4, 5, 5, 6, 5, 6, 6, 7, 5, 6, 6, 7, 6, 7, 7, 8]⟩)) v112) fun v113 => (ob (binPV Try.prog .add 5 (.tmp 15) (.tmp 18) v111 v113) fun v114 => (ob (convPV Try.prog 5 3 v114) fun v115 => (some v115)))))))))))))))
theorem e77_0 (C : Kallee) (L : Nat) (v0 : PV) : execR Try.prog C hh L 77 (cAt (bodyOf Try.f77) []) (Env.ofArgs [.pv v0] 0 .nil) [] (endP Try.prog Try.f77) = d77_0 C L v0 := by kernel_rfl
theorem r77 (C : Kallee) (L : Nat) (v0 : PV) : bodyPR Try.prog C hh L 77 [v0] = d77_0 C L v0 := Eq.trans (bodyPR_eq (c := cAt (bodyOf Try.f77) []) [v0] Try.func77 (by kernel_rfl) (by kernel_rfl)) (e77_0 C L v0)

end
end Go.Lite

namespace Go.Lite
open Go Go.Proofs
set_option maxRecDepth 1000000
set_option linter.unusedVariables false
noncomputable section
/-! ## 78: muster/nodes.Able$1 -/
noncomputable def d78_0 (C : Kallee) (L : Nat)  (v0 : PV) (v1 : PV) (v2 : PV) (v3 : PV) : Option PV := (ck (PV.hasLay 4 v1) ((ob (loadPV Try.prog 56 v2) fun v105 => (ob (binPV Try.prog .shr 56 (.tmp 7) (.tmp 8) v105 v0) fun v106 => (ob (binPV Try.prog .and 56 (.tmp 9) (.const (.int Go.IntKind.u32 1)) v106 (.sc (.int Go.IntKind.u32 1))) fun v107 => (ob (binPV Try.prog .eql 56 (.tmp 10) (.const (.int Go.IntKind.u32 1)) v107 (.sc (.int Go.IntKind.u32 1))) fun v108 => (gcase true v108 (ob (PV.at_ 4 0 0 v1) fun v109 => (ob (loadPV Try.prog 3 v3) fun v110 => (ob (binPV Try.prog .geq 3 (.tmp 14) (.tmp 15) v109 v110) fun v111 => (some v111)))) (some (.sc (.bool false))) none)))))))
theorem e78_0 (C : Kallee) (L : Nat) (v0 : PV) (v1 : PV) (v2 : PV) (v3 : PV) : execR Try.prog C hh L 78 (cAt (bodyOf Try.f78) []) (Env.ofArgs [.pv v0, .pv v1, .pv v2, .pv v3] 0 .nil) [] (endP Try.prog Try.f78) = d78_0 C L v0 v1 v2 v3 := by kernel_rfl
theorem r78 (C : Kallee) (L : Nat) (v0 : PV) (v1 : PV) (v2 : PV) (v3 : PV) : bodyPR Try.prog C hh L 78 [v0, v1, v2, v3] = d78_0 C L v0 v1 v2 v3 := Eq.trans (bodyPR_eq (c := cAt (bodyOf Try.f78) []) [v0, v1, v2, v3] Try.func78 (by kernel_rfl) (by kernel_rfl)) (e78_0 C L v0 v1 v2 v3)

end
end Go.Lite

namespace Go.Lite
open Go Go.Proofs
set_option maxRecDepth 1000000
set_option linter.unusedVariables false
noncomputable section
/-! ## 79: slices.IndexFunc[[]string,string] -/
noncomputable def d79_2 {R : Type} (C : Kallee) (L : Nat) (kr : PV → Option R) (kg : PV → PV → PV → PV → Option R) (ke0 : Option R) (v0 : PV) (v1 : PV) (v2 : PV) (v3 : PV) : Option R := (ob (binPV Try.prog .lss 3 (.tmp 8) (.tmp 7) v3 v2) fun v104 => (cb v104 (ob (indexAddrPV Try.prog 32 v0 v3) fun v105 => (ob (loadPV Try.prog 9 v105) fun v106 => (ob (callD C.pure v1 [v106] false) fun v107 => (cb v107 (kr v3) (ob (binPV Try.prog .add 3 (.tmp 8) (.const (.int Go.IntKind.i64 1)) v3 (.sc (.int Go.IntKind.i64 1))) fun v108 => (kg v0 v1 v2 v108)))))) (ke0)))
theorem e79_2 {R : Type} (C : Kallee) (L : Nat) (k : Ex → Env → Store → Option R) (gg : Env → Store → Option R) (v0 : PV) (v1 : PV) (v2 : PV) (v3 : PV) : execR Try.prog C hh L 79 (cAt (bodyOf Try.f79) [1, 0, 1, 0, 0]) (Env.lay .nil [0, 1, 7, 8] [(.pv v0), (.pv v1), (.pv v2), (.pv v3)]) [] (loopK gg [0, 1, 7, 8] 0 (prune (some ⟨[0, 1, 7, 8], [], [(0, [])], [4]⟩) 0 k)) = d79_2 C L (fun v0 => k .ret (Env.lay .nil [4] [(.pv v0)]) []) (fun v0 v1 v2 v3 => gg (Env.lay .nil [0, 1, 7, 8] [(.pv v0), (.pv v1), (.pv v2), (.pv v3)]) []) (k (.exit 0) (Env.lay .nil [] []) []) v0 v1 v2 v3 := by kernel_rfl
noncomputable def d79_1i {R : Type} (C : Kallee) (L : Nat) (kr : PV → Option R) (ke0 : Option R) : Nat → PV → PV → PV → PV → Option R
  | 0, _, _, _, _ => none
  | N + 1, v0, v1, v2, v3 => d79_2 C L kr (fun v0 v1 v2 v3 => d79_1i C L kr ke0 N v0 v1 v2 v3) ke0 v0 v1 v2 v3
noncomputable def d79_1 {R : Type} (C : Kallee) (L : Nat) (kr : PV → Option R) (ke0 : Option R) (v0 : PV) (v1 : PV) (v2 : PV) (v3 : PV) : Option R := d79_1i C L kr ke0 L v0 v1 v2 v3
theorem d79_1_i {R : Type} (C : Kallee) (L : Nat) (k : Ex → Env → Store → Option R) (N : Nat) (v0 : PV) (v1 : PV) (v2 : PV) (v3 : PV) : iter (execR Try.prog C hh L 79 (cAt (bodyOf Try.f79) [1, 0, 1, 0, 0])) [0, 1, 7, 8] 0 (prune (some ⟨[0, 1, 7, 8], [], [(0, [])], [4]⟩) 0 k) N (Env.lay .nil [0, 1, 7, 8] [(.pv v0), (.pv v1), (.pv v2), (.pv v3)]) [] = d79_1i C L (fun v0 => k .ret (Env.lay .nil [4] [(.pv v0)]) []) (k (.exit 0) (Env.lay .nil [] []) []) N v0 v1 v2 v3 := by
  induction N generalizing v0 v1 v2 v3 with
  | zero => rfl
  | succ N ih => exact Eq.trans (b := execR Try.prog C hh L 79 (cAt (bodyOf Try.f79) [1, 0, 1, 0, 0]) (Env.lay .nil [0, 1, 7, 8] [(.pv v0), (.pv v1), (.pv v2), (.pv v3)]) [] (loopK (fun e s => iter (execR Try.prog C hh L 79 (cAt (bodyOf Try.f79) [1, 0, 1, 0, 0])) [0, 1, 7, 8] 0 (prune (some ⟨[0, 1, 7, 8], [], [(0, [])], [4]⟩) 0 k) N e s) [0, 1, 7, 8] 0 (prune (some ⟨[0, 1, 7, 8], [], [(0, [])], [4]⟩) 0 k))) (by kernel_rfl) <| Eq.trans (e79_2 C L k (fun e s => iter (execR Try.prog C hh L 79 (cAt (bodyOf Try.f79) [1, 0, 1, 0, 0])) [0, 1, 7, 8] 0 (prune (some ⟨[0, 1, 7, 8], [], [(0, [])], [4]⟩) 0 k) N e s) v0 v1 v2 v3) (congrArg (fun kg => d79_2 C L (fun v0 => k .ret (Env.lay .nil [4] [(.pv v0)]) []) kg (k (.exit 0) (Env.lay .nil [] []) []) v0 v1 v2 v3) (funext fun v0 => funext fun v1 => funext fun v2 => funext fun v3 => ih v0 v1 v2 v3))
theorem e79_1 {R : Type} (C : Kallee) (L : Nat) (k : Ex → Env → Store → Option R) (v0 : PV) (v1 : PV) (v2 : PV) (v3 : PV) : execR Try.prog C hh L 79 (cAt (bodyOf Try.f79) [1, 0, 1, 0]) (Env.lay .nil [0, 1, 7, 8] [(.pv v0), (.pv v1), (.pv v2), (.pv v3)]) [] k = d79_1 C L (fun v0 => k .ret (Env.lay .nil [4] [(.pv v0)]) []) (k (.exit 0) (Env.lay .nil [] []) []) v0 v1 v2 v3 :=
  Eq.trans (b := iter (execR Try.prog C hh L 79 (cAt (bodyOf Try.f79) [1, 0, 1, 0, 0])) [0, 1, 7, 8] 0 (prune (some ⟨[0, 1, 7, 8], [], [(0, [])], [4]⟩) 0 k) L (Env.lay .nil [0, 1, 7, 8] [(.pv v0), (.pv v1), (.pv v2), (.pv v3)]) []) (by kernel_rfl) (d79_1_i C L k L v0 v1 v2 v3)
noncomputable def d79_3 (C : Kallee) (L : Nat)   : Option PV := (some (.sc (.int Go.IntKind.i64 (-1))))
theorem e79_3 (C : Kallee) (L : Nat)  : execR Try.prog C hh L 79 (cAt (bodyOf Try.f79) [1, 1]) (Env.lay .nil [] []) [] (endP Try.prog Try.f79) = d79_3 C L := by kernel_rfl
noncomputable def g79_0 (C : Kallee) (X1 : PV → PV → PV → PV → Option PV)  (v0 : PV) (v1 : PV) : Option PV := (ob ((lenPV Try.prog 32 v0).map fun n => .sc (goInt n)) fun v103 => (X1 v0 v1 v103 (.sc (.int Go.IntKind.i64 0))))
noncomputable def d79_0 (C : Kallee) (L : Nat)  (v0 : PV) (v1 : PV) : Option PV := g79_0 C (fun v0 v1 v2 v3 => d79_1 C L (fun v0 => (some v0)) (d79_3 C L) v0 v1 v2 v3) v0 v1
theorem e79_0 (C : Kallee) (L : Nat) (v0 : PV) (v1 : PV) : execR Try.prog C hh L 79 (cAt (bodyOf Try.f79) []) (Env.ofArgs [.pv v0, .pv v1] 0 .nil) [] (endP Try.prog Try.f79) = d79_0 C L v0 v1 :=
  Eq.trans (b := g79_0 C (fun v0 v1 v2 v3 => execR Try.prog C hh L 79 (cAt (bodyOf Try.f79) [1, 0, 1, 0]) (Env.lay .nil [0, 1, 7, 8] [(.pv v0), (.pv v1), (.pv v2), (.pv v3)]) [] (leaveB 0 (nextT Try.prog C hh L 79 (cAt (bodyOf Try.f79) [1, 1]) (endP Try.prog Try.f79)))) v0 v1) (by kernel_rfl) (cg1 (fun X1 => g79_0 C X1 v0 v1) (funext fun v0 => funext fun v1 => funext fun v2 => funext fun v3 => Eq.trans (e79_1 C L (leaveB 0 (nextT Try.prog C hh L 79 (cAt (bodyOf Try.f79) [1, 1]) (endP Try.prog Try.f79))) v0 v1 v2 v3) (cg2 (fun kr ke0 => d79_1 C L kr ke0 v0 v1 v2 v3) (funext fun v0 => (by kernel_rfl)) (Eq.trans (b := execR Try.prog C hh L 79 (cAt (bodyOf Try.f79) [1, 1]) (Env.lay .nil [] []) [] (endP Try.prog Try.f79)) (by kernel_rfl) (e79_3 C L)))))
theorem r79 (C : Kallee) (L : Nat) (v0 : PV) (v1 : PV) : bodyPR Try.prog C hh L 79 [v0, v1] = d79_0 C L v0 v1 := Eq.trans (bodyPR_eq (c := cAt (bodyOf Try.f79) []) [v0, v1] Try.func79 (by kernel_rfl) (by kernel_rfl)) (e79_0 C L v0 v1)

end
end Go.Lite

namespace Go.Lite
open Go Go.Proofs
set_option maxRecDepth 1000000
set_option linter.unusedVariables false
noncomputable section
/-! ## 80: slices.Index[[]string,string] -/
noncomputable def d80_2 {R : Type} (C : Kallee) (L : Nat) (kr : PV → Option R) (kg : PV → PV → PV → PV → Option R) (ke0 : Option R) (v0 : PV) (v1 : PV) (v2 : PV) (v3 : PV) : Option R := (ob (binPV Try.prog .lss 3 (.tmp 8) (.tmp 7) v3 v2) fun v104 => (cb v104 (ob (indexAddrPV Try.prog 32 v0 v3) fun v105 => (ob (loadPV Try.prog 9 v105) fun v106 => (ob (binPV Try.prog .eql 9 (.tmp 11) (.tmp 15) v1 v106) fun v107 => (cb v107 (kr v3) (ob (binPV Try.prog .add 3 (.tmp 8) (.const (.int Go.IntKind.i64 1)) v3 (.sc (.int Go.IntKind.i64 1))) fun v108 => (kg v0 v1 v2 v108)))))) (ke0)))
theorem e80_2 {R : Type} (C : Kallee) (L : Nat) (k : Ex → Env → Store → Option R) (gg : Env → Store → Option R) (v0 : PV) (v1 : PV) (v2 : PV) (v3 : PV) : execR Try.prog C hh L 80 (cAt (bodyOf Try.f80) [1, 0, 1, 0, 0]) (Env.lay .nil [0, 1, 7, 8] [(.pv v0), (.pv v1), (.pv v2), (.pv v3)]) [] (loopK gg [0, 1, 7, 8] 0 (prune (some ⟨[0, 1, 7, 8], [], [(0, [])], [4]⟩) 0 k)) = d80_2 C L (fun v0 => k .ret (Env.lay .nil [4] [(.pv v0)]) []) (fun v0 v1 v2 v3 => gg (Env.lay .nil [0, 1, 7, 8] [(.pv v0), (.pv v1), (.pv v2), (.pv v3)]) []) (k (.exit 0) (Env.lay .nil [] []) []) v0 v1 v2 v3 := by kernel_rfl
noncomputable def d80_1i {R : Type} (C : Kallee) (L : Nat) (kr : PV → Option R) (ke0 : Option R) : Nat → PV → PV → PV → PV → Option R
  | 0, _, _, _, _ => none
  | N + 1, v0, v1, v2, v3 => d80_2 C L kr (fun v0 v1 v2 v3 => d80_1i C L kr ke0 N v0 v1 v2 v3) ke0 v0 v1 v2 v3
noncomputable def d80_1 {R : Type} (C : Kallee) (L : Nat) (kr : PV → Option R) (ke0 : Option R) (v0 : PV) (v1 : PV) (v2 : PV) (v3 : PV) : Option R := d80_1i C L kr ke0 L v0 v1 v2 v3
theorem d80_1_i {R : Type} (C : Kallee) (L : Nat) (k : Ex → Env → Store → Option R) (N : Nat) (v0 : PV) (v1 : PV) (v2 : PV) (v3 : PV) : iter (execR Try.prog C hh L 80 (cAt (bodyOf Try.f80) [1, 0, 1, 0, 0])) [0, 1, 7, 8] 0 (prune (some ⟨[0, 1, 7, 8], [], [(0, [])], [4]⟩) 0 k) N (Env.lay .nil [0, 1, 7, 8] [(.pv v0), (.pv v1), (.pv v2), (.pv v3)]) [] = d80_1i C L (fun v0 => k .ret (Env.lay .nil [4] [(.pv v0)]) []) (k (.exit 0) (Env.lay .nil [] []) []) N v0 v1 v2 v3 := by
  induction N generalizing v0 v1 v2 v3 with
  | zero => rfl
  | succ N ih => exact Eq.trans (b := execR Try.prog C hh L 80 (cAt (bodyOf Try.f80) [1, 0, 1, 0, 0]) (Env.lay .nil [0, 1, 7, 8] [(.pv v0), (.pv v1), (.pv v2), (.pv v3)]) [] (loopK (fun e s => iter (execR Try.prog C hh L 80 (cAt (bodyOf Try.f80) [1, 0, 1, 0, 0])) [0, 1, 7, 8] 0 (prune (some ⟨[0, 1, 7, 8], [], [(0, [])], [4]⟩) 0 k) N e s) [0, 1, 7, 8] 0 (prune (some ⟨[0, 1, 7, 8], [], [(0, [])], [4]⟩) 0 k))) (by kernel_rfl) <| Eq.trans (e80_2 C L k (fun e s => iter (execR Try.prog C hh L 80 (cAt (bodyOf Try.f80) [1, 0, 1, 0, 0])) [0, 1, 7, 8] 0 (prune (some ⟨[0, 1, 7, 8], [], [(0, [])], [4]⟩) 0 k) N e s) v0 v1 v2 v3) (congrArg (fun kg => d80_2 C L (fun v0 => k .ret (Env.lay .nil [4] [(.pv v0)]) []) kg (k (.exit 0) (Env.lay .nil [] []) []) v0 v1 v2 v3) (funext fun v0 => funext fun v1 => funext fun v2 => funext fun v3 => ih v0 v1 v2 v3))
theorem e80_1 {R : Type} (C : Kallee) (L : Nat) (k : Ex → Env → Store → Option R) (v0 : PV) (v1 : PV) (v2 : PV) (v3 : PV) : execR Try.prog C hh L 80 (cAt (bodyOf Try.f80) [1, 0, 1, 0]) (Env.lay .nil [0, 1, 7, 8] [(.pv v0), (.pv v1), (.pv v2), (.pv v3)]) [] k = d80_1 C L (fun v0 => k .ret (Env.lay .nil [4] [(.pv v0)]) []) (k (.exit 0) (Env.lay .nil [] []) []) v0 v1 v2 v3 :=
  Eq.trans (b := iter (execR Try.prog C hh L 80 (cAt (bodyOf Try.f80) [1, 0, 1, 0, 0])) [0, 1, 7, 8] 0 (prune (some ⟨[0, 1, 7, 8], [], [(0, [])], [4]⟩) 0 k) L (Env.lay .nil [0, 1, 7, 8] [(.pv v0), (.pv v1), (.pv v2), (.pv v3)]) []) (by kernel_rfl) (d80_1_i C L k L v0 v1 v2 v3)
noncomputable def d80_3 (C : Kallee) (L : Nat)   : Option PV := (some (.sc (.int Go.IntKind.i64 (-1))))
theorem e80_3 (C : Kallee) (L : Nat)  : execR Try.prog C hh L 80 (cAt (bodyOf Try.f80) [1, 1]) (Env.lay .nil [] []) [] (endP Try.prog Try.f80) = d80_3 C L := by kernel_rfl
noncomputable def g80_0 (C : Kallee) (X1 : PV → PV → PV → PV → Option PV)  (v0 : PV) (v1 : PV) : Option PV := (ob ((lenPV Try.prog 32 v0).map fun n => .sc (goInt n)) fun v103 => (X1 v0 v1 v103 (.sc (.int Go.IntKind.i64 0))))
noncomputable def d80_0 (C : Kallee) (L : Nat)  (v0 : PV) (v1 : PV) : Option PV := g80_0 C (fun v0 v1 v2 v3 => d80_1 C L (fun v0 => (some v0)) (d80_3 C L) v0 v1 v2 v3) v0 v1
theorem e80_0 (C : Kallee) (L : Nat) (v0 : PV) (v1 : PV) : execR Try.prog C hh L 80 (cAt (bodyOf Try.f80) []) (Env.ofArgs [.pv v0, .pv v1] 0 .nil) [] (endP Try.prog Try.f80) = d80_0 C L v0 v1 :=
  Eq.trans (b := g80_0 C (fun v0 v1 v2 v3 => execR Try.prog C hh L 80 (cAt (bodyOf Try.f80) [1, 0, 1, 0]) (Env.lay .nil [0, 1, 7, 8] [(.pv v0), (.pv v1), (.pv v2), (.pv v3)]) [] (leaveB 0 (nextT Try.prog C hh L 80 (cAt (bodyOf Try.f80) [1, 1]) (endP Try.prog Try.f80)))) v0 v1) (by kernel_rfl) (cg1 (fun X1 => g80_0 C X1 v0 v1) (funext fun v0 => funext fun v1 => funext fun v2 => funext fun v3 => Eq.trans (e80_1 C L (leaveB 0 (nextT Try.prog C hh L 80 (cAt (bodyOf Try.f80) [1, 1]) (endP Try.prog Try.f80))) v0 v1 v2 v3) (cg2 (fun kr ke0 => d80_1 C L kr ke0 v0 v1 v2 v3) (funext fun v0 => (by kernel_rfl)) (Eq.trans (b := execR Try.prog C hh L 80 (cAt (bodyOf Try.f80) [1, 1]) (Env.lay .nil [] []) [] (endP Try.prog Try.f80)) (by kernel_rfl) (e80_3 C L)))))
theorem r80 (C : Kallee) (L : Nat) (v0 : PV) (v1 : PV) : bodyPR Try.prog C hh L 80 [v0, v1] = d80_0 C L v0 v1 := Eq.trans (bodyPR_eq (c := cAt (bodyOf Try.f80) []) [v0, v1] Try.func80 (by kernel_rfl) (by kernel_rfl)) (e80_0 C L v0 v1)

end
end Go.Lite

namespace Go.Lite
open Go Go.Proofs
set_option maxRecDepth 1000000
set_option linter.unusedVariables false
noncomputable section
/-! ## 81: muster/musterkit.SamePart -/
noncomputable def d81_0 (C : Kallee) (L : Nat)  (v0 : PV) (v1 : PV) : Option PV := (ck (PV.hasLay 6 v0) ((ck (PV.hasLay 6 v1) ((ob (PV.at_ 6 0 0 v0) fun v103 => (ob (PV.at_ 6 0 0 v1) fun v104 => (ob (binPV Try.prog .eql 9 (.tmp 6) (.tmp 8) v103 v104) fun v105 => (gcase true v105 (ob (PV.at_ 6 1 0 v0) fun v106 => (ob (PV.at_ 6 1 0 v1) fun v107 => (ob (binPV Try.prog .eql 56 (.tmp 12) (.tmp 14) v106 v107) fun v108 => (gcase true v108 (ob (PV.at_ 6 2 0 v0) fun v109 => (ob (PV.at_ 6 2 0 v1) fun v110 => (ob (binPV Try.prog .eql 3 (.tmp 19) (.tmp 21) v109 v110) fun v111 => (gcase true v111 (ob (PV.at_ 6 3 0 v0) fun v112 => (ob (PV.at_ 6 3 0 v1) fun v113 => (ob (binPV Try.prog .eql 2 (.tmp 26) (.tmp 28) v112 v113) fun v114 => (gcase true v114 (ob (PV.at_ 6 4 0 v0) fun v115 => (ob (PV.at_ 6 4 0 v1) fun v116 => (ob (callD C.pure (.clo 92 [] []) [v115, v116] false) fun v117 => (some v117)))) (some (.sc (.bool false))) none)))) (some (.sc (.bool false))) none)))) (some (.sc (.bool false))) none)))) (some (.sc (.bool false))) none))))))))
theorem e81_0 (C : Kallee) (L : Nat) (v0 : PV) (v1 : PV) : execR Try.prog C hh L 81 (cAt (bodyOf Try.f81) []) (Env.ofArgs [.pv v0, .pv v1] 0 .nil) [] (endP Try.prog Try.f81) = d81_0 C L v0 v1 := by kernel_rfl
theorem r81 (C : Kallee) (L : Nat) (v0 : PV) (v1 : PV) : bodyPR Try.prog C hh L 81 [v0, v1] = d81_0 C L v0 v1 := Eq.trans (bodyPR_eq (c := cAt (bodyOf Try.f81) []) [v0, v1] Try.func81 (by kernel_rfl) (by kernel_rfl)) (e81_0 C L v0 v1)

end
end Go.Lite

namespace Go.Lite
open Go Go.Proofs
set_option maxRecDepth 1000000
set_option linter.unusedVariables false
noncomputable section
/-! ## 82: muster/musterkit.CopyTexts -/
noncomputable def d82_2 {R : Type} (C : Kallee) (L : Nat) (kg : PV → PV → List PV → Option R) (ke0 : List PV → Option R) (v0 : PV) (v1 : PV) (x2 : List PV) : Option R := (ob ((lenPV Try.prog 32 v0).map fun n => .sc (goInt n)) fun v103 => (ob (binPV Try.prog .lss 3 (.tmp 5) (.tmp 7) v1 v103) fun v104 => (cb v104 (ob (indexAddrPV Try.prog 32 v0 v1) fun v105 => (ob (loadPV Try.prog 9 v105) fun v106 => (ob (buildSliceAV Try.prog 32 1 [(0, v106)]) fun v107 => (oxs (appendTo Try.prog 32 32 0 x2 v107) fun x108 => (ob (binPV Try.prog .add 3 (.tmp 9) (.const (.int Go.IntKind.i64 1)) v1 (.sc (.int Go.IntKind.i64 1))) fun v109 => (kg v0 v109 x108)))))) (ke0 x2))))
theorem e82_2 {R : Type} (C : Kallee) (L : Nat) (k : Ex → Env → Store → Option R) (gg : Env → Store → Option R) (v0 : PV) (v1 : PV) (x2 : List PV) : execR Try.prog C hh L 82 (cAt (bodyOf Try.f82) [1, 1, 0, 1, 0, 0]) (Env.lay .nil [0, 3, 4] [(.pv v0), (.arr 0), (.pv v1)]) [.arr 0 false x2] (loopK gg [0, 3, 4] 1 (prune (some ⟨[0, 3, 4], [], [(0, [3])], []⟩) 1 k)) = d82_2 C L (fun v0 v1 x2 => gg (Env.lay .nil [0, 3, 4] [(.pv v0), (.arr 0), (.pv v1)]) [.arr 0 false x2]) (fun x0 => k (.exit 0) (Env.lay .nil [3] [(.arr 0)]) [.arr 0 false x0]) v0 v1 x2 := by kernel_rfl
noncomputable def d82_1i {R : Type} (C : Kallee) (L : Nat) (ke0 : List PV → Option R) : Nat → PV → PV → List PV → Option R
  | 0, _, _, _ => none
  | N + 1, v0, v1, x2 => d82_2 C L (fun v0 v1 x2 => d82_1i C L ke0 N v0 v1 x2) ke0 v0 v1 x2
noncomputable def d82_1 {R : Type} (C : Kallee) (L : Nat) (ke0 : List PV → Option R) (v0 : PV) (v1 : PV) (x2 : List PV) : Option R := d82_1i C L ke0 L v0 v1 x2
theorem d82_1_i {R : Type} (C : Kallee) (L : Nat) (k : Ex → Env → Store → Option R) (N : Nat) (v0 : PV) (v1 : PV) (x2 : List PV) : iter (execR Try.prog C hh L 82 (cAt (bodyOf Try.f82) [1, 1, 0, 1, 0, 0])) [0, 3, 4] 1 (prune (some ⟨[0, 3, 4], [], [(0, [3])], []⟩) 1 k) N (Env.lay .nil [0, 3, 4] [(.pv v0), (.arr 0), (.pv v1)]) [.arr 0 false x2] = d82_1i C L (fun x0 => k (.exit 0) (Env.lay .nil [3] [(.arr 0)]) [.arr 0 false x0]) N v0 v1 x2 := by
  induction N generalizing v0 v1 x2 with
  | zero => rfl
  | succ N ih => exact Eq.trans (b := execR Try.prog C hh L 82 (cAt (bodyOf Try.f82) [1, 1, 0, 1, 0, 0]) (Env.lay .nil [0, 3, 4] [(.pv v0), (.arr 0), (.pv v1)]) [.arr 0 false x2] (loopK (fun e s => iter (execR Try.prog C hh L 82 (cAt (bodyOf Try.f82) [1, 1, 0, 1, 0, 0])) [0, 3, 4] 1 (prune (some ⟨[0, 3, 4], [], [(0, [3])], []⟩) 1 k) N e s) [0, 3, 4] 1 (prune (some ⟨[0, 3, 4], [], [(0, [3])], []⟩) 1 k))) (by kernel_rfl) <| Eq.trans (e82_2 C L k (fun e s => iter (execR Try.prog C hh L 82 (cAt (bodyOf Try.f82) [1, 1, 0, 1, 0, 0])) [0, 3, 4] 1 (prune (some ⟨[0, 3, 4], [], [(0, [3])], []⟩) 1 k) N e s) v0 v1 x2) (congrArg (fun kg => d82_2 C L kg (fun x0 => k (.exit 0) (Env.lay .nil [3] [(.arr 0)]) [.arr 0 false x0]) v0 v1 x2) (funext fun v0 => funext fun v1 => funext fun x2 => ih v0 v1 x2))
theorem e82_1 {R : Type} (C : Kallee) (L : Nat) (k : Ex → Env → Store → Option R) (v0 : PV) (v1 : PV) (x2 : List PV) : execR Try.prog C hh L 82 (cAt (bodyOf Try.f82) [1, 1, 0, 1, 0]) (Env.lay .nil [0, 3, 4] [(.pv v0), (.arr 0), (.pv v1)]) [.arr 0 false x2] k = d82_1 C L (fun x0 => k (.exit 0) (Env.lay .nil [3] [(.arr 0)]) [.arr 0 false x0]) v0 v1 x2 :=
  Eq.trans (b := iter (execR Try.prog C hh L 82 (cAt (bodyOf Try.f82) [1, 1, 0, 1, 0, 0])) [0, 3, 4] 1 (prune (some ⟨[0, 3, 4], [], [(0, [3])], []⟩) 1 k) L (Env.lay .nil [0, 3, 4] [(.pv v0), (.arr 0), (.pv v1)]) [.arr 0 false x2]) (by kernel_rfl) (d82_1_i C L k L v0 v1 x2)
noncomputable def d82_3 (C : Kallee) (L : Nat)  (x0 : List PV) : Option PV := (some (.list 0 false x0))
theorem e82_3 (C : Kallee) (L : Nat) (x0 : List PV) : execR Try.prog C hh L 82 (cAt (bodyOf Try.f82) [1, 1, 1]) (Env.lay .nil [3] [(.arr 0)]) [.arr 0 false x0] (endP Try.prog Try.f82) = d82_3 C L x0 := by kernel_rfl
noncomputable def g82_0 (C : Kallee) (X1 : PV → PV → List PV → Option PV)  (v0 : PV) : Option PV := (X1 v0 (.sc (.int Go.IntKind.i64 0)) [])
noncomputable def d82_0 (C : Kallee) (L : Nat)  (v0 : PV) : Option PV := g82_0 C (fun v0 v1 x2 => d82_1 C L (fun x0 => d82_3 C L x0) v0 v1 x2) v0
theorem e82_0 (C : Kallee) (L : Nat) (v0 : PV) : execR Try.prog C hh L 82 (cAt (bodyOf Try.f82) []) (Env.ofArgs [.pv v0] 0 .nil) [] (endP Try.prog Try.f82) = d82_0 C L v0 :=
  Eq.trans (b := g82_0 C (fun v0 v1 x2 => execR Try.prog C hh L 82 (cAt (bodyOf Try.f82) [1, 1, 0, 1, 0]) (Env.lay .nil [0, 3, 4] [(.pv v0), (.arr 0), (.pv v1)]) [.arr 0 false x2] (leaveB 0 (nextT Try.prog C hh L 82 (cAt (bodyOf Try.f82) [1, 1, 1]) (endP Try.prog Try.f82)))) v0) (by kernel_rfl) (cg1 (fun X1 => g82_0 C X1 v0) (funext fun v0 => funext fun v1 => funext fun x2 => Eq.trans (e82_1 C L (leaveB 0 (nextT Try.prog C hh L 82 (cAt (bodyOf Try.f82) [1, 1, 1]) (endP Try.prog Try.f82))) v0 v1 x2) (cg1 (fun ke0 => d82_1 C L ke0 v0 v1 x2) (funext fun x0 => (Eq.trans (b := execR Try.prog C hh L 82 (cAt (bodyOf Try.f82) [1, 1, 1]) (Env.lay .nil [3] [(.arr 0)]) [.arr 0 false x0] (endP Try.prog Try.f82)) (by kernel_rfl) (e82_3 C L x0))))))
theorem r82 (C : Kallee) (L : Nat) (v0 : PV) : bodyPR Try.prog C hh L 82 [v0] = d82_0 C L v0 := Eq.trans (bodyPR_eq (c := cAt (bodyOf Try.f82) []) [v0] Try.func82 (by kernel_rfl) (by kernel_rfl)) (e82_0 C L v0)

end
end Go.Lite

namespace Go.Lite
open Go Go.Proofs
set_option maxRecDepth 1000000
set_option linter.unusedVariables false
noncomputable section
/-! ## 83: muster/nodes.Right$1 -/
noncomputable def d83_0 (C : Kallee) (L : Nat)  (v0 : PV) : Option PV := (ck (PV.hasLay 4 v0) ((ob (PV.at_ 4 0 0 v0) fun v102 => (ob (binPV Try.prog .lss 3 (.tmp 4) (.const (.int Go.IntKind.i64 1)) v102 (.sc (.int Go.IntKind.i64 1))) fun v103 => (gcase false v103 (ob (PV.at_ 4 0 0 v0) fun v104 => (ob (binPV Try.prog .gtr 3 (.tmp 8) (.const (.int Go.IntKind.i64 64)) v104 (.sc (.int Go.IntKind.i64 64))) fun v105 => (gcase false v105 (ob (PV.at_ 4 2 0 v0) fun v106 => (ob (binPV Try.prog .lss 3 (.tmp 13) (.const (.int Go.IntKind.i64 1)) v106 (.sc (.int Go.IntKind.i64 1))) fun v107 => (gcase false v107 (ob (PV.at_ 4 2 0 v0) fun v108 => (ob (binPV Try.prog .gtr 3 (.tmp 18) (.const (.int Go.IntKind.i64 1073741824)) v108 (.sc (.int Go.IntKind.i64 1073741824))) fun v109 => (some v109))) (some (.sc (.bool true))) none))) (some (.sc (.bool true))) none))) (some (.sc (.bool true))) none)))))
theorem e83_0 (C : Kallee) (L : Nat) (v0 : PV) : execR Try.prog C hh L 83 (cAt (bodyOf Try.f83) []) (Env.ofArgs [.pv v0] 0 .nil) [] (endP Try.prog Try.f83) = d83_0 C L v0 := by kernel_rfl
theorem r83 (C : Kallee) (L : Nat) (v0 : PV) : bodyPR Try.prog C hh L 83 [v0] = d83_0 C L v0 := Eq.trans (bodyPR_eq (c := cAt (bodyOf Try.f83) []) [v0] Try.func83 (by kernel_rfl) (by kernel_rfl)) (e83_0 C L v0)

end
end Go.Lite

namespace Go.Lite
open Go Go.Proofs
set_option maxRecDepth 1000000
set_option linter.unusedVariables false
noncomputable section
/-! ## 84: slices.ContainsFunc[[]muster/api.Node,muster/api.Node] -/
noncomputable def d84_0 (C : Kallee) (L : Nat)  (v0 : PV) (v1 : PV) : Option PV := (ob (callD C.pure (.clo 93 [] []) [v0, v1] false) fun v103 => (ob (binPV Try.prog .geq 3 (.tmp 7) (.const (.int Go.IntKind.i64 0)) v103 (.sc (.int Go.IntKind.i64 0))) fun v104 => (some v104)))
theorem e84_0 (C : Kallee) (L : Nat) (v0 : PV) (v1 : PV) : execR Try.prog C hh L 84 (cAt (bodyOf Try.f84) []) (Env.ofArgs [.pv v0, .pv v1] 0 .nil) [] (endP Try.prog Try.f84) = d84_0 C L v0 v1 := by kernel_rfl
theorem r84 (C : Kallee) (L : Nat) (v0 : PV) (v1 : PV) : bodyPR Try.prog C hh L 84 [v0, v1] = d84_0 C L v0 v1 := Eq.trans (bodyPR_eq (c := cAt (bodyOf Try.f84) []) [v0, v1] Try.func84 (by kernel_rfl) (by kernel_rfl)) (e84_0 C L v0 v1)

end
end Go.Lite

namespace Go.Lite
open Go Go.Proofs
set_option maxRecDepth 1000000
set_option linter.unusedVariables false
noncomputable section
/-! ## 85: strings.IndexFunc -/
noncomputable def d85_0 (C : Kallee) (L : Nat)  (v0 : PV) (v1 : PV) : Option PV := (ob (callD C.pure (.clo 94 [] []) [v0, v1, (.sc (.bool true))] false) fun v103 => (some v103))
theorem e85_0 (C : Kallee) (L : Nat) (v0 : PV) (v1 : PV) : execR Try.prog C hh L 85 (cAt (bodyOf Try.f85) []) (Env.ofArgs [.pv v0, .pv v1] 0 .nil) [] (endP Try.prog Try.f85) = d85_0 C L v0 v1 := by kernel_rfl
theorem r85 (C : Kallee) (L : Nat) (v0 : PV) (v1 : PV) : bodyPR Try.prog C hh L 85 [v0, v1] = d85_0 C L v0 v1 := Eq.trans (bodyPR_eq (c := cAt (bodyOf Try.f85) []) [v0, v1] Try.func85 (by kernel_rfl) (by kernel_rfl)) (e85_0 C L v0 v1)

end
end Go.Lite

namespace Go.Lite
open Go Go.Proofs
set_option maxRecDepth 1000000
set_option linter.unusedVariables false
noncomputable section
/-! ## 86: slices.IndexFunc[[]muster/api.Qos,muster/api.Qos] -/
noncomputable def d86_2 {R : Type} (C : Kallee) (L : Nat) (kr : PV → Option R) (kg : PV → PV → PV → PV → Option R) (ke0 : Option R) (v0 : PV) (v1 : PV) (v2 : PV) (v3 : PV) : Option R := (ob (binPV Try.prog .lss 3 (.tmp 8) (.tmp 7) v3 v2) fun v104 => (cb v104 (ob (indexAddrPV Try.prog 25 v0 v3) fun v105 => (ob (loadPV Try.prog 84 v105) fun v106 => (ob (callD C.pure v1 [v106] false) fun v107 => (cb v107 (kr v3) (ob (binPV Try.prog .add 3 (.tmp 8) (.const (.int Go.IntKind.i64 1)) v3 (.sc (.int Go.IntKind.i64 1))) fun v108 => (kg v0 v1 v2 v108)))))) (ke0)))
theorem e86_2 {R : Type} (C : Kallee) (L : Nat) (k : Ex → Env → Store → Option R) (gg : Env → Store → Option R) (v0 : PV) (v1 : PV) (v2 : PV) (v3 : PV) : execR Try.prog C hh L 86 (cAt (bodyOf Try.f86) [1, 0, 1, 0, 0]) (Env.lay .nil [0, 1, 7, 8] [(.pv v0), (.pv v1), (.pv v2), (.pv v3)]) [] (loopK gg [0, 1, 7, 8] 0 (prune (some ⟨[0, 1, 7, 8], [], [(0, [])], [4]⟩) 0 k)) = d86_2 C L (fun v0 => k .ret (Env.lay .nil [4] [(.pv v0)]) []) (fun v0 v1 v2 v3 => gg (Env.lay .nil [0, 1, 7, 8] [(.pv v0), (.pv v1), (.pv v2), (.pv v3)]) []) (k (.exit 0) (Env.lay .nil [] []) []) v0 v1 v2 v3 := by kernel_rfl
noncomputable def d86_1i {R : Type} (C : Kallee) (L : Nat) (kr : PV → Option R) (ke0 : Option R) : Nat → PV → PV → PV → PV → Option R
  | 0, _, _, _, _ => none
  | N + 1, v0, v1, v2, v3 => d86_2 C L kr (fun v0 v1 v2 v3 => d86_1i C L kr ke0 N v0 v1 v2 v3) ke0 v0 v1 v2 v3
noncomputable def d86_1 {R : Type} (C : Kallee) (L : Nat) (kr : PV → Option R) (ke0 : Option R) (v0 : PV) (v1 : PV) (v2 : PV) (v3 : PV) : Option R := d86_1i C L kr ke0 L v0 v1 v2 v3
theorem d86_1_i {R : Type} (C : Kallee) (L : Nat) (k : Ex → Env → Store → Option R) (N : Nat) (v0 : PV) (v1 : PV) (v2 : PV) (v3 : PV) : iter (execR Try.prog C hh L 86 (cAt (bodyOf Try.f86) [1, 0, 1, 0, 0])) [0, 1, 7, 8] 0 (prune (some ⟨[0, 1, 7, 8], [], [(0, [])], [4]⟩) 0 k) N (Env.lay .nil [0, 1, 7, 8] [(.pv v0), (.pv v1), (.pv v2), (.pv v3)]) [] = d86_1i C L (fun v0 => k .ret (Env.lay .nil [4] [(.pv v0)]) []) (k (.exit 0) (Env.lay .nil [] []) []) N v0 v1 v2 v3 := by
  induction N generalizing v0 v1 v2 v3 with
  | zero => rfl
  | succ N ih => exact Eq.trans (b := execR Try.prog C hh L 86 (cAt (bodyOf Try.f86) [1, 0, 1, 0, 0]) (Env.lay .nil [0, 1, 7, 8] [(.pv v0), (.pv v1), (.pv v2), (.pv v3)]) [] (loopK (fun e s => iter (execR Try.prog C hh L 86 (cAt (bodyOf Try.f86) [1, 0, 1, 0, 0])) [0, 1, 7, 8] 0 (prune (some ⟨[0, 1, 7, 8], [], [(0, [])], [4]⟩) 0 k) N e s) [0, 1, 7, 8] 0 (prune (some ⟨[0, 1, 7, 8], [], [(0, [])], [4]⟩) 0 k))) (by kernel_rfl) <| Eq.trans (e86_2 C L k (fun e s => iter (execR Try.prog C hh L 86 (cAt (bodyOf Try.f86) [1, 0, 1, 0, 0])) [0, 1, 7, 8] 0 (prune (some ⟨[0, 1, 7, 8], [], [(0, [])], [4]⟩) 0 k) N e s) v0 v1 v2 v3) (congrArg (fun kg => d86_2 C L (fun v0 => k .ret (Env.lay .nil [4] [(.pv v0)]) []) kg (k (.exit 0) (Env.lay .nil [] []) []) v0 v1 v2 v3) (funext fun v0 => funext fun v1 => funext fun v2 => funext fun v3 => ih v0 v1 v2 v3))
theorem e86_1 {R : Type} (C : Kallee) (L : Nat) (k : Ex → Env → Store → Option R) (v0 : PV) (v1 : PV) (v2 : PV) (v3 : PV) : execR Try.prog C hh L 86 (cAt (bodyOf Try.f86) [1, 0, 1, 0]) (Env.lay .nil [0, 1, 7, 8] [(.pv v0), (.pv v1), (.pv v2), (.pv v3)]) [] k = d86_1 C L (fun v0 => k .ret (Env.lay .nil [4] [(.pv v0)]) []) (k (.exit 0) (Env.lay .nil [] []) []) v0 v1 v2 v3 :=
  Eq.trans (b := iter (execR Try.prog C hh L 86 (cAt (bodyOf Try.f86) [1, 0, 1, 0, 0])) [0, 1, 7, 8] 0 (prune (some ⟨[0, 1, 7, 8], [], [(0, [])], [4]⟩) 0 k) L (Env.lay .nil [0, 1, 7, 8] [(.pv v0), (.pv v1), (.pv v2), (.pv v3)]) []) (by kernel_rfl) (d86_1_i C L k L v0 v1 v2 v3)
noncomputable def d86_3 (C : Kallee) (L : Nat)   : Option PV := (some (.sc (.int Go.IntKind.i64 (-1))))
theorem e86_3 (C : Kallee) (L : Nat)  : execR Try.prog C hh L 86 (cAt (bodyOf Try.f86) [1, 1]) (Env.lay .nil [] []) [] (endP Try.prog Try.f86) = d86_3 C L := by kernel_rfl
noncomputable def g86_0 (C : Kallee) (X1 : PV → PV → PV → PV → Option PV)  (v0 : PV) (v1 : PV) : Option PV := (ob ((lenPV Try.prog 25 v0).map fun n => .sc (goInt n)) fun v103 => (X1 v0 v1 v103 (.sc (.int Go.IntKind.i64 0))))
noncomputable def d86_0 (C : Kallee) (L : Nat)  (v0 : PV) (v1 : PV) : Option PV := g86_0 C (fun v0 v1 v2 v3 => d86_1 C L (fun v0 => (some v0)) (d86_3 C L) v0 v1 v2 v3) v0 v1
theorem e86_0 (C : Kallee) (L : Nat) (v0 : PV) (v1 : PV) : execR Try.prog C hh L 86 (cAt (bodyOf Try.f86) []) (Env.ofArgs [.pv v0, .pv v1] 0 .nil) [] (endP Try.prog Try.f86) = d86_0 C L v0 v1 :=
  Eq.trans (b := g86_0 C (fun v0 v1 v2 v3 => execR Try.prog C hh L 86 (cAt (bodyOf Try.f86) [1, 0, 1, 0]) (Env.lay .nil [0, 1, 7, 8] [(.pv v0), (.pv v1), (.pv v2), (.pv v3)]) [] (leaveB 0 (nextT Try.prog C hh L 86 (cAt (bodyOf Try.f86) [1, 1]) (endP Try.prog Try.f86)))) v0 v1) (by kernel_rfl) (cg1 (fun X1 => g86_0 C X1 v0 v1) (funext fun v0 => funext fun v1 => funext fun v2 => funext fun v3 => Eq.trans (e86_1 C L (leaveB 0 (nextT Try.prog C hh L 86 (cAt (bodyOf Try.f86) [1, 1]) (endP Try.prog Try.f86))) v0 v1 v2 v3) (cg2 (fun kr ke0 => d86_1 C L kr ke0 v0 v1 v2 v3) (funext fun v0 => (by kernel_rfl)) (Eq.trans (b := execR Try.prog C hh L 86 (cAt (bodyOf Try.f86) [1, 1]) (Env.lay .nil [] []) [] (endP Try.prog Try.f86)) (by kernel_rfl) (e86_3 C L)))))
theorem r86 (C : Kallee) (L : Nat) (v0 : PV) (v1 : PV) : bodyPR Try.prog C hh L 86 [v0, v1] = d86_0 C L v0 v1 := Eq.trans (bodyPR_eq (c := cAt (bodyOf Try.f86) []) [v0, v1] Try.func86 (by kernel_rfl) (by kernel_rfl)) (e86_0 C L v0 v1)

end
end Go.Lite

namespace Go.Lite
open Go Go.Proofs
set_option maxRecDepth 1000000
set_option linter.unusedVariables false
noncomputable section
/-! ## 87: muster/quota.find$1 -/
noncomputable def d87_0 (C : Kallee) (L : Nat)  (v0 : PV) (v1 : PV) : Option PV := (ck (PV.hasLay 5 v0) ((ob (PV.at_ 5 0 0 v0) fun v103 => (ob (loadPV Try.prog 9 v1) fun v104 => (ob (binPV Try.prog .eql 9 (.tmp 5) (.tmp 6) v103 v104) fun v105 => (some v105))))))
theorem e87_0 (C : Kallee) (L : Nat) (v0 : PV) (v1 : PV) : execR Try.prog C hh L 87 (cAt (bodyOf Try.f87) []) (Env.ofArgs [.pv v0, .pv v1] 0 .nil) [] (endP Try.prog Try.f87) = d87_0 C L v0 v1 := by kernel_rfl
theorem r87 (C : Kallee) (L : Nat) (v0 : PV) (v1 : PV) : bodyPR Try.prog C hh L 87 [v0, v1] = d87_0 C L v0 v1 := Eq.trans (bodyPR_eq (c := cAt (bodyOf Try.f87) []) [v0, v1] Try.func87 (by kernel_rfl) (by kernel_rfl)) (e87_0 C L v0 v1)

end
end Go.Lite

namespace Go.Lite
open Go Go.Proofs
set_option maxRecDepth 1000000
set_option linter.unusedVariables false
noncomputable section
/-! ## 88: slices.ContainsFunc[[]int,int] -/
noncomputable def d88_0 (C : Kallee) (L : Nat)  (v0 : PV) (v1 : PV) : Option PV := (ob (callD C.pure (.clo 95 [] []) [v0, v1] false) fun v103 => (ob (binPV Try.prog .geq 3 (.tmp 7) (.const (.int Go.IntKind.i64 0)) v103 (.sc (.int Go.IntKind.i64 0))) fun v104 => (some v104)))
theorem e88_0 (C : Kallee) (L : Nat) (v0 : PV) (v1 : PV) : execR Try.prog C hh L 88 (cAt (bodyOf Try.f88) []) (Env.ofArgs [.pv v0, .pv v1] 0 .nil) [] (endP Try.prog Try.f88) = d88_0 C L v0 v1 := by kernel_rfl
theorem r88 (C : Kallee) (L : Nat) (v0 : PV) (v1 : PV) : bodyPR Try.prog C hh L 88 [v0, v1] = d88_0 C L v0 v1 := Eq.trans (bodyPR_eq (c := cAt (bodyOf Try.f88) []) [v0, v1] Try.func88 (by kernel_rfl) (by kernel_rfl)) (e88_0 C L v0 v1)

end
end Go.Lite

namespace Go.Lite
open Go Go.Proofs
set_option maxRecDepth 1000000
set_option linter.unusedVariables false
noncomputable section
/-! ## 89: muster/quota.limit$1 -/
noncomputable def d89_0 (C : Kallee) (L : Nat)  (v0 : PV) : Option PV := (ob (binPV Try.prog .lss 3 (.tmp 3) (.const (.int Go.IntKind.i64 (-1))) v0 (.sc (.int Go.IntKind.i64 (-1)))) fun v102 => (gcase false v102 (ob (binPV Try.prog .gtr 3 (.tmp 6) (.const (.int Go.IntKind.i64 1073741824)) v0 (.sc (.int Go.IntKind.i64 1073741824))) fun v103 => (some v103)) (some (.sc (.bool true))) none))
theorem e89_0 (C : Kallee) (L : Nat) (v0 : PV) : execR Try.prog C hh L 89 (cAt (bodyOf Try.f89) []) (Env.ofArgs [.pv v0] 0 .nil) [] (endP Try.prog Try.f89) = d89_0 C L v0 := by kernel_rfl
theorem r89 (C : Kallee) (L : Nat) (v0 : PV) : bodyPR Try.prog C hh L 89 [v0] = d89_0 C L v0 := Eq.trans (bodyPR_eq (c := cAt (bodyOf Try.f89) []) [v0] Try.func89 (by kernel_rfl) (by kernel_rfl)) (e89_0 C L v0)

end
end Go.Lite

namespace Go.Lite
open Go Go.Proofs
set_option maxRecDepth 1000000
set_option linter.unusedVariables false
noncomputable section
/-! ## 90: muster/musterref10.bit -/
noncomputable def d90_2 {R : Type} (C : Kallee) (L : Nat) (kg : PV → PV → PV → Option R) (ke0 : PV → Option R) (v0 : PV) (v1 : PV) (v2 : PV) : Option R := (ob (binPV Try.prog .lss 3 (.tmp 5) (.tmp 6) v2 v0) fun v103 => (cb v103 (ob (binPV Try.prog .mul 56 (.tmp 10) (.const (.int Go.IntKind.u32 2)) v1 (.sc (.int Go.IntKind.u32 2))) fun v104 => (ob (binPV Try.prog .add 3 (.tmp 8) (.const (.int Go.IntKind.i64 1)) v2 (.sc (.int Go.IntKind.i64 1))) fun v105 => (kg v0 v104 v105))) (ke0 v1)))
theorem e90_2 {R : Type} (C : Kallee) (L : Nat) (k : Ex → Env → Store → Option R) (gg : Env → Store → Option R) (v0 : PV) (v1 : PV) (v2 : PV) : execR Try.prog C hh L 90 (cAt (bodyOf Try.f90) [1, 1, 0, 1, 0, 0]) (Env.lay .nil [0, 3, 4] [(.pv v0), (.pv v1), (.pv v2)]) [] (loopK gg [0, 3, 4] 0 (prune (some ⟨[0, 3, 4], [], [(0, [3])], []⟩) 0 k)) = d90_2 C L (fun v0 v1 v2 => gg (Env.lay .nil [0, 3, 4] [(.pv v0), (.pv v1), (.pv v2)]) []) (fun v0 => k (.exit 0) (Env.lay .nil [3] [(.pv v0)]) []) v0 v1 v2 := by kernel_rfl
noncomputable def d90_1i {R : Type} (C : Kallee) (L : Nat) (ke0 : PV → Option R) : Nat → PV → PV → PV → Option R
  | 0, _, _, _ => none
  | N + 1, v0, v1, v2 => d90_2 C L (fun v0 v1 v2 => d90_1i C L ke0 N v0 v1 v2) ke0 v0 v1 v2
noncomputable def d90_1 {R : Type} (C : Kallee) (L : Nat) (ke0 : PV → Option R) (v0 : PV) (v1 : PV) (v2 : PV) : Option R := d90_1i C L ke0 L v0 v1 v2
theorem d90_1_i {R : Type} (C : Kallee) (L : Nat) (k : Ex → Env → Store → Option R) (N : Nat) (v0 : PV) (v1 : PV) (v2 : PV) : iter (execR Try.prog C hh L 90 (cAt (bodyOf Try.f90) [1, 1, 0, 1, 0, 0])) [0, 3, 4] 0 (prune (some ⟨[0, 3, 4], [], [(0, [3])], []⟩) 0 k) N (Env.lay .nil [0, 3, 4] [(.pv v0), (.pv v1), (.pv v2)]) [] = d90_1i C L (fun v0 => k (.exit 0) (Env.lay .nil [3] [(.pv v0)]) []) N v0 v1 v2 := by
  induction N generalizing v0 v1 v2 with
  | zero => rfl
  | succ N ih => exact Eq.trans (b := execR Try.prog C hh L 90 (cAt (bodyOf Try.f90) [1, 1, 0, 1, 0, 0]) (Env.lay .nil [0, 3, 4] [(.pv v0), (.pv v1), (.pv v2)]) [] (loopK (fun e s => iter (execR Try.prog C hh L 90 (cAt (bodyOf Try.f90) [1, 1, 0, 1, 0, 0])) [0, 3, 4] 0 (prune (some ⟨[0, 3, 4], [], [(0, [3])], []⟩) 0 k) N e s) [0, 3, 4] 0 (prune (some ⟨[0, 3, 4], [], [(0, [3])], []⟩) 0 k))) (by kernel_rfl) <| Eq.trans (e90_2 C L k (fun e s => iter (execR Try.prog C hh L 90 (cAt (bodyOf Try.f90) [1, 1, 0, 1, 0, 0])) [0, 3, 4] 0 (prune (some ⟨[0, 3, 4], [], [(0, [3])], []⟩) 0 k) N e s) v0 v1 v2) (congrArg (fun kg => d90_2 C L kg (fun v0 => k (.exit 0) (Env.lay .nil [3] [(.pv v0)]) []) v0 v1 v2) (funext fun v0 => funext fun v1 => funext fun v2 => ih v0 v1 v2))
theorem e90_1 {R : Type} (C : Kallee) (L : Nat) (k : Ex → Env → Store → Option R) (v0 : PV) (v1 : PV) (v2 : PV) : execR Try.prog C hh L 90 (cAt (bodyOf Try.f90) [1, 1, 0, 1, 0]) (Env.lay .nil [0, 3, 4] [(.pv v0), (.pv v1), (.pv v2)]) [] k = d90_1 C L (fun v0 => k (.exit 0) (Env.lay .nil [3] [(.pv v0)]) []) v0 v1 v2 :=
  Eq.trans (b := iter (execR Try.prog C hh L 90 (cAt (bodyOf Try.f90) [1, 1, 0, 1, 0, 0])) [0, 3, 4] 0 (prune (some ⟨[0, 3, 4], [], [(0, [3])], []⟩) 0 k) L (Env.lay .nil [0, 3, 4] [(.pv v0), (.pv v1), (.pv v2)]) []) (by kernel_rfl) (d90_1_i C L k L v0 v1 v2)
noncomputable def d90_3 (C : Kallee) (L : Nat)  (v0 : PV) : Option PV := (some v0)
theorem e90_3 (C : Kallee) (L : Nat) (v0 : PV) : execR Try.prog C hh L 90 (cAt (bodyOf Try.f90) [1, 1, 1]) (Env.lay .nil [3] [(.pv v0)]) [] (endP Try.prog Try.f90) = d90_3 C L v0 := by kernel_rfl
noncomputable def g90_0 (C : Kallee) (X1 : PV → PV → PV → Option PV)  (v0 : PV) : Option PV := (X1 v0 (.sc (.int Go.IntKind.u32 1)) (.sc (.int Go.IntKind.i64 0)))
noncomputable def d90_0 (C : Kallee) (L : Nat)  (v0 : PV) : Option PV := g90_0 C (fun v0 v1 v2 => d90_1 C L (fun v0 => d90_3 C L v0) v0 v1 v2) v0
theorem e90_0 (C : Kallee) (L : Nat) (v0 : PV) : execR Try.prog C hh L 90 (cAt (bodyOf Try.f90) []) (Env.ofArgs [.pv v0] 0 .nil) [] (endP Try.prog Try.f90) = d90_0 C L v0 :=
  Eq.trans (b := g90_0 C (fun v0 v1 v2 => execR Try.prog C hh L 90 (cAt (bodyOf Try.f90) [1, 1, 0, 1, 0]) (Env.lay .nil [0, 3, 4] [(.pv v0), (.pv v1), (.pv v2)]) [] (leaveB 0 (nextT Try.prog C hh L 90 (cAt (bodyOf Try.f90) [1, 1, 1]) (endP Try.prog Try.f90)))) v0) (by kernel_rfl) (cg1 (fun X1 => g90_0 C X1 v0) (funext fun v0 => funext fun v1 => funext fun v2 => Eq.trans (e90_1 C L (leaveB 0 (nextT Try.prog C hh L 90 (cAt (bodyOf Try.f90) [1, 1, 1]) (endP Try.prog Try.f90))) v0 v1 v2) (cg1 (fun ke0 => d90_1 C L ke0 v0 v1 v2) (funext fun v0 => (Eq.trans (b := execR Try.prog C hh L 90 (cAt (bodyOf Try.f90) [1, 1, 1]) (Env.lay .nil [3] [(.pv v0)]) [] (endP Try.prog Try.f90)) (by kernel_rfl) (e90_3 C L v0))))))
theorem r90 (C : Kallee) (L : Nat) (v0 : PV) : bodyPR Try.prog C hh L 90 [v0] = d90_0 C L v0 := Eq.trans (bodyPR_eq (c := cAt (bodyOf Try.f90) []) [v0] Try.func90 (by kernel_rfl) (by kernel_rfl)) (e90_0 C L v0)

end
end Go.Lite

namespace Go.Lite
open Go Go.Proofs
set_option maxRecDepth 1000000
set_option linter.unusedVariables false
noncomputable section
/-! ## 91: slices.IndexFunc[[]muster/api.Account,muster/api.Account] -/
noncomputable def d91_2 {R : Type} (C : Kallee) (L : Nat) (kr : PV → Option R) (kg : PV → PV → PV → PV → Option R) (ke0 : Option R) (v0 : PV) (v1 : PV) (v2 : PV) (v3 : PV) : Option R := (ob (binPV Try.prog .lss 3 (.tmp 8) (.tmp 7) v3 v2) fun v104 => (cb v104 (ob (indexAddrPV Try.prog 24 v0 v3) fun v105 => (ob (loadPV Try.prog 45 v105) fun v106 => (ob (callD C.pure v1 [v106] false) fun v107 => (cb v107 (kr v3) (ob (binPV Try.prog .add 3 (.tmp 8) (.const (.int Go.IntKind.i64 1)) v3 (.sc (.int Go.IntKind.i64 1))) fun v108 => (kg v0 v1 v2 v108)))))) (ke0)))
theorem e91_2 {R : Type} (C : Kallee) (L : Nat) (k : Ex → Env → Store → Option R) (gg : Env → Store → Option R) (v0 : PV) (v1 : PV) (v2 : PV) (v3 : PV) : execR Try.prog C hh L 91 (cAt (bodyOf Try.f91) [1, 0, 1, 0, 0]) (Env.lay .nil [0, 1, 7, 8] [(.pv v0), (.pv v1), (.pv v2), (.pv v3)]) [] (loopK gg [0, 1, 7, 8] 0 (prune (some ⟨[0, 1, 7, 8], [], [(0, [])], [4]⟩) 0 k)) = d91_2 C L (fun v0 => k .ret (Env.lay .nil [4] [(.pv v0)]) []) (fun v0 v1 v2 v3 => gg (Env.lay .nil [0, 1, 7, 8] [(.pv v0), (.pv v1), (.pv v2), (.pv v3)]) []) (k (.exit 0) (Env.lay .nil [] []) []) v0 v1 v2 v3 := by kernel_rfl
noncomputable def d91_1i {R : Type} (C : Kallee) (L : Nat) (kr : PV → Option R) (ke0 : Option R) : Nat → PV → PV → PV → PV → Option R
  | 0, _, _, _, _ => none
  | N + 1, v0, v1, v2, v3 => d91_2 C L kr (fun v0 v1 v2 v3 => d91_1i C L kr ke0 N v0 v1 v2 v3) ke0 v0 v1 v2 v3
noncomputable def d91_1 {R : Type} (C : Kallee) (L : Nat) (kr : PV → Option R) (ke0 : Option R) (v0 : PV) (v1 : PV) (v2 : PV) (v3 : PV) : Option R := d91_1i C L kr ke0 L v0 v1 v2 v3
theorem d91_1_i {R : Type} (C : Kallee) (L : Nat) (k : Ex → Env → Store → Option R) (N : Nat) (v0 : PV) (v1 : PV) (v2 : PV) (v3 : PV) : iter (execR Try.prog C hh L 91 (cAt (bodyOf Try.f91) [1, 0, 1, 0, 0])) [0, 1, 7, 8] 0 (prune (some ⟨[0, 1, 7, 8], [], [(0, [])], [4]⟩) 0 k) N (Env.lay .nil [0, 1, 7, 8] [(.pv v0), (.pv v1), (.pv v2), (.pv v3)]) [] = d91_1i C L (fun v0 => k .ret (Env.lay .nil [4] [(.pv v0)]) []) (k (.exit 0) (Env.lay .nil [] []) []) N v0 v1 v2 v3 := by
  induction N generalizing v0 v1 v2 v3 with
  | zero => rfl
  | succ N ih => exact Eq.trans (b := execR Try.prog C hh L 91 (cAt (bodyOf Try.f91) [1, 0, 1, 0, 0]) (Env.lay .nil [0, 1, 7, 8] [(.pv v0), (.pv v1), (.pv v2), (.pv v3)]) [] (loopK (fun e s => iter (execR Try.prog C hh L 91 (cAt (bodyOf Try.f91) [1, 0, 1, 0, 0])) [0, 1, 7, 8] 0 (prune (some ⟨[0, 1, 7, 8], [], [(0, [])], [4]⟩) 0 k) N e s) [0, 1, 7, 8] 0 (prune (some ⟨[0, 1, 7, 8], [], [(0, [])], [4]⟩) 0 k))) (by kernel_rfl) <| Eq.trans (e91_2 C L k (fun e s => iter (execR Try.prog C hh L 91 (cAt (bodyOf Try.f91) [1, 0, 1, 0, 0])) [0, 1, 7, 8] 0 (prune (some ⟨[0, 1, 7, 8], [], [(0, [])], [4]⟩) 0 k) N e s) v0 v1 v2 v3) (congrArg (fun kg => d91_2 C L (fun v0 => k .ret (Env.lay .nil [4] [(.pv v0)]) []) kg (k (.exit 0) (Env.lay .nil [] []) []) v0 v1 v2 v3) (funext fun v0 => funext fun v1 => funext fun v2 => funext fun v3 => ih v0 v1 v2 v3))
theorem e91_1 {R : Type} (C : Kallee) (L : Nat) (k : Ex → Env → Store → Option R) (v0 : PV) (v1 : PV) (v2 : PV) (v3 : PV) : execR Try.prog C hh L 91 (cAt (bodyOf Try.f91) [1, 0, 1, 0]) (Env.lay .nil [0, 1, 7, 8] [(.pv v0), (.pv v1), (.pv v2), (.pv v3)]) [] k = d91_1 C L (fun v0 => k .ret (Env.lay .nil [4] [(.pv v0)]) []) (k (.exit 0) (Env.lay .nil [] []) []) v0 v1 v2 v3 :=
  Eq.trans (b := iter (execR Try.prog C hh L 91 (cAt (bodyOf Try.f91) [1, 0, 1, 0, 0])) [0, 1, 7, 8] 0 (prune (some ⟨[0, 1, 7, 8], [], [(0, [])], [4]⟩) 0 k) L (Env.lay .nil [0, 1, 7, 8] [(.pv v0), (.pv v1), (.pv v2), (.pv v3)]) []) (by kernel_rfl) (d91_1_i C L k L v0 v1 v2 v3)
noncomputable def d91_3 (C : Kallee) (L : Nat)   : Option PV := (some (.sc (.int Go.IntKind.i64 (-1))))
theorem e91_3 (C : Kallee) (L : Nat)  : execR Try.prog C hh L 91 (cAt (bodyOf Try.f91) [1, 1]) (Env.lay .nil [] []) [] (endP Try.prog Try.f91) = d91_3 C L := by kernel_rfl
noncomputable def g91_0 (C : Kallee) (X1 : PV → PV → PV → PV → Option PV)  (v0 : PV) (v1 : PV) : Option PV := (ob ((lenPV Try.prog 24 v0).map fun n => .sc (goInt n)) fun v103 => (X1 v0 v1 v103 (.sc (.int Go.IntKind.i64 0))))
noncomputable def d91_0 (C : Kallee) (L : Nat)  (v0 : PV) (v1 : PV) : Option PV := g91_0 C (fun v0 v1 v2 v3 => d91_1 C L (fun v0 => (some v0)) (d91_3 C L) v0 v1 v2 v3) v0 v1
theorem e91_0 (C : Kallee) (L : Nat) (v0 : PV) (v1 : PV) : execR Try.prog C hh L 91 (cAt (bodyOf Try.f91) []) (Env.ofArgs [.pv v0, .pv v1] 0 .nil) [] (endP Try.prog Try.f91) = d91_0 C L v0 v1 :=
  Eq.trans (b := g91_0 C (fun v0 v1 v2 v3 => execR Try.prog C hh L 91 (cAt (bodyOf Try.f91) [1, 0, 1, 0]) (Env.lay .nil [0, 1, 7, 8] [(.pv v0), (.pv v1), (.pv v2), (.pv v3)]) [] (leaveB 0 (nextT Try.prog C hh L 91 (cAt (bodyOf Try.f91) [1, 1]) (endP Try.prog Try.f91)))) v0 v1) (by kernel_rfl) (cg1 (fun X1 => g91_0 C X1 v0 v1) (funext fun v0 => funext fun v1 => funext fun v2 => funext fun v3 => Eq.trans (e91_1 C L (leaveB 0 (nextT Try.prog C hh L 91 (cAt (bodyOf Try.f91) [1, 1]) (endP Try.prog Try.f91))) v0 v1 v2 v3) (cg2 (fun kr ke0 => d91_1 C L kr ke0 v0 v1 v2 v3) (funext fun v0 => (by kernel_rfl)) (Eq.trans (b := execR Try.prog C hh L 91 (cAt (bodyOf Try.f91) [1, 1]) (Env.lay .nil [] []) [] (endP Try.prog Try.f91)) (by kernel_rfl) (e91_3 C L)))))
theorem r91 (C : Kallee) (L : Nat) (v0 : PV) (v1 : PV) : bodyPR Try.prog C hh L 91 [v0, v1] = d91_0 C L v0 v1 := Eq.trans (bodyPR_eq (c := cAt (bodyOf Try.f91) []) [v0, v1] Try.func91 (by kernel_rfl) (by kernel_rfl)) (e91_0 C L v0 v1)

end
end Go.Lite

namespace Go.Lite
open Go Go.Proofs
set_option maxRecDepth 1000000
set_option linter.unusedVariables false
noncomputable section
/-! ## 92: muster/musterkit.SameTexts -/
noncomputable def d92_2 {R : Type} (C : Kallee) (L : Nat) (kr : PV → Option R) (kg : PV → PV → PV → Option R) (ke0 : Option R) (v0 : PV) (v1 : PV) (v2 : PV) : Option R := (ob ((lenPV Try.prog 32 v0).map fun n => .sc (goInt n)) fun v106 => (ob (binPV Try.prog .lss 3 (.tmp 11) (.tmp 13) v2 v106) fun v107 => (cb v107 (ob (indexAddrPV Try.prog 32 v0 v2) fun v108 => (ob (loadPV Try.prog 9 v108) fun v109 => (ob (indexAddrPV Try.prog 32 v1 v2) fun v110 => (ob (loadPV Try.prog 9 v110) fun v111 => (ob (binPV Try.prog .neq 9 (.tmp 20) (.tmp 24) v109 v111) fun v112 => (cb v112 (kr (.sc (.bool false))) (ob (binPV Try.prog .add 3 (.tmp 15) (.const (.int Go.IntKind.i64 1)) v2 (.sc (.int Go.IntKind.i64 1))) fun v113 => (kg v0 v1 v113)))))))) (ke0))))
theorem e92_2 {R : Type} (C : Kallee) (L : Nat) (k : Ex → Env → Store → Option R) (gg : Env → Store → Option R) (v0 : PV) (v1 : PV) (v2 : PV) : execR Try.prog C hh L 92 (cAt (bodyOf Try.f92) [1, 1, 0, 1, 0, 0]) (Env.lay .nil [0, 1, 5] [(.pv v0), (.pv v1), (.pv v2)]) [] (loopK gg [0, 1, 5] 0 (prune (some ⟨[0, 1, 5], [], [(0, [])], [4]⟩) 0 k)) = d92_2 C L (fun v0 => k .ret (Env.lay .nil [4] [(.pv v0)]) []) (fun v0 v1 v2 => gg (Env.lay .nil [0, 1, 5] [(.pv v0), (.pv v1), (.pv v2)]) []) (k (.exit 0) (Env.lay .nil [] []) []) v0 v1 v2 := by kernel_rfl
noncomputable def d92_1i {R : Type} (C : Kallee) (L : Nat) (kr : PV → Option R) (ke0 : Option R) : Nat → PV → PV → PV → Option R
  | 0, _, _, _ => none
  | N + 1, v0, v1, v2 => d92_2 C L kr (fun v0 v1 v2 => d92_1i C L kr ke0 N v0 v1 v2) ke0 v0 v1 v2
noncomputable def d92_1 {R : Type} (C : Kallee) (L : Nat) (kr : PV → Option R) (ke0 : Option R) (v0 : PV) (v1 : PV) (v2 : PV) : Option R := d92_1i C L kr ke0 L v0 v1 v2
theorem d92_1_i {R : Type} (C : Kallee) (L : Nat) (k : Ex → Env → Store → Option R) (N : Nat) (v0 : PV) (v1 : PV) (v2 : PV) : iter (execR Try.prog C hh L 92 (cAt (bodyOf Try.f92) [1, 1, 0, 1, 0, 0])) [0, 1, 5] 0 (prune (some ⟨[0, 1, 5], [], [(0, [])], [4]⟩) 0 k) N (Env.lay .nil [0, 1, 5] [(.pv v0), (.pv v1), (.pv v2)]) [] = d92_1i C L (fun v0 => k .ret (Env.lay .nil [4] [(.pv v0)]) []) (k (.exit 0) (Env.lay .nil [] []) []) N v0 v1 v2 := by
  induction N generalizing v0 v1 v2 with
  | zero => rfl
  | succ N ih => exact Eq.trans (b := execR Try.prog C hh L 92 (cAt (bodyOf Try.f92) [1, 1, 0, 1, 0, 0]) (Env.lay .nil [0, 1, 5] [(.pv v0), (.pv v1), (.pv v2)]) [] (loopK (fun e s => iter (execR Try.prog C hh L 92 (cAt (bodyOf Try.f92) [1, 1, 0, 1, 0, 0])) [0, 1, 5] 0 (prune (some ⟨[0, 1, 5], [], [(0, [])], [4]⟩) 0 k) N e s) [0, 1, 5] 0 (prune (some ⟨[0, 1, 5], [], [(0, [])], [4]⟩) 0 k))) (by kernel_rfl) <| Eq.trans (e92_2 C L k (fun e s => iter (execR Try.prog C hh L 92 (cAt (bodyOf Try.f92) [1, 1, 0, 1, 0, 0])) [0, 1, 5] 0 (prune (some ⟨[0, 1, 5], [], [(0, [])], [4]⟩) 0 k) N e s) v0 v1 v2) (congrArg (fun kg => d92_2 C L (fun v0 => k .ret (Env.lay .nil [4] [(.pv v0)]) []) kg (k (.exit 0) (Env.lay .nil [] []) []) v0 v1 v2) (funext fun v0 => funext fun v1 => funext fun v2 => ih v0 v1 v2))
theorem e92_1 {R : Type} (C : Kallee) (L : Nat) (k : Ex → Env → Store → Option R) (v0 : PV) (v1 : PV) (v2 : PV) : execR Try.prog C hh L 92 (cAt (bodyOf Try.f92) [1, 1, 0, 1, 0]) (Env.lay .nil [0, 1, 5] [(.pv v0), (.pv v1), (.pv v2)]) [] k = d92_1 C L (fun v0 => k .ret (Env.lay .nil [4] [(.pv v0)]) []) (k (.exit 0) (Env.lay .nil [] []) []) v0 v1 v2 :=
  Eq.trans (b := iter (execR Try.prog C hh L 92 (cAt (bodyOf Try.f92) [1, 1, 0, 1, 0, 0])) [0, 1, 5] 0 (prune (some ⟨[0, 1, 5], [], [(0, [])], [4]⟩) 0 k) L (Env.lay .nil [0, 1, 5] [(.pv v0), (.pv v1), (.pv v2)]) []) (by kernel_rfl) (d92_1_i C L k L v0 v1 v2)
noncomputable def d92_3 (C : Kallee) (L : Nat)   : Option PV := (some (.sc (.bool true)))
theorem e92_3 (C : Kallee) (L : Nat)  : execR Try.prog C hh L 92 (cAt (bodyOf Try.f92) [1, 1, 1]) (Env.lay .nil [] []) [] (endP Try.prog Try.f92) = d92_3 C L := by kernel_rfl
noncomputable def g92_0 (C : Kallee) (X1 : PV → PV → PV → Option PV)  (v0 : PV) (v1 : PV) : Option PV := (ob ((lenPV Try.prog 32 v0).map fun n => .sc (goInt n)) fun v103 => (ob ((lenPV Try.prog 32 v1).map fun n => .sc (goInt n)) fun v104 => (ob (binPV Try.prog .neq 3 (.tmp 7) (.tmp 9) v103 v104) fun v105 => (cb v105 (some (.sc (.bool false))) (X1 v0 v1 (.sc (.int Go.IntKind.i64 0)))))))
noncomputable def d92_0 (C : Kallee) (L : Nat)  (v0 : PV) (v1 : PV) : Option PV := g92_0 C (fun v0 v1 v2 => d92_1 C L (fun v0 => (some v0)) (d92_3 C L) v0 v1 v2) v0 v1
theorem e92_0 (C : Kallee) (L : Nat) (v0 : PV) (v1 : PV) : execR Try.prog C hh L 92 (cAt (bodyOf Try.f92) []) (Env.ofArgs [.pv v0, .pv v1] 0 .nil) [] (endP Try.prog Try.f92) = d92_0 C L v0 v1 :=
  Eq.trans (b := g92_0 C (fun v0 v1 v2 => execR Try.prog C hh L 92 (cAt (bodyOf Try.f92) [1, 1, 0, 1, 0]) (Env.lay .nil [0, 1, 5] [(.pv v0), (.pv v1), (.pv v2)]) [] (leaveB 0 (nextT Try.prog C hh L 92 (cAt (bodyOf Try.f92) [1, 1, 1]) (endP Try.prog Try.f92)))) v0 v1) (by kernel_rfl) (cg1 (fun X1 => g92_0 C X1 v0 v1) (funext fun v0 => funext fun v1 => funext fun v2 => Eq.trans (e92_1 C L (leaveB 0 (nextT Try.prog C hh L 92 (cAt (bodyOf Try.f92) [1, 1, 1]) (endP Try.prog Try.f92))) v0 v1 v2) (cg2 (fun kr ke0 => d92_1 C L kr ke0 v0 v1 v2) (funext fun v0 => (by kernel_rfl)) (Eq.trans (b := execR Try.prog C hh L 92 (cAt (bodyOf Try.f92) [1, 1, 1]) (Env.lay .nil [] []) [] (endP Try.prog Try.f92)) (by kernel_rfl) (e92_3 C L)))))
theorem r92 (C : Kallee) (L : Nat) (v0 : PV) (v1 : PV) : bodyPR Try.prog C hh L 92 [v0, v1] = d92_0 C L v0 v1 := Eq.trans (bodyPR_eq (c := cAt (bodyOf Try.f92) []) [v0, v1] Try.func92 (by kernel_rfl) (by kernel_rfl)) (e92_0 C L v0 v1)

end
end Go.Lite

namespace Go.Lite
open Go Go.Proofs
set_option maxRecDepth 1000000
set_option linter.unusedVariables false
noncomputable section
/-! ## 93: slices.IndexFunc[[]muster/api.Node,muster/api.Node] -/
noncomputable def d93_2 {R : Type} (C : Kallee) (L : Nat) (kr : PV → Option R) (kg : PV → PV → PV → PV → Option R) (ke0 : Option R) (v0 : PV) (v1 : PV) (v2 : PV) (v3 : PV) : Option R := (ob (binPV Try.prog .lss 3 (.tmp 8) (.tmp 7) v3 v2) fun v104 => (cb v104 (ob (indexAddrPV Try.prog 60 v0 v3) fun v105 => (ob (loadPV Try.prog 87 v105) fun v106 => (ob (callD C.pure v1 [v106] false) fun v107 => (cb v107 (kr v3) (ob (binPV Try.prog .add 3 (.tmp 8) (.const (.int Go.IntKind.i64 1)) v3 (.sc (.int Go.IntKind.i64 1))) fun v108 => (kg v0 v1 v2 v108)))))) (ke0)))
theorem e93_2 {R : Type} (C : Kallee) (L : Nat) (k : Ex → Env → Store → Option R) (gg : Env → Store → Option R) (v0 : PV) (v1 : PV) (v2 : PV) (v3 : PV) : execR Try.prog C hh L 93 (cAt (bodyOf Try.f93) [1, 0, 1, 0, 0]) (Env.lay .nil [0, 1, 7, 8] [(.pv v0), (.pv v1), (.pv v2), (.pv v3)]) [] (loopK gg [0, 1, 7, 8] 0 (prune (some ⟨[0, 1, 7, 8], [], [(0, [])], [4]⟩) 0 k)) = d93_2 C L (fun v0 => k .ret (Env.lay .nil [4] [(.pv v0)]) []) (fun v0 v1 v2 v3 => gg (Env.lay .nil [0, 1, 7, 8] [(.pv v0), (.pv v1), (.pv v2), (.pv v3)]) []) (k (.exit 0) (Env.lay .nil [] []) []) v0 v1 v2 v3 := by kernel_rfl
noncomputable def d93_1i {R : Type} (C : Kallee) (L : Nat) (kr : PV → Option R) (ke0 : Option R) : Nat → PV → PV → PV → PV → Option R
  | 0, _, _, _, _ => none
  | N + 1, v0, v1, v2, v3 => d93_2 C L kr (fun v0 v1 v2 v3 => d93_1i C L kr ke0 N v0 v1 v2 v3) ke0 v0 v1 v2 v3
noncomputable def d93_1 {R : Type} (C : Kallee) (L : Nat) (kr : PV → Option R) (ke0 : Option R) (v0 : PV) (v1 : PV) (v2 : PV) (v3 : PV) : Option R := d93_1i C L kr ke0 L v0 v1 v2 v3
theorem d93_1_i {R : Type} (C : Kallee) (L : Nat) (k : Ex → Env → Store → Option R) (N : Nat) (v0 : PV) (v1 : PV) (v2 : PV) (v3 : PV) : iter (execR Try.prog C hh L 93 (cAt (bodyOf Try.f93) [1, 0, 1, 0, 0])) [0, 1, 7, 8] 0 (prune (some ⟨[0, 1, 7, 8], [], [(0, [])], [4]⟩) 0 k) N (Env.lay .nil [0, 1, 7, 8] [(.pv v0), (.pv v1), (.pv v2), (.pv v3)]) [] = d93_1i C L (fun v0 => k .ret (Env.lay .nil [4] [(.pv v0)]) []) (k (.exit 0) (Env.lay .nil [] []) []) N v0 v1 v2 v3 := by
  induction N generalizing v0 v1 v2 v3 with
  | zero => rfl
  | succ N ih => exact Eq.trans (b := execR Try.prog C hh L 93 (cAt (bodyOf Try.f93) [1, 0, 1, 0, 0]) (Env.lay .nil [0, 1, 7, 8] [(.pv v0), (.pv v1), (.pv v2), (.pv v3)]) [] (loopK (fun e s => iter (execR Try.prog C hh L 93 (cAt (bodyOf Try.f93) [1, 0, 1, 0, 0])) [0, 1, 7, 8] 0 (prune (some ⟨[0, 1, 7, 8], [], [(0, [])], [4]⟩) 0 k) N e s) [0, 1, 7, 8] 0 (prune (some ⟨[0, 1, 7, 8], [], [(0, [])], [4]⟩) 0 k))) (by kernel_rfl) <| Eq.trans (e93_2 C L k (fun e s => iter (execR Try.prog C hh L 93 (cAt (bodyOf Try.f93) [1, 0, 1, 0, 0])) [0, 1, 7, 8] 0 (prune (some ⟨[0, 1, 7, 8], [], [(0, [])], [4]⟩) 0 k) N e s) v0 v1 v2 v3) (congrArg (fun kg => d93_2 C L (fun v0 => k .ret (Env.lay .nil [4] [(.pv v0)]) []) kg (k (.exit 0) (Env.lay .nil [] []) []) v0 v1 v2 v3) (funext fun v0 => funext fun v1 => funext fun v2 => funext fun v3 => ih v0 v1 v2 v3))
theorem e93_1 {R : Type} (C : Kallee) (L : Nat) (k : Ex → Env → Store → Option R) (v0 : PV) (v1 : PV) (v2 : PV) (v3 : PV) : execR Try.prog C hh L 93 (cAt (bodyOf Try.f93) [1, 0, 1, 0]) (Env.lay .nil [0, 1, 7, 8] [(.pv v0), (.pv v1), (.pv v2), (.pv v3)]) [] k = d93_1 C L (fun v0 => k .ret (Env.lay .nil [4] [(.pv v0)]) []) (k (.exit 0) (Env.lay .nil [] []) []) v0 v1 v2 v3 :=
  Eq.trans (b := iter (execR Try.prog C hh L 93 (cAt (bodyOf Try.f93) [1, 0, 1, 0, 0])) [0, 1, 7, 8] 0 (prune (some ⟨[0, 1, 7, 8], [], [(0, [])], [4]⟩) 0 k) L (Env.lay .nil [0, 1, 7, 8] [(.pv v0), (.pv v1), (.pv v2), (.pv v3)]) []) (by kernel_rfl) (d93_1_i C L k L v0 v1 v2 v3)
noncomputable def d93_3 (C : Kallee) (L : Nat)   : Option PV := (some (.sc (.int Go.IntKind.i64 (-1))))
theorem e93_3 (C : Kallee) (L : Nat)  : execR Try.prog C hh L 93 (cAt (bodyOf Try.f93) [1, 1]) (Env.lay .nil [] []) [] (endP Try.prog Try.f93) = d93_3 C L := by kernel_rfl
noncomputable def g93_0 (C : Kallee) (X1 : PV → PV → PV → PV → Option PV)  (v0 : PV) (v1 : PV) : Option PV := (ob ((lenPV Try.prog 60 v0).map fun n => .sc (goInt n)) fun v103 => (X1 v0 v1 v103 (.sc (.int Go.IntKind.i64 0))))
noncomputable def d93_0 (C : Kallee) (L : Nat)  (v0 : PV) (v1 : PV) : Option PV := g93_0 C (fun v0 v1 v2 v3 => d93_1 C L (fun v0 => (some v0)) (d93_3 C L) v0 v1 v2 v3) v0 v1
theorem e93_0 (C : Kallee) (L : Nat) (v0 : PV) (v1 : PV) : execR Try.prog C hh L 93 (cAt (bodyOf Try.f93) []) (Env.ofArgs [.pv v0, .pv v1] 0 .nil) [] (endP Try.prog Try.f93) = d93_0 C L v0 v1 :=
  Eq.trans (b := g93_0 C (fun v0 v1 v2 v3 => execR Try.prog C hh L 93 (cAt (bodyOf Try.f93) [1, 0, 1, 0]) (Env.lay .nil [0, 1, 7, 8] [(.pv v0), (.pv v1), (.pv v2), (.pv v3)]) [] (leaveB 0 (nextT Try.prog C hh L 93 (cAt (bodyOf Try.f93) [1, 1]) (endP Try.prog Try.f93)))) v0 v1) (by kernel_rfl) (cg1 (fun X1 => g93_0 C X1 v0 v1) (funext fun v0 => funext fun v1 => funext fun v2 => funext fun v3 => Eq.trans (e93_1 C L (leaveB 0 (nextT Try.prog C hh L 93 (cAt (bodyOf Try.f93) [1, 1]) (endP Try.prog Try.f93))) v0 v1 v2 v3) (cg2 (fun kr ke0 => d93_1 C L kr ke0 v0 v1 v2 v3) (funext fun v0 => (by kernel_rfl)) (Eq.trans (b := execR Try.prog C hh L 93 (cAt (bodyOf Try.f93) [1, 1]) (Env.lay .nil [] []) [] (endP Try.prog Try.f93)) (by kernel_rfl) (e93_3 C L)))))
theorem r93 (C : Kallee) (L : Nat) (v0 : PV) (v1 : PV) : bodyPR Try.prog C hh L 93 [v0, v1] = d93_0 C L v0 v1 := Eq.trans (bodyPR_eq (c := cAt (bodyOf Try.f93) []) [v0, v1] Try.func93 (by kernel_rfl) (by kernel_rfl)) (e93_0 C L v0 v1)

end
end Go.Lite

namespace Go.Lite
open Go Go.Proofs
set_option maxRecDepth 1000000
set_option linter.unusedVariables false
noncomputable section
/-! ## 94: strings.indexFunc -/
noncomputable def d94_2 {R : Type} (C : Kallee) (L : Nat) (kr : PV → ByteArray → Nat → Option R) (kg : PV → PV → ByteArray → Nat → Option R) (ke0 : ByteArray → Nat → Option R) (v0 : PV) (v1 : PV) (s2 : ByteArray) (n3 : Nat) : Option R := (ob (extractPV (nextV s2 n3) 0) fun v105 => (cb v105 (ob (extractPV (nextV s2 n3) 1) fun v106 => (ob (extractPV (nextV s2 n3) 2) fun v107 => (ob (callD C.pure v0 [v107] false) fun v108 => (ob (binPV Try.prog .eql 4 (.tmp 17) (.tmp 18) v108 v1) fun v109 => (cb v109 (kr v106 s2 (nextPos s2 n3)) (kg v0 v1 s2 (nextPos s2 n3))))))) (ke0 s2 (nextPos s2 n3))))
theorem e94_2 {R : Type} (C : Kallee) (L : Nat) (k : Ex → Env → Store → Option R) (gg : Env → Store → Option R) (v0 : PV) (v1 : PV) (s2 : ByteArray) (n3 : Nat) : execR Try.prog C hh L 94 (cAt (bodyOf Try.f94) [1, 0, 1, 0, 0]) (Env.lay .nil [1, 2, 10] [(.pv v0), (.pv v1), (.ptr 0 0 0)]) [.sit s2 n3] (loopK gg [1, 2, 10] 1 (prune (some ⟨[1, 2, 10], [], [(0, [])], [6]⟩) 1 k)) = d94_2 C L (fun v0 s1 n2 => k .ret (Env.lay .nil [6] [(.pv v0)]) [.sit s1 n2]) (fun v0 v1 s2 n3 => gg (Env.lay .nil [1, 2, 10] [(.pv v0), (.pv v1), (.ptr 0 0 0)]) [.sit s2 n3]) (fun s0 n1 => k (.exit 0) (Env.lay .nil [] []) [.sit s0 n1]) v0 v1 s2 n3 := by kernel_rfl
noncomputable def d94_1i {R : Type} (C : Kallee) (L : Nat) (kr : PV → ByteArray → Nat → Option R) (ke0 : ByteArray → Nat → Option R) : Nat → PV → PV → ByteArray → Nat → Option R
  | 0, _, _, _, _ => none
  | N + 1, v0, v1, s2, n3 => d94_2 C L kr (fun v0 v1 s2 n3 => d94_1i C L kr ke0 N v0 v1 s2 n3) ke0 v0 v1 s2 n3
noncomputable def d94_1 {R : Type} (C : Kallee) (L : Nat) (kr : PV → ByteArray → Nat → Option R) (ke0 : ByteArray → Nat → Option R) (v0 : PV) (v1 : PV) (s2 : ByteArray) (n3 : Nat) : Option R := d94_1i C L kr ke0 L v0 v1 s2 n3
theorem d94_1_i {R : Type} (C : Kallee) (L : Nat) (k : Ex → Env → Store → Option R) (N : Nat) (v0 : PV) (v1 : PV) (s2 : ByteArray) (n3 : Nat) : iter (execR Try.prog C hh L 94 (cAt (bodyOf Try.f94) [1, 0, 1, 0, 0])) [1, 2, 10] 1 (prune (some ⟨[1, 2, 10], [], [(0, [])], [6]⟩) 1 k) N (Env.lay .nil [1, 2, 10] [(.pv v0), (.pv v1), (.ptr 0 0 0)]) [.sit s2 n3] = d94_1i C L (fun v0 s1 n2 => k .ret (Env.lay .nil [6] [(.pv v0)]) [.sit s1 n2]) (fun s0 n1 => k (.exit 0) (Env.lay .nil [] []) [.sit s0 n1]) N v0 v1 s2 n3 := by
  induction N generalizing v0 v1 s2 n3 with
  | zero => rfl
  | succ N ih => exact Eq.trans (b := execR Try.prog C hh L 94 (cAt (bodyOf Try.f94) [1, 0, 1, 0, 0]) (Env.lay .nil [1, 2, 10] [(.pv v0), (.pv v1), (.ptr 0 0 0)]) [.sit s2 n3] (loopK (fun e s => iter (execR Try.prog C hh L 94 (cAt (bodyOf Try.f94) [1, 0, 1, 0, 0])) [1, 2, 10] 1 (prune (some ⟨[1, 2, 10], [], [(0, [])], [6]⟩) 1 k) N e s) [1, 2, 10] 1 (prune (some ⟨[1, 2, 10], [], [(0, [])], [6]⟩) 1 k))) (by kernel_rfl) <| Eq.trans (e94_2 C L k (fun e s => iter (execR Try.prog C hh L 94 (cAt (bodyOf Try.f94) [1, 0, 1, 0, 0])) [1, 2, 10] 1 (prune (some ⟨[1, 2, 10], [], [(0, [])], [6]⟩) 1 k) N e s) v0 v1 s2 n3) (congrArg (fun kg => d94_2 C L (fun v0 s1 n2 => k .ret (Env.lay .nil [6] [(.pv v0)]) [.sit s1 n2]) kg (fun s0 n1 => k (.exit 0) (Env.lay .nil [] []) [.sit s0 n1]) v0 v1 s2 n3) (funext fun v0 => funext fun v1 => funext fun s2 => funext fun n3 => ih v0 v1 s2 n3))
theorem e94_1 {R : Type} (C : Kallee) (L : Nat) (k : Ex → Env → Store → Option R) (v0 : PV) (v1 : PV) (s2 : ByteArray) (n3 : Nat) : execR Try.prog C hh L 94 (cAt (bodyOf Try.f94) [1, 0, 1, 0]) (Env.lay .nil [1, 2, 10] [(.pv v0), (.pv v1), (.ptr 0 0 0)]) [.sit s2 n3] k = d94_1 C L (fun v0 s1 n2 => k .ret (Env.lay .nil [6] [(.pv v0)]) [.sit s1 n2]) (fun s0 n1 => k (.exit 0) (Env.lay .nil [] []) [.sit s0 n1]) v0 v1 s2 n3 :=
  Eq.trans (b := iter (execR Try.prog C hh L 94 (cAt (bodyOf Try.f94) [1, 0, 1, 0, 0])) [1, 2, 10] 1 (prune (some ⟨[1, 2, 10], [], [(0, [])], [6]⟩) 1 k) L (Env.lay .nil [1, 2, 10] [(.pv v0), (.pv v1), (.ptr 0 0 0)]) [.sit s2 n3]) (by kernel_rfl) (d94_1_i C L k L v0 v1 s2 n3)
noncomputable def d94_3 (C : Kallee) (L : Nat)  (s0 : ByteArray) (n1 : Nat) : Option PV := (some (.sc (.int Go.IntKind.i64 (-1))))
theorem e94_3 (C : Kallee) (L : Nat) (s0 : ByteArray) (n1 : Nat) : execR Try.prog C hh L 94 (cAt (bodyOf Try.f94) [1, 1]) (Env.lay .nil [] []) [.sit s0 n1] (endP Try.prog Try.f94) = d94_3 C L s0 n1 := by kernel_rfl
noncomputable def g94_0 (C : Kallee) (X1 : PV → PV → ByteArray → Nat → Option PV)  (v0 : PV) (v1 : PV) (v2 : PV) : Option PV := (obs (strPV? v0) fun s104 => (X1 v1 v2 s104 0))
noncomputable def d94_0 (C : Kallee) (L : Nat)  (v0 : PV) (v1 : PV) (v2 : PV) : Option PV := g94_0 C (fun v0 v1 s2 n3 => d94_1 C L (fun v0 s1 n2 => (some v0)) (fun s0 n1 => d94_3 C L s0 n1) v0 v1 s2 n3) v0 v1 v2
theorem e94_0 (C : Kallee) (L : Nat) (v0 : PV) (v1 : PV) (v2 : PV) : execR Try.prog C hh L 94 (cAt (bodyOf Try.f94) []) (Env.ofArgs [.pv v0, .pv v1, .pv v2] 0 .nil) [] (endP Try.prog Try.f94) = d94_0 C L v0 v1 v2 :=
  Eq.trans (b := g94_0 C (fun v0 v1 s2 n3 => execR Try.prog C hh L 94 (cAt (bodyOf Try.f94) [1, 0, 1, 0]) (Env.lay .nil [1, 2, 10] [(.pv v0), (.pv v1), (.ptr 0 0 0)]) [.sit s2 n3] (leaveB 0 (nextT Try.prog C hh L 94 (cAt (bodyOf Try.f94) [1, 1]) (endP Try.prog Try.f94)))) v0 v1 v2) (by kernel_rfl) (cg1 (fun X1 => g94_0 C X1 v0 v1 v2) (funext fun v0 => funext fun v1 => funext fun s2 => funext fun n3 => Eq.trans (e94_1 C L (leaveB 0 (nextT Try.prog C hh L 94 (cAt (bodyOf Try.f94) [1, 1]) (endP Try.prog Try.f94))) v0 v1 s2 n3) (cg2 (fun kr ke0 => d94_1 C L kr ke0 v0 v1 s2 n3) (funext fun v0 => funext fun s1 => funext fun n2 => (by kernel_rfl)) (funext fun s0 => funext fun n1 => (Eq.trans (b := execR Try.prog C hh L 94 (cAt (bodyOf Try.f94) [1, 1]) (Env.lay .nil [] []) [.sit s0 n1] (endP Try.prog Try.f94)) (by kernel_rfl) (e94_3 C L s0 n1))))))
theorem r94 (C : Kallee) (L : Nat) (v0 : PV) (v1 : PV) (v2 : PV) : bodyPR Try.prog C hh L 94 [v0, v1, v2] = d94_0 C L v0 v1 v2 := Eq.trans (bodyPR_eq (c := cAt (bodyOf Try.f94) []) [v0, v1, v2] Try.func94 (by kernel_rfl) (by kernel_rfl)) (e94_0 C L v0 v1 v2)

end
end Go.Lite

namespace Go.Lite
open Go Go.Proofs
set_option maxRecDepth 1000000
set_option linter.unusedVariables false
noncomputable section
/-! ## 95: slices.IndexFunc[[]int,int] -/
noncomputable def d95_2 {R : Type} (C : Kallee) (L : Nat) (kr : PV → Option R) (kg : PV → PV → PV → PV → Option R) (ke0 : Option R) (v0 : PV) (v1 : PV) (v2 : PV) (v3 : PV) : Option R := (ob (binPV Try.prog .lss 3 (.tmp 8) (.tmp 7) v3 v2) fun v104 => (cb v104 (ob (indexAddrPV Try.prog 22 v0 v3) fun v105 => (ob (loadPV Try.prog 3 v105) fun v106 => (ob (callD C.pure v1 [v106] false) fun v107 => (cb v107 (kr v3) (ob (binPV Try.prog .add 3 (.tmp 8) (.const (.int Go.IntKind.i64 1)) v3 (.sc (.int Go.IntKind.i64 1))) fun v108 => (kg v0 v1 v2 v108)))))) (ke0)))
theorem e95_2 {R : Type} (C : Kallee) (L : Nat) (k : Ex → Env → Store → Option R) (gg : Env → Store → Option R) (v0 : PV) (v1 : PV) (v2 : PV) (v3 : PV) : execR Try.prog C hh L 95 (cAt (bodyOf Try.f95) [1, 0, 1, 0, 0]) (Env.lay .nil [0, 1, 7, 8] [(.pv v0), (.pv v1), (.pv v2), (.pv v3)]) [] (loopK gg [0, 1, 7, 8] 0 (prune (some ⟨[0, 1, 7, 8], [], [(0, [])], [4]⟩) 0 k)) = d95_2 C L (fun v0 => k .ret (Env.lay .nil [4] [(.pv v0)]) []) (fun v0 v1 v2 v3 => gg (Env.lay .nil [0, 1, 7, 8] [(.pv v0), (.pv v1), (.pv v2), (.pv v3)]) []) (k (.exit 0) (Env.lay .nil [] []) []) v0 v1 v2 v3 := by kernel_rfl
noncomputable def d95_1i {R : Type} (C : Kallee) (L : Nat) (kr : PV → Option R) (ke0 : Option R) : Nat → PV → PV → PV → PV → Option R
  | 0, _, _, _, _ => none
  | N + 1, v0, v1, v2, v3 => d95_2 C L kr (fun v0 v1 v2 v3 => d95_1i C L kr ke0 N v0 v1 v2 v3) ke0 v0 v1 v2 v3
noncomputable def d95_1 {R : Type} (C : Kallee) (L : Nat) (kr : PV → Option R) (ke0 : Option R) (v0 : PV) (v1 : PV) (v2 : PV) (v3 : PV) : Option R := d95_1i C L kr ke0 L v0 v1 v2 v3
theorem d95_1_i {R : Type} (C : Kallee) (L : Nat) (k : Ex → Env → Store → Option R) (N : Nat) (v0 : PV) (v1 : PV) (v2 : PV) (v3 : PV) : iter (execR Try.prog C hh L 95 (cAt (bodyOf Try.f95) [1, 0, 1, 0, 0])) [0, 1, 7, 8] 0 (prune (some ⟨[0, 1, 7, 8], [], [(0, [])], [4]⟩) 0 k) N (Env.lay .nil [0, 1, 7, 8] [(.pv v0), (.pv v1), (.pv v2), (.pv v3)]) [] = d95_1i C L (fun v0 => k .ret (Env.lay .nil [4] [(.pv v0)]) []) (k (.exit 0) (Env.lay .nil [] []) []) N v0 v1 v2 v3 := by
  induction N generalizing v0 v1 v2 v3 with
  | zero => rfl
  | succ N ih => exact Eq.trans (b := execR Try.prog C hh L 95 (cAt (bodyOf Try.f95) [1, 0, 1, 0, 0]) (Env.lay .nil [0, 1, 7, 8] [(.pv v0), (.pv v1), (.pv v2), (.pv v3)]) [] (loopK (fun e s => iter (execR Try.prog C hh L 95 (cAt (bodyOf Try.f95) [1, 0, 1, 0, 0])) [0, 1, 7, 8] 0 (prune (some ⟨[0, 1, 7, 8], [], [(0, [])], [4]⟩) 0 k) N e s) [0, 1, 7, 8] 0 (prune (some ⟨[0, 1, 7, 8], [], [(0, [])], [4]⟩) 0 k))) (by kernel_rfl) <| Eq.trans (e95_2 C L k (fun e s => iter (execR Try.prog C hh L 95 (cAt (bodyOf Try.f95) [1, 0, 1, 0, 0])) [0, 1, 7, 8] 0 (prune (some ⟨[0, 1, 7, 8], [], [(0, [])], [4]⟩) 0 k) N e s) v0 v1 v2 v3) (congrArg (fun kg => d95_2 C L (fun v0 => k .ret (Env.lay .nil [4] [(.pv v0)]) []) kg (k (.exit 0) (Env.lay .nil [] []) []) v0 v1 v2 v3) (funext fun v0 => funext fun v1 => funext fun v2 => funext fun v3 => ih v0 v1 v2 v3))
theorem e95_1 {R : Type} (C : Kallee) (L : Nat) (k : Ex → Env → Store → Option R) (v0 : PV) (v1 : PV) (v2 : PV) (v3 : PV) : execR Try.prog C hh L 95 (cAt (bodyOf Try.f95) [1, 0, 1, 0]) (Env.lay .nil [0, 1, 7, 8] [(.pv v0), (.pv v1), (.pv v2), (.pv v3)]) [] k = d95_1 C L (fun v0 => k .ret (Env.lay .nil [4] [(.pv v0)]) []) (k (.exit 0) (Env.lay .nil [] []) []) v0 v1 v2 v3 :=
  Eq.trans (b := iter (execR Try.prog C hh L 95 (cAt (bodyOf Try.f95) [1, 0, 1, 0, 0])) [0, 1, 7, 8] 0 (prune (some ⟨[0, 1, 7, 8], [], [(0, [])], [4]⟩) 0 k) L (Env.lay .nil [0, 1, 7, 8] [(.pv v0), (.pv v1), (.pv v2), (.pv v3)]) []) (by kernel_rfl) (d95_1_i C L k L v0 v1 v2 v3)
noncomputable def d95_3 (C : Kallee) (L : Nat)   : Option PV := (some (.sc (.int Go.IntKind.i64 (-1))))
theorem e95_3 (C : Kallee) (L : Nat)  : execR Try.prog C hh L 95 (cAt (bodyOf Try.f95) [1, 1]) (Env.lay .nil [] []) [] (endP Try.prog Try.f95) = d95_3 C L := by kernel_rfl
noncomputable def g95_0 (C : Kallee) (X1 : PV → PV → PV → PV → Option PV)  (v0 : PV) (v1 : PV) : Option PV := (ob ((lenPV Try.prog 22 v0).map fun n => .sc (goInt n)) fun v103 => (X1 v0 v1 v103 (.sc (.int Go.IntKind.i64 0))))
noncomputable def d95_0 (C : Kallee) (L : Nat)  (v0 : PV) (v1 : PV) : Option PV := g95_0 C (fun v0 v1 v2 v3 => d95_1 C L (fun v0 => (some v0)) (d95_3 C L) v0 v1 v2 v3) v0 v1
theorem e95_0 (C : Kallee) (L : Nat) (v0 : PV) (v1 : PV) : execR Try.prog C hh L 95 (cAt (bodyOf Try.f95) []) (Env.ofArgs [.pv v0, .pv v1] 0 .nil) [] (endP Try.prog Try.f95) = d95_0 C L v0 v1 :=
  Eq.trans (b := g95_0 C (fun v0 v1 v2 v3 => execR Try.prog C hh L 95 (cAt (bodyOf Try.f95) [1, 0, 1, 0]) (Env.lay .nil [0, 1, 7, 8] [(.pv v0), (.pv v1), (.pv v2), (.pv v3)]) [] (leaveB 0 (nextT Try.prog C hh L 95 (cAt (bodyOf Try.f95) [1, 1]) (endP Try.prog Try.f95)))) v0 v1) (by kernel_rfl) (cg1 (fun X1 => g95_0 C X1 v0 v1) (funext fun v0 => funext fun v1 => funext fun v2 => funext fun v3 => Eq.trans (e95_1 C L (leaveB 0 (nextT Try.prog C hh L 95 (cAt (bodyOf Try.f95) [1, 1]) (endP Try.prog Try.f95))) v0 v1 v2 v3) (cg2 (fun kr ke0 => d95_1 C L kr ke0 v0 v1 v2 v3) (funext fun v0 => (by kernel_rfl)) (Eq.trans (b := execR Try.prog C hh L 95 (cAt (bodyOf Try.f95) [1, 1]) (Env.lay .nil [] []) [] (endP Try.prog Try.f95)) (by kernel_rfl) (e95_3 C L)))))
theorem r95 (C : Kallee) (L : Nat) (v0 : PV) (v1 : PV) : bodyPR Try.prog C hh L 95 [v0, v1] = d95_0 C L v0 v1 := Eq.trans (bodyPR_eq (c := cAt (bodyOf Try.f95) []) [v0, v1] Try.func95 (by kernel_rfl) (by kernel_rfl)) (e95_0 C L v0 v1)

end
end Go.Lite
