import Derived.Test.YtcpbpbcgkammlaaDoorBa
import Derived.Test.YtcpbpbcgkammlaaDoorProg
import Derived.KernelRfl
set_option linter.unusedVariables false
set_option linter.unusedSimpArgs false

namespace Go.Lite
open Go Go.Proofs
set_option maxRecDepth 1000000
set_option linter.unusedVariables false
noncomputable section
/-! ## 9: muster/musterref10.Of -/
noncomputable def d9_2 {R : Type} (C : Kallee) (L : Nat) (kr : PV → PV → Option R) (kg : PV → PV → PV → Option R) (ke0 : PV → Option R) (v0 : PV) (v1 : PV) (v2 : PV) : Option R := (ob ((lenPV Tryd.prog 22 v0).map fun n => .sc (goInt n)) fun v103 => (ob (binPV Tryd.prog .lss 3 (.tmp 6) (.tmp 8) v2 v103) fun v104 => (cb v104 (ob (indexAddrPV Tryd.prog 22 v0 v2) fun v105 => (ob (loadPV Tryd.prog 3 v105) fun v106 => (ob (binPV Tryd.prog .lss 3 (.tmp 15) (.const (.int Go.IntKind.i64 0)) v106 (.sc (.int Go.IntKind.i64 0))) fun v107 => (gcase false v107 (ob (indexAddrPV Tryd.prog 22 v0 v2) fun v108 => (ob (loadPV Tryd.prog 3 v108) fun v109 => (ob (binPV Tryd.prog .gtr 3 (.tmp 21) (.const (.int Go.IntKind.i64 31)) v109 (.sc (.int Go.IntKind.i64 31))) fun v110 => (cb v110 (kr (.sc (.int Go.IntKind.u32 0)) (.sc (.int Go.IntKind.i64 2))) (ob (indexAddrPV Tryd.prog 22 v0 v2) fun v111 => (ob (loadPV Tryd.prog 3 v111) fun v112 => (ob (callD C.pure (.clo 23 [] []) [v1, v112] 0) fun v113 => (ob (unPV Tryd.prog .not v113) fun v114 => (cb v114 (ob (indexAddrPV Tryd.prog 22 v0 v2) fun v115 => (ob (loadPV Tryd.prog 3 v115) fun v116 => (ob (callD C.pure (.clo 24 [] []) [v116] 0) fun v117 => (ob (binPV Tryd.prog .add 24 (.tmp 31) (.tmp 36) v1 v117) fun v118 => (ob (binPV Tryd.prog .add 3 (.tmp 10) (.const (.int Go.IntKind.i64 1)) v2 (.sc (.int Go.IntKind.i64 1))) fun v119 => (kg v0 v118 v119)))))) (ob (binPV Tryd.prog .add 3 (.tmp 10) (.const (.int Go.IntKind.i64 1)) v2 (.sc (.int Go.IntKind.i64 1))) fun v120 => (kg v0 v1 v120))))))))))) (kr (.sc (.int Go.IntKind.u32 0)) (.sc (.int Go.IntKind.i64 2))) none)))) (ke0 v1))))
theorem e9_2 {R : Type} (C : Kallee) (L : Nat) (k : Ex → Env → Store → Option R) (gg : Env → Store → Option R) (v0 : PV) (v1 : PV) (v2 : PV) : execR Tryd.prog C hh L 9 (cAt (bodyOf Tryd.f9) [1, 1, 0, 1, 0, 0]) (Env.lay .nil [0, 4, 5] [(.pv v0), (.pv v1), (.pv v2)]) [] (loopK gg [0, 4, 5] 0 (prune (some ⟨[0, 4, 5], [], [(0, [4])], [2, 3]⟩) 0 k)) = d9_2 C L (fun v0 v1 => k .ret (Env.lay .nil [2, 3] [(.pv v0), (.pv v1)]) []) (fun v0 v1 v2 => gg (Env.lay .nil [0, 4, 5] [(.pv v0), (.pv v1), (.pv v2)]) []) (fun v0 => k (.exit 0) (Env.lay .nil [4] [(.pv v0)]) []) v0 v1 v2 := by kernel_rfl
noncomputable def d9_1i {R : Type} (C : Kallee) (L : Nat) (kr : PV → PV → Option R) (ke0 : PV → Option R) : Nat → PV → PV → PV → Option R
  | 0, _, _, _ => none
  | N + 1, v0, v1, v2 => d9_2 C L kr (fun v0 v1 v2 => d9_1i C L kr ke0 N v0 v1 v2) ke0 v0 v1 v2
noncomputable def d9_1 {R : Type} (C : Kallee) (L : Nat) (kr : PV → PV → Option R) (ke0 : PV → Option R) (v0 : PV) (v1 : PV) (v2 : PV) : Option R := d9_1i C L kr ke0 L v0 v1 v2
theorem d9_1_i {R : Type} (C : Kallee) (L : Nat) (k : Ex → Env → Store → Option R) (N : Nat) (v0 : PV) (v1 : PV) (v2 : PV) : iter (execR Tryd.prog C hh L 9 (cAt (bodyOf Tryd.f9) [1, 1, 0, 1, 0, 0])) [0, 4, 5] 0 (prune (some ⟨[0, 4, 5], [], [(0, [4])], [2, 3]⟩) 0 k) N (Env.lay .nil [0, 4, 5] [(.pv v0), (.pv v1), (.pv v2)]) [] = d9_1i C L (fun v0 v1 => k .ret (Env.lay .nil [2, 3] [(.pv v0), (.pv v1)]) []) (fun v0 => k (.exit 0) (Env.lay .nil [4] [(.pv v0)]) []) N v0 v1 v2 := by
  induction N generalizing v0 v1 v2 with
  | zero => rfl
  | succ N ih => exact Eq.trans (b := execR Tryd.prog C hh L 9 (cAt (bodyOf Tryd.f9) [1, 1, 0, 1, 0, 0]) (Env.lay .nil [0, 4, 5] [(.pv v0), (.pv v1), (.pv v2)]) [] (loopK (fun e s => iter (execR Tryd.prog C hh L 9 (cAt (bodyOf Tryd.f9) [1, 1, 0, 1, 0, 0])) [0, 4, 5] 0 (prune (some ⟨[0, 4, 5], [], [(0, [4])], [2, 3]⟩) 0 k) N e s) [0, 4, 5] 0 (prune (some ⟨[0, 4, 5], [], [(0, [4])], [2, 3]⟩) 0 k))) (by kernel_rfl) <| Eq.trans (e9_2 C L k (fun e s => iter (execR Tryd.prog C hh L 9 (cAt (bodyOf Tryd.f9) [1, 1, 0, 1, 0, 0])) [0, 4, 5] 0 (prune (some ⟨[0, 4, 5], [], [(0, [4])], [2, 3]⟩) 0 k) N e s) v0 v1 v2) (congrArg (fun kg => d9_2 C L (fun v0 v1 => k .ret (Env.lay .nil [2, 3] [(.pv v0), (.pv v1)]) []) kg (fun v0 => k (.exit 0) (Env.lay .nil [4] [(.pv v0)]) []) v0 v1 v2) (funext fun v0 => funext fun v1 => funext fun v2 => ih v0 v1 v2))
theorem e9_1 {R : Type} (C : Kallee) (L : Nat) (k : Ex → Env → Store → Option R) (v0 : PV) (v1 : PV) (v2 : PV) : execR Tryd.prog C hh L 9 (cAt (bodyOf Tryd.f9) [1, 1, 0, 1, 0]) (Env.lay .nil [0, 4, 5] [(.pv v0), (.pv v1), (.pv v2)]) [] k = d9_1 C L (fun v0 v1 => k .ret (Env.lay .nil [2, 3] [(.pv v0), (.pv v1)]) []) (fun v0 => k (.exit 0) (Env.lay .nil [4] [(.pv v0)]) []) v0 v1 v2 :=
  Eq.trans (b := iter (execR Tryd.prog C hh L 9 (cAt (bodyOf Tryd.f9) [1, 1, 0, 1, 0, 0])) [0, 4, 5] 0 (prune (some ⟨[0, 4, 5], [], [(0, [4])], [2, 3]⟩) 0 k) L (Env.lay .nil [0, 4, 5] [(.pv v0), (.pv v1), (.pv v2)]) []) (by kernel_rfl) (d9_1_i C L k L v0 v1 v2)
noncomputable def d9_3 (C : Kallee) (L : Nat)  (v0 : PV) : Option PV := (some (.tup [v0, (.sc (.int Go.IntKind.i64 0))]))
theorem e9_3 (C : Kallee) (L : Nat) (v0 : PV) : execR Tryd.prog C hh L 9 (cAt (bodyOf Tryd.f9) [1, 1, 1]) (Env.lay .nil [4] [(.pv v0)]) [] (endP Tryd.prog Tryd.f9) = d9_3 C L v0 := by kernel_rfl
noncomputable def g9_0 (C : Kallee) (X1 : PV → PV → PV → Option PV)  (v0 : PV) : Option PV := (X1 v0 (.sc (.int Go.IntKind.u32 0)) (.sc (.int Go.IntKind.i64 0)))
noncomputable def d9_0 (C : Kallee) (L : Nat)  (v0 : PV) : Option PV := g9_0 C (fun v0 v1 v2 => d9_1 C L (fun v0 v1 => (some (.tup [v0, v1]))) (fun v0 => d9_3 C L v0) v0 v1 v2) v0
theorem e9_0 (C : Kallee) (L : Nat) (v0 : PV) : execR Tryd.prog C hh L 9 (cAt (bodyOf Tryd.f9) []) (Env.ofArgs [(.pv v0)] 0 .nil) [] (endP Tryd.prog Tryd.f9) = d9_0 C L v0 :=
  Eq.trans (b := g9_0 C (fun v0 v1 v2 => execR Tryd.prog C hh L 9 (cAt (bodyOf Tryd.f9) [1, 1, 0, 1, 0]) (Env.lay .nil [0, 4, 5] [(.pv v0), (.pv v1), (.pv v2)]) [] (leaveB 0 (nextT Tryd.prog C hh L 9 (cAt (bodyOf Tryd.f9) [1, 1, 1]) (endP Tryd.prog Tryd.f9)))) v0) (by kernel_rfl) (cg1 (fun X1 => g9_0 C X1 v0) (funext fun v0 => funext fun v1 => funext fun v2 => Eq.trans (e9_1 C L (leaveB 0 (nextT Tryd.prog C hh L 9 (cAt (bodyOf Tryd.f9) [1, 1, 1]) (endP Tryd.prog Tryd.f9))) v0 v1 v2) (cg2 (fun kr ke0 => d9_1 C L kr ke0 v0 v1 v2) (funext fun v0 => funext fun v1 => (by kernel_rfl)) (funext fun v0 => (Eq.trans (b := execR Tryd.prog C hh L 9 (cAt (bodyOf Tryd.f9) [1, 1, 1]) (Env.lay .nil [4] [(.pv v0)]) [] (endP Tryd.prog Tryd.f9)) (by kernel_rfl) (e9_3 C L v0))))))
theorem r9 (C : Kallee) (L : Nat) (v0 : PV) : bodyPR Tryd.prog C hh L 9 [v0] = d9_0 C L v0 := Eq.trans (bodyPR_eq (c := cAt (bodyOf Tryd.f9) []) [v0] Tryd.func9 (by kernel_rfl) (by kernel_rfl)) (e9_0 C L v0)

end
end Go.Lite

namespace Go.Lite
open Go Go.Proofs
set_option maxRecDepth 1000000
set_option linter.unusedVariables false
noncomputable section
/-! ## 12: muster/musterref10.List -/
noncomputable def d12_2 {R : Type} (C : Kallee) (L : Nat) (kg : PV → PV → List PV → Option R) (ke0 : List PV → Option R) (v0 : PV) (v1 : PV) (x2 : List PV) : Option R := (ob (binPV Tryd.prog .lss 3 (.tmp 5) (.const (.int Go.IntKind.i64 32)) v1 (.sc (.int Go.IntKind.i64 32))) fun v103 => (cb v103 (ob (callD C.pure (.clo 23 [] []) [v0, v1] 0) fun v104 => (cb v104 (ob (buildSliceAV Tryd.prog 22 1 [(0, v1)]) fun v105 => (oxs (appendTo Tryd.prog 22 22 0 x2 v105) fun x106 => (ob (binPV Tryd.prog .add 3 (.tmp 7) (.const (.int Go.IntKind.i64 1)) v1 (.sc (.int Go.IntKind.i64 1))) fun v107 => (kg v0 v107 x106)))) (ob (binPV Tryd.prog .add 3 (.tmp 7) (.const (.int Go.IntKind.i64 1)) v1 (.sc (.int Go.IntKind.i64 1))) fun v108 => (kg v0 v108 x2)))) (ke0 x2)))
theorem e12_2 {R : Type} (C : Kallee) (L : Nat) (k : Ex → Env → Store → Option R) (gg : Env → Store → Option R) (v0 : PV) (v1 : PV) (x2 : List PV) : execR Tryd.prog C hh L 12 (cAt (bodyOf Tryd.f12) [1, 1, 0, 1, 0, 0]) (Env.lay .nil [0, 3, 4] [(.pv v0), (.arr 0), (.pv v1)]) [.arr 0 false x2] (loopK gg [0, 3, 4] 1 (prune (some ⟨[0, 3, 4], [], [(0, [3])], []⟩) 1 k)) = d12_2 C L (fun v0 v1 x2 => gg (Env.lay .nil [0, 3, 4] [(.pv v0), (.arr 0), (.pv v1)]) [.arr 0 false x2]) (fun x0 => k (.exit 0) (Env.lay .nil [3] [(.arr 0)]) [.arr 0 false x0]) v0 v1 x2 := by kernel_rfl
noncomputable def d12_1i {R : Type} (C : Kallee) (L : Nat) (ke0 : List PV → Option R) : Nat → PV → PV → List PV → Option R
  | 0, _, _, _ => none
  | N + 1, v0, v1, x2 => d12_2 C L (fun v0 v1 x2 => d12_1i C L ke0 N v0 v1 x2) ke0 v0 v1 x2
noncomputable def d12_1 {R : Type} (C : Kallee) (L : Nat) (ke0 : List PV → Option R) (v0 : PV) (v1 : PV) (x2 : List PV) : Option R := d12_1i C L ke0 L v0 v1 x2
theorem d12_1_i {R : Type} (C : Kallee) (L : Nat) (k : Ex → Env → Store → Option R) (N : Nat) (v0 : PV) (v1 : PV) (x2 : List PV) : iter (execR Tryd.prog C hh L 12 (cAt (bodyOf Tryd.f12) [1, 1, 0, 1, 0, 0])) [0, 3, 4] 1 (prune (some ⟨[0, 3, 4], [], [(0, [3])], []⟩) 1 k) N (Env.lay .nil [0, 3, 4] [(.pv v0), (.arr 0), (.pv v1)]) [.arr 0 false x2] = d12_1i C L (fun x0 => k (.exit 0) (Env.lay .nil [3] [(.arr 0)]) [.arr 0 false x0]) N v0 v1 x2 := by
  induction N generalizing v0 v1 x2 with
  | zero => rfl
  | succ N ih => exact Eq.trans (b := execR Tryd.prog C hh L 12 (cAt (bodyOf Tryd.f12) [1, 1, 0, 1, 0, 0]) (Env.lay .nil [0, 3, 4] [(.pv v0), (.arr 0), (.pv v1)]) [.arr 0 false x2] (loopK (fun e s => iter (execR Tryd.prog C hh L 12 (cAt (bodyOf Tryd.f12) [1, 1, 0, 1, 0, 0])) [0, 3, 4] 1 (prune (some ⟨[0, 3, 4], [], [(0, [3])], []⟩) 1 k) N e s) [0, 3, 4] 1 (prune (some ⟨[0, 3, 4], [], [(0, [3])], []⟩) 1 k))) (by kernel_rfl) <| Eq.trans (e12_2 C L k (fun e s => iter (execR Tryd.prog C hh L 12 (cAt (bodyOf Tryd.f12) [1, 1, 0, 1, 0, 0])) [0, 3, 4] 1 (prune (some ⟨[0, 3, 4], [], [(0, [3])], []⟩) 1 k) N e s) v0 v1 x2) (congrArg (fun kg => d12_2 C L kg (fun x0 => k (.exit 0) (Env.lay .nil [3] [(.arr 0)]) [.arr 0 false x0]) v0 v1 x2) (funext fun v0 => funext fun v1 => funext fun x2 => ih v0 v1 x2))
theorem e12_1 {R : Type} (C : Kallee) (L : Nat) (k : Ex → Env → Store → Option R) (v0 : PV) (v1 : PV) (x2 : List PV) : execR Tryd.prog C hh L 12 (cAt (bodyOf Tryd.f12) [1, 1, 0, 1, 0]) (Env.lay .nil [0, 3, 4] [(.pv v0), (.arr 0), (.pv v1)]) [.arr 0 false x2] k = d12_1 C L (fun x0 => k (.exit 0) (Env.lay .nil [3] [(.arr 0)]) [.arr 0 false x0]) v0 v1 x2 :=
  Eq.trans (b := iter (execR Tryd.prog C hh L 12 (cAt (bodyOf Tryd.f12) [1, 1, 0, 1, 0, 0])) [0, 3, 4] 1 (prune (some ⟨[0, 3, 4], [], [(0, [3])], []⟩) 1 k) L (Env.lay .nil [0, 3, 4] [(.pv v0), (.arr 0), (.pv v1)]) [.arr 0 false x2]) (by kernel_rfl) (d12_1_i C L k L v0 v1 x2)
noncomputable def d12_3 (C : Kallee) (L : Nat)  (x0 : List PV) : Option PV := (some (.list 0 false x0))
theorem e12_3 (C : Kallee) (L : Nat) (x0 : List PV) : execR Tryd.prog C hh L 12 (cAt (bodyOf Tryd.f12) [1, 1, 1]) (Env.lay .nil [3] [(.arr 0)]) [.arr 0 false x0] (endP Tryd.prog Tryd.f12) = d12_3 C L x0 := by kernel_rfl
noncomputable def g12_0 (C : Kallee) (X1 : PV → PV → List PV → Option PV)  (v0 : PV) : Option PV := (X1 v0 (.sc (.int Go.IntKind.i64 0)) [])
noncomputable def d12_0 (C : Kallee) (L : Nat)  (v0 : PV) : Option PV := g12_0 C (fun v0 v1 x2 => d12_1 C L (fun x0 => d12_3 C L x0) v0 v1 x2) v0
theorem e12_0 (C : Kallee) (L : Nat) (v0 : PV) : execR Tryd.prog C hh L 12 (cAt (bodyOf Tryd.f12) []) (Env.ofArgs [(.pv v0)] 0 .nil) [] (endP Tryd.prog Tryd.f12) = d12_0 C L v0 :=
  Eq.trans (b := g12_0 C (fun v0 v1 x2 => execR Tryd.prog C hh L 12 (cAt (bodyOf Tryd.f12) [1, 1, 0, 1, 0]) (Env.lay .nil [0, 3, 4] [(.pv v0), (.arr 0), (.pv v1)]) [.arr 0 false x2] (leaveB 0 (nextT Tryd.prog C hh L 12 (cAt (bodyOf Tryd.f12) [1, 1, 1]) (endP Tryd.prog Tryd.f12)))) v0) (by kernel_rfl) (cg1 (fun X1 => g12_0 C X1 v0) (funext fun v0 => funext fun v1 => funext fun x2 => Eq.trans (e12_1 C L (leaveB 0 (nextT Tryd.prog C hh L 12 (cAt (bodyOf Tryd.f12) [1, 1, 1]) (endP Tryd.prog Tryd.f12))) v0 v1 x2) (cg1 (fun ke0 => d12_1 C L ke0 v0 v1 x2) (funext fun x0 => (Eq.trans (b := execR Tryd.prog C hh L 12 (cAt (bodyOf Tryd.f12) [1, 1, 1]) (Env.lay .nil [3] [(.arr 0)]) [.arr 0 false x0] (endP Tryd.prog Tryd.f12)) (by kernel_rfl) (e12_3 C L x0))))))
theorem r12 (C : Kallee) (L : Nat) (v0 : PV) : bodyPR Tryd.prog C hh L 12 [v0] = d12_0 C L v0 := Eq.trans (bodyPR_eq (c := cAt (bodyOf Tryd.f12) []) [v0] Tryd.func12 (by kernel_rfl) (by kernel_rfl)) (e12_0 C L v0)

end
end Go.Lite

namespace Go.Lite
open Go Go.Proofs
set_option maxRecDepth 1000000
set_option linter.unusedVariables false
noncomputable section
/-! ## 23: muster/musterref10.Has -/
noncomputable def d23_2 {R : Type} (C : Kallee) (L : Nat) (kg : PV → PV → PV → Option R) (ke0 : PV → PV → Option R) (v0 : PV) (v1 : PV) (v2 : PV) : Option R := (ob (binPV Tryd.prog .lss 3 (.tmp 6) (.tmp 7) v2 v1) fun v103 => (cb v103 (ob (binPV Tryd.prog .quo 24 (.tmp 11) (.const (.int Go.IntKind.u32 2)) v0 (.sc (.int Go.IntKind.u32 2))) fun v104 => (ob (binPV Tryd.prog .add 3 (.tmp 9) (.const (.int Go.IntKind.i64 1)) v2 (.sc (.int Go.IntKind.i64 1))) fun v105 => (kg v104 v1 v105))) (ke0 v0 v1)))
theorem e23_2 {R : Type} (C : Kallee) (L : Nat) (k : Ex → Env → Store → Option R) (gg : Env → Store → Option R) (v0 : PV) (v1 : PV) (v2 : PV) : execR Tryd.prog C hh L 23 (cAt (bodyOf Tryd.f23) [1, 0, 1, 0, 0]) (Env.lay .nil [0, 1, 5] [(.pv v0), (.pv v1), (.pv v2)]) [] (loopK gg [0, 1, 5] 0 (prune (some ⟨[0, 1, 5], [], [(0, [0, 1])], []⟩) 0 k)) = d23_2 C L (fun v0 v1 v2 => gg (Env.lay .nil [0, 1, 5] [(.pv v0), (.pv v1), (.pv v2)]) []) (fun v0 v1 => k (.exit 0) (Env.lay .nil [0, 1] [(.pv v0), (.pv v1)]) []) v0 v1 v2 := by kernel_rfl
noncomputable def d23_1i {R : Type} (C : Kallee) (L : Nat) (ke0 : PV → PV → Option R) : Nat → PV → PV → PV → Option R
  | 0, _, _, _ => none
  | N + 1, v0, v1, v2 => d23_2 C L (fun v0 v1 v2 => d23_1i C L ke0 N v0 v1 v2) ke0 v0 v1 v2
noncomputable def d23_1 {R : Type} (C : Kallee) (L : Nat) (ke0 : PV → PV → Option R) (v0 : PV) (v1 : PV) (v2 : PV) : Option R := d23_1i C L ke0 L v0 v1 v2
theorem d23_1_i {R : Type} (C : Kallee) (L : Nat) (k : Ex → Env → Store → Option R) (N : Nat) (v0 : PV) (v1 : PV) (v2 : PV) : iter (execR Tryd.prog C hh L 23 (cAt (bodyOf Tryd.f23) [1, 0, 1, 0, 0])) [0, 1, 5] 0 (prune (some ⟨[0, 1, 5], [], [(0, [0, 1])], []⟩) 0 k) N (Env.lay .nil [0, 1, 5] [(.pv v0), (.pv v1), (.pv v2)]) [] = d23_1i C L (fun v0 v1 => k (.exit 0) (Env.lay .nil [0, 1] [(.pv v0), (.pv v1)]) []) N v0 v1 v2 := by
  induction N generalizing v0 v1 v2 with
  | zero => rfl
  | succ N ih => exact Eq.trans (b := execR Tryd.prog C hh L 23 (cAt (bodyOf Tryd.f23) [1, 0, 1, 0, 0]) (Env.lay .nil [0, 1, 5] [(.pv v0), (.pv v1), (.pv v2)]) [] (loopK (fun e s => iter (execR Tryd.prog C hh L 23 (cAt (bodyOf Tryd.f23) [1, 0, 1, 0, 0])) [0, 1, 5] 0 (prune (some ⟨[0, 1, 5], [], [(0, [0, 1])], []⟩) 0 k) N e s) [0, 1, 5] 0 (prune (some ⟨[0, 1, 5], [], [(0, [0, 1])], []⟩) 0 k))) (by kernel_rfl) <| Eq.trans (e23_2 C L k (fun e s => iter (execR Tryd.prog C hh L 23 (cAt (bodyOf Tryd.f23) [1, 0, 1, 0, 0])) [0, 1, 5] 0 (prune (some ⟨[0, 1, 5], [], [(0, [0, 1])], []⟩) 0 k) N e s) v0 v1 v2) (congrArg (fun kg => d23_2 C L kg (fun v0 v1 => k (.exit 0) (Env.lay .nil [0, 1] [(.pv v0), (.pv v1)]) []) v0 v1 v2) (funext fun v0 => funext fun v1 => funext fun v2 => ih v0 v1 v2))
theorem e23_1 {R : Type} (C : Kallee) (L : Nat) (k : Ex → Env → Store → Option R) (v0 : PV) (v1 : PV) (v2 : PV) : execR Tryd.prog C hh L 23 (cAt (bodyOf Tryd.f23) [1, 0, 1, 0]) (Env.lay .nil [0, 1, 5] [(.pv v0), (.pv v1), (.pv v2)]) [] k = d23_1 C L (fun v0 v1 => k (.exit 0) (Env.lay .nil [0, 1] [(.pv v0), (.pv v1)]) []) v0 v1 v2 :=
  Eq.trans (b := iter (execR Tryd.prog C hh L 23 (cAt (bodyOf Tryd.f23) [1, 0, 1, 0, 0])) [0, 1, 5] 0 (prune (some ⟨[0, 1, 5], [], [(0, [0, 1])], []⟩) 0 k) L (Env.lay .nil [0, 1, 5] [(.pv v0), (.pv v1), (.pv v2)]) []) (by kernel_rfl) (d23_1_i C L k L v0 v1 v2)
noncomputable def d23_3 (C : Kallee) (L : Nat)  (v0 : PV) (v1 : PV) : Option PV := (ob (binPV Tryd.prog .geq 3 (.tmp 13) (.const (.int Go.IntKind.i64 0)) v1 (.sc (.int Go.IntKind.i64 0))) fun v106 => (gcase true v106 (ob (binPV Tryd.prog .lss 3 (.tmp 16) (.const (.int Go.IntKind.i64 32)) v1 (.sc (.int Go.IntKind.i64 32))) fun v107 => (gcase true v107 (ob (binPV Tryd.prog .rem 24 (.tmp 20) (.const (.int Go.IntKind.u32 2)) v0 (.sc (.int Go.IntKind.u32 2))) fun v108 => (ob (binPV Tryd.prog .eql 24 (.tmp 21) (.const (.int Go.IntKind.u32 1)) v108 (.sc (.int Go.IntKind.u32 1))) fun v109 => (some v109))) (some (.sc (.bool false))) none)) (some (.sc (.bool false))) none))
theorem e23_3 (C : Kallee) (L : Nat) (v0 : PV) (v1 : PV) : execR Tryd.prog C hh L 23 (cAt (bodyOf Tryd.f23) [1, 1]) (Env.lay .nil [0, 1] [(.pv v0), (.pv v1)]) [] (endP Tryd.prog Tryd.f23) = d23_3 C L v0 v1 := by kernel_rfl
noncomputable def g23_0 (C : Kallee) (X1 : PV → PV → PV → Option PV)  (v0 : PV) (v1 : PV) : Option PV := (X1 v0 v1 (.sc (.int Go.IntKind.i64 0)))
noncomputable def d23_0 (C : Kallee) (L : Nat)  (v0 : PV) (v1 : PV) : Option PV := g23_0 C (fun v0 v1 v2 => d23_1 C L (fun v0 v1 => d23_3 C L v0 v1) v0 v1 v2) v0 v1
theorem e23_0 (C : Kallee) (L : Nat) (v0 : PV) (v1 : PV) : execR Tryd.prog C hh L 23 (cAt (bodyOf Tryd.f23) []) (Env.ofArgs [(.pv v0), (.pv v1)] 0 .nil) [] (endP Tryd.prog Tryd.f23) = d23_0 C L v0 v1 :=
  Eq.trans (b := g23_0 C (fun v0 v1 v2 => execR Tryd.prog C hh L 23 (cAt (bodyOf Tryd.f23) [1, 0, 1, 0]) (Env.lay .nil [0, 1, 5] [(.pv v0), (.pv v1), (.pv v2)]) [] (leaveB 0 (nextT Tryd.prog C hh L 23 (cAt (bodyOf Tryd.f23) [1, 1]) (endP Tryd.prog Tryd.f23)))) v0 v1) (by kernel_rfl) (cg1 (fun X1 => g23_0 C X1 v0 v1) (funext fun v0 => funext fun v1 => funext fun v2 => Eq.trans (e23_1 C L (leaveB 0 (nextT Tryd.prog C hh L 23 (cAt (bodyOf Tryd.f23) [1, 1]) (endP Tryd.prog Tryd.f23))) v0 v1 v2) (cg1 (fun ke0 => d23_1 C L ke0 v0 v1 v2) (funext fun v0 => funext fun v1 => (Eq.trans (b := execR Tryd.prog C hh L 23 (cAt (bodyOf Tryd.f23) [1, 1]) (Env.lay .nil [0, 1] [(.pv v0), (.pv v1)]) [] (endP Tryd.prog Tryd.f23)) (by kernel_rfl) (e23_3 C L v0 v1))))))
theorem r23 (C : Kallee) (L : Nat) (v0 : PV) (v1 : PV) : bodyPR Tryd.prog C hh L 23 [v0, v1] = d23_0 C L v0 v1 := Eq.trans (bodyPR_eq (c := cAt (bodyOf Tryd.f23) []) [v0, v1] Tryd.func23 (by kernel_rfl) (by kernel_rfl)) (e23_0 C L v0 v1)

end
end Go.Lite

namespace Go.Lite
open Go Go.Proofs
set_option maxRecDepth 1000000
set_option linter.unusedVariables false
noncomputable section
/-! ## 24: muster/musterref10.bit -/
noncomputable def d24_2 {R : Type} (C : Kallee) (L : Nat) (kg : PV → PV → PV → Option R) (ke0 : PV → Option R) (v0 : PV) (v1 : PV) (v2 : PV) : Option R := (ob (binPV Tryd.prog .lss 3 (.tmp 5) (.tmp 6) v2 v0) fun v103 => (cb v103 (ob (binPV Tryd.prog .mul 24 (.tmp 10) (.const (.int Go.IntKind.u32 2)) v1 (.sc (.int Go.IntKind.u32 2))) fun v104 => (ob (binPV Tryd.prog .add 3 (.tmp 8) (.const (.int Go.IntKind.i64 1)) v2 (.sc (.int Go.IntKind.i64 1))) fun v105 => (kg v0 v104 v105))) (ke0 v1)))
theorem e24_2 {R : Type} (C : Kallee) (L : Nat) (k : Ex → Env → Store → Option R) (gg : Env → Store → Option R) (v0 : PV) (v1 : PV) (v2 : PV) : execR Tryd.prog C hh L 24 (cAt (bodyOf Tryd.f24) [1, 1, 0, 1, 0, 0]) (Env.lay .nil [0, 3, 4] [(.pv v0), (.pv v1), (.pv v2)]) [] (loopK gg [0, 3, 4] 0 (prune (some ⟨[0, 3, 4], [], [(0, [3])], []⟩) 0 k)) = d24_2 C L (fun v0 v1 v2 => gg (Env.lay .nil [0, 3, 4] [(.pv v0), (.pv v1), (.pv v2)]) []) (fun v0 => k (.exit 0) (Env.lay .nil [3] [(.pv v0)]) []) v0 v1 v2 := by kernel_rfl
noncomputable def d24_1i {R : Type} (C : Kallee) (L : Nat) (ke0 : PV → Option R) : Nat → PV → PV → PV → Option R
  | 0, _, _, _ => none
  | N + 1, v0, v1, v2 => d24_2 C L (fun v0 v1 v2 => d24_1i C L ke0 N v0 v1 v2) ke0 v0 v1 v2
noncomputable def d24_1 {R : Type} (C : Kallee) (L : Nat) (ke0 : PV → Option R) (v0 : PV) (v1 : PV) (v2 : PV) : Option R := d24_1i C L ke0 L v0 v1 v2
theorem d24_1_i {R : Type} (C : Kallee) (L : Nat) (k : Ex → Env → Store → Option R) (N : Nat) (v0 : PV) (v1 : PV) (v2 : PV) : iter (execR Tryd.prog C hh L 24 (cAt (bodyOf Tryd.f24) [1, 1, 0, 1, 0, 0])) [0, 3, 4] 0 (prune (some ⟨[0, 3, 4], [], [(0, [3])], []⟩) 0 k) N (Env.lay .nil [0, 3, 4] [(.pv v0), (.pv v1), (.pv v2)]) [] = d24_1i C L (fun v0 => k (.exit 0) (Env.lay .nil [3] [(.pv v0)]) []) N v0 v1 v2 := by
  induction N generalizing v0 v1 v2 with
  | zero => rfl
  | succ N ih => exact Eq.trans (b := execR Tryd.prog C hh L 24 (cAt (bodyOf Tryd.f24) [1, 1, 0, 1, 0, 0]) (Env.lay .nil [0, 3, 4] [(.pv v0), (.pv v1), (.pv v2)]) [] (loopK (fun e s => iter (execR Tryd.prog C hh L 24 (cAt (bodyOf Tryd.f24) [1, 1, 0, 1, 0, 0])) [0, 3, 4] 0 (prune (some ⟨[0, 3, 4], [], [(0, [3])], []⟩) 0 k) N e s) [0, 3, 4] 0 (prune (some ⟨[0, 3, 4], [], [(0, [3])], []⟩) 0 k))) (by kernel_rfl) <| Eq.trans (e24_2 C L k (fun e s => iter (execR Tryd.prog C hh L 24 (cAt (bodyOf Tryd.f24) [1, 1, 0, 1, 0, 0])) [0, 3, 4] 0 (prune (some ⟨[0, 3, 4], [], [(0, [3])], []⟩) 0 k) N e s) v0 v1 v2) (congrArg (fun kg => d24_2 C L kg (fun v0 => k (.exit 0) (Env.lay .nil [3] [(.pv v0)]) []) v0 v1 v2) (funext fun v0 => funext fun v1 => funext fun v2 => ih v0 v1 v2))
theorem e24_1 {R : Type} (C : Kallee) (L : Nat) (k : Ex → Env → Store → Option R) (v0 : PV) (v1 : PV) (v2 : PV) : execR Tryd.prog C hh L 24 (cAt (bodyOf Tryd.f24) [1, 1, 0, 1, 0]) (Env.lay .nil [0, 3, 4] [(.pv v0), (.pv v1), (.pv v2)]) [] k = d24_1 C L (fun v0 => k (.exit 0) (Env.lay .nil [3] [(.pv v0)]) []) v0 v1 v2 :=
  Eq.trans (b := iter (execR Tryd.prog C hh L 24 (cAt (bodyOf Tryd.f24) [1, 1, 0, 1, 0, 0])) [0, 3, 4] 0 (prune (some ⟨[0, 3, 4], [], [(0, [3])], []⟩) 0 k) L (Env.lay .nil [0, 3, 4] [(.pv v0), (.pv v1), (.pv v2)]) []) (by kernel_rfl) (d24_1_i C L k L v0 v1 v2)
noncomputable def d24_3 (C : Kallee) (L : Nat)  (v0 : PV) : Option PV := (some v0)
theorem e24_3 (C : Kallee) (L : Nat) (v0 : PV) : execR Tryd.prog C hh L 24 (cAt (bodyOf Tryd.f24) [1, 1, 1]) (Env.lay .nil [3] [(.pv v0)]) [] (endP Tryd.prog Tryd.f24) = d24_3 C L v0 := by kernel_rfl
noncomputable def g24_0 (C : Kallee) (X1 : PV → PV → PV → Option PV)  (v0 : PV) : Option PV := (X1 v0 (.sc (.int Go.IntKind.u32 1)) (.sc (.int Go.IntKind.i64 0)))
noncomputable def d24_0 (C : Kallee) (L : Nat)  (v0 : PV) : Option PV := g24_0 C (fun v0 v1 v2 => d24_1 C L (fun v0 => d24_3 C L v0) v0 v1 v2) v0
theorem e24_0 (C : Kallee) (L : Nat) (v0 : PV) : execR Tryd.prog C hh L 24 (cAt (bodyOf Tryd.f24) []) (Env.ofArgs [(.pv v0)] 0 .nil) [] (endP Tryd.prog Tryd.f24) = d24_0 C L v0 :=
  Eq.trans (b := g24_0 C (fun v0 v1 v2 => execR Tryd.prog C hh L 24 (cAt (bodyOf Tryd.f24) [1, 1, 0, 1, 0]) (Env.lay .nil [0, 3, 4] [(.pv v0), (.pv v1), (.pv v2)]) [] (leaveB 0 (nextT Tryd.prog C hh L 24 (cAt (bodyOf Tryd.f24) [1, 1, 1]) (endP Tryd.prog Tryd.f24)))) v0) (by kernel_rfl) (cg1 (fun X1 => g24_0 C X1 v0) (funext fun v0 => funext fun v1 => funext fun v2 => Eq.trans (e24_1 C L (leaveB 0 (nextT Tryd.prog C hh L 24 (cAt (bodyOf Tryd.f24) [1, 1, 1]) (endP Tryd.prog Tryd.f24))) v0 v1 v2) (cg1 (fun ke0 => d24_1 C L ke0 v0 v1 v2) (funext fun v0 => (Eq.trans (b := execR Tryd.prog C hh L 24 (cAt (bodyOf Tryd.f24) [1, 1, 1]) (Env.lay .nil [3] [(.pv v0)]) [] (endP Tryd.prog Tryd.f24)) (by kernel_rfl) (e24_3 C L v0))))))
theorem r24 (C : Kallee) (L : Nat) (v0 : PV) : bodyPR Tryd.prog C hh L 24 [v0] = d24_0 C L v0 := Eq.trans (bodyPR_eq (c := cAt (bodyOf Tryd.f24) []) [v0] Tryd.func24 (by kernel_rfl) (by kernel_rfl)) (e24_0 C L v0)

end
end Go.Lite

namespace Go.Lite
open Go Go.Proofs
set_option maxRecDepth 1000000
set_option linter.unusedVariables false
noncomputable section
/-! ## 13: muster/nodeset.Count -/
noncomputable def d13_0 (C : Kallee) (L : Nat)  (v0 : PV) : Option PV := (ob (callD C.pure (.clo 25 [] []) [v0] 0) fun v102 => (some v102))
theorem e13_0 (C : Kallee) (L : Nat) (v0 : PV) : execR Tryd.prog C hh L 13 (cAt (bodyOf Tryd.f13) []) (Env.ofArgs [(.pv v0)] 0 .nil) [] (endP Tryd.prog Tryd.f13) = d13_0 C L v0 := by kernel_rfl
theorem r13 (C : Kallee) (L : Nat) (v0 : PV) : bodyPR Tryd.prog C hh L 13 [v0] = d13_0 C L v0 := Eq.trans (bodyPR_eq (c := cAt (bodyOf Tryd.f13) []) [v0] Tryd.func13 (by kernel_rfl) (by kernel_rfl)) (e13_0 C L v0)

end
end Go.Lite

namespace Go.Lite
open Go Go.Proofs
set_option maxRecDepth 1000000
set_option linter.unusedVariables false
noncomputable section
/-! ## 16: muster/nodeset.First -/
noncomputable def d16_2 {R : Type} (C : Kallee) (L : Nat) (kg : PV → PV → PV → PV → Option R) (ke0 : PV → Option R) (v0 : PV) (v1 : PV) (v2 : PV) (v3 : PV) : Option R := (ob (binPV Tryd.prog .lss 3 (.tmp 17) (.tmp 16) v3 v2) fun v106 => (cb v106 (ob (unPV Tryd.prog .neg v0) fun v107 => (ob (binPV Tryd.prog .and 24 (.tmp 19) (.tmp 21) v0 v107) fun v108 => (ob (binPV Tryd.prog .or 24 (.tmp 23) (.tmp 24) v1 v108) fun v109 => (ob (binPV Tryd.prog .andNot 24 (.tmp 26) (.tmp 27) v0 v108) fun v110 => (ob (binPV Tryd.prog .add 3 (.tmp 17) (.const (.int Go.IntKind.i64 1)) v3 (.sc (.int Go.IntKind.i64 1))) fun v111 => (kg v110 v109 v2 v111)))))) (ke0 v1)))
theorem e16_2 {R : Type} (C : Kallee) (L : Nat) (k : Ex → Env → Store → Option R) (gg : Env → Store → Option R) (v0 : PV) (v1 : PV) (v2 : PV) (v3 : PV) : execR Tryd.prog C hh L 16 (cAt (bodyOf Tryd.f16) [1, 1, 1, 0, 1, 0, 0]) (Env.lay .nil [0, 6, 16, 17] [(.pv v0), (.pv v1), (.pv v2), (.pv v3)]) [] (loopK gg [0, 6, 16, 17] 0 (prune (some ⟨[0, 6, 16, 17], [], [(0, [6])], []⟩) 0 k)) = d16_2 C L (fun v0 v1 v2 v3 => gg (Env.lay .nil [0, 6, 16, 17] [(.pv v0), (.pv v1), (.pv v2), (.pv v3)]) []) (fun v0 => k (.exit 0) (Env.lay .nil [6] [(.pv v0)]) []) v0 v1 v2 v3 := by kernel_rfl
noncomputable def d16_1i {R : Type} (C : Kallee) (L : Nat) (ke0 : PV → Option R) : Nat → PV → PV → PV → PV → Option R
  | 0, _, _, _, _ => none
  | N + 1, v0, v1, v2, v3 => d16_2 C L (fun v0 v1 v2 v3 => d16_1i C L ke0 N v0 v1 v2 v3) ke0 v0 v1 v2 v3
noncomputable def d16_1 {R : Type} (C : Kallee) (L : Nat) (ke0 : PV → Option R) (v0 : PV) (v1 : PV) (v2 : PV) (v3 : PV) : Option R := d16_1i C L ke0 L v0 v1 v2 v3
theorem d16_1_i {R : Type} (C : Kallee) (L : Nat) (k : Ex → Env → Store → Option R) (N : Nat) (v0 : PV) (v1 : PV) (v2 : PV) (v3 : PV) : iter (execR Tryd.prog C hh L 16 (cAt (bodyOf Tryd.f16) [1, 1, 1, 0, 1, 0, 0])) [0, 6, 16, 17] 0 (prune (some ⟨[0, 6, 16, 17], [], [(0, [6])], []⟩) 0 k) N (Env.lay .nil [0, 6, 16, 17] [(.pv v0), (.pv v1), (.pv v2), (.pv v3)]) [] = d16_1i C L (fun v0 => k (.exit 0) (Env.lay .nil [6] [(.pv v0)]) []) N v0 v1 v2 v3 := by
  induction N generalizing v0 v1 v2 v3 with
  | zero => rfl
  | succ N ih => exact Eq.trans (b := execR Tryd.prog C hh L 16 (cAt (bodyOf Tryd.f16) [1, 1, 1, 0, 1, 0, 0]) (Env.lay .nil [0, 6, 16, 17] [(.pv v0), (.pv v1), (.pv v2), (.pv v3)]) [] (loopK (fun e s => iter (execR Tryd.prog C hh L 16 (cAt (bodyOf Tryd.f16) [1, 1, 1, 0, 1, 0, 0])) [0, 6, 16, 17] 0 (prune (some ⟨[0, 6, 16, 17], [], [(0, [6])], []⟩) 0 k) N e s) [0, 6, 16, 17] 0 (prune (some ⟨[0, 6, 16, 17], [], [(0, [6])], []⟩) 0 k))) (by kernel_rfl) <| Eq.trans (e16_2 C L k (fun e s => iter (execR Tryd.prog C hh L 16 (cAt (bodyOf Tryd.f16) [1, 1, 1, 0, 1, 0, 0])) [0, 6, 16, 17] 0 (prune (some ⟨[0, 6, 16, 17], [], [(0, [6])], []⟩) 0 k) N e s) v0 v1 v2 v3) (congrArg (fun kg => d16_2 C L kg (fun v0 => k (.exit 0) (Env.lay .nil [6] [(.pv v0)]) []) v0 v1 v2 v3) (funext fun v0 => funext fun v1 => funext fun v2 => funext fun v3 => ih v0 v1 v2 v3))
theorem e16_1 {R : Type} (C : Kallee) (L : Nat) (k : Ex → Env → Store → Option R) (v0 : PV) (v1 : PV) (v2 : PV) (v3 : PV) : execR Tryd.prog C hh L 16 (cAt (bodyOf Tryd.f16) [1, 1, 1, 0, 1, 0]) (Env.lay .nil [0, 6, 16, 17] [(.pv v0), (.pv v1), (.pv v2), (.pv v3)]) [] k = d16_1 C L (fun v0 => k (.exit 0) (Env.lay .nil [6] [(.pv v0)]) []) v0 v1 v2 v3 :=
  Eq.trans (b := iter (execR Tryd.prog C hh L 16 (cAt (bodyOf Tryd.f16) [1, 1, 1, 0, 1, 0, 0])) [0, 6, 16, 17] 0 (prune (some ⟨[0, 6, 16, 17], [], [(0, [6])], []⟩) 0 k) L (Env.lay .nil [0, 6, 16, 17] [(.pv v0), (.pv v1), (.pv v2), (.pv v3)]) []) (by kernel_rfl) (d16_1_i C L k L v0 v1 v2 v3)
noncomputable def d16_3 (C : Kallee) (L : Nat)  (v0 : PV) : Option PV := (some (.tup [v0, (.sc (.bool true))]))
theorem e16_3 (C : Kallee) (L : Nat) (v0 : PV) : execR Tryd.prog C hh L 16 (cAt (bodyOf Tryd.f16) [1, 1, 1, 1]) (Env.lay .nil [6] [(.pv v0)]) [] (endP Tryd.prog Tryd.f16) = d16_3 C L v0 := by kernel_rfl
noncomputable def g16_0 (C : Kallee) (X1 : PV → PV → PV → PV → Option PV)  (v0 : PV) (v1 : PV) : Option PV := (ob (binPV Tryd.prog .lss 3 (.tmp 8) (.const (.int Go.IntKind.i64 0)) v1 (.sc (.int Go.IntKind.i64 0))) fun v103 => (gcase false v103 (ob (callD C.pure (.clo 13 [] []) [v0] 0) fun v104 => (ob (binPV Tryd.prog .gtr 3 (.tmp 11) (.tmp 13) v1 v104) fun v105 => (cb v105 (some (.tup [(.sc (.int Go.IntKind.u32 0)), (.sc (.bool false))])) (X1 v0 (.sc (.int Go.IntKind.u32 0)) v1 (.sc (.int Go.IntKind.i64 0)))))) (some (.tup [(.sc (.int Go.IntKind.u32 0)), (.sc (.bool false))])) none))
noncomputable def d16_0 (C : Kallee) (L : Nat)  (v0 : PV) (v1 : PV) : Option PV := g16_0 C (fun v0 v1 v2 v3 => d16_1 C L (fun v0 => d16_3 C L v0) v0 v1 v2 v3) v0 v1
theorem e16_0 (C : Kallee) (L : Nat) (v0 : PV) (v1 : PV) : execR Tryd.prog C hh L 16 (cAt (bodyOf Tryd.f16) []) (Env.ofArgs [(.pv v0), (.pv v1)] 0 .nil) [] (endP Tryd.prog Tryd.f16) = d16_0 C L v0 v1 :=
  Eq.trans (b := g16_0 C (fun v0 v1 v2 v3 => execR Tryd.prog C hh L 16 (cAt (bodyOf Tryd.f16) [1, 1, 1, 0, 1, 0]) (Env.lay .nil [0, 6, 16, 17] [(.pv v0), (.pv v1), (.pv v2), (.pv v3)]) [] (leaveB 0 (nextT Tryd.prog C hh L 16 (cAt (bodyOf Tryd.f16) [1, 1, 1, 1]) (endP Tryd.prog Tryd.f16)))) v0 v1) (by kernel_rfl) (cg1 (fun X1 => g16_0 C X1 v0 v1) (funext fun v0 => funext fun v1 => funext fun v2 => funext fun v3 => Eq.trans (e16_1 C L (leaveB 0 (nextT Tryd.prog C hh L 16 (cAt (bodyOf Tryd.f16) [1, 1, 1, 1]) (endP Tryd.prog Tryd.f16))) v0 v1 v2 v3) (cg1 (fun ke0 => d16_1 C L ke0 v0 v1 v2 v3) (funext fun v0 => (Eq.trans (b := execR Tryd.prog C hh L 16 (cAt (bodyOf Tryd.f16) [1, 1, 1, 1]) (Env.lay .nil [6] [(.pv v0)]) [] (endP Tryd.prog Tryd.f16)) (by kernel_rfl) (e16_3 C L v0))))))
theorem r16 (C : Kallee) (L : Nat) (v0 : PV) (v1 : PV) : bodyPR Tryd.prog C hh L 16 [v0, v1] = d16_0 C L v0 v1 := Eq.trans (bodyPR_eq (c := cAt (bodyOf Tryd.f16) []) [v0, v1] Tryd.func16 (by kernel_rfl) (by kernel_rfl)) (e16_0 C L v0 v1)

end
end Go.Lite

namespace Go.Lite
open Go Go.Proofs
set_option maxRecDepth 1000000
set_option linter.unusedVariables false
noncomputable section
/-! ## 25: math/bits.OnesCount32 -/
noncomputable def d25_0 (C : Kallee) (L : Nat)  (v0 : PV) : Option PV := (ob (binPV Tryd.prog .shr 23 (.tmp 3) (.const (.int Go.IntKind.u64 24)) v0 (.sc (.int Go.IntKind.u64 24))) fun v102 => (ob (indexPV Tryd.prog 9 (.sc (.string ⟨#[0, 1, 1, 2, 1, 2, 2, 3, 1, 2, 2, 3, 2, 3, 3, 4, 1, 2, 2, 3, 2, 3, 3, 4, 2, 3, 3, 4, 3, 4, 4, 5, 1, 2, 2, 3, 2, 3, 3, 4, 2, 3, 3, 4, 3, 4, 4, 5, 2, 3, 3, 4, 3, 4, 4, 5, 3, 4, 4, 5, 4, 5, 5, 6, 1, 2, 2, 3, 2, 3, 3, 4, 2, 3, 3, 4, 3, 4, 4, 5, 2, 3, 3, 4, 3, 4, 4, 5, 3, 4, 4, 5, 4, 5, 5, 6, 2, 3, 3, 4, 3, 4, 4, 5, 3, 4, 4, 5, 4, 5, 5, 6, 3, 4, 4, 5, 4, 5, 5, 6, 4, 5, 5, 6, 5, 6, 6, 7, 1, 2, 2, 3, 2, 3, 3, 4, 2, 3, 3, 4, 3, 4, 4, 5, 2, 3, 3, 4, 3, 4, 4, 5, 3, 4, 4, 5, 4, 5, 5, 6, 2, 3, 3, 4, 3, 4, 4, 5, 3, 4, 4, 5, 4, 5, 5, 6, 3, 4, 4, 5, 4, 5, 5, 6, 4, 5, 5, 6, 5, 6, 6, 7, 2, 3, 3, 4, 3, 4, 4, 5, 3, 4, 4, 5, 4, 5, 5, 6, 3, 4, 4, 5, 4, 5, 5, 6, 4, 5, 5, 6, 5, 6, 6, 7, 3, 4, 4, 5, 4, 5, 5, 6, 4, 5, 5, 6, 5, 6, 6, 7, 4, 5, 5, 6, 5, 6, 6, 7, 5, 6, 6, 7, 6, 7, 7, 8]⟩)) v102) fun v103 => (ob (binPV Tryd.prog .shr 23 (.tmp 6) (.const (.int Go.IntKind.u64 16)) v0 (.sc (.int Go.IntKind.u64 16))) fun v104 => (ob (binPV Tryd.prog .and 23 (.tmp 7) (.const (.int Go.IntKind.u32 255)) v104 (.sc (.int Go.IntKind.u32 255))) fun v105 => (ob (indexPV Tryd.prog 9 (.sc (.string ⟨#[0, 1, 1, 2, 1, 2, 2, 3, 1, 2, 2, 3, 2, 3, 3, 4, 1, 2, 2, 3, 2, 3, 3, 4, 2, 3, 3, 4, 3, 4, 4, 5, 1, 2, 2, 3, 2, 3, 3, 4, 2, 3, 3, 4, 3, 4, 4, 5, 2, 3, 3, 4, 3, 4, 4, 5, 3, 4, 4, 5, 4, 5, 5, 6, 1, 2, 2, 3, 2, 3, 3, 4, 2, 3, 3, 4, 3, 4, 4, 5, 2, 3, 3, 4, 3, 4, 4, 5, 3, 4, 4, 5, 4, 5, 5, 6, 2, 3, 3, 4, 3, 4, 4, 5, 3, 4, 4, 5, 4, 5, 5, 6, 3, 4, 4, 5, 4, 5, 5, 6, 4, 5, 5, 6, 5, 6, 6, 7, 1, 2, 2, 3, 2, 3, 3, 4, 2, 3, 3, 4, 3, 4, 4, 5, 2, 3, 3, 4, 3, 4, 4, 5, 3, 4, 4, 5, 4, 5, 5, 6, 2, 3, 3, 4, 3, 4, 4, 5, 3, 4, 4, 5, 4, 5, 5, 6, 3, 4, 4, 5, 4, 5, 5, 6, 4, 5, 5, 6, 5, 6, 6, 7, 2, 3, 3, 4, 3, 4, 4, 5, 3, 4, 4, 5, 4, 5, 5, 6, 3, 4, 4, 5, 4, 5, 5, 6, 4, 5, 5, 6, 5, 6, 6, 7, 3, 4, 4, 5, 4, 5, 5, 6, 4, 5, 5, 6, 5, 6, 6, 7, 4, 5, 5, 6, 5, 6, 6, 7, 5, 6, 6, 7, 6, 7, 7, 8]⟩)) v105) fun v106 => (ob (binPV Tryd.prog .add 5 (.tmp 5) (.tmp 9) v103 v106) fun v107 => (ob (binPV Tryd.prog .shr 23 (.tmp 11) (.const (.int Go.IntKind.u64 8)) v0 (.sc (.int Go.IntKind.u64 8))) fun v108 => (ob (binPV Tryd.prog .and 23 (.tmp 12) (.const (.int Go.IntKind.u32 255)) v108 (.sc (.int Go.IntKind.u32 255))) fun v109 => (ob (indexPV Tryd.prog 9 (.sc (.string ⟨#[0, 1, 1, 2, 1, 2, 2, 3, 1, 2, 2, 3, 2, 3, 3, 4, 1, 2, 2, 3, 2, 3, 3, 4, 2, 3, 3, 4, 3, 4, 4, 5, 1, 2, 2, 3, 2, 3, 3, 4, 2, 3, 3, 4, 3, 4, 4, 5, 2, 3, 3, 4, 3, 4, 4, 5, 3, 4, 4, 5, 4, 5, 5, 6, 1, 2, 2, 3, 2, 3, 3, 4, 2, 3, 3, 4, 3, 4, 4, 5, 2, 3, 3, 4, 3, 4, 4, 5, 3, 4, 4, 5, 4, 5, 5, 6, 2, 3, 3, 4, 3, 4, 4, 5, 3, 4, 4, 5, 4, 5, 5, 6, 3, 4, 4, 5, 4, 5, 5, 6, 4, 5, 5, 6, 5, 6, 6, 7, 1, 2, 2, 3, 2, 3, 3, 4, 2, 3, 3, 4, 3, 4, 4, 5, 2, 3, 3, 4, 3, 4, 4, 5, 3, 4, 4, 5, 4, 5, 5, 6, 2, 3, 3, 4, 3, 4, 4, 5, 3, 4, 4, 5, 4, 5, 5, 6, 3, 4, 4, 5, 4, 5, 5, 6, 4, 5, 5, 6, 5, 6, 6, 7, 2, 3, 3, 4, 3, 4, 4, 5, 3, 4, 4, 5, 4, 5, 5, 6, 3, 4, 4, 5, 4, 5, 5, 6, 4, 5, 5, 6, 5, 6, 6, 7, 3, 4, 4, 5, 4, 5, 5, 6, 4, 5, 5, 6, 5, 6, 6, 7, 4, 5, 5, 6, 5, 6, 6, 7, 5, 6, 6, 7, 6, 7, 7, 8]⟩)) v109) fun v110 => (ob (binPV Tryd.prog .add 5 (.tmp 10) (.tmp 14) v107 v110) fun v111 => (ob (binPV Tryd.prog .and 23 (.tmp 16) (.const (.int Go.IntKind.u32 255)) v0 (.sc (.int Go.IntKind.u32 255))) fun v112 => (ob (indexPV Tryd.prog 9 (.sc (.string ⟨#[0, 1, 1, 2, 1, 2, 2, 3, 1, 2, 2, 3, 2, 3, 3, 4, 1, 2, 2, 3, 2, 3, 3, 4, 2, 3, 3, 4, 3, 4, 4, 5, 1, 2, 2, 3, 2, 3, 3, 4, 2, 3, 3, 4, 3, 4, 4, 5, 2, 3, 3, 4, 3, 4, 4, 5, 3, 4, 4, 5, 4, 5, 5, 6, 1, 2, 2, 3, 2, 3, 3, 4, 2, 3, 3, 4, 3, 4, 4, 5, 2, 3, 3, 4, 3, 4, 4, 5, 3, 4, 4, 5, 4, 5, 5, 6, 2, 3, 3, 4, 3, 4, 4, 5, 3, 4, 4, 5, 4, 5, 5, 6, 3, 4, 4, 5, 4, 5, 5, 6, 4, 5, 5, 6, 5, 6, 6, 7, 1, 2, 2, 3, 2, 3, 3, 4, 2, 3, 3, 4, 3, 4, 4, 5, 2, 3, 3, 4, 3, 4, 4, 5, 3, 4, 4, 5, 4, 5, 5, 6, 2, 3, 3, 4, 3, 4, 4, 5, 3, 4, 4, 5, 4, 5, 5, 6, 3, 4, 4, 5, 4, 5, 5, 6, 4, 5, 5, 6, 5, 6, 6, 7, 2, 3, 3, 4, 3, 4, 4, 5, 3, 4, 4, 5, 4, 5, 5, 6, 3, 4, 4, 5, 4, 5, 5, 6, 4, 5, 5, 6, 5, 6, 6, 7, 3, 4, 4, 5, 4, 5, 5, 6, 4, 5, 5, 6, 5, 6, 6, 7, 4, 5, 5, 6, 5, 6, 6, 7, 5, 6, 6, 7, 6, 7, 7, 8]⟩)) v112) fun v113 => (ob (binPV Tryd.prog .add 5 (.tmp 15) (.tmp 18) v111 v113) fun v114 => (ob (convPV Tryd.prog 5 3 v114) fun v115 => (some v115)))))))))))))))
theorem e25_0 (C : Kallee) (L : Nat) (v0 : PV) : execR Tryd.prog C hh L 25 (cAt (bodyOf Tryd.f25) []) (Env.ofArgs [(.pv v0)] 0 .nil) [] (endP Tryd.prog Tryd.f25) = d25_0 C L v0 := by kernel_rfl
theorem r25 (C : Kallee) (L : Nat) (v0 : PV) : bodyPR Tryd.prog C hh L 25 [v0] = d25_0 C L v0 := Eq.trans (bodyPR_eq (c := cAt (bodyOf Tryd.f25) []) [v0] Tryd.func25 (by kernel_rfl) (by kernel_rfl)) (e25_0 C L v0)

end
end Go.Lite

namespace Go.Lite
open Go Go.Proofs
set_option maxRecDepth 1000000
set_option linter.unusedVariables false
noncomputable section
/-! ## 17: muster/musterref10.First -/
noncomputable def d17_0 (C : Kallee) (L : Nat)  (v0 : PV) (v1 : PV) : Option PV := (ob (callD C.pure (.clo 12 [] []) [v0] 0) fun v103 => (ob (binPV Tryd.prog .lss 3 (.tmp 11) (.const (.int Go.IntKind.i64 0)) v1 (.sc (.int Go.IntKind.i64 0))) fun v104 => (gcase false v104 (ob ((lenPV Tryd.prog 22 v103).map fun n => .sc (goInt n)) fun v105 => (ob (binPV Tryd.prog .gtr 3 (.tmp 14) (.tmp 16) v1 v105) fun v106 => (cb v106 (some (.tup [(.sc (.int Go.IntKind.u32 0)), (.sc (.bool false))])) (ob (slicePVd Tryd.prog 22 v103 none (some v1) none) fun v107 => (ob (callD C.pure (.clo 9 [] []) [v107] 0) fun v108 => (ob (extractPV v108 0) fun v109 => (ob (extractPV v108 1) fun v110 => (some (.tup [v109, (.sc (.bool true))]))))))))) (some (.tup [(.sc (.int Go.IntKind.u32 0)), (.sc (.bool false))])) none)))
theorem e17_0 (C : Kallee) (L : Nat) (v0 : PV) (v1 : PV) : execR Tryd.prog C hh L 17 (cAt (bodyOf Tryd.f17) []) (Env.ofArgs [(.pv v0), (.pv v1)] 0 .nil) [] (endP Tryd.prog Tryd.f17) = d17_0 C L v0 v1 := by kernel_rfl
theorem r17 (C : Kallee) (L : Nat) (v0 : PV) (v1 : PV) : bodyPR Tryd.prog C hh L 17 [v0, v1] = d17_0 C L v0 v1 := Eq.trans (bodyPR_eq (c := cAt (bodyOf Tryd.f17) []) [v0, v1] Tryd.func17 (by kernel_rfl) (by kernel_rfl)) (e17_0 C L v0 v1)

end
end Go.Lite

namespace Go.Lite
open Go Go.Proofs
set_option maxRecDepth 1000000
set_option linter.unusedVariables false
noncomputable section
/-! ## 14: muster/nodeset.Within -/
noncomputable def d14_0 (C : Kallee) (L : Nat)  (v0 : PV) (v1 : PV) : Option PV := (ob (binPV Tryd.prog .andNot 24 (.tmp 5) (.tmp 6) v0 v1) fun v103 => (ob (binPV Tryd.prog .eql 24 (.tmp 7) (.const (.int Go.IntKind.u32 0)) v103 (.sc (.int Go.IntKind.u32 0))) fun v104 => (some v104)))
theorem e14_0 (C : Kallee) (L : Nat) (v0 : PV) (v1 : PV) : execR Tryd.prog C hh L 14 (cAt (bodyOf Tryd.f14) []) (Env.ofArgs [(.pv v0), (.pv v1)] 0 .nil) [] (endP Tryd.prog Tryd.f14) = d14_0 C L v0 v1 := by kernel_rfl
theorem r14 (C : Kallee) (L : Nat) (v0 : PV) (v1 : PV) : bodyPR Tryd.prog C hh L 14 [v0, v1] = d14_0 C L v0 v1 := Eq.trans (bodyPR_eq (c := cAt (bodyOf Tryd.f14) []) [v0, v1] Tryd.func14 (by kernel_rfl) (by kernel_rfl)) (e14_0 C L v0 v1)

end
end Go.Lite

namespace Go.Lite
open Go Go.Proofs
set_option maxRecDepth 1000000
set_option linter.unusedVariables false
noncomputable section
/-! ## 15: muster/musterref10.Within -/
noncomputable def d15_2 {R : Type} (C : Kallee) (L : Nat) (kr : PV → Option R) (kg : PV → PV → PV → Option R) (ke0 : Option R) (v0 : PV) (v1 : PV) (v2 : PV) : Option R := (ob (binPV Tryd.prog .lss 3 (.tmp 6) (.const (.int Go.IntKind.i64 32)) v2 (.sc (.int Go.IntKind.i64 32))) fun v103 => (cb v103 (ob (callD C.pure (.clo 23 [] []) [v0, v2] 0) fun v104 => (gcase true v104 (ob (callD C.pure (.clo 23 [] []) [v1, v2] 0) fun v105 => (ob (unPV Tryd.prog .not v105) fun v106 => (cb v106 (kr (.sc (.bool false))) (ob (binPV Tryd.prog .add 3 (.tmp 8) (.const (.int Go.IntKind.i64 1)) v2 (.sc (.int Go.IntKind.i64 1))) fun v107 => (kg v0 v1 v107))))) (ob (binPV Tryd.prog .add 3 (.tmp 8) (.const (.int Go.IntKind.i64 1)) v2 (.sc (.int Go.IntKind.i64 1))) fun v108 => (kg v0 v1 v108)) none)) (ke0)))
theorem e15_2 {R : Type} (C : Kallee) (L : Nat) (k : Ex → Env → Store → Option R) (gg : Env → Store → Option R) (v0 : PV) (v1 : PV) (v2 : PV) : execR Tryd.prog C hh L 15 (cAt (bodyOf Tryd.f15) [1, 0, 1, 0, 0]) (Env.lay .nil [0, 1, 5] [(.pv v0), (.pv v1), (.pv v2)]) [] (loopK gg [0, 1, 5] 0 (prune (some ⟨[0, 1, 5], [], [(0, [])], [4]⟩) 0 k)) = d15_2 C L (fun v0 => k .ret (Env.lay .nil [4] [(.pv v0)]) []) (fun v0 v1 v2 => gg (Env.lay .nil [0, 1, 5] [(.pv v0), (.pv v1), (.pv v2)]) []) (k (.exit 0) (Env.lay .nil [] []) []) v0 v1 v2 := by kernel_rfl
noncomputable def d15_1i {R : Type} (C : Kallee) (L : Nat) (kr : PV → Option R) (ke0 : Option R) : Nat → PV → PV → PV → Option R
  | 0, _, _, _ => none
  | N + 1, v0, v1, v2 => d15_2 C L kr (fun v0 v1 v2 => d15_1i C L kr ke0 N v0 v1 v2) ke0 v0 v1 v2
noncomputable def d15_1 {R : Type} (C : Kallee) (L : Nat) (kr : PV → Option R) (ke0 : Option R) (v0 : PV) (v1 : PV) (v2 : PV) : Option R := d15_1i C L kr ke0 L v0 v1 v2
theorem d15_1_i {R : Type} (C : Kallee) (L : Nat) (k : Ex → Env → Store → Option R) (N : Nat) (v0 : PV) (v1 : PV) (v2 : PV) : iter (execR Tryd.prog C hh L 15 (cAt (bodyOf Tryd.f15) [1, 0, 1, 0, 0])) [0, 1, 5] 0 (prune (some ⟨[0, 1, 5], [], [(0, [])], [4]⟩) 0 k) N (Env.lay .nil [0, 1, 5] [(.pv v0), (.pv v1), (.pv v2)]) [] = d15_1i C L (fun v0 => k .ret (Env.lay .nil [4] [(.pv v0)]) []) (k (.exit 0) (Env.lay .nil [] []) []) N v0 v1 v2 := by
  induction N generalizing v0 v1 v2 with
  | zero => rfl
  | succ N ih => exact Eq.trans (b := execR Tryd.prog C hh L 15 (cAt (bodyOf Tryd.f15) [1, 0, 1, 0, 0]) (Env.lay .nil [0, 1, 5] [(.pv v0), (.pv v1), (.pv v2)]) [] (loopK (fun e s => iter (execR Tryd.prog C hh L 15 (cAt (bodyOf Tryd.f15) [1, 0, 1, 0, 0])) [0, 1, 5] 0 (prune (some ⟨[0, 1, 5], [], [(0, [])], [4]⟩) 0 k) N e s) [0, 1, 5] 0 (prune (some ⟨[0, 1, 5], [], [(0, [])], [4]⟩) 0 k))) (by kernel_rfl) <| Eq.trans (e15_2 C L k (fun e s => iter (execR Tryd.prog C hh L 15 (cAt (bodyOf Tryd.f15) [1, 0, 1, 0, 0])) [0, 1, 5] 0 (prune (some ⟨[0, 1, 5], [], [(0, [])], [4]⟩) 0 k) N e s) v0 v1 v2) (congrArg (fun kg => d15_2 C L (fun v0 => k .ret (Env.lay .nil [4] [(.pv v0)]) []) kg (k (.exit 0) (Env.lay .nil [] []) []) v0 v1 v2) (funext fun v0 => funext fun v1 => funext fun v2 => ih v0 v1 v2))
theorem e15_1 {R : Type} (C : Kallee) (L : Nat) (k : Ex → Env → Store → Option R) (v0 : PV) (v1 : PV) (v2 : PV) : execR Tryd.prog C hh L 15 (cAt (bodyOf Tryd.f15) [1, 0, 1, 0]) (Env.lay .nil [0, 1, 5] [(.pv v0), (.pv v1), (.pv v2)]) [] k = d15_1 C L (fun v0 => k .ret (Env.lay .nil [4] [(.pv v0)]) []) (k (.exit 0) (Env.lay .nil [] []) []) v0 v1 v2 :=
  Eq.trans (b := iter (execR Tryd.prog C hh L 15 (cAt (bodyOf Tryd.f15) [1, 0, 1, 0, 0])) [0, 1, 5] 0 (prune (some ⟨[0, 1, 5], [], [(0, [])], [4]⟩) 0 k) L (Env.lay .nil [0, 1, 5] [(.pv v0), (.pv v1), (.pv v2)]) []) (by kernel_rfl) (d15_1_i C L k L v0 v1 v2)
noncomputable def d15_3 (C : Kallee) (L : Nat)   : Option PV := (some (.sc (.bool true)))
theorem e15_3 (C : Kallee) (L : Nat)  : execR Tryd.prog C hh L 15 (cAt (bodyOf Tryd.f15) [1, 1]) (Env.lay .nil [] []) [] (endP Tryd.prog Tryd.f15) = d15_3 C L := by kernel_rfl
noncomputable def g15_0 (C : Kallee) (X1 : PV → PV → PV → Option PV)  (v0 : PV) (v1 : PV) : Option PV := (X1 v0 v1 (.sc (.int Go.IntKind.i64 0)))
noncomputable def d15_0 (C : Kallee) (L : Nat)  (v0 : PV) (v1 : PV) : Option PV := g15_0 C (fun v0 v1 v2 => d15_1 C L (fun v0 => (some v0)) (d15_3 C L) v0 v1 v2) v0 v1
theorem e15_0 (C : Kallee) (L : Nat) (v0 : PV) (v1 : PV) : execR Tryd.prog C hh L 15 (cAt (bodyOf Tryd.f15) []) (Env.ofArgs [(.pv v0), (.pv v1)] 0 .nil) [] (endP Tryd.prog Tryd.f15) = d15_0 C L v0 v1 :=
  Eq.trans (b := g15_0 C (fun v0 v1 v2 => execR Tryd.prog C hh L 15 (cAt (bodyOf Tryd.f15) [1, 0, 1, 0]) (Env.lay .nil [0, 1, 5] [(.pv v0), (.pv v1), (.pv v2)]) [] (leaveB 0 (nextT Tryd.prog C hh L 15 (cAt (bodyOf Tryd.f15) [1, 1]) (endP Tryd.prog Tryd.f15)))) v0 v1) (by kernel_rfl) (cg1 (fun X1 => g15_0 C X1 v0 v1) (funext fun v0 => funext fun v1 => funext fun v2 => Eq.trans (e15_1 C L (leaveB 0 (nextT Tryd.prog C hh L 15 (cAt (bodyOf Tryd.f15) [1, 1]) (endP Tryd.prog Tryd.f15))) v0 v1 v2) (cg2 (fun kr ke0 => d15_1 C L kr ke0 v0 v1 v2) (funext fun v0 => (by kernel_rfl)) (Eq.trans (b := execR Tryd.prog C hh L 15 (cAt (bodyOf Tryd.f15) [1, 1]) (Env.lay .nil [] []) [] (endP Tryd.prog Tryd.f15)) (by kernel_rfl) (e15_3 C L)))))
theorem r15 (C : Kallee) (L : Nat) (v0 : PV) (v1 : PV) : bodyPR Tryd.prog C hh L 15 [v0, v1] = d15_0 C L v0 v1 := Eq.trans (bodyPR_eq (c := cAt (bodyOf Tryd.f15) []) [v0, v1] Tryd.func15 (by kernel_rfl) (by kernel_rfl)) (e15_0 C L v0 v1)

end
end Go.Lite

namespace Go.Lite
open Go Go.Proofs
set_option maxRecDepth 1000000
set_option linter.unusedVariables false
noncomputable section
/-! ## 11: muster/nodeset.List -/
noncomputable def d11_2 {R : Type} (C : Kallee) (L : Nat) (kg : PV → PV → List PV → Option R) (ke0 : List PV → Option R) (v0 : PV) (v1 : PV) (x2 : List PV) : Option R := (ob (binPV Tryd.prog .lss 3 (.tmp 5) (.const (.int Go.IntKind.i64 32)) v1 (.sc (.int Go.IntKind.i64 32))) fun v103 => (cb v103 (ob (binPV Tryd.prog .shr 24 (.tmp 8) (.tmp 9) v0 v1) fun v104 => (ob (binPV Tryd.prog .and 24 (.tmp 10) (.const (.int Go.IntKind.u32 1)) v104 (.sc (.int Go.IntKind.u32 1))) fun v105 => (ob (binPV Tryd.prog .eql 24 (.tmp 11) (.const (.int Go.IntKind.u32 1)) v105 (.sc (.int Go.IntKind.u32 1))) fun v106 => (cb v106 (ob (buildSliceAV Tryd.prog 22 1 [(0, v1)]) fun v107 => (oxs (appendTo Tryd.prog 22 22 0 x2 v107) fun x108 => (ob (binPV Tryd.prog .add 3 (.tmp 5) (.const (.int Go.IntKind.i64 1)) v1 (.sc (.int Go.IntKind.i64 1))) fun v109 => (kg v0 v109 x108)))) (ob (binPV Tryd.prog .add 3 (.tmp 5) (.const (.int Go.IntKind.i64 1)) v1 (.sc (.int Go.IntKind.i64 1))) fun v110 => (kg v0 v110 x2)))))) (ke0 x2)))
theorem e11_2 {R : Type} (C : Kallee) (L : Nat) (k : Ex → Env → Store → Option R) (gg : Env → Store → Option R) (v0 : PV) (v1 : PV) (x2 : List PV) : execR Tryd.prog C hh L 11 (cAt (bodyOf Tryd.f11) [1, 1, 0, 1, 0, 0]) (Env.lay .nil [0, 3, 5] [(.pv v0), (.arr 0), (.pv v1)]) [.arr 0 false x2] (loopK gg [0, 3, 5] 1 (prune (some ⟨[0, 3, 5], [], [(0, [3])], []⟩) 1 k)) = d11_2 C L (fun v0 v1 x2 => gg (Env.lay .nil [0, 3, 5] [(.pv v0), (.arr 0), (.pv v1)]) [.arr 0 false x2]) (fun x0 => k (.exit 0) (Env.lay .nil [3] [(.arr 0)]) [.arr 0 false x0]) v0 v1 x2 := by kernel_rfl
noncomputable def d11_1i {R : Type} (C : Kallee) (L : Nat) (ke0 : List PV → Option R) : Nat → PV → PV → List PV → Option R
  | 0, _, _, _ => none
  | N + 1, v0, v1, x2 => d11_2 C L (fun v0 v1 x2 => d11_1i C L ke0 N v0 v1 x2) ke0 v0 v1 x2
noncomputable def d11_1 {R : Type} (C : Kallee) (L : Nat) (ke0 : List PV → Option R) (v0 : PV) (v1 : PV) (x2 : List PV) : Option R := d11_1i C L ke0 L v0 v1 x2
theorem d11_1_i {R : Type} (C : Kallee) (L : Nat) (k : Ex → Env → Store → Option R) (N : Nat) (v0 : PV) (v1 : PV) (x2 : List PV) : iter (execR Tryd.prog C hh L 11 (cAt (bodyOf Tryd.f11) [1, 1, 0, 1, 0, 0])) [0, 3, 5] 1 (prune (some ⟨[0, 3, 5], [], [(0, [3])], []⟩) 1 k) N (Env.lay .nil [0, 3, 5] [(.pv v0), (.arr 0), (.pv v1)]) [.arr 0 false x2] = d11_1i C L (fun x0 => k (.exit 0) (Env.lay .nil [3] [(.arr 0)]) [.arr 0 false x0]) N v0 v1 x2 := by
  induction N generalizing v0 v1 x2 with
  | zero => rfl
  | succ N ih => exact Eq.trans (b := execR Tryd.prog C hh L 11 (cAt (bodyOf Tryd.f11) [1, 1, 0, 1, 0, 0]) (Env.lay .nil [0, 3, 5] [(.pv v0), (.arr 0), (.pv v1)]) [.arr 0 false x2] (loopK (fun e s => iter (execR Tryd.prog C hh L 11 (cAt (bodyOf Tryd.f11) [1, 1, 0, 1, 0, 0])) [0, 3, 5] 1 (prune (some ⟨[0, 3, 5], [], [(0, [3])], []⟩) 1 k) N e s) [0, 3, 5] 1 (prune (some ⟨[0, 3, 5], [], [(0, [3])], []⟩) 1 k))) (by kernel_rfl) <| Eq.trans (e11_2 C L k (fun e s => iter (execR Tryd.prog C hh L 11 (cAt (bodyOf Tryd.f11) [1, 1, 0, 1, 0, 0])) [0, 3, 5] 1 (prune (some ⟨[0, 3, 5], [], [(0, [3])], []⟩) 1 k) N e s) v0 v1 x2) (congrArg (fun kg => d11_2 C L kg (fun x0 => k (.exit 0) (Env.lay .nil [3] [(.arr 0)]) [.arr 0 false x0]) v0 v1 x2) (funext fun v0 => funext fun v1 => funext fun x2 => ih v0 v1 x2))
theorem e11_1 {R : Type} (C : Kallee) (L : Nat) (k : Ex → Env → Store → Option R) (v0 : PV) (v1 : PV) (x2 : List PV) : execR Tryd.prog C hh L 11 (cAt (bodyOf Tryd.f11) [1, 1, 0, 1, 0]) (Env.lay .nil [0, 3, 5] [(.pv v0), (.arr 0), (.pv v1)]) [.arr 0 false x2] k = d11_1 C L (fun x0 => k (.exit 0) (Env.lay .nil [3] [(.arr 0)]) [.arr 0 false x0]) v0 v1 x2 :=
  Eq.trans (b := iter (execR Tryd.prog C hh L 11 (cAt (bodyOf Tryd.f11) [1, 1, 0, 1, 0, 0])) [0, 3, 5] 1 (prune (some ⟨[0, 3, 5], [], [(0, [3])], []⟩) 1 k) L (Env.lay .nil [0, 3, 5] [(.pv v0), (.arr 0), (.pv v1)]) [.arr 0 false x2]) (by kernel_rfl) (d11_1_i C L k L v0 v1 x2)
noncomputable def d11_3 (C : Kallee) (L : Nat)  (x0 : List PV) : Option PV := (some (.list 0 false x0))
theorem e11_3 (C : Kallee) (L : Nat) (x0 : List PV) : execR Tryd.prog C hh L 11 (cAt (bodyOf Tryd.f11) [1, 1, 1]) (Env.lay .nil [3] [(.arr 0)]) [.arr 0 false x0] (endP Tryd.prog Tryd.f11) = d11_3 C L x0 := by kernel_rfl
noncomputable def g11_0 (C : Kallee) (X1 : PV → PV → List PV → Option PV)  (v0 : PV) : Option PV := (X1 v0 (.sc (.int Go.IntKind.i64 0)) [])
noncomputable def d11_0 (C : Kallee) (L : Nat)  (v0 : PV) : Option PV := g11_0 C (fun v0 v1 x2 => d11_1 C L (fun x0 => d11_3 C L x0) v0 v1 x2) v0
theorem e11_0 (C : Kallee) (L : Nat) (v0 : PV) : execR Tryd.prog C hh L 11 (cAt (bodyOf Tryd.f11) []) (Env.ofArgs [(.pv v0)] 0 .nil) [] (endP Tryd.prog Tryd.f11) = d11_0 C L v0 :=
  Eq.trans (b := g11_0 C (fun v0 v1 x2 => execR Tryd.prog C hh L 11 (cAt (bodyOf Tryd.f11) [1, 1, 0, 1, 0]) (Env.lay .nil [0, 3, 5] [(.pv v0), (.arr 0), (.pv v1)]) [.arr 0 false x2] (leaveB 0 (nextT Tryd.prog C hh L 11 (cAt (bodyOf Tryd.f11) [1, 1, 1]) (endP Tryd.prog Tryd.f11)))) v0) (by kernel_rfl) (cg1 (fun X1 => g11_0 C X1 v0) (funext fun v0 => funext fun v1 => funext fun x2 => Eq.trans (e11_1 C L (leaveB 0 (nextT Tryd.prog C hh L 11 (cAt (bodyOf Tryd.f11) [1, 1, 1]) (endP Tryd.prog Tryd.f11))) v0 v1 x2) (cg1 (fun ke0 => d11_1 C L ke0 v0 v1 x2) (funext fun x0 => (Eq.trans (b := execR Tryd.prog C hh L 11 (cAt (bodyOf Tryd.f11) [1, 1, 1]) (Env.lay .nil [3] [(.arr 0)]) [.arr 0 false x0] (endP Tryd.prog Tryd.f11)) (by kernel_rfl) (e11_3 C L x0))))))
theorem r11 (C : Kallee) (L : Nat) (v0 : PV) : bodyPR Tryd.prog C hh L 11 [v0] = d11_0 C L v0 := Eq.trans (bodyPR_eq (c := cAt (bodyOf Tryd.f11) []) [v0] Tryd.func11 (by kernel_rfl) (by kernel_rfl)) (e11_0 C L v0)

end
end Go.Lite

namespace Go.Lite
open Go Go.Proofs
set_option maxRecDepth 1000000
set_option linter.unusedVariables false
noncomputable section
/-! ## 4: muster/musterlaw10.SetFirst -/
noncomputable def d4_0 (C : Kallee) (L : Nat)  (v0 : PV) (v1 : PV) : Option PV := (ob (callD C.pure (.clo 16 [] []) [v0, v1] 0) fun v103 => (ob (extractPV v103 0) fun v104 => (ob (extractPV v103 1) fun v105 => (ob (unPV Tryd.prog .not v105) fun v106 => (cb v106 (ob (binPV Tryd.prog .lss 3 (.tmp 18) (.const (.int Go.IntKind.i64 0)) v1 (.sc (.int Go.IntKind.i64 0))) fun v107 => (gcase false v107 (ob (callD C.pure (.clo 13 [] []) [v0] 0) fun v108 => (ob (binPV Tryd.prog .gtr 3 (.tmp 21) (.tmp 23) v1 v108) fun v109 => (gcase true v109 (ob (binPV Tryd.prog .eql 24 (.tmp 27) (.const (.int Go.IntKind.u32 0)) v104 (.sc (.int Go.IntKind.u32 0))) fun v110 => (gcase true v110 (ob (callD C.pure (.clo 18 [] []) [] 0) fun v111 => (some v111)) (some (.sc (.bool false))) none)) (some (.sc (.bool false))) none))) (ob (binPV Tryd.prog .eql 24 (.tmp 27) (.const (.int Go.IntKind.u32 0)) v104 (.sc (.int Go.IntKind.u32 0))) fun v114 => (gcase true v114 (ob (callD C.pure (.clo 18 [] []) [] 0) fun v115 => (some v115)) (some (.sc (.bool false))) none)) none)) (ob (binPV Tryd.prog .andNot 24 (.tmp 33) (.tmp 34) v0 v104) fun v118 => (ob (callD C.pure (.clo 13 [] []) [v104] 0) fun v119 => (ob (binPV Tryd.prog .neq 3 (.tmp 37) (.tmp 38) v119 v1) fun v120 => (gcase false v120 (ob (callD C.pure (.clo 14 [] []) [v104, v0] 0) fun v121 => (ob (unPV Tryd.prog .not v121) fun v122 => (gcase false v122 (ob (callD C.pure (.clo 13 [] []) [v118] 0) fun v123 => (ob (callD C.pure (.clo 13 [] []) [v0] 0) fun v124 => (ob (binPV Tryd.prog .sub 3 (.tmp 50) (.tmp 51) v124 v1) fun v125 => (ob (binPV Tryd.prog .neq 3 (.tmp 48) (.tmp 52) v123 v125) fun v126 => (cb v126 (some (.sc (.bool false))) (ob (callD C.pure (.clo 11 [] []) [v104] 0) fun v127 => (ob (callD C.pure (.clo 11 [] []) [v118] 0) fun v128 => (ob ((lenPV Tryd.prog 22 v127).map fun n => .sc (goInt n)) fun v129 => (ob (binPV Tryd.prog .eql 3 (.tmp 60) (.const (.int Go.IntKind.i64 0)) v129 (.sc (.int Go.IntKind.i64 0))) fun v130 => (gcase false v130 (ob ((lenPV Tryd.prog 22 v128).map fun n => .sc (goInt n)) fun v131 => (ob (binPV Tryd.prog .eql 3 (.tmp 64) (.const (.int Go.IntKind.i64 0)) v131 (.sc (.int Go.IntKind.i64 0))) fun v132 => (gcase false v132 (ob ((lenPV Tryd.prog 22 v127).map fun n => .sc (goInt n)) fun v133 => (ob (binPV Tryd.prog .sub 3 (.tmp 70) (.const (.int Go.IntKind.i64 1)) v133 (.sc (.int Go.IntKind.i64 1))) fun v134 => (ob (indexAddrPV Tryd.prog 22 v127 v134) fun v135 => (ob (loadPV Tryd.prog 3 v135) fun v136 => (ob (indexAddrPV Tryd.prog 22 v128 (.sc (.int Go.IntKind.i64 0))) fun v137 => (ob (loadPV Tryd.prog 3 v137) fun v138 => (ob (binPV Tryd.prog .lss 3 (.tmp 73) (.tmp 76) v136 v138) fun v139 => (gcase true v139 (ob (callD C.pure (.clo 18 [] []) [] 0) fun v140 => (some v140)) (some (.sc (.bool false))) none)))))))) (ob (callD C.pure (.clo 18 [] []) [] 0) fun v142 => (some v142)) none))) (ob (callD C.pure (.clo 18 [] []) [] 0) fun v144 => (some v144)) none)))))))))) (some (.sc (.bool false))) none))) (some (.sc (.bool false))) none)))))))))
theorem e4_0 (C : Kallee) (L : Nat) (v0 : PV) (v1 : PV) : execR Tryd.prog C hh L 4 (cAt (bodyOf Tryd.f4) []) (Env.ofArgs [(.pv v0), (.pv v1)] 0 .nil) [] (endP Tryd.prog Tryd.f4) = d4_0 C L v0 v1 := by kernel_rfl
theorem r4 (C : Kallee) (L : Nat) (v0 : PV) (v1 : PV) : bodyPR Tryd.prog C hh L 4 [v0, v1] = d4_0 C L v0 v1 := Eq.trans (bodyPR_eq (c := cAt (bodyOf Tryd.f4) []) [v0, v1] Tryd.func4 (by kernel_rfl) (by kernel_rfl)) (e4_0 C L v0 v1)

end
end Go.Lite
