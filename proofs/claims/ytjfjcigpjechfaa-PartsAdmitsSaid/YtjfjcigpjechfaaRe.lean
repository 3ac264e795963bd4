import Derived.Test.YtjfjcigpjechfaaLc
import Derived.Test.YtjfjcigpjechfaaProg
import Derived.KernelRfl

namespace Go.Lite
open Go Go.Proofs
set_option maxRecDepth 1000000
set_option linter.unusedVariables false
noncomputable section
def ownT : Tr (List (Nat × Nat)) := (.node 34 [(4, 4)] (.node 22 [(3, 6)] (.node 18 [(8, 0)] (.node 4 [(93, 777)] .nil .nil) (.node 21 [(3, 0)] .nil .nil)) (.node 24 [(3, 5)] (.node 23 [(3, 4)] .nil .nil) (.node 27 [(4, 4)] .nil .nil))) (.node 52 [(21, 0)] (.node 46 [(3, 0)] (.node 36 [(3, 0)] .nil .nil) (.node 47 [(7, 0)] .nil .nil)) (.node 82 [(3, 0)] (.node 59 [(11, 0)] .nil .nil) .nil)))
def liveT : Tr (List (Nat × List Nat)) := (.node 47 [(3, [0, 1, 2, 7, 8])] (.node 27 [(3, [4, 7, 8, 9])] (.node 18 [(6, [0, 1, 8, 20, 21, 22])] (.node 11 [(6, [1, 5, 6])] (.node 9 [(2, [0, 1, 6])] (.node 4 [(10, [0, 1, 2, 8, 27, 28, 29, 59, 60, 61]), (4, [0, 1, 2, 27, 28, 29])] .nil .nil) (.node 10 [(12, [6, 45, 46, 47])] .nil .nil)) (.node 17 [(2, [0, 9, 10, 11])] (.node 15 [(5, [1, 7, 9])] .nil .nil) .nil)) (.node 23 [(3, [0, 3, 4])] (.node 22 [(3, [0, 3, 4])] (.node 21 [(3, [0, 3, 4])] .nil .nil) .nil) (.node 25 [(2, [0, 1, 7, 8])] (.node 24 [(3, [0, 3, 4])] .nil .nil) .nil))) (.node 37 [(2, [0, 3])] (.node 34 [(3, [0, 4, 5])] (.node 33 [(2, [1, 6, 7, 8])] (.node 32 [(2, [0, 1, 9, 10, 11])] .nil .nil) .nil) (.node 36 [(3, [0, 3, 4])] (.node 35 [(2, [1, 3])] .nil .nil) .nil)) (.node 44 [(2, [0, 1, 6])] (.node 39 [(2, [0, 1, 5])] (.node 38 [(2, [0, 1, 5])] .nil .nil) .nil) (.node 46 [(3, [0, 3, 4])] (.node 45 [(7, [1, 2, 9, 10, 11])] .nil .nil) .nil)))) (.node 72 [(2, [0, 1, 5])] (.node 59 [(2, [0, 1, 5])] (.node 55 [(4, [0, 1, 5])] (.node 53 [(2, [0, 1, 5])] (.node 52 [(7, [0, 6, 8])] .nil .nil) (.node 54 [(4, [0, 1, 5])] .nil .nil)) (.node 57 [(4, [0, 1, 5])] (.node 56 [(4, [0, 1, 5])] .nil .nil) .nil)) (.node 69 [(2, [0, 1, 5])] (.node 68 [(2, [0, 3])] (.node 62 [(3, [1, 5, 8, 9, 10])] .nil .nil) .nil) (.node 71 [(3, [0, 4, 5])] (.node 70 [(2, [0, 3])] .nil .nil) .nil))) (.node 90 [(3, [0, 3, 4])] (.node 80 [(2, [0, 1, 7, 8])] (.node 79 [(2, [0, 1, 7, 8])] (.node 75 [(3, [1, 6, 7, 10, 11, 12])] .nil .nil) .nil) (.node 86 [(2, [0, 1, 7, 8])] (.node 82 [(3, [0, 3, 4])] .nil .nil) .nil)) (.node 93 [(2, [0, 1, 7, 8])] (.node 92 [(4, [0, 1, 5])] (.node 91 [(2, [0, 1, 7, 8])] .nil .nil) .nil) (.node 95 [(2, [0, 1, 7, 8])] (.node 94 [(2, [1, 2, 10])] .nil .nil) .nil)))))
def joinTab : Tr (List (Nat × Join)) := (.node 47 [(27, ⟨[0, 1, 2, 7, 8], [0, 1, 2, 7, 8, 32], [], []⟩), (16, ⟨[0, 1, 2, 7, 8], [], [(0, [7])], []⟩)] (.node 27 [(16, ⟨[4, 7, 8, 9], [], [(0, [4])], []⟩)] (.node 18 [(28, ⟨[0, 1, 8, 20, 21, 22], [], [(0, [8])], []⟩)] (.node 11 [(28, ⟨[1, 5, 6], [], [(0, [])], [2]⟩)] (.node 9 [(12, ⟨[0, 1, 6], [], [(0, [])], [4, 5]⟩)] (.node 4 [(44, ⟨[0, 1, 2, 8, 27, 28, 29, 59, 60, 61], [], [(2, [0, 1, 2, 8, 27, 28, 29])], [6]⟩), (20, ⟨[0, 1, 2, 27, 28, 29], [], [(0, [])], [6]⟩)] .nil .nil) (.node 10 [(52, ⟨[6, 45, 46, 47], [], [(4, [])], [2]⟩), (9, ⟨[1, 4, 6], [1, 6], [(3, [])], [2]⟩)] .nil .nil)) (.node 17 [(12, ⟨[0, 9, 10, 11], [], [(0, [0])], [2]⟩)] (.node 15 [(24, ⟨[1, 7, 9], [], [(0, [1])], [6]⟩)] .nil .nil) .nil)) (.node 23 [(16, ⟨[0, 3, 4], [], [(0, [3])], []⟩)] (.node 22 [(16, ⟨[0, 3, 4], [], [(0, [3])], []⟩)] (.node 21 [(16, ⟨[0, 3, 4], [], [(0, [3])], []⟩)] .nil .nil) .nil) (.node 25 [(12, ⟨[0, 1, 7, 8], [], [(0, [])], [4]⟩)] (.node 24 [(16, ⟨[0, 3, 4], [], [(0, [3])], []⟩)] .nil .nil) .nil))) (.node 37 [(27, ⟨[0, 3, 4], [0, 3, 4, 5], [], []⟩), (12, ⟨[0, 3], [], [(0, [0])], [2]⟩)] (.node 34 [(16, ⟨[0, 4, 5], [], [(0, [4])], []⟩)] (.node 33 [(12, ⟨[1, 6, 7, 8], [], [(0, [1])], [2]⟩)] (.node 32 [(12, ⟨[0, 1, 9, 10, 11], [], [(0, [1])], [4]⟩)] .nil .nil) .nil) (.node 36 [(16, ⟨[0, 3, 4], [], [(0, [3])], []⟩)] (.node 35 [(12, ⟨[1, 3], [], [(0, [1])], [2]⟩)] .nil .nil) .nil)) (.node 44 [(12, ⟨[0, 1, 6], [], [(0, [])], [4, 5]⟩)] (.node 39 [(12, ⟨[0, 1, 5], [], [(0, [1])], [4]⟩)] (.node 38 [(12, ⟨[0, 1, 5], [], [(0, [])], [4]⟩)] .nil .nil) .nil) (.node 46 [(16, ⟨[0, 3, 4], [], [(0, [3])], []⟩)] (.node 45 [(43, ⟨[1, 2, 9, 10, 11], [1, 2, 9, 10, 11, 41], [], []⟩), (32, ⟨[1, 2, 9, 10, 11], [], [(0, [9, 10])], []⟩)] .nil .nil) .nil)))) (.node 72 [(12, ⟨[0, 1, 5], [], [(0, [0, 1])], []⟩)] (.node 59 [(12, ⟨[0, 1, 5], [], [(0, [5])], []⟩)] (.node 55 [(20, ⟨[0, 1, 5], [], [(0, [])], [4]⟩)] (.node 53 [(12, ⟨[0, 1, 5], [], [(0, [])], [4]⟩)] (.node 52 [(32, ⟨[0, 6, 8], [], [(0, [8])], []⟩)] .nil .nil) (.node 54 [(20, ⟨[0, 1, 5], [], [(0, [])], [4]⟩)] .nil .nil)) (.node 57 [(20, ⟨[0, 1, 5], [], [(0, [])], [4]⟩)] (.node 56 [(20, ⟨[0, 1, 5], [], [(0, [])], [4]⟩)] .nil .nil) .nil)) (.node 69 [(12, ⟨[0, 1, 5], [], [(0, [])], [4]⟩)] (.node 68 [(12, ⟨[0, 3], [], [(0, [0])], [2]⟩)] (.node 62 [(27, ⟨[1, 5, 6, 7, 8, 9, 10], [1, 5, 6, 8, 9, 10, 22], [], []⟩), (16, ⟨[1, 5, 8, 9, 10], [], [(0, [5])], []⟩)] .nil .nil) .nil) (.node 71 [(16, ⟨[0, 4, 5], [], [(0, [4])], [2, 3]⟩)] (.node 70 [(12, ⟨[0, 3], [], [(0, [0])], [2]⟩)] .nil .nil) .nil))) (.node 90 [(16, ⟨[0, 3, 4], [], [(0, [3])], []⟩)] (.node 80 [(12, ⟨[0, 1, 7, 8], [], [(0, [])], [4]⟩)] (.node 79 [(12, ⟨[0, 1, 7, 8], [], [(0, [])], [4]⟩)] (.node 75 [(27, ⟨[1, 6, 7, 9, 10, 11, 12], [1, 6, 7, 9, 10, 11, 12, 24], [], []⟩), (16, ⟨[1, 6, 7, 10, 11, 12], [], [(0, [6, 7])], []⟩)] .nil .nil) .nil) (.node 86 [(12, ⟨[0, 1, 7, 8], [], [(0, [])], [4]⟩)] (.node 82 [(16, ⟨[0, 3, 4], [], [(0, [3])], []⟩)] .nil .nil) .nil)) (.node 93 [(12, ⟨[0, 1, 7, 8], [], [(0, [])], [4]⟩)] (.node 92 [(20, ⟨[0, 1, 5], [], [(0, [])], [4]⟩)] (.node 91 [(12, ⟨[0, 1, 7, 8], [], [(0, [])], [4]⟩)] .nil .nil) .nil) (.node 95 [(12, ⟨[0, 1, 7, 8], [], [(0, [])], [4]⟩)] (.node 94 [(12, ⟨[1, 2, 10], [], [(0, [])], [6]⟩)] .nil .nil) .nil)))))
def hh : Hints := { own := fun f t => (ownT.get? f).bind fun l => pairFind l t, live := fun f i => ((liveT.get? f).bind fun l => pairFind l i).getD [], join := fun f i => (joinTab.get? f).bind fun l => pairFind l i }

end
end Go.Lite

namespace Go.Lite
open Go Go.Proofs
set_option maxRecDepth 1000000
set_option linter.unusedVariables false
noncomputable section
/-! ## 4: muster/musterlaw16.PartsAdmits -/
noncomputable def d4_4 {R : Type} (C : Kallee) (L : Nat) (kr : PV → PV → Option R) (kg : PV → PV → PV → PV → PV → PV → PV → PV → PV → PV → Option R) (ke2 : PV → PV → PV → PV → PV → PV → PV → Option R) (v0 : PV) (v1 : PV) (v2 : PV) (v3 : PV) (v4 : PV) (v5 : PV) (v6 : PV) (v7 : PV) (v8 : PV) (v9 : PV) : Option R := (ob (binPV Try.prog .lss 3 (.tmp 61) (.tmp 60) v8 v7) fun v130 => (cb v130 (ob (indexAddrPV Try.prog 32 v6 v8) fun v131 => (ob (loadPV Try.prog 9 v131) fun v132 => (ob (PV.at_ 4 0 0 v9) fun v133 => (ob (callD C.pure (.clo 14 [] []) [v0, v1, v133] false) fun v134 => (gcase true v134 (ob (callD C.pure (.clo 14 [] []) [v0, v1, v132] false) fun v135 => (ob (unPV Try.prog .not v135) fun v136 => (cb v136 (kr (.sc (.bool false)) v9) (ob (binPV Try.prog .add 3 (.tmp 61) (.const (.int Go.IntKind.i64 1)) v8 (.sc (.int Go.IntKind.i64 1))) fun v137 => (kg v0 v1 v2 v3 v4 v5 v6 v7 v137 v9))))) (ob (binPV Try.prog .add 3 (.tmp 61) (.const (.int Go.IntKind.i64 1)) v8 (.sc (.int Go.IntKind.i64 1))) fun v138 => (kg v0 v1 v2 v3 v4 v5 v6 v7 v138 v9)) none))))) (ke2 v0 v1 v2 v3 v4 v5 v9)))
theorem e4_4 {R : Type} (C : Kallee) (L : Nat) (k : Ex → Env → Store → Option R) (gg : Env → Store → Option R) (v0 : PV) (v1 : PV) (v2 : PV) (v3 : PV) (v4 : PV) (v5 : PV) (v6 : PV) (v7 : PV) (v8 : PV) (v9 : PV) : execR Try.prog C hh L 4 (cAt (bodyOf Try.f4) [1, 1, 0, 1, 0, 0, 1, 1, 0, 0, 1, 1, 1, 0, 1, 0, 0]) (Env.lay .nil [0, 1, 2, 8, 27, 28, 29, 59, 60, 61] [(.pv v0), (.pv v1), (.pv v2), (.ptr 0 0 0), (.pv v3), (.pv v4), (.pv v5), (.pv v6), (.pv v7), (.pv v8)]) [.var 4 (.pv v9)] (loopK gg [0, 1, 2, 8, 27, 28, 29, 59, 60, 61] 1 (prune (some ⟨[0, 1, 2, 8, 27, 28, 29, 59, 60, 61], [], [(2, [0, 1, 2, 8, 27, 28, 29])], [6]⟩) 1 k)) = d4_4 C L (fun v0 v1 => k .ret (Env.lay .nil [6] [(.pv v0)]) [.var 4 (.pv v1)]) (fun v0 v1 v2 v3 v4 v5 v6 v7 v8 v9 => gg (Env.lay .nil [0, 1, 2, 8, 27, 28, 29, 59, 60, 61] [(.pv v0), (.pv v1), (.pv v2), (.ptr 0 0 0), (.pv v3), (.pv v4), (.pv v5), (.pv v6), (.pv v7), (.pv v8)]) [.var 4 (.pv v9)]) (fun v0 v1 v2 v3 v4 v5 v6 => k (.exit 2) (Env.lay .nil [0, 1, 2, 8, 27, 28, 29] [(.pv v0), (.pv v1), (.pv v2), (.ptr 0 0 0), (.pv v3), (.pv v4), (.pv v5)]) [.var 4 (.pv v6)]) v0 v1 v2 v3 v4 v5 v6 v7 v8 v9 := by kernel_rfl
noncomputable def d4_3i {R : Type} (C : Kallee) (L : Nat) (kr : PV → PV → Option R) (ke2 : PV → PV → PV → PV → PV → PV → PV → Option R) : Nat → PV → PV → PV → PV → PV → PV → PV → PV → PV → PV → Option R
  | 0, _, _, _, _, _, _, _, _, _, _ => none
  | N + 1, v0, v1, v2, v3, v4, v5, v6, v7, v8, v9 => d4_4 C L kr (fun v0 v1 v2 v3 v4 v5 v6 v7 v8 v9 => d4_3i C L kr ke2 N v0 v1 v2 v3 v4 v5 v6 v7 v8 v9) ke2 v0 v1 v2 v3 v4 v5 v6 v7 v8 v9
noncomputable def d4_3 {R : Type} (C : Kallee) (L : Nat) (kr : PV → PV → Option R) (ke2 : PV → PV → PV → PV → PV → PV → PV → Option R) (v0 : PV) (v1 : PV) (v2 : PV) (v3 : PV) (v4 : PV) (v5 : PV) (v6 : PV) (v7 : PV) (v8 : PV) (v9 : PV) : Option R := d4_3i C L kr ke2 L v0 v1 v2 v3 v4 v5 v6 v7 v8 v9
theorem d4_3_i {R : Type} (C : Kallee) (L : Nat) (k : Ex → Env → Store → Option R) (N : Nat) (v0 : PV) (v1 : PV) (v2 : PV) (v3 : PV) (v4 : PV) (v5 : PV) (v6 : PV) (v7 : PV) (v8 : PV) (v9 : PV) : iter (execR Try.prog C hh L 4 (cAt (bodyOf Try.f4) [1, 1, 0, 1, 0, 0, 1, 1, 0, 0, 1, 1, 1, 0, 1, 0, 0])) [0, 1, 2, 8, 27, 28, 29, 59, 60, 61] 1 (prune (some ⟨[0, 1, 2, 8, 27, 28, 29, 59, 60, 61], [], [(2, [0, 1, 2, 8, 27, 28, 29])], [6]⟩) 1 k) N (Env.lay .nil [0, 1, 2, 8, 27, 28, 29, 59, 60, 61] [(.pv v0), (.pv v1), (.pv v2), (.ptr 0 0 0), (.pv v3), (.pv v4), (.pv v5), (.pv v6), (.pv v7), (.pv v8)]) [.var 4 (.pv v9)] = d4_3i C L (fun v0 v1 => k .ret (Env.lay .nil [6] [(.pv v0)]) [.var 4 (.pv v1)]) (fun v0 v1 v2 v3 v4 v5 v6 => k (.exit 2) (Env.lay .nil [0, 1, 2, 8, 27, 28, 29] [(.pv v0), (.pv v1), (.pv v2), (.ptr 0 0 0), (.pv v3), (.pv v4), (.pv v5)]) [.var 4 (.pv v6)]) N v0 v1 v2 v3 v4 v5 v6 v7 v8 v9 := by
  induction N generalizing v0 v1 v2 v3 v4 v5 v6 v7 v8 v9 with
  | zero => rfl
  | succ N ih => exact Eq.trans (b := execR Try.prog C hh L 4 (cAt (bodyOf Try.f4) [1, 1, 0, 1, 0, 0, 1, 1, 0, 0, 1, 1, 1, 0, 1, 0, 0]) (Env.lay .nil [0, 1, 2, 8, 27, 28, 29, 59, 60, 61] [(.pv v0), (.pv v1), (.pv v2), (.ptr 0 0 0), (.pv v3), (.pv v4), (.pv v5), (.pv v6), (.pv v7), (.pv v8)]) [.var 4 (.pv v9)] (loopK (fun e s => iter (execR Try.prog C hh L 4 (cAt (bodyOf Try.f4) [1, 1, 0, 1, 0, 0, 1, 1, 0, 0, 1, 1, 1, 0, 1, 0, 0])) [0, 1, 2, 8, 27, 28, 29, 59, 60, 61] 1 (prune (some ⟨[0, 1, 2, 8, 27, 28, 29, 59, 60, 61], [], [(2, [0, 1, 2, 8, 27, 28, 29])], [6]⟩) 1 k) N e s) [0, 1, 2, 8, 27, 28, 29, 59, 60, 61] 1 (prune (some ⟨[0, 1, 2, 8, 27, 28, 29, 59, 60, 61], [], [(2, [0, 1, 2, 8, 27, 28, 29])], [6]⟩) 1 k))) (by kernel_rfl) <| Eq.trans (e4_4 C L k (fun e s => iter (execR Try.prog C hh L 4 (cAt (bodyOf Try.f4) [1, 1, 0, 1, 0, 0, 1, 1, 0, 0, 1, 1, 1, 0, 1, 0, 0])) [0, 1, 2, 8, 27, 28, 29, 59, 60, 61] 1 (prune (some ⟨[0, 1, 2, 8, 27, 28, 29, 59, 60, 61], [], [(2, [0, 1, 2, 8, 27, 28, 29])], [6]⟩) 1 k) N e s) v0 v1 v2 v3 v4 v5 v6 v7 v8 v9) (congrArg (fun kg => d4_4 C L (fun v0 v1 => k .ret (Env.lay .nil [6] [(.pv v0)]) [.var 4 (.pv v1)]) kg (fun v0 v1 v2 v3 v4 v5 v6 => k (.exit 2) (Env.lay .nil [0, 1, 2, 8, 27, 28, 29] [(.pv v0), (.pv v1), (.pv v2), (.ptr 0 0 0), (.pv v3), (.pv v4), (.pv v5)]) [.var 4 (.pv v6)]) v0 v1 v2 v3 v4 v5 v6 v7 v8 v9) (funext fun v0 => funext fun v1 => funext fun v2 => funext fun v3 => funext fun v4 => funext fun v5 => funext fun v6 => funext fun v7 => funext fun v8 => funext fun v9 => ih v0 v1 v2 v3 v4 v5 v6 v7 v8 v9))
theorem e4_3 {R : Type} (C : Kallee) (L : Nat) (k : Ex → Env → Store → Option R) (v0 : PV) (v1 : PV) (v2 : PV) (v3 : PV) (v4 : PV) (v5 : PV) (v6 : PV) (v7 : PV) (v8 : PV) (v9 : PV) : execR Try.prog C hh L 4 (cAt (bodyOf Try.f4) [1, 1, 0, 1, 0, 0, 1, 1, 0, 0, 1, 1, 1, 0, 1, 0]) (Env.lay .nil [0, 1, 2, 8, 27, 28, 29, 59, 60, 61] [(.pv v0), (.pv v1), (.pv v2), (.ptr 0 0 0), (.pv v3), (.pv v4), (.pv v5), (.pv v6), (.pv v7), (.pv v8)]) [.var 4 (.pv v9)] k = d4_3 C L (fun v0 v1 => k .ret (Env.lay .nil [6] [(.pv v0)]) [.var 4 (.pv v1)]) (fun v0 v1 v2 v3 v4 v5 v6 => k (.exit 2) (Env.lay .nil [0, 1, 2, 8, 27, 28, 29] [(.pv v0), (.pv v1), (.pv v2), (.ptr 0 0 0), (.pv v3), (.pv v4), (.pv v5)]) [.var 4 (.pv v6)]) v0 v1 v2 v3 v4 v5 v6 v7 v8 v9 :=
  Eq.trans (b := iter (execR Try.prog C hh L 4 (cAt (bodyOf Try.f4) [1, 1, 0, 1, 0, 0, 1, 1, 0, 0, 1, 1, 1, 0, 1, 0, 0])) [0, 1, 2, 8, 27, 28, 29, 59, 60, 61] 1 (prune (some ⟨[0, 1, 2, 8, 27, 28, 29, 59, 60, 61], [], [(2, [0, 1, 2, 8, 27, 28, 29])], [6]⟩) 1 k) L (Env.lay .nil [0, 1, 2, 8, 27, 28, 29, 59, 60, 61] [(.pv v0), (.pv v1), (.pv v2), (.ptr 0 0 0), (.pv v3), (.pv v4), (.pv v5), (.pv v6), (.pv v7), (.pv v8)]) [.var 4 (.pv v9)]) (by kernel_rfl) (d4_3_i C L k L v0 v1 v2 v3 v4 v5 v6 v7 v8 v9)
noncomputable def d4_5 {R : Type} (C : Kallee) (L : Nat) (kr : PV → Option R) (kg : PV → PV → PV → PV → PV → PV → Option R) (v0 : PV) (v1 : PV) (v2 : PV) (v3 : PV) (v4 : PV) (v5 : PV) (v6 : PV) : Option R := (ob ((lenPV Try.prog 32 v1).map fun n => .sc (goInt n)) fun v142 => (ob (binPV Try.prog .gtr 3 (.tmp 79) (.const (.int Go.IntKind.i64 0)) v142 (.sc (.int Go.IntKind.i64 0))) fun v143 => (gcase true v143 (ob (PV.at_ 4 0 0 v6) fun v144 => (ob (callD C.pure (.clo 14 [] []) [v0, v1, v144] false) fun v145 => (gcase true v145 (ob (buildSliceAV Try.prog 32 1 [(0, v2)]) fun v146 => (ob (appendPV Try.prog 32 32 v146 v1) fun v147 => (ob (PV.at_ 4 0 0 v6) fun v148 => (ob (callD C.pure (.clo 14 [] []) [v0, v147, v148] false) fun v149 => (ob (unPV Try.prog .not v149) fun v150 => (cb v150 (kr (.sc (.bool false))) (ob (binPV Try.prog .add 3 (.tmp 29) (.const (.int Go.IntKind.i64 1)) v5 (.sc (.int Go.IntKind.i64 1))) fun v151 => (kg v0 v1 v2 v3 v4 v151)))))))) (ob (binPV Try.prog .add 3 (.tmp 29) (.const (.int Go.IntKind.i64 1)) v5 (.sc (.int Go.IntKind.i64 1))) fun v152 => (kg v0 v1 v2 v3 v4 v152)) none))) (ob (binPV Try.prog .add 3 (.tmp 29) (.const (.int Go.IntKind.i64 1)) v5 (.sc (.int Go.IntKind.i64 1))) fun v154 => (kg v0 v1 v2 v3 v4 v154)) none)))
theorem e4_5 {R : Type} (C : Kallee) (L : Nat) (k : Ex → Env → Store → Option R) (gg : Env → Store → Option R) (v0 : PV) (v1 : PV) (v2 : PV) (v3 : PV) (v4 : PV) (v5 : PV) (v6 : PV) : execR Try.prog C hh L 4 (cAt (bodyOf Try.f4) [1, 1, 0, 1, 0, 0, 1, 1, 0, 0, 1, 1, 1, 1]) (Env.lay .nil [0, 1, 2, 8, 27, 28, 29] [(.pv v0), (.pv v1), (.pv v2), (.ptr 0 0 0), (.pv v3), (.pv v4), (.pv v5)]) [.var 4 (.pv v6)] (leaveB 1 (nextT Try.prog C hh L 4 (cAt (bodyOf Try.f4) [1, 1, 0, 1, 0, 0, 1, 1, 1]) (loopK gg [0, 1, 2, 27, 28, 29] 0 (prune (some ⟨[0, 1, 2, 27, 28, 29], [], [(0, [])], [6]⟩) 0 k)))) = d4_5 C L (fun v0 => k .ret (Env.lay .nil [6] [(.pv v0)]) []) (fun v0 v1 v2 v3 v4 v5 => gg (Env.lay .nil [0, 1, 2, 27, 28, 29] [(.pv v0), (.pv v1), (.pv v2), (.pv v3), (.pv v4), (.pv v5)]) []) v0 v1 v2 v3 v4 v5 v6 := by kernel_rfl
noncomputable def g4_2 {R : Type} (C : Kallee) (X1 : PV → PV → PV → PV → PV → PV → PV → PV → PV → PV → Option R) (kr : PV → Option R) (ke0 : Option R) (kg : PV → PV → PV → PV → PV → PV → Option R) (v0 : PV) (v1 : PV) (v2 : PV) (v3 : PV) (v4 : PV) (v5 : PV) : Option R := (ob (binPV Try.prog .lss 3 (.tmp 29) (.tmp 28) v5 v4) fun v112 => (cb v112 (ob (indexAddrPV Try.prog 24 v3 v5) fun v113 => (ob (loadPV Try.prog 45 v113) fun v114 => (ob (putPV 4 0 4 (.pv (.agg [(.sc (.string ⟨#[]⟩)), (.sc (.string ⟨#[]⟩)), (.sc (.int Go.IntKind.i64 0))])) v114) fun v115 => (ob (PV.at_ 4 0 0 v115) fun v116 => (ob (callD C.pure (.clo 18 [] []) [v0, v116] false) fun v117 => (ob (extractPV v117 0) fun v118 => (ob (extractPV v117 1) fun v119 => (ob (binPV Try.prog .neq 38 (.tmp 40) (.const (.int Go.IntKind.i64 0)) v119 (.sc (.int Go.IntKind.i64 0))) fun v120 => (gcase false v120 (ob (PV.at_ 4 0 0 v115) fun v121 => (ob (callD C.pure (.clo 14 [] []) [v0, (.sc (.slice none 0 0)), v121] false) fun v122 => (ob (unPV Try.prog .not v122) fun v123 => (gcase false v123 (ob (PV.at_ 4 0 0 v115) fun v124 => (ob (buildSliceAV Try.prog 32 1 [(0, v124)]) fun v125 => (ob (PV.at_ 4 0 0 v115) fun v126 => (ob (callD C.pure (.clo 14 [] []) [v0, v125, v126] false) fun v127 => (ob (unPV Try.prog .not v127) fun v128 => (cb v128 (kr (.sc (.bool false))) (ob ((lenPV Try.prog 32 v118).map fun n => .sc (goInt n)) fun v129 => (X1 v0 v1 v2 v3 v4 v5 v118 v129 (.sc (.int Go.IntKind.i64 0)) v115)))))))) (kr (.sc (.bool false))) none)))) (kr (.sc (.bool false))) none))))))))) (ke0)))
noncomputable def d4_2 {R : Type} (C : Kallee) (L : Nat) (kr : PV → Option R) (ke0 : Option R) (kg : PV → PV → PV → PV → PV → PV → Option R) (v0 : PV) (v1 : PV) (v2 : PV) (v3 : PV) (v4 : PV) (v5 : PV) : Option R := g4_2 C (fun v0 v1 v2 v3 v4 v5 v6 v7 v8 v9 => d4_3 C L (fun v0 v1 => (kr v0)) (fun v0 v1 v2 v3 v4 v5 v6 => d4_5 C L kr kg v0 v1 v2 v3 v4 v5 v6) v0 v1 v2 v3 v4 v5 v6 v7 v8 v9) kr ke0 kg v0 v1 v2 v3 v4 v5
theorem e4_2 {R : Type} (C : Kallee) (L : Nat) (k : Ex → Env → Store → Option R) (gg : Env → Store → Option R) (v0 : PV) (v1 : PV) (v2 : PV) (v3 : PV) (v4 : PV) (v5 : PV) : execR Try.prog C hh L 4 (cAt (bodyOf Try.f4) [1, 1, 0, 1, 0, 0]) (Env.lay .nil [0, 1, 2, 27, 28, 29] [(.pv v0), (.pv v1), (.pv v2), (.pv v3), (.pv v4), (.pv v5)]) [] (loopK gg [0, 1, 2, 27, 28, 29] 0 (prune (some ⟨[0, 1, 2, 27, 28, 29], [], [(0, [])], [6]⟩) 0 k)) = d4_2 C L (fun v0 => k .ret (Env.lay .nil [6] [(.pv v0)]) []) (k (.exit 0) (Env.lay .nil [] []) []) (fun v0 v1 v2 v3 v4 v5 => gg (Env.lay .nil [0, 1, 2, 27, 28, 29] [(.pv v0), (.pv v1), (.pv v2), (.pv v3), (.pv v4), (.pv v5)]) []) v0 v1 v2 v3 v4 v5 :=
  Eq.trans (b := g4_2 C (fun v0 v1 v2 v3 v4 v5 v6 v7 v8 v9 => execR Try.prog C hh L 4 (cAt (bodyOf Try.f4) [1, 1, 0, 1, 0, 0, 1, 1, 0, 0, 1, 1, 1, 0, 1, 0]) (Env.lay .nil [0, 1, 2, 8, 27, 28, 29, 59, 60, 61] [(.pv v0), (.pv v1), (.pv v2), (.ptr 0 0 0), (.pv v3), (.pv v4), (.pv v5), (.pv v6), (.pv v7), (.pv v8)]) [.var 4 (.pv v9)] (leaveB 2 (nextT Try.prog C hh L 4 (cAt (bodyOf Try.f4) [1, 1, 0, 1, 0, 0, 1, 1, 0, 0, 1, 1, 1, 1]) (leaveB 1 (nextT Try.prog C hh L 4 (cAt (bodyOf Try.f4) [1, 1, 0, 1, 0, 0, 1, 1, 1]) (loopK gg [0, 1, 2, 27, 28, 29] 0 (prune (some ⟨[0, 1, 2, 27, 28, 29], [], [(0, [])], [6]⟩) 0 k))))))) (fun v0 => k .ret (Env.lay .nil [6] [(.pv v0)]) []) (k (.exit 0) (Env.lay .nil [] []) []) (fun v0 v1 v2 v3 v4 v5 => gg (Env.lay .nil [0, 1, 2, 27, 28, 29] [(.pv v0), (.pv v1), (.pv v2), (.pv v3), (.pv v4), (.pv v5)]) []) v0 v1 v2 v3 v4 v5) (by kernel_rfl) (cg1 (fun X1 => g4_2 C X1 (fun v0 => k .ret (Env.lay .nil [6] [(.pv v0)]) []) (k (.exit 0) (Env.lay .nil [] []) []) (fun v0 v1 v2 v3 v4 v5 => gg (Env.lay .nil [0, 1, 2, 27, 28, 29] [(.pv v0), (.pv v1), (.pv v2), (.pv v3), (.pv v4), (.pv v5)]) []) v0 v1 v2 v3 v4 v5) (funext fun v0 => funext fun v1 => funext fun v2 => funext fun v3 => funext fun v4 => funext fun v5 => funext fun v6 => funext fun v7 => funext fun v8 => funext fun v9 => Eq.trans (e4_3 C L (leaveB 2 (nextT Try.prog C hh L 4 (cAt (bodyOf Try.f4) [1, 1, 0, 1, 0, 0, 1, 1, 0, 0, 1, 1, 1, 1]) (leaveB 1 (nextT Try.prog C hh L 4 (cAt (bodyOf Try.f4) [1, 1, 0, 1, 0, 0, 1, 1, 1]) (loopK gg [0, 1, 2, 27, 28, 29] 0 (prune (some ⟨[0, 1, 2, 27, 28, 29], [], [(0, [])], [6]⟩) 0 k)))))) v0 v1 v2 v3 v4 v5 v6 v7 v8 v9) (cg2 (fun kr ke2 => d4_3 C L kr ke2 v0 v1 v2 v3 v4 v5 v6 v7 v8 v9) (funext fun v0 => funext fun v1 => (by kernel_rfl)) (funext fun v0 => funext fun v1 => funext fun v2 => funext fun v3 => funext fun v4 => funext fun v5 => funext fun v6 => (Eq.trans (b := execR Try.prog C hh L 4 (cAt (bodyOf Try.f4) [1, 1, 0, 1, 0, 0, 1, 1, 0, 0, 1, 1, 1, 1]) (Env.lay .nil [0, 1, 2, 8, 27, 28, 29] [(.pv v0), (.pv v1), (.pv v2), (.ptr 0 0 0), (.pv v3), (.pv v4), (.pv v5)]) [.var 4 (.pv v6)] (leaveB 1 (nextT Try.prog C hh L 4 (cAt (bodyOf Try.f4) [1, 1, 0, 1, 0, 0, 1, 1, 1]) (loopK gg [0, 1, 2, 27, 28, 29] 0 (prune (some ⟨[0, 1, 2, 27, 28, 29], [], [(0, [])], [6]⟩) 0 k))))) (by kernel_rfl) (e4_5 C L k gg v0 v1 v2 v3 v4 v5 v6))))))
noncomputable def d4_1i {R : Type} (C : Kallee) (L : Nat) (kr : PV → Option R) (ke0 : Option R) : Nat → PV → PV → PV → PV → PV → PV → Option R
  | 0, _, _, _, _, _, _ => none
  | N + 1, v0, v1, v2, v3, v4, v5 => d4_2 C L kr ke0 (fun v0 v1 v2 v3 v4 v5 => d4_1i C L kr ke0 N v0 v1 v2 v3 v4 v5) v0 v1 v2 v3 v4 v5
noncomputable def d4_1 {R : Type} (C : Kallee) (L : Nat) (kr : PV → Option R) (ke0 : Option R) (v0 : PV) (v1 : PV) (v2 : PV) (v3 : PV) (v4 : PV) (v5 : PV) : Option R := d4_1i C L kr ke0 L v0 v1 v2 v3 v4 v5
theorem d4_1_i {R : Type} (C : Kallee) (L : Nat) (k : Ex → Env → Store → Option R) (N : Nat) (v0 : PV) (v1 : PV) (v2 : PV) (v3 : PV) (v4 : PV) (v5 : PV) : iter (execR Try.prog C hh L 4 (cAt (bodyOf Try.f4) [1, 1, 0, 1, 0, 0])) [0, 1, 2, 27, 28, 29] 0 (prune (some ⟨[0, 1, 2, 27, 28, 29], [], [(0, [])], [6]⟩) 0 k) N (Env.lay .nil [0, 1, 2, 27, 28, 29] [(.pv v0), (.pv v1), (.pv v2), (.pv v3), (.pv v4), (.pv v5)]) [] = d4_1i C L (fun v0 => k .ret (Env.lay .nil [6] [(.pv v0)]) []) (k (.exit 0) (Env.lay .nil [] []) []) N v0 v1 v2 v3 v4 v5 := by
  induction N generalizing v0 v1 v2 v3 v4 v5 with
  | zero => rfl
  | succ N ih => exact Eq.trans (b := execR Try.prog C hh L 4 (cAt (bodyOf Try.f4) [1, 1, 0, 1, 0, 0]) (Env.lay .nil [0, 1, 2, 27, 28, 29] [(.pv v0), (.pv v1), (.pv v2), (.pv v3), (.pv v4), (.pv v5)]) [] (loopK (fun e s => iter (execR Try.prog C hh L 4 (cAt (bodyOf Try.f4) [1, 1, 0, 1, 0, 0])) [0, 1, 2, 27, 28, 29] 0 (prune (some ⟨[0, 1, 2, 27, 28, 29], [], [(0, [])], [6]⟩) 0 k) N e s) [0, 1, 2, 27, 28, 29] 0 (prune (some ⟨[0, 1, 2, 27, 28, 29], [], [(0, [])], [6]⟩) 0 k))) (by kernel_rfl) <| Eq.trans (e4_2 C L k (fun e s => iter (execR Try.prog C hh L 4 (cAt (bodyOf Try.f4) [1, 1, 0, 1, 0, 0])) [0, 1, 2, 27, 28, 29] 0 (prune (some ⟨[0, 1, 2, 27, 28, 29], [], [(0, [])], [6]⟩) 0 k) N e s) v0 v1 v2 v3 v4 v5) (congrArg (fun kg => d4_2 C L (fun v0 => k .ret (Env.lay .nil [6] [(.pv v0)]) []) (k (.exit 0) (Env.lay .nil [] []) []) kg v0 v1 v2 v3 v4 v5) (funext fun v0 => funext fun v1 => funext fun v2 => funext fun v3 => funext fun v4 => funext fun v5 => ih v0 v1 v2 v3 v4 v5))
theorem e4_1 {R : Type} (C : Kallee) (L : Nat) (k : Ex → Env → Store → Option R) (v0 : PV) (v1 : PV) (v2 : PV) (v3 : PV) (v4 : PV) (v5 : PV) : execR Try.prog C hh L 4 (cAt (bodyOf Try.f4) [1, 1, 0, 1, 0]) (Env.lay .nil [0, 1, 2, 27, 28, 29] [(.pv v0), (.pv v1), (.pv v2), (.pv v3), (.pv v4), (.pv v5)]) [] k = d4_1 C L (fun v0 => k .ret (Env.lay .nil [6] [(.pv v0)]) []) (k (.exit 0) (Env.lay .nil [] []) []) v0 v1 v2 v3 v4 v5 :=
  Eq.trans (b := iter (execR Try.prog C hh L 4 (cAt (bodyOf Try.f4) [1, 1, 0, 1, 0, 0])) [0, 1, 2, 27, 28, 29] 0 (prune (some ⟨[0, 1, 2, 27, 28, 29], [], [(0, [])], [6]⟩) 0 k) L (Env.lay .nil [0, 1, 2, 27, 28, 29] [(.pv v0), (.pv v1), (.pv v2), (.pv v3), (.pv v4), (.pv v5)]) []) (by kernel_rfl) (d4_1_i C L k L v0 v1 v2 v3 v4 v5)
noncomputable def d4_6 (C : Kallee) (L : Nat)   : Option PV := (ob (callD C.pure (.clo 6 [] []) [] false) fun v160 => (some v160))
theorem e4_6 (C : Kallee) (L : Nat)  : execR Try.prog C hh L 4 (cAt (bodyOf Try.f4) [1, 1, 1]) (Env.lay .nil [] []) [] (endP Try.prog Try.f4) = d4_6 C L := by kernel_rfl
noncomputable def g4_0 (C : Kallee) (X1 : PV → PV → PV → PV → PV → PV → Option PV)  (v0 : PV) (v1 : PV) (v2 : PV) : Option PV := (ob ((lenPV Try.prog 24 v0).map fun n => .sc (goInt n)) fun v104 => (ob (binPV Try.prog .gtr 3 (.tmp 14) (.const (.int Go.IntKind.i64 60)) v104 (.sc (.int Go.IntKind.i64 60))) fun v105 => (gcase false v105 (ob ((lenPV Try.prog 32 v1).map fun n => .sc (goInt n)) fun v106 => (ob (binPV Try.prog .gtr 3 (.tmp 18) (.const (.int Go.IntKind.i64 60)) v106 (.sc (.int Go.IntKind.i64 60))) fun v107 => (gcase false v107 (ob (callD C.pure (.clo 17 [] []) [v0] false) fun v108 => (ob (unPV Try.prog .not v108) fun v109 => (cb v109 (ob (callD C.pure (.clo 6 [] []) [] false) fun v110 => (some v110)) (ob ((lenPV Try.prog 24 v0).map fun n => .sc (goInt n)) fun v111 => (X1 v0 v1 v2 v0 v111 (.sc (.int Go.IntKind.i64 0))))))) (ob (callD C.pure (.clo 6 [] []) [] false) fun v156 => (some v156)) none))) (ob (callD C.pure (.clo 6 [] []) [] false) fun v158 => (some v158)) none)))
noncomputable def d4_0 (C : Kallee) (L : Nat)  (v0 : PV) (v1 : PV) (v2 : PV) : Option PV := g4_0 C (fun v0 v1 v2 v3 v4 v5 => d4_1 C L (fun v0 => (some v0)) (d4_6 C L) v0 v1 v2 v3 v4 v5) v0 v1 v2
theorem e4_0 (C : Kallee) (L : Nat) (v0 : PV) (v1 : PV) (v2 : PV) : execR Try.prog C hh L 4 (cAt (bodyOf Try.f4) []) (Env.ofArgs [.pv v0, .pv v1, .pv v2] 0 .nil) [] (endP Try.prog Try.f4) = d4_0 C L v0 v1 v2 :=
  Eq.trans (b := g4_0 C (fun v0 v1 v2 v3 v4 v5 => execR Try.prog C hh L 4 (cAt (bodyOf Try.f4) [1, 1, 0, 1, 0]) (Env.lay .nil [0, 1, 2, 27, 28, 29] [(.pv v0), (.pv v1), (.pv v2), (.pv v3), (.pv v4), (.pv v5)]) [] (leaveB 0 (nextT Try.prog C hh L 4 (cAt (bodyOf Try.f4) [1, 1, 1]) (endP Try.prog Try.f4)))) v0 v1 v2) (by kernel_rfl) (cg1 (fun X1 => g4_0 C X1 v0 v1 v2) (funext fun v0 => funext fun v1 => funext fun v2 => funext fun v3 => funext fun v4 => funext fun v5 => Eq.trans (e4_1 C L (leaveB 0 (nextT Try.prog C hh L 4 (cAt (bodyOf Try.f4) [1, 1, 1]) (endP Try.prog Try.f4))) v0 v1 v2 v3 v4 v5) (cg2 (fun kr ke0 => d4_1 C L kr ke0 v0 v1 v2 v3 v4 v5) (funext fun v0 => (by kernel_rfl)) (Eq.trans (b := execR Try.prog C hh L 4 (cAt (bodyOf Try.f4) [1, 1, 1]) (Env.lay .nil [] []) [] (endP Try.prog Try.f4)) (by kernel_rfl) (e4_6 C L)))))
theorem r4 (C : Kallee) (L : Nat) (v0 : PV) (v1 : PV) (v2 : PV) : bodyPR Try.prog C hh L 4 [v0, v1, v2] = d4_0 C L v0 v1 v2 := Eq.trans (bodyPR_eq (c := cAt (bodyOf Try.f4) []) [v0, v1, v2] Try.func4 (by kernel_rfl) (by kernel_rfl)) (e4_0 C L v0 v1 v2)

end
end Go.Lite

namespace Go.Lite
open Go Go.Proofs
set_option maxRecDepth 1000000
set_option linter.unusedVariables false
noncomputable section
/-! ## 14: muster/parts.Admits -/
noncomputable def d14_0 (C : Kallee) (L : Nat)  (v0 : PV) (v1 : PV) (v2 : PV) : Option PV := (ck (PV.hasLay 0 v1) ((ob (callD C.pure (.clo 48 [] []) [v0, v2] false) fun v104 => (ob (extractPV v104 0) fun v105 => (ob (extractPV v104 1) fun v106 => (ob (binPV Try.prog .neq 38 (.tmp 15) (.const (.int Go.IntKind.i64 0)) v106 (.sc (.int Go.IntKind.i64 0))) fun v107 => (cb v107 (some (.sc (.bool false))) (ob ((lenPV Try.prog 32 v1).map fun n => .sc (goInt n)) fun v108 => (ob (binPV Try.prog .eql 3 (.tmp 18) (.const (.int Go.IntKind.i64 0)) v108 (.sc (.int Go.IntKind.i64 0))) fun v109 => (gcase false v109 (ob (callD C.pure (.clo 49 [] []) [v105, (.clo 50 [] [(.ro 0 v1)])] true) fun v110 => (some v110)) (some (.sc (.bool true))) none))))))))))
theorem e14_0 (C : Kallee) (L : Nat) (v0 : PV) (v1 : PV) (v2 : PV) : execR Try.prog C hh L 14 (cAt (bodyOf Try.f14) []) (Env.ofArgs [.pv v0, .pv v1, .pv v2] 0 .nil) [] (endP Try.prog Try.f14) = d14_0 C L v0 v1 v2 := by kernel_rfl
theorem r14 (C : Kallee) (L : Nat) (v0 : PV) (v1 : PV) (v2 : PV) : bodyPR Try.prog C hh L 14 [v0, v1, v2] = d14_0 C L v0 v1 v2 := Eq.trans (bodyPR_eq (c := cAt (bodyOf Try.f14) []) [v0, v1, v2] Try.func14 (by kernel_rfl) (by kernel_rfl)) (e14_0 C L v0 v1 v2)

end
end Go.Lite

namespace Go.Lite
open Go Go.Proofs
set_option maxRecDepth 1000000
set_option linter.unusedVariables false
noncomputable section
/-! ## 17: muster/tree.Right -/
noncomputable def d17_2 {R : Type} (C : Kallee) (L : Nat) (kr : PV → Option R) (kg : PV → PV → PV → PV → Option R) (ke0 : PV → Option R) (v0 : PV) (v1 : PV) (v2 : PV) (v3 : PV) : Option R := (ob (binPV Try.prog .lss 3 (.tmp 11) (.tmp 10) v3 v2) fun v104 => (cb v104 (ob (indexAddrPV Try.prog 24 v1 v3) fun v105 => (ob (loadPV Try.prog 45 v105) fun v106 => (ob (putPV 4 0 4 (.pv (.agg [(.sc (.string ⟨#[]⟩)), (.sc (.string ⟨#[]⟩)), (.sc (.int Go.IntKind.i64 0))])) v106) fun v107 => (ob (slicePVd Try.prog 24 v0 none (some v3) none) fun v108 => (ob (PV.at_ 4 0 0 v107) fun v109 => (ob (callD C.pure (.clo 40 [] []) [v108, v109] false) fun v110 => (ob (extractPV v110 0) fun v111 => (ob (extractPV v110 1) fun v112 => (ob (slicePVd Try.prog 24 v0 none (some v3) none) fun v113 => (ob (PV.at_ 4 1 0 v107) fun v114 => (ob (callD C.pure (.clo 40 [] []) [v113, v114] false) fun v115 => (ob (extractPV v115 0) fun v116 => (ob (extractPV v115 1) fun v117 => (gcase false v112 (ob (PV.at_ 4 0 0 v107) fun v118 => (ob (callD C.pure (.clo 30 [] []) [v118] false) fun v119 => (ob (unPV Try.prog .not v119) fun v120 => (gcase false v120 (ob (unPV Try.prog .not v117) fun v121 => (gcase true v121 (ob (PV.at_ 4 1 0 v107) fun v122 => (ob (binPV Try.prog .neq 9 (.tmp 46) (.const (.string ⟨#[]⟩)) v122 (.sc (.string ⟨#[]⟩))) fun v123 => (gcase false v123 (ob (PV.at_ 4 2 0 v107) fun v124 => (ob (binPV Try.prog .lss 3 (.tmp 52) (.const (.int Go.IntKind.i64 (-1))) v124 (.sc (.int Go.IntKind.i64 (-1)))) fun v125 => (gcase false v125 (ob (PV.at_ 4 2 0 v107) fun v126 => (ob (binPV Try.prog .gtr 3 (.tmp 57) (.const (.int Go.IntKind.i64 1073741824)) v126 (.sc (.int Go.IntKind.i64 1073741824))) fun v127 => (cb v127 (kr (.sc (.bool false))) (ob (binPV Try.prog .add 3 (.tmp 11) (.const (.int Go.IntKind.i64 1)) v3 (.sc (.int Go.IntKind.i64 1))) fun v128 => (kg v0 v1 v2 v128))))) (kr (.sc (.bool false))) none))) (kr (.sc (.bool false))) none))) (ob (PV.at_ 4 2 0 v107) fun v131 => (ob (binPV Try.prog .lss 3 (.tmp 52) (.const (.int Go.IntKind.i64 (-1))) v131 (.sc (.int Go.IntKind.i64 (-1)))) fun v132 => (gcase false v132 (ob (PV.at_ 4 2 0 v107) fun v133 => (ob (binPV Try.prog .gtr 3 (.tmp 57) (.const (.int Go.IntKind.i64 1073741824)) v133 (.sc (.int Go.IntKind.i64 1073741824))) fun v134 => (cb v134 (kr (.sc (.bool false))) (ob (binPV Try.prog .add 3 (.tmp 11) (.const (.int Go.IntKind.i64 1)) v3 (.sc (.int Go.IntKind.i64 1))) fun v135 => (kg v0 v1 v2 v135))))) (kr (.sc (.bool false))) none))) none)) (kr (.sc (.bool false))) none)))) (kr (.sc (.bool false))) none)))))))))))))) (ke0 v0)))
theorem e17_2 {R : Type} (C : Kallee) (L : Nat) (k : Ex → Env → Store → Option R) (gg : Env → Store → Option R) (v0 : PV) (v1 : PV) (v2 : PV) (v3 : PV) : execR Try.prog C hh L 17 (cAt (bodyOf Try.f17) [1, 0, 1, 0, 0]) (Env.lay .nil [0, 9, 10, 11] [(.pv v0), (.pv v1), (.pv v2), (.pv v3)]) [] (loopK gg [0, 9, 10, 11] 0 (prune (some ⟨[0, 9, 10, 11], [], [(0, [0])], [2]⟩) 0 k)) = d17_2 C L (fun v0 => k .ret (Env.lay .nil [2] [(.pv v0)]) []) (fun v0 v1 v2 v3 => gg (Env.lay .nil [0, 9, 10, 11] [(.pv v0), (.pv v1), (.pv v2), (.pv v3)]) []) (fun v0 => k (.exit 0) (Env.lay .nil [0] [(.pv v0)]) []) v0 v1 v2 v3 := by kernel_rfl
noncomputable def d17_1i {R : Type} (C : Kallee) (L : Nat) (kr : PV → Option R) (ke0 : PV → Option R) : Nat → PV → PV → PV → PV → Option R
  | 0, _, _, _, _ => none
  | N + 1, v0, v1, v2, v3 => d17_2 C L kr (fun v0 v1 v2 v3 => d17_1i C L kr ke0 N v0 v1 v2 v3) ke0 v0 v1 v2 v3
noncomputable def d17_1 {R : Type} (C : Kallee) (L : Nat) (kr : PV → Option R) (ke0 : PV → Option R) (v0 : PV) (v1 : PV) (v2 : PV) (v3 : PV) : Option R := d17_1i C L kr ke0 L v0 v1 v2 v3
theorem d17_1_i {R : Type} (C : Kallee) (L : Nat) (k : Ex → Env → Store → Option R) (N : Nat) (v0 : PV) (v1 : PV) (v2 : PV) (v3 : PV) : iter (execR Try.prog C hh L 17 (cAt (bodyOf Try.f17) [1, 0, 1, 0, 0])) [0, 9, 10, 11] 0 (prune (some ⟨[0, 9, 10, 11], [], [(0, [0])], [2]⟩) 0 k) N (Env.lay .nil [0, 9, 10, 11] [(.pv v0), (.pv v1), (.pv v2), (.pv v3)]) [] = d17_1i C L (fun v0 => k .ret (Env.lay .nil [2] [(.pv v0)]) []) (fun v0 => k (.exit 0) (Env.lay .nil [0] [(.pv v0)]) []) N v0 v1 v2 v3 := by
  induction N generalizing v0 v1 v2 v3 with
  | zero => rfl
  | succ N ih => exact Eq.trans (b := execR Try.prog C hh L 17 (cAt (bodyOf Try.f17) [1, 0, 1, 0, 0]) (Env.lay .nil [0, 9, 10, 11] [(.pv v0), (.pv v1), (.pv v2), (.pv v3)]) [] (loopK (fun e s => iter (execR Try.prog C hh L 17 (cAt (bodyOf Try.f17) [1, 0, 1, 0, 0])) [0, 9, 10, 11] 0 (prune (some ⟨[0, 9, 10, 11], [], [(0, [0])], [2]⟩) 0 k) N e s) [0, 9, 10, 11] 0 (prune (some ⟨[0, 9, 10, 11], [], [(0, [0])], [2]⟩) 0 k))) (by kernel_rfl) <| Eq.trans (e17_2 C L k (fun e s => iter (execR Try.prog C hh L 17 (cAt (bodyOf Try.f17) [1, 0, 1, 0, 0])) [0, 9, 10, 11] 0 (prune (some ⟨[0, 9, 10, 11], [], [(0, [0])], [2]⟩) 0 k) N e s) v0 v1 v2 v3) (congrArg (fun kg => d17_2 C L (fun v0 => k .ret (Env.lay .nil [2] [(.pv v0)]) []) kg (fun v0 => k (.exit 0) (Env.lay .nil [0] [(.pv v0)]) []) v0 v1 v2 v3) (funext fun v0 => funext fun v1 => funext fun v2 => funext fun v3 => ih v0 v1 v2 v3))
theorem e17_1 {R : Type} (C : Kallee) (L : Nat) (k : Ex → Env → Store → Option R) (v0 : PV) (v1 : PV) (v2 : PV) (v3 : PV) : execR Try.prog C hh L 17 (cAt (bodyOf Try.f17) [1, 0, 1, 0]) (Env.lay .nil [0, 9, 10, 11] [(.pv v0), (.pv v1), (.pv v2), (.pv v3)]) [] k = d17_1 C L (fun v0 => k .ret (Env.lay .nil [2] [(.pv v0)]) []) (fun v0 => k (.exit 0) (Env.lay .nil [0] [(.pv v0)]) []) v0 v1 v2 v3 :=
  Eq.trans (b := iter (execR Try.prog C hh L 17 (cAt (bodyOf Try.f17) [1, 0, 1, 0, 0])) [0, 9, 10, 11] 0 (prune (some ⟨[0, 9, 10, 11], [], [(0, [0])], [2]⟩) 0 k) L (Env.lay .nil [0, 9, 10, 11] [(.pv v0), (.pv v1), (.pv v2), (.pv v3)]) []) (by kernel_rfl) (d17_1_i C L k L v0 v1 v2 v3)
noncomputable def d17_3 (C : Kallee) (L : Nat)  (v0 : PV) : Option PV := (ob ((lenPV Try.prog 24 v0).map fun n => .sc (goInt n)) fun v140 => (ob (binPV Try.prog .geq 3 (.tmp 62) (.const (.int Go.IntKind.i64 1)) v140 (.sc (.int Go.IntKind.i64 1))) fun v141 => (gcase true v141 (ob ((lenPV Try.prog 24 v0).map fun n => .sc (goInt n)) fun v142 => (ob (binPV Try.prog .leq 3 (.tmp 66) (.const (.int Go.IntKind.i64 16)) v142 (.sc (.int Go.IntKind.i64 16))) fun v143 => (some v143))) (some (.sc (.bool false))) none)))
theorem e17_3 (C : Kallee) (L : Nat) (v0 : PV) : execR Try.prog C hh L 17 (cAt (bodyOf Try.f17) [1, 1]) (Env.lay .nil [0] [(.pv v0)]) [] (endP Try.prog Try.f17) = d17_3 C L v0 := by kernel_rfl
noncomputable def g17_0 (C : Kallee) (X1 : PV → PV → PV → PV → Option PV)  (v0 : PV) : Option PV := (ob ((lenPV Try.prog 24 v0).map fun n => .sc (goInt n)) fun v102 => (X1 v0 v0 v102 (.sc (.int Go.IntKind.i64 0))))
noncomputable def d17_0 (C : Kallee) (L : Nat)  (v0 : PV) : Option PV := g17_0 C (fun v0 v1 v2 v3 => d17_1 C L (fun v0 => (some v0)) (fun v0 => d17_3 C L v0) v0 v1 v2 v3) v0
theorem e17_0 (C : Kallee) (L : Nat) (v0 : PV) : execR Try.prog C hh L 17 (cAt (bodyOf Try.f17) []) (Env.ofArgs [.pv v0] 0 .nil) [] (endP Try.prog Try.f17) = d17_0 C L v0 :=
  Eq.trans (b := g17_0 C (fun v0 v1 v2 v3 => execR Try.prog C hh L 17 (cAt (bodyOf Try.f17) [1, 0, 1, 0]) (Env.lay .nil [0, 9, 10, 11] [(.pv v0), (.pv v1), (.pv v2), (.pv v3)]) [] (leaveB 0 (nextT Try.prog C hh L 17 (cAt (bodyOf Try.f17) [1, 1]) (endP Try.prog Try.f17)))) v0) (by kernel_rfl) (cg1 (fun X1 => g17_0 C X1 v0) (funext fun v0 => funext fun v1 => funext fun v2 => funext fun v3 => Eq.trans (e17_1 C L (leaveB 0 (nextT Try.prog C hh L 17 (cAt (bodyOf Try.f17) [1, 1]) (endP Try.prog Try.f17))) v0 v1 v2 v3) (cg2 (fun kr ke0 => d17_1 C L kr ke0 v0 v1 v2 v3) (funext fun v0 => (by kernel_rfl)) (funext fun v0 => (Eq.trans (b := execR Try.prog C hh L 17 (cAt (bodyOf Try.f17) [1, 1]) (Env.lay .nil [0] [(.pv v0)]) [] (endP Try.prog Try.f17)) (by kernel_rfl) (e17_3 C L v0))))))
theorem r17 (C : Kallee) (L : Nat) (v0 : PV) : bodyPR Try.prog C hh L 17 [v0] = d17_0 C L v0 := Eq.trans (bodyPR_eq (c := cAt (bodyOf Try.f17) []) [v0] Try.func17 (by kernel_rfl) (by kernel_rfl)) (e17_0 C L v0)

end
end Go.Lite

namespace Go.Lite
open Go Go.Proofs
set_option maxRecDepth 1000000
set_option linter.unusedVariables false
noncomputable section
/-! ## 18: muster/tree.Below -/
noncomputable def d18_2 {R : Type} (C : Kallee) (L : Nat) (kg : PV → PV → PV → PV → PV → List PV → Option R) (ke0 : List PV → Option R) (v0 : PV) (v1 : PV) (v2 : PV) (v3 : PV) (v4 : PV) (x5 : List PV) : Option R := (ob (binPV Try.prog .lss 3 (.tmp 22) (.tmp 21) v4 v3) fun v108 => (cb v108 (ob (indexAddrPV Try.prog 24 v2 v4) fun v109 => (ob (loadPV Try.prog 45 v109) fun v110 => (ob (putPV 4 0 4 (.pv (.agg [(.sc (.string ⟨#[]⟩)), (.sc (.string ⟨#[]⟩)), (.sc (.int Go.IntKind.i64 0))])) v110) fun v111 => (ob (callD C.pure (.clo 59 [] []) [v0, v4] false) fun v112 => (ob (callD C.pure (.clo 51 [] []) [v112, v1] false) fun v113 => (cb v113 (ob (PV.at_ 4 0 0 v111) fun v114 => (ob (buildSliceAV Try.prog 32 1 [(0, v114)]) fun v115 => (oxs (appendTo Try.prog 32 32 0 x5 v115) fun x116 => (ob (binPV Try.prog .add 3 (.tmp 22) (.const (.int Go.IntKind.i64 1)) v4 (.sc (.int Go.IntKind.i64 1))) fun v117 => (kg v0 v1 v2 v3 v117 x116))))) (ob (binPV Try.prog .add 3 (.tmp 22) (.const (.int Go.IntKind.i64 1)) v4 (.sc (.int Go.IntKind.i64 1))) fun v118 => (kg v0 v1 v2 v3 v118 x5)))))))) (ke0 x5)))
theorem e18_2 {R : Type} (C : Kallee) (L : Nat) (k : Ex → Env → Store → Option R) (gg : Env → Store → Option R) (v0 : PV) (v1 : PV) (v2 : PV) (v3 : PV) (v4 : PV) (x5 : List PV) : execR Try.prog C hh L 18 (cAt (bodyOf Try.f18) [1, 1, 1, 0, 1, 0, 0]) (Env.lay .nil [0, 1, 8, 20, 21, 22] [(.pv v0), (.pv v1), (.arr 0), (.pv v2), (.pv v3), (.pv v4)]) [.arr 0 false x5] (loopK gg [0, 1, 8, 20, 21, 22] 1 (prune (some ⟨[0, 1, 8, 20, 21, 22], [], [(0, [8])], []⟩) 1 k)) = d18_2 C L (fun v0 v1 v2 v3 v4 x5 => gg (Env.lay .nil [0, 1, 8, 20, 21, 22] [(.pv v0), (.pv v1), (.arr 0), (.pv v2), (.pv v3), (.pv v4)]) [.arr 0 false x5]) (fun x0 => k (.exit 0) (Env.lay .nil [8] [(.arr 0)]) [.arr 0 false x0]) v0 v1 v2 v3 v4 x5 := by kernel_rfl
noncomputable def d18_1i {R : Type} (C : Kallee) (L : Nat) (ke0 : List PV → Option R) : Nat → PV → PV → PV → PV → PV → List PV → Option R
  | 0, _, _, _, _, _, _ => none
  | N + 1, v0, v1, v2, v3, v4, x5 => d18_2 C L (fun v0 v1 v2 v3 v4 x5 => d18_1i C L ke0 N v0 v1 v2 v3 v4 x5) ke0 v0 v1 v2 v3 v4 x5
noncomputable def d18_1 {R : Type} (C : Kallee) (L : Nat) (ke0 : List PV → Option R) (v0 : PV) (v1 : PV) (v2 : PV) (v3 : PV) (v4 : PV) (x5 : List PV) : Option R := d18_1i C L ke0 L v0 v1 v2 v3 v4 x5
theorem d18_1_i {R : Type} (C : Kallee) (L : Nat) (k : Ex → Env → Store → Option R) (N : Nat) (v0 : PV) (v1 : PV) (v2 : PV) (v3 : PV) (v4 : PV) (x5 : List PV) : iter (execR Try.prog C hh L 18 (cAt (bodyOf Try.f18) [1, 1, 1, 0, 1, 0, 0])) [0, 1, 8, 20, 21, 22] 1 (prune (some ⟨[0, 1, 8, 20, 21, 22], [], [(0, [8])], []⟩) 1 k) N (Env.lay .nil [0, 1, 8, 20, 21, 22] [(.pv v0), (.pv v1), (.arr 0), (.pv v2), (.pv v3), (.pv v4)]) [.arr 0 false x5] = d18_1i C L (fun x0 => k (.exit 0) (Env.lay .nil [8] [(.arr 0)]) [.arr 0 false x0]) N v0 v1 v2 v3 v4 x5 := by
  induction N generalizing v0 v1 v2 v3 v4 x5 with
  | zero => rfl
  | succ N ih => exact Eq.trans (b := execR Try.prog C hh L 18 (cAt (bodyOf Try.f18) [1, 1, 1, 0, 1, 0, 0]) (Env.lay .nil [0, 1, 8, 20, 21, 22] [(.pv v0), (.pv v1), (.arr 0), (.pv v2), (.pv v3), (.pv v4)]) [.arr 0 false x5] (loopK (fun e s => iter (execR Try.prog C hh L 18 (cAt (bodyOf Try.f18) [1, 1, 1, 0, 1, 0, 0])) [0, 1, 8, 20, 21, 22] 1 (prune (some ⟨[0, 1, 8, 20, 21, 22], [], [(0, [8])], []⟩) 1 k) N e s) [0, 1, 8, 20, 21, 22] 1 (prune (some ⟨[0, 1, 8, 20, 21, 22], [], [(0, [8])], []⟩) 1 k))) (by kernel_rfl) <| Eq.trans (e18_2 C L k (fun e s => iter (execR Try.prog C hh L 18 (cAt (bodyOf Try.f18) [1, 1, 1, 0, 1, 0, 0])) [0, 1, 8, 20, 21, 22] 1 (prune (some ⟨[0, 1, 8, 20, 21, 22], [], [(0, [8])], []⟩) 1 k) N e s) v0 v1 v2 v3 v4 x5) (congrArg (fun kg => d18_2 C L kg (fun x0 => k (.exit 0) (Env.lay .nil [8] [(.arr 0)]) [.arr 0 false x0]) v0 v1 v2 v3 v4 x5) (funext fun v0 => funext fun v1 => funext fun v2 => funext fun v3 => funext fun v4 => funext fun x5 => ih v0 v1 v2 v3 v4 x5))
theorem e18_1 {R : Type} (C : Kallee) (L : Nat) (k : Ex → Env → Store → Option R) (v0 : PV) (v1 : PV) (v2 : PV) (v3 : PV) (v4 : PV) (x5 : List PV) : execR Try.prog C hh L 18 (cAt (bodyOf Try.f18) [1, 1, 1, 0, 1, 0]) (Env.lay .nil [0, 1, 8, 20, 21, 22] [(.pv v0), (.pv v1), (.arr 0), (.pv v2), (.pv v3), (.pv v4)]) [.arr 0 false x5] k = d18_1 C L (fun x0 => k (.exit 0) (Env.lay .nil [8] [(.arr 0)]) [.arr 0 false x0]) v0 v1 v2 v3 v4 x5 :=
  Eq.trans (b := iter (execR Try.prog C hh L 18 (cAt (bodyOf Try.f18) [1, 1, 1, 0, 1, 0, 0])) [0, 1, 8, 20, 21, 22] 1 (prune (some ⟨[0, 1, 8, 20, 21, 22], [], [(0, [8])], []⟩) 1 k) L (Env.lay .nil [0, 1, 8, 20, 21, 22] [(.pv v0), (.pv v1), (.arr 0), (.pv v2), (.pv v3), (.pv v4)]) [.arr 0 false x5]) (by kernel_rfl) (d18_1_i C L k L v0 v1 v2 v3 v4 x5)
noncomputable def d18_3 (C : Kallee) (L : Nat)  (x0 : List PV) : Option PV := (some (.tup [(.list 0 false x0), (.sc (.int Go.IntKind.i64 0))]))
theorem e18_3 (C : Kallee) (L : Nat) (x0 : List PV) : execR Try.prog C hh L 18 (cAt (bodyOf Try.f18) [1, 1, 1, 1]) (Env.lay .nil [8] [(.arr 0)]) [.arr 0 false x0] (endP Try.prog Try.f18) = d18_3 C L x0 := by kernel_rfl
noncomputable def g18_0 (C : Kallee) (X1 : PV → PV → PV → PV → PV → List PV → Option PV)  (v0 : PV) (v1 : PV) : Option PV := (ob (callD C.pure (.clo 58 [] []) [v0, v1] false) fun v103 => (ob (extractPV v103 0) fun v104 => (ob (extractPV v103 1) fun v105 => (ob (binPV Try.prog .neq 38 (.tmp 17) (.const (.int Go.IntKind.i64 0)) v105 (.sc (.int Go.IntKind.i64 0))) fun v106 => (cb v106 (some (.tup [(.sc (.slice none 0 0)), v105])) (ob ((lenPV Try.prog 24 v0).map fun n => .sc (goInt n)) fun v107 => (X1 v0 v1 v0 v107 (.sc (.int Go.IntKind.i64 0)) [])))))))
noncomputable def d18_0 (C : Kallee) (L : Nat)  (v0 : PV) (v1 : PV) : Option PV := g18_0 C (fun v0 v1 v2 v3 v4 x5 => d18_1 C L (fun x0 => d18_3 C L x0) v0 v1 v2 v3 v4 x5) v0 v1
theorem e18_0 (C : Kallee) (L : Nat) (v0 : PV) (v1 : PV) : execR Try.prog C hh L 18 (cAt (bodyOf Try.f18) []) (Env.ofArgs [.pv v0, .pv v1] 0 .nil) [] (endP Try.prog Try.f18) = d18_0 C L v0 v1 :=
  Eq.trans (b := g18_0 C (fun v0 v1 v2 v3 v4 x5 => execR Try.prog C hh L 18 (cAt (bodyOf Try.f18) [1, 1, 1, 0, 1, 0]) (Env.lay .nil [0, 1, 8, 20, 21, 22] [(.pv v0), (.pv v1), (.arr 0), (.pv v2), (.pv v3), (.pv v4)]) [.arr 0 false x5] (leaveB 0 (nextT Try.prog C hh L 18 (cAt (bodyOf Try.f18) [1, 1, 1, 1]) (endP Try.prog Try.f18)))) v0 v1) (by kernel_rfl) (cg1 (fun X1 => g18_0 C X1 v0 v1) (funext fun v0 => funext fun v1 => funext fun v2 => funext fun v3 => funext fun v4 => funext fun x5 => Eq.trans (e18_1 C L (leaveB 0 (nextT Try.prog C hh L 18 (cAt (bodyOf Try.f18) [1, 1, 1, 1]) (endP Try.prog Try.f18))) v0 v1 v2 v3 v4 x5) (cg1 (fun ke0 => d18_1 C L ke0 v0 v1 v2 v3 v4 x5) (funext fun x0 => (Eq.trans (b := execR Try.prog C hh L 18 (cAt (bodyOf Try.f18) [1, 1, 1, 1]) (Env.lay .nil [8] [(.arr 0)]) [.arr 0 false x0] (endP Try.prog Try.f18)) (by kernel_rfl) (e18_3 C L x0))))))
theorem r18 (C : Kallee) (L : Nat) (v0 : PV) (v1 : PV) : bodyPR Try.prog C hh L 18 [v0, v1] = d18_0 C L v0 v1 := Eq.trans (bodyPR_eq (c := cAt (bodyOf Try.f18) []) [v0, v1] Try.func18 (by kernel_rfl) (by kernel_rfl)) (e18_0 C L v0 v1)

end
end Go.Lite

namespace Go.Lite
open Go Go.Proofs
set_option maxRecDepth 1000000
set_option linter.unusedVariables false
noncomputable section
/-! ## 30: muster/tree.Name -/
noncomputable def d30_0 (C : Kallee) (L : Nat)  (v0 : PV) : Option PV := (ob (binPV Try.prog .eql 9 (.tmp 3) (.const (.string ⟨#[]⟩)) v0 (.sc (.string ⟨#[]⟩))) fun v102 => (gcase false v102 (ob ((lenPV Try.prog 9 v0).map fun n => .sc (goInt n)) fun v103 => (ob (binPV Try.prog .gtr 3 (.tmp 7) (.const (.int Go.IntKind.i64 16)) v103 (.sc (.int Go.IntKind.i64 16))) fun v104 => (gcase false v104 (ob (indexPV Try.prog 9 v0 (.sc (.int Go.IntKind.i64 0))) fun v105 => (ob (binPV Try.prog .lss 5 (.tmp 12) (.const (.int Go.IntKind.u8 97)) v105 (.sc (.int Go.IntKind.u8 97))) fun v106 => (gcase false v106 (ob (indexPV Try.prog 9 v0 (.sc (.int Go.IntKind.i64 0))) fun v107 => (ob (binPV Try.prog .gtr 5 (.tmp 17) (.const (.int Go.IntKind.u8 122)) v107 (.sc (.int Go.IntKind.u8 122))) fun v108 => (cb v108 (some (.sc (.bool false))) (ob (callD C.pure (.clo 64 [] []) [v0, (.clo 65 [] [])] false) fun v109 => (ob (unPV Try.prog .not v109) fun v110 => (some v110)))))) (some (.sc (.bool false))) none))) (some (.sc (.bool false))) none))) (some (.sc (.bool false))) none))
theorem e30_0 (C : Kallee) (L : Nat) (v0 : PV) : execR Try.prog C hh L 30 (cAt (bodyOf Try.f30) []) (Env.ofArgs [.pv v0] 0 .nil) [] (endP Try.prog Try.f30) = d30_0 C L v0 := by kernel_rfl
theorem r30 (C : Kallee) (L : Nat) (v0 : PV) : bodyPR Try.prog C hh L 30 [v0] = d30_0 C L v0 := Eq.trans (bodyPR_eq (c := cAt (bodyOf Try.f30) []) [v0] Try.func30 (by kernel_rfl) (by kernel_rfl)) (e30_0 C L v0)

end
end Go.Lite

namespace Go.Lite
open Go Go.Proofs
set_option maxRecDepth 1000000
set_option linter.unusedVariables false
noncomputable section
/-! ## 40: muster/tree.Find -/
noncomputable def d40_0 (C : Kallee) (L : Nat)  (v0 : PV) (v1 : PV) : Option PV := (ck (PV.hasLay 0 v1) ((ob (callD C.pure (.clo 73 [] []) [v0, (.clo 74 [] [(.ro 0 v1)])] true) fun v103 => (ob (extractPV v103 0) fun v104 => (ob (extractPV v103 1) fun v105 => (some (.tup [v104, v105])))))))
theorem e40_0 (C : Kallee) (L : Nat) (v0 : PV) (v1 : PV) : execR Try.prog C hh L 40 (cAt (bodyOf Try.f40) []) (Env.ofArgs [.pv v0, .pv v1] 0 .nil) [] (endP Try.prog Try.f40) = d40_0 C L v0 v1 := by kernel_rfl
theorem r40 (C : Kallee) (L : Nat) (v0 : PV) (v1 : PV) : bodyPR Try.prog C hh L 40 [v0, v1] = d40_0 C L v0 v1 := Eq.trans (bodyPR_eq (c := cAt (bodyOf Try.f40) []) [v0, v1] Try.func40 (by kernel_rfl) (by kernel_rfl)) (e40_0 C L v0 v1)

end
end Go.Lite

namespace Go.Lite
open Go Go.Proofs
set_option maxRecDepth 1000000
set_option linter.unusedVariables false
noncomputable section
/-! ## 48: muster/tree.Path -/
noncomputable def d48_0 (C : Kallee) (L : Nat)  (v0 : PV) (v1 : PV) : Option PV := (ob (callD C.pure (.clo 58 [] []) [v0, v1] false) fun v103 => (ob (extractPV v103 0) fun v104 => (ob (extractPV v103 1) fun v105 => (ob (binPV Try.prog .neq 38 (.tmp 14) (.const (.int Go.IntKind.i64 0)) v105 (.sc (.int Go.IntKind.i64 0))) fun v106 => (cb v106 (some (.tup [(.sc (.slice none 0 0)), v105])) (ob (callD C.pure (.clo 59 [] []) [v0, v104] false) fun v107 => (some (.tup [v107, (.sc (.int Go.IntKind.i64 0))]))))))))
theorem e48_0 (C : Kallee) (L : Nat) (v0 : PV) (v1 : PV) : execR Try.prog C hh L 48 (cAt (bodyOf Try.f48) []) (Env.ofArgs [.pv v0, .pv v1] 0 .nil) [] (endP Try.prog Try.f48) = d48_0 C L v0 v1 := by kernel_rfl
theorem r48 (C : Kallee) (L : Nat) (v0 : PV) (v1 : PV) : bodyPR Try.prog C hh L 48 [v0, v1] = d48_0 C L v0 v1 := Eq.trans (bodyPR_eq (c := cAt (bodyOf Try.f48) []) [v0, v1] Try.func48 (by kernel_rfl) (by kernel_rfl)) (e48_0 C L v0 v1)

end
end Go.Lite

namespace Go.Lite
open Go Go.Proofs
set_option maxRecDepth 1000000
set_option linter.unusedVariables false
noncomputable section
/-! ## 49: slices.ContainsFunc[[]string,string] -/
noncomputable def d49_0 (C : Kallee) (L : Nat)  (v0 : PV) (v1 : PV) : Option PV := (ob (callD C.pure (.clo 79 [] []) [v0, v1] false) fun v103 => (ob (binPV Try.prog .geq 3 (.tmp 7) (.const (.int Go.IntKind.i64 0)) v103 (.sc (.int Go.IntKind.i64 0))) fun v104 => (some v104)))
theorem e49_0 (C : Kallee) (L : Nat) (v0 : PV) (v1 : PV) : execR Try.prog C hh L 49 (cAt (bodyOf Try.f49) []) (Env.ofArgs [.pv v0, .pv v1] 0 .nil) [] (endP Try.prog Try.f49) = d49_0 C L v0 v1 := by kernel_rfl
theorem r49 (C : Kallee) (L : Nat) (v0 : PV) (v1 : PV) : bodyPR Try.prog C hh L 49 [v0, v1] = d49_0 C L v0 v1 := Eq.trans (bodyPR_eq (c := cAt (bodyOf Try.f49) []) [v0, v1] Try.func49 (by kernel_rfl) (by kernel_rfl)) (e49_0 C L v0 v1)

end
end Go.Lite

namespace Go.Lite
open Go Go.Proofs
set_option maxRecDepth 1000000
set_option linter.unusedVariables false
noncomputable section
/-! ## 50: muster/parts.Admits$1 -/
noncomputable def d50_0 (C : Kallee) (L : Nat)  (v0 : PV) (v1 : PV) : Option PV := (ob (loadPV Try.prog 32 v1) fun v103 => (ob (callD C.pure (.clo 51 [] []) [v103, v0] false) fun v104 => (some v104)))
theorem e50_0 (C : Kallee) (L : Nat) (v0 : PV) (v1 : PV) : execR Try.prog C hh L 50 (cAt (bodyOf Try.f50) []) (Env.ofArgs [.pv v0, .pv v1] 0 .nil) [] (endP Try.prog Try.f50) = d50_0 C L v0 v1 := by kernel_rfl
theorem r50 (C : Kallee) (L : Nat) (v0 : PV) (v1 : PV) : bodyPR Try.prog C hh L 50 [v0, v1] = d50_0 C L v0 v1 := Eq.trans (bodyPR_eq (c := cAt (bodyOf Try.f50) []) [v0, v1] Try.func50 (by kernel_rfl) (by kernel_rfl)) (e50_0 C L v0 v1)

end
end Go.Lite

namespace Go.Lite
open Go Go.Proofs
set_option maxRecDepth 1000000
set_option linter.unusedVariables false
noncomputable section
/-! ## 51: slices.Contains[[]string,string] -/
noncomputable def d51_0 (C : Kallee) (L : Nat)  (v0 : PV) (v1 : PV) : Option PV := (ob (callD C.pure (.clo 80 [] []) [v0, v1] false) fun v103 => (ob (binPV Try.prog .geq 3 (.tmp 7) (.const (.int Go.IntKind.i64 0)) v103 (.sc (.int Go.IntKind.i64 0))) fun v104 => (some v104)))
theorem e51_0 (C : Kallee) (L : Nat) (v0 : PV) (v1 : PV) : execR Try.prog C hh L 51 (cAt (bodyOf Try.f51) []) (Env.ofArgs [.pv v0, .pv v1] 0 .nil) [] (endP Try.prog Try.f51) = d51_0 C L v0 v1 := by kernel_rfl
theorem r51 (C : Kallee) (L : Nat) (v0 : PV) (v1 : PV) : bodyPR Try.prog C hh L 51 [v0, v1] = d51_0 C L v0 v1 := Eq.trans (bodyPR_eq (c := cAt (bodyOf Try.f51) []) [v0, v1] Try.func51 (by kernel_rfl) (by kernel_rfl)) (e51_0 C L v0 v1)

end
end Go.Lite

namespace Go.Lite
open Go Go.Proofs
set_option maxRecDepth 1000000
set_option linter.unusedVariables false
noncomputable section
/-! ## 58: muster/tree.place -/
noncomputable def d58_0 (C : Kallee) (L : Nat)  (v0 : PV) (v1 : PV) : Option PV := (ob (callD C.pure (.clo 17 [] []) [v0] false) fun v103 => (ob (unPV Try.prog .not v103) fun v104 => (cb v104 (some (.tup [(.sc (.int Go.IntKind.i64 0)), (.sc (.int Go.IntKind.i64 2))])) (ob (callD C.pure (.clo 40 [] []) [v0, v1] false) fun v105 => (ob (extractPV v105 0) fun v106 => (ob (extractPV v105 1) fun v107 => (ob (unPV Try.prog .not v107) fun v108 => (cb v108 (some (.tup [(.sc (.int Go.IntKind.i64 0)), (.sc (.int Go.IntKind.i64 141))])) (some (.tup [v106, (.sc (.int Go.IntKind.i64 0))]))))))))))
theorem e58_0 (C : Kallee) (L : Nat) (v0 : PV) (v1 : PV) : execR Try.prog C hh L 58 (cAt (bodyOf Try.f58) []) (Env.ofArgs [.pv v0, .pv v1] 0 .nil) [] (endP Try.prog Try.f58) = d58_0 C L v0 v1 := by kernel_rfl
theorem r58 (C : Kallee) (L : Nat) (v0 : PV) (v1 : PV) : bodyPR Try.prog C hh L 58 [v0, v1] = d58_0 C L v0 v1 := Eq.trans (bodyPR_eq (c := cAt (bodyOf Try.f58) []) [v0, v1] Try.func58 (by kernel_rfl) (by kernel_rfl)) (e58_0 C L v0 v1)

end
end Go.Lite

namespace Go.Lite
open Go Go.Proofs
set_option maxRecDepth 1000000
set_option linter.unusedVariables false
noncomputable section
/-! ## 59: muster/tree.up -/
noncomputable def d59_2 {R : Type} (C : Kallee) (L : Nat) (kg : PV → PV → List PV → Option R) (ke0 : List PV → Option R) (v0 : PV) (v1 : PV) (x2 : List PV) : Option R := (ob (indexAddrPV Try.prog 24 v0 v1) fun v107 => (ob (fieldAddrPV Try.prog 45 v107 1) fun v108 => (ob (loadPV Try.prog 9 v108) fun v109 => (ob (binPV Try.prog .neq 9 (.tmp 16) (.const (.string ⟨#[]⟩)) v109 (.sc (.string ⟨#[]⟩))) fun v110 => (cb v110 (ob (indexAddrPV Try.prog 24 v0 v1) fun v111 => (ob (fieldAddrPV Try.prog 45 v111 1) fun v112 => (ob (loadPV Try.prog 9 v112) fun v113 => (ob (callD C.pure (.clo 40 [] []) [v0, v113] false) fun v114 => (ob (extractPV v114 0) fun v115 => (ob (extractPV v114 1) fun v116 => (ob (indexAddrPV Try.prog 24 v0 v115) fun v117 => (ob (fieldAddrPV Try.prog 45 v117 0) fun v118 => (ob (loadPV Try.prog 9 v118) fun v119 => (ob (buildSliceAV Try.prog 32 1 [(0, v119)]) fun v120 => (oxs (appendTo Try.prog 32 32 0 x2 v120) fun x121 => (kg v0 v115 x121)))))))))))) (ke0 x2))))))
theorem e59_2 {R : Type} (C : Kallee) (L : Nat) (k : Ex → Env → Store → Option R) (gg : Env → Store → Option R) (v0 : PV) (v1 : PV) (x2 : List PV) : execR Try.prog C hh L 59 (cAt (bodyOf Try.f59) [1, 1, 0, 0, 0]) (Env.lay .nil [0, 1, 5] [(.pv v0), (.pv v1), (.arr 0)]) [.arr 0 false x2] (loopK gg [0, 1, 5] 1 (prune (some ⟨[0, 1, 5], [], [(0, [5])], []⟩) 1 k)) = d59_2 C L (fun v0 v1 x2 => gg (Env.lay .nil [0, 1, 5] [(.pv v0), (.pv v1), (.arr 0)]) [.arr 0 false x2]) (fun x0 => k (.exit 0) (Env.lay .nil [5] [(.arr 0)]) [.arr 0 false x0]) v0 v1 x2 := by kernel_rfl
noncomputable def d59_1i {R : Type} (C : Kallee) (L : Nat) (ke0 : List PV → Option R) : Nat → PV → PV → List PV → Option R
  | 0, _, _, _ => none
  | N + 1, v0, v1, x2 => d59_2 C L (fun v0 v1 x2 => d59_1i C L ke0 N v0 v1 x2) ke0 v0 v1 x2
noncomputable def d59_1 {R : Type} (C : Kallee) (L : Nat) (ke0 : List PV → Option R) (v0 : PV) (v1 : PV) (x2 : List PV) : Option R := d59_1i C L ke0 L v0 v1 x2
theorem d59_1_i {R : Type} (C : Kallee) (L : Nat) (k : Ex → Env → Store → Option R) (N : Nat) (v0 : PV) (v1 : PV) (x2 : List PV) : iter (execR Try.prog C hh L 59 (cAt (bodyOf Try.f59) [1, 1, 0, 0, 0])) [0, 1, 5] 1 (prune (some ⟨[0, 1, 5], [], [(0, [5])], []⟩) 1 k) N (Env.lay .nil [0, 1, 5] [(.pv v0), (.pv v1), (.arr 0)]) [.arr 0 false x2] = d59_1i C L (fun x0 => k (.exit 0) (Env.lay .nil [5] [(.arr 0)]) [.arr 0 false x0]) N v0 v1 x2 := by
  induction N generalizing v0 v1 x2 with
  | zero => rfl
  | succ N ih => exact Eq.trans (b := execR Try.prog C hh L 59 (cAt (bodyOf Try.f59) [1, 1, 0, 0, 0]) (Env.lay .nil [0, 1, 5] [(.pv v0), (.pv v1), (.arr 0)]) [.arr 0 false x2] (loopK (fun e s => iter (execR Try.prog C hh L 59 (cAt (bodyOf Try.f59) [1, 1, 0, 0, 0])) [0, 1, 5] 1 (prune (some ⟨[0, 1, 5], [], [(0, [5])], []⟩) 1 k) N e s) [0, 1, 5] 1 (prune (some ⟨[0, 1, 5], [], [(0, [5])], []⟩) 1 k))) (by kernel_rfl) <| Eq.trans (e59_2 C L k (fun e s => iter (execR Try.prog C hh L 59 (cAt (bodyOf Try.f59) [1, 1, 0, 0, 0])) [0, 1, 5] 1 (prune (some ⟨[0, 1, 5], [], [(0, [5])], []⟩) 1 k) N e s) v0 v1 x2) (congrArg (fun kg => d59_2 C L kg (fun x0 => k (.exit 0) (Env.lay .nil [5] [(.arr 0)]) [.arr 0 false x0]) v0 v1 x2) (funext fun v0 => funext fun v1 => funext fun x2 => ih v0 v1 x2))
theorem e59_1 {R : Type} (C : Kallee) (L : Nat) (k : Ex → Env → Store → Option R) (v0 : PV) (v1 : PV) (x2 : List PV) : execR Try.prog C hh L 59 (cAt (bodyOf Try.f59) [1, 1, 0, 0]) (Env.lay .nil [0, 1, 5] [(.pv v0), (.pv v1), (.arr 0)]) [.arr 0 false x2] k = d59_1 C L (fun x0 => k (.exit 0) (Env.lay .nil [5] [(.arr 0)]) [.arr 0 false x0]) v0 v1 x2 :=
  Eq.trans (b := iter (execR Try.prog C hh L 59 (cAt (bodyOf Try.f59) [1, 1, 0, 0, 0])) [0, 1, 5] 1 (prune (some ⟨[0, 1, 5], [], [(0, [5])], []⟩) 1 k) L (Env.lay .nil [0, 1, 5] [(.pv v0), (.pv v1), (.arr 0)]) [.arr 0 false x2]) (by kernel_rfl) (d59_1_i C L k L v0 v1 x2)
noncomputable def d59_3 (C : Kallee) (L : Nat)  (x0 : List PV) : Option PV := (some (.list 0 false x0))
theorem e59_3 (C : Kallee) (L : Nat) (x0 : List PV) : execR Try.prog C hh L 59 (cAt (bodyOf Try.f59) [1, 1, 1]) (Env.lay .nil [5] [(.arr 0)]) [.arr 0 false x0] (endP Try.prog Try.f59) = d59_3 C L x0 := by kernel_rfl
noncomputable def g59_0 (C : Kallee) (X1 : PV → PV → List PV → Option PV)  (v0 : PV) (v1 : PV) : Option PV := (ob (indexAddrPV Try.prog 24 v0 v1) fun v103 => (ob (fieldAddrPV Try.prog 45 v103 0) fun v104 => (ob (loadPV Try.prog 9 v104) fun v105 => (oxs (buildXs Try.prog 32 0 1 [(0, v105)]) fun x106 => (X1 v0 v1 x106)))))
noncomputable def d59_0 (C : Kallee) (L : Nat)  (v0 : PV) (v1 : PV) : Option PV := g59_0 C (fun v0 v1 x2 => d59_1 C L (fun x0 => d59_3 C L x0) v0 v1 x2) v0 v1
theorem e59_0 (C : Kallee) (L : Nat) (v0 : PV) (v1 : PV) : execR Try.prog C hh L 59 (cAt (bodyOf Try.f59) []) (Env.ofArgs [.pv v0, .pv v1] 0 .nil) [] (endP Try.prog Try.f59) = d59_0 C L v0 v1 :=
  Eq.trans (b := g59_0 C (fun v0 v1 x2 => execR Try.prog C hh L 59 (cAt (bodyOf Try.f59) [1, 1, 0, 0]) (Env.lay .nil [0, 1, 5] [(.pv v0), (.pv v1), (.arr 0)]) [.arr 0 false x2] (leaveB 0 (nextT Try.prog C hh L 59 (cAt (bodyOf Try.f59) [1, 1, 1]) (endP Try.prog Try.f59)))) v0 v1) (by kernel_rfl) (cg1 (fun X1 => g59_0 C X1 v0 v1) (funext fun v0 => funext fun v1 => funext fun x2 => Eq.trans (e59_1 C L (leaveB 0 (nextT Try.prog C hh L 59 (cAt (bodyOf Try.f59) [1, 1, 1]) (endP Try.prog Try.f59))) v0 v1 x2) (cg1 (fun ke0 => d59_1 C L ke0 v0 v1 x2) (funext fun x0 => (Eq.trans (b := execR Try.prog C hh L 59 (cAt (bodyOf Try.f59) [1, 1, 1]) (Env.lay .nil [5] [(.arr 0)]) [.arr 0 false x0] (endP Try.prog Try.f59)) (by kernel_rfl) (e59_3 C L x0))))))
theorem r59 (C : Kallee) (L : Nat) (v0 : PV) (v1 : PV) : bodyPR Try.prog C hh L 59 [v0, v1] = d59_0 C L v0 v1 := Eq.trans (bodyPR_eq (c := cAt (bodyOf Try.f59) []) [v0, v1] Try.func59 (by kernel_rfl) (by kernel_rfl)) (e59_0 C L v0 v1)

end
end Go.Lite

namespace Go.Lite
open Go Go.Proofs
set_option maxRecDepth 1000000
set_option linter.unusedVariables false
noncomputable section
/-! ## 64: strings.ContainsFunc -/
noncomputable def d64_0 (C : Kallee) (L : Nat)  (v0 : PV) (v1 : PV) : Option PV := (ob (callD C.pure (.clo 85 [] []) [v0, v1] false) fun v103 => (ob (binPV Try.prog .geq 3 (.tmp 7) (.const (.int Go.IntKind.i64 0)) v103 (.sc (.int Go.IntKind.i64 0))) fun v104 => (some v104)))
theorem e64_0 (C : Kallee) (L : Nat) (v0 : PV) (v1 : PV) : execR Try.prog C hh L 64 (cAt (bodyOf Try.f64) []) (Env.ofArgs [.pv v0, .pv v1] 0 .nil) [] (endP Try.prog Try.f64) = d64_0 C L v0 v1 := by kernel_rfl
theorem r64 (C : Kallee) (L : Nat) (v0 : PV) (v1 : PV) : bodyPR Try.prog C hh L 64 [v0, v1] = d64_0 C L v0 v1 := Eq.trans (bodyPR_eq (c := cAt (bodyOf Try.f64) []) [v0, v1] Try.func64 (by kernel_rfl) (by kernel_rfl)) (e64_0 C L v0 v1)

end
end Go.Lite

namespace Go.Lite
open Go Go.Proofs
set_option maxRecDepth 1000000
set_option linter.unusedVariables false
noncomputable section
/-! ## 65: muster/tree.Name$1 -/
noncomputable def d65_0 (C : Kallee) (L : Nat)  (v0 : PV) : Option PV := (ob (binPV Try.prog .neq 21 (.tmp 3) (.const (.int Go.IntKind.i32 45)) v0 (.sc (.int Go.IntKind.i32 45))) fun v102 => (gcase true v102 (ob (binPV Try.prog .neq 21 (.tmp 6) (.const (.int Go.IntKind.i32 95)) v0 (.sc (.int Go.IntKind.i32 95))) fun v103 => (gcase true v103 (ob (binPV Try.prog .lss 21 (.tmp 10) (.const (.int Go.IntKind.i32 48)) v0 (.sc (.int Go.IntKind.i32 48))) fun v104 => (gcase false v104 (ob (binPV Try.prog .gtr 21 (.tmp 13) (.const (.int Go.IntKind.i32 57)) v0 (.sc (.int Go.IntKind.i32 57))) fun v105 => (gcase true v105 (ob (binPV Try.prog .lss 21 (.tmp 18) (.const (.int Go.IntKind.i32 97)) v0 (.sc (.int Go.IntKind.i32 97))) fun v106 => (gcase false v106 (ob (binPV Try.prog .gtr 21 (.tmp 21) (.const (.int Go.IntKind.i32 122)) v0 (.sc (.int Go.IntKind.i32 122))) fun v107 => (some v107)) (some (.sc (.bool true))) none)) (some (.sc (.bool false))) none)) (ob (binPV Try.prog .lss 21 (.tmp 18) (.const (.int Go.IntKind.i32 97)) v0 (.sc (.int Go.IntKind.i32 97))) fun v110 => (gcase false v110 (ob (binPV Try.prog .gtr 21 (.tmp 21) (.const (.int Go.IntKind.i32 122)) v0 (.sc (.int Go.IntKind.i32 122))) fun v111 => (some v111)) (some (.sc (.bool true))) none)) none)) (some (.sc (.bool false))) none)) (some (.sc (.bool false))) none))
theorem e65_0 (C : Kallee) (L : Nat) (v0 : PV) : execR Try.prog C hh L 65 (cAt (bodyOf Try.f65) []) (Env.ofArgs [.pv v0] 0 .nil) [] (endP Try.prog Try.f65) = d65_0 C L v0 := by kernel_rfl
theorem r65 (C : Kallee) (L : Nat) (v0 : PV) : bodyPR Try.prog C hh L 65 [v0] = d65_0 C L v0 := Eq.trans (bodyPR_eq (c := cAt (bodyOf Try.f65) []) [v0] Try.func65 (by kernel_rfl) (by kernel_rfl)) (e65_0 C L v0)

end
end Go.Lite

namespace Go.Lite
open Go Go.Proofs
set_option maxRecDepth 1000000
set_option linter.unusedVariables false
noncomputable section
/-! ## 73: muster/tree.find[muster/api.Account] -/
noncomputable def d73_0 (C : Kallee) (L : Nat)  (v0 : PV) (v1 : PV) : Option PV := (ob (callD C.pure (.clo 91 [] []) [v0, v1] false) fun v103 => (ob (maxPV Try.prog [v103, (.sc (.int Go.IntKind.i64 0))]) fun v104 => (ob (binPV Try.prog .geq 3 (.tmp 12) (.const (.int Go.IntKind.i64 0)) v103 (.sc (.int Go.IntKind.i64 0))) fun v105 => (some (.tup [v104, v105])))))
theorem e73_0 (C : Kallee) (L : Nat) (v0 : PV) (v1 : PV) : execR Try.prog C hh L 73 (cAt (bodyOf Try.f73) []) (Env.ofArgs [.pv v0, .pv v1] 0 .nil) [] (endP Try.prog Try.f73) = d73_0 C L v0 v1 := by kernel_rfl
theorem r73 (C : Kallee) (L : Nat) (v0 : PV) (v1 : PV) : bodyPR Try.prog C hh L 73 [v0, v1] = d73_0 C L v0 v1 := Eq.trans (bodyPR_eq (c := cAt (bodyOf Try.f73) []) [v0, v1] Try.func73 (by kernel_rfl) (by kernel_rfl)) (e73_0 C L v0 v1)

end
end Go.Lite

namespace Go.Lite
open Go Go.Proofs
set_option maxRecDepth 1000000
set_option linter.unusedVariables false
noncomputable section
/-! ## 74: muster/tree.Find$1 -/
noncomputable def d74_0 (C : Kallee) (L : Nat)  (v0 : PV) (v1 : PV) : Option PV := (ck (PV.hasLay 4 v0) ((ob (PV.at_ 4 0 0 v0) fun v103 => (ob (loadPV Try.prog 9 v1) fun v104 => (ob (binPV Try.prog .eql 9 (.tmp 5) (.tmp 6) v103 v104) fun v105 => (some v105))))))
theorem e74_0 (C : Kallee) (L : Nat) (v0 : PV) (v1 : PV) : execR Try.prog C hh L 74 (cAt (bodyOf Try.f74) []) (Env.ofArgs [.pv v0, .pv v1] 0 .nil) [] (endP Try.prog Try.f74) = d74_0 C L v0 v1 := by kernel_rfl
theorem r74 (C : Kallee) (L : Nat) (v0 : PV) (v1 : PV) : bodyPR Try.prog C hh L 74 [v0, v1] = d74_0 C L v0 v1 := Eq.trans (bodyPR_eq (c := cAt (bodyOf Try.f74) []) [v0, v1] Try.func74 (by kernel_rfl) (by kernel_rfl)) (e74_0 C L v0 v1)

end
end Go.Lite

namespace Go.Lite
open Go Go.Proofs
set_option maxRecDepth 1000000
set_option linter.unusedVariables false
noncomputable section
/-! ## 79: slices.IndexFunc[[]string,string] -/
noncomputable def d79_2 {R : Type} (C : Kallee) (L : Nat) (kr : PV → Option R) (kg : PV → PV → PV → PV → Option R) (ke0 : Option R) (v0 : PV) (v1 : PV) (v2 : PV) (v3 : PV) : Option R := (ob (binPV Try.prog .lss 3 (.tmp 8) (.tmp 7) v3 v2) fun v104 => (cb v104 (ob (indexAddrPV Try.prog 32 v0 v3) fun v105 => (ob (loadPV Try.prog 9 v105) fun v106 => (ob (callD C.pure v1 [v106] false) fun v107 => (cb v107 (kr v3) (ob (binPV Try.prog .add 3 (.tmp 8) (.const (.int Go.IntKind.i64 1)) v3 (.sc (.int Go.IntKind.i64 1))) fun v108 => (kg v0 v1 v2 v108)))))) (ke0)))
theorem e79_2 {R : Type} (C : Kallee) (L : Nat) (k : Ex → Env → Store → Option R) (gg : Env → Store → Option R) (v0 : PV) (v1 : PV) (v2 : PV) (v3 : PV) : execR Try.prog C hh L 79 (cAt (bodyOf Try.f79) [1, 0, 1, 0, 0]) (Env.lay .nil [0, 1, 7, 8] [(.pv v0), (.pv v1), (.pv v2), (.pv v3)]) [] (loopK gg [0, 1, 7, 8] 0 (prune (some ⟨[0, 1, 7, 8], [], [(0, [])], [4]⟩) 0 k)) = d79_2 C L (fun v0 => k .ret (Env.lay .nil [4] [(.pv v0)]) []) (fun v0 v1 v2 v3 => gg (Env.lay .nil [0, 1, 7, 8] [(.pv v0), (.pv v1), (.pv v2), (.pv v3)]) []) (k (.exit 0) (Env.lay .nil [] []) []) v0 v1 v2 v3 := by kernel_rfl
noncomputable def d79_1i {R : Type} (C : Kallee) (L : Nat) (kr : PV → Option R) (ke0 : Option R) : Nat → PV → PV → PV → PV → Option R
  | 0, _, _, _, _ => none
  | N + 1, v0, v1, v2, v3 => d79_2 C L kr (fun v0 v1 v2 v3 => d79_1i C L kr ke0 N v0 v1 v2 v3) ke0 v0 v1 v2 v3
noncomputable def d79_1 {R : Type} (C : Kallee) (L : Nat) (kr : PV → Option R) (ke0 : Option R) (v0 : PV) (v1 : PV) (v2 : PV) (v3 : PV) : Option R := d79_1i C L kr ke0 L v0 v1 v2 v3
theorem d79_1_i {R : Type} (C : Kallee) (L : Nat) (k : Ex → Env → Store → Option R) (N : Nat) (v0 : PV) (v1 : PV) (v2 : PV) (v3 : PV) : iter (execR Try.prog C hh L 79 (cAt (bodyOf Try.f79) [1, 0, 1, 0, 0])) [0, 1, 7, 8] 0 (prune (some ⟨[0, 1, 7, 8], [], [(0, [])], [4]⟩) 0 k) N (Env.lay .nil [0, 1, 7, 8] [(.pv v0), (.pv v1), (.pv v2), (.pv v3)]) [] = d79_1i C L (fun v0 => k .ret (Env.lay .nil [4] [(.pv v0)]) []) (k (.exit 0) (Env.lay .nil [] []) []) N v0 v1 v2 v3 := by
  induction N generalizing v0 v1 v2 v3 with
  | zero => rfl
  | succ N ih => exact Eq.trans (b := execR Try.prog C hh L 79 (cAt (bodyOf Try.f79) [1, 0, 1, 0, 0]) (Env.lay .nil [0, 1, 7, 8] [(.pv v0), (.pv v1), (.pv v2), (.pv v3)]) [] (loopK (fun e s => iter (execR Try.prog C hh L 79 (cAt (bodyOf Try.f79) [1, 0, 1, 0, 0])) [0, 1, 7, 8] 0 (prune (some ⟨[0, 1, 7, 8], [], [(0, [])], [4]⟩) 0 k) N e s) [0, 1, 7, 8] 0 (prune (some ⟨[0, 1, 7, 8], [], [(0, [])], [4]⟩) 0 k))) (by kernel_rfl) <| Eq.trans (e79_2 C L k (fun e s => iter (execR Try.prog C hh L 79 (cAt (bodyOf Try.f79) [1, 0, 1, 0, 0])) [0, 1, 7, 8] 0 (prune (some ⟨[0, 1, 7, 8], [], [(0, [])], [4]⟩) 0 k) N e s) v0 v1 v2 v3) (congrArg (fun kg => d79_2 C L (fun v0 => k .ret (Env.lay .nil [4] [(.pv v0)]) []) kg (k (.exit 0) (Env.lay .nil [] []) []) v0 v1 v2 v3) (funext fun v0 => funext fun v1 => funext fun v2 => funext fun v3 => ih v0 v1 v2 v3))
theorem e79_1 {R : Type} (C : Kallee) (L : Nat) (k : Ex → Env → Store → Option R) (v0 : PV) (v1 : PV) (v2 : PV) (v3 : PV) : execR Try.prog C hh L 79 (cAt (bodyOf Try.f79) [1, 0, 1, 0]) (Env.lay .nil [0, 1, 7, 8] [(.pv v0), (.pv v1), (.pv v2), (.pv v3)]) [] k = d79_1 C L (fun v0 => k .ret (Env.lay .nil [4] [(.pv v0)]) []) (k (.exit 0) (Env.lay .nil [] []) []) v0 v1 v2 v3 :=
  Eq.trans (b := iter (execR Try.prog C hh L 79 (cAt (bodyOf Try.f79) [1, 0, 1, 0, 0])) [0, 1, 7, 8] 0 (prune (some ⟨[0, 1, 7, 8], [], [(0, [])], [4]⟩) 0 k) L (Env.lay .nil [0, 1, 7, 8] [(.pv v0), (.pv v1), (.pv v2), (.pv v3)]) []) (by kernel_rfl) (d79_1_i C L k L v0 v1 v2 v3)
noncomputable def d79_3 (C : Kallee) (L : Nat)   : Option PV := (some (.sc (.int Go.IntKind.i64 (-1))))
theorem e79_3 (C : Kallee) (L : Nat)  : execR Try.prog C hh L 79 (cAt (bodyOf Try.f79) [1, 1]) (Env.lay .nil [] []) [] (endP Try.prog Try.f79) = d79_3 C L := by kernel_rfl
noncomputable def g79_0 (C : Kallee) (X1 : PV → PV → PV → PV → Option PV)  (v0 : PV) (v1 : PV) : Option PV := (ob ((lenPV Try.prog 32 v0).map fun n => .sc (goInt n)) fun v103 => (X1 v0 v1 v103 (.sc (.int Go.IntKind.i64 0))))
noncomputable def d79_0 (C : Kallee) (L : Nat)  (v0 : PV) (v1 : PV) : Option PV := g79_0 C (fun v0 v1 v2 v3 => d79_1 C L (fun v0 => (some v0)) (d79_3 C L) v0 v1 v2 v3) v0 v1
theorem e79_0 (C : Kallee) (L : Nat) (v0 : PV) (v1 : PV) : execR Try.prog C hh L 79 (cAt (bodyOf Try.f79) []) (Env.ofArgs [.pv v0, .pv v1] 0 .nil) [] (endP Try.prog Try.f79) = d79_0 C L v0 v1 :=
  Eq.trans (b := g79_0 C (fun v0 v1 v2 v3 => execR Try.prog C hh L 79 (cAt (bodyOf Try.f79) [1, 0, 1, 0]) (Env.lay .nil [0, 1, 7, 8] [(.pv v0), (.pv v1), (.pv v2), (.pv v3)]) [] (leaveB 0 (nextT Try.prog C hh L 79 (cAt (bodyOf Try.f79) [1, 1]) (endP Try.prog Try.f79)))) v0 v1) (by kernel_rfl) (cg1 (fun X1 => g79_0 C X1 v0 v1) (funext fun v0 => funext fun v1 => funext fun v2 => funext fun v3 => Eq.trans (e79_1 C L (leaveB 0 (nextT Try.prog C hh L 79 (cAt (bodyOf Try.f79) [1, 1]) (endP Try.prog Try.f79))) v0 v1 v2 v3) (cg2 (fun kr ke0 => d79_1 C L kr ke0 v0 v1 v2 v3) (funext fun v0 => (by kernel_rfl)) (Eq.trans (b := execR Try.prog C hh L 79 (cAt (bodyOf Try.f79) [1, 1]) (Env.lay .nil [] []) [] (endP Try.prog Try.f79)) (by kernel_rfl) (e79_3 C L)))))
theorem r79 (C : Kallee) (L : Nat) (v0 : PV) (v1 : PV) : bodyPR Try.prog C hh L 79 [v0, v1] = d79_0 C L v0 v1 := Eq.trans (bodyPR_eq (c := cAt (bodyOf Try.f79) []) [v0, v1] Try.func79 (by kernel_rfl) (by kernel_rfl)) (e79_0 C L v0 v1)

end
end Go.Lite

namespace Go.Lite
open Go Go.Proofs
set_option maxRecDepth 1000000
set_option linter.unusedVariables false
noncomputable section
/-! ## 80: slices.Index[[]string,string] -/
noncomputable def d80_2 {R : Type} (C : Kallee) (L : Nat) (kr : PV → Option R) (kg : PV → PV → PV → PV → Option R) (ke0 : Option R) (v0 : PV) (v1 : PV) (v2 : PV) (v3 : PV) : Option R := (ob (binPV Try.prog .lss 3 (.tmp 8) (.tmp 7) v3 v2) fun v104 => (cb v104 (ob (indexAddrPV Try.prog 32 v0 v3) fun v105 => (ob (loadPV Try.prog 9 v105) fun v106 => (ob (binPV Try.prog .eql 9 (.tmp 11) (.tmp 15) v1 v106) fun v107 => (cb v107 (kr v3) (ob (binPV Try.prog .add 3 (.tmp 8) (.const (.int Go.IntKind.i64 1)) v3 (.sc (.int Go.IntKind.i64 1))) fun v108 => (kg v0 v1 v2 v108)))))) (ke0)))
theorem e80_2 {R : Type} (C : Kallee) (L : Nat) (k : Ex → Env → Store → Option R) (gg : Env → Store → Option R) (v0 : PV) (v1 : PV) (v2 : PV) (v3 : PV) : execR Try.prog C hh L 80 (cAt (bodyOf Try.f80) [1, 0, 1, 0, 0]) (Env.lay .nil [0, 1, 7, 8] [(.pv v0), (.pv v1), (.pv v2), (.pv v3)]) [] (loopK gg [0, 1, 7, 8] 0 (prune (some ⟨[0, 1, 7, 8], [], [(0, [])], [4]⟩) 0 k)) = d80_2 C L (fun v0 => k .ret (Env.lay .nil [4] [(.pv v0)]) []) (fun v0 v1 v2 v3 => gg (Env.lay .nil [0, 1, 7, 8] [(.pv v0), (.pv v1), (.pv v2), (.pv v3)]) []) (k (.exit 0) (Env.lay .nil [] []) []) v0 v1 v2 v3 := by kernel_rfl
noncomputable def d80_1i {R : Type} (C : Kallee) (L : Nat) (kr : PV → Option R) (ke0 : Option R) : Nat → PV → PV → PV → PV → Option R
  | 0, _, _, _, _ => none
  | N + 1, v0, v1, v2, v3 => d80_2 C L kr (fun v0 v1 v2 v3 => d80_1i C L kr ke0 N v0 v1 v2 v3) ke0 v0 v1 v2 v3
noncomputable def d80_1 {R : Type} (C : Kallee) (L : Nat) (kr : PV → Option R) (ke0 : Option R) (v0 : PV) (v1 : PV) (v2 : PV) (v3 : PV) : Option R := d80_1i C L kr ke0 L v0 v1 v2 v3
theorem d80_1_i {R : Type} (C : Kallee) (L : Nat) (k : Ex → Env → Store → Option R) (N : Nat) (v0 : PV) (v1 : PV) (v2 : PV) (v3 : PV) : iter (execR Try.prog C hh L 80 (cAt (bodyOf Try.f80) [1, 0, 1, 0, 0])) [0, 1, 7, 8] 0 (prune (some ⟨[0, 1, 7, 8], [], [(0, [])], [4]⟩) 0 k) N (Env.lay .nil [0, 1, 7, 8] [(.pv v0), (.pv v1), (.pv v2), (.pv v3)]) [] = d80_1i C L (fun v0 => k .ret (Env.lay .nil [4] [(.pv v0)]) []) (k (.exit 0) (Env.lay .nil [] []) []) N v0 v1 v2 v3 := by
  induction N generalizing v0 v1 v2 v3 with
  | zero => rfl
  | succ N ih => exact Eq.trans (b := execR Try.prog C hh L 80 (cAt (bodyOf Try.f80) [1, 0, 1, 0, 0]) (Env.lay .nil [0, 1, 7, 8] [(.pv v0), (.pv v1), (.pv v2), (.pv v3)]) [] (loopK (fun e s => iter (execR Try.prog C hh L 80 (cAt (bodyOf Try.f80) [1, 0, 1, 0, 0])) [0, 1, 7, 8] 0 (prune (some ⟨[0, 1, 7, 8], [], [(0, [])], [4]⟩) 0 k) N e s) [0, 1, 7, 8] 0 (prune (some ⟨[0, 1, 7, 8], [], [(0, [])], [4]⟩) 0 k))) (by kernel_rfl) <| Eq.trans (e80_2 C L k (fun e s => iter (execR Try.prog C hh L 80 (cAt (bodyOf Try.f80) [1, 0, 1, 0, 0])) [0, 1, 7, 8] 0 (prune (some ⟨[0, 1, 7, 8], [], [(0, [])], [4]⟩) 0 k) N e s) v0 v1 v2 v3) (congrArg (fun kg => d80_2 C L (fun v0 => k .ret (Env.lay .nil [4] [(.pv v0)]) []) kg (k (.exit 0) (Env.lay .nil [] []) []) v0 v1 v2 v3) (funext fun v0 => funext fun v1 => funext fun v2 => funext fun v3 => ih v0 v1 v2 v3))
theorem e80_1 {R : Type} (C : Kallee) (L : Nat) (k : Ex → Env → Store → Option R) (v0 : PV) (v1 : PV) (v2 : PV) (v3 : PV) : execR Try.prog C hh L 80 (cAt (bodyOf Try.f80) [1, 0, 1, 0]) (Env.lay .nil [0, 1, 7, 8] [(.pv v0), (.pv v1), (.pv v2), (.pv v3)]) [] k = d80_1 C L (fun v0 => k .ret (Env.lay .nil [4] [(.pv v0)]) []) (k (.exit 0) (Env.lay .nil [] []) []) v0 v1 v2 v3 :=
  Eq.trans (b := iter (execR Try.prog C hh L 80 (cAt (bodyOf Try.f80) [1, 0, 1, 0, 0])) [0, 1, 7, 8] 0 (prune (some ⟨[0, 1, 7, 8], [], [(0, [])], [4]⟩) 0 k) L (Env.lay .nil [0, 1, 7, 8] [(.pv v0), (.pv v1), (.pv v2), (.pv v3)]) []) (by kernel_rfl) (d80_1_i C L k L v0 v1 v2 v3)
noncomputable def d80_3 (C : Kallee) (L : Nat)   : Option PV := (some (.sc (.int Go.IntKind.i64 (-1))))
theorem e80_3 (C : Kallee) (L : Nat)  : execR Try.prog C hh L 80 (cAt (bodyOf Try.f80) [1, 1]) (Env.lay .nil [] []) [] (endP Try.prog Try.f80) = d80_3 C L := by kernel_rfl
noncomputable def g80_0 (C : Kallee) (X1 : PV → PV → PV → PV → Option PV)  (v0 : PV) (v1 : PV) : Option PV := (ob ((lenPV Try.prog 32 v0).map fun n => .sc (goInt n)) fun v103 => (X1 v0 v1 v103 (.sc (.int Go.IntKind.i64 0))))
noncomputable def d80_0 (C : Kallee) (L : Nat)  (v0 : PV) (v1 : PV) : Option PV := g80_0 C (fun v0 v1 v2 v3 => d80_1 C L (fun v0 => (some v0)) (d80_3 C L) v0 v1 v2 v3) v0 v1
theorem e80_0 (C : Kallee) (L : Nat) (v0 : PV) (v1 : PV) : execR Try.prog C hh L 80 (cAt (bodyOf Try.f80) []) (Env.ofArgs [.pv v0, .pv v1] 0 .nil) [] (endP Try.prog Try.f80) = d80_0 C L v0 v1 :=
  Eq.trans (b := g80_0 C (fun v0 v1 v2 v3 => execR Try.prog C hh L 80 (cAt (bodyOf Try.f80) [1, 0, 1, 0]) (Env.lay .nil [0, 1, 7, 8] [(.pv v0), (.pv v1), (.pv v2), (.pv v3)]) [] (leaveB 0 (nextT Try.prog C hh L 80 (cAt (bodyOf Try.f80) [1, 1]) (endP Try.prog Try.f80)))) v0 v1) (by kernel_rfl) (cg1 (fun X1 => g80_0 C X1 v0 v1) (funext fun v0 => funext fun v1 => funext fun v2 => funext fun v3 => Eq.trans (e80_1 C L (leaveB 0 (nextT Try.prog C hh L 80 (cAt (bodyOf Try.f80) [1, 1]) (endP Try.prog Try.f80))) v0 v1 v2 v3) (cg2 (fun kr ke0 => d80_1 C L kr ke0 v0 v1 v2 v3) (funext fun v0 => (by kernel_rfl)) (Eq.trans (b := execR Try.prog C hh L 80 (cAt (bodyOf Try.f80) [1, 1]) (Env.lay .nil [] []) [] (endP Try.prog Try.f80)) (by kernel_rfl) (e80_3 C L)))))
theorem r80 (C : Kallee) (L : Nat) (v0 : PV) (v1 : PV) : bodyPR Try.prog C hh L 80 [v0, v1] = d80_0 C L v0 v1 := Eq.trans (bodyPR_eq (c := cAt (bodyOf Try.f80) []) [v0, v1] Try.func80 (by kernel_rfl) (by kernel_rfl)) (e80_0 C L v0 v1)

end
end Go.Lite

namespace Go.Lite
open Go Go.Proofs
set_option maxRecDepth 1000000
set_option linter.unusedVariables false
noncomputable section
/-! ## 85: strings.IndexFunc -/
noncomputable def d85_0 (C : Kallee) (L : Nat)  (v0 : PV) (v1 : PV) : Option PV := (ob (callD C.pure (.clo 94 [] []) [v0, v1, (.sc (.bool true))] false) fun v103 => (some v103))
theorem e85_0 (C : Kallee) (L : Nat) (v0 : PV) (v1 : PV) : execR Try.prog C hh L 85 (cAt (bodyOf Try.f85) []) (Env.ofArgs [.pv v0, .pv v1] 0 .nil) [] (endP Try.prog Try.f85) = d85_0 C L v0 v1 := by kernel_rfl
theorem r85 (C : Kallee) (L : Nat) (v0 : PV) (v1 : PV) : bodyPR Try.prog C hh L 85 [v0, v1] = d85_0 C L v0 v1 := Eq.trans (bodyPR_eq (c := cAt (bodyOf Try.f85) []) [v0, v1] Try.func85 (by kernel_rfl) (by kernel_rfl)) (e85_0 C L v0 v1)

end
end Go.Lite

namespace Go.Lite
open Go Go.Proofs
set_option maxRecDepth 1000000
set_option linter.unusedVariables false
noncomputable section
/-! ## 91: slices.IndexFunc[[]muster/api.Account,muster/api.Account] -/
noncomputable def d91_2 {R : Type} (C : Kallee) (L : Nat) (kr : PV → Option R) (kg : PV → PV → PV → PV → Option R) (ke0 : Option R) (v0 : PV) (v1 : PV) (v2 : PV) (v3 : PV) : Option R := (ob (binPV Try.prog .lss 3 (.tmp 8) (.tmp 7) v3 v2) fun v104 => (cb v104 (ob (indexAddrPV Try.prog 24 v0 v3) fun v105 => (ob (loadPV Try.prog 45 v105) fun v106 => (ob (callD C.pure v1 [v106] false) fun v107 => (cb v107 (kr v3) (ob (binPV Try.prog .add 3 (.tmp 8) (.const (.int Go.IntKind.i64 1)) v3 (.sc (.int Go.IntKind.i64 1))) fun v108 => (kg v0 v1 v2 v108)))))) (ke0)))
theorem e91_2 {R : Type} (C : Kallee) (L : Nat) (k : Ex → Env → Store → Option R) (gg : Env → Store → Option R) (v0 : PV) (v1 : PV) (v2 : PV) (v3 : PV) : execR Try.prog C hh L 91 (cAt (bodyOf Try.f91) [1, 0, 1, 0, 0]) (Env.lay .nil [0, 1, 7, 8] [(.pv v0), (.pv v1), (.pv v2), (.pv v3)]) [] (loopK gg [0, 1, 7, 8] 0 (prune (some ⟨[0, 1, 7, 8], [], [(0, [])], [4]⟩) 0 k)) = d91_2 C L (fun v0 => k .ret (Env.lay .nil [4] [(.pv v0)]) []) (fun v0 v1 v2 v3 => gg (Env.lay .nil [0, 1, 7, 8] [(.pv v0), (.pv v1), (.pv v2), (.pv v3)]) []) (k (.exit 0) (Env.lay .nil [] []) []) v0 v1 v2 v3 := by kernel_rfl
noncomputable def d91_1i {R : Type} (C : Kallee) (L : Nat) (kr : PV → Option R) (ke0 : Option R) : Nat → PV → PV → PV → PV → Option R
  | 0, _, _, _, _ => none
  | N + 1, v0, v1, v2, v3 => d91_2 C L kr (fun v0 v1 v2 v3 => d91_1i C L kr ke0 N v0 v1 v2 v3) ke0 v0 v1 v2 v3
noncomputable def d91_1 {R : Type} (C : Kallee) (L : Nat) (kr : PV → Option R) (ke0 : Option R) (v0 : PV) (v1 : PV) (v2 : PV) (v3 : PV) : Option R := d91_1i C L kr ke0 L v0 v1 v2 v3
theorem d91_1_i {R : Type} (C : Kallee) (L : Nat) (k : Ex → Env → Store → Option R) (N : Nat) (v0 : PV) (v1 : PV) (v2 : PV) (v3 : PV) : iter (execR Try.prog C hh L 91 (cAt (bodyOf Try.f91) [1, 0, 1, 0, 0])) [0, 1, 7, 8] 0 (prune (some ⟨[0, 1, 7, 8], [], [(0, [])], [4]⟩) 0 k) N (Env.lay .nil [0, 1, 7, 8] [(.pv v0), (.pv v1), (.pv v2), (.pv v3)]) [] = d91_1i C L (fun v0 => k .ret (Env.lay .nil [4] [(.pv v0)]) []) (k (.exit 0) (Env.lay .nil [] []) []) N v0 v1 v2 v3 := by
  induction N generalizing v0 v1 v2 v3 with
  | zero => rfl
  | succ N ih => exact Eq.trans (b := execR Try.prog C hh L 91 (cAt (bodyOf Try.f91) [1, 0, 1, 0, 0]) (Env.lay .nil [0, 1, 7, 8] [(.pv v0), (.pv v1), (.pv v2), (.pv v3)]) [] (loopK (fun e s => iter (execR Try.prog C hh L 91 (cAt (bodyOf Try.f91) [1, 0, 1, 0, 0])) [0, 1, 7, 8] 0 (prune (some ⟨[0, 1, 7, 8], [], [(0, [])], [4]⟩) 0 k) N e s) [0, 1, 7, 8] 0 (prune (some ⟨[0, 1, 7, 8], [], [(0, [])], [4]⟩) 0 k))) (by kernel_rfl) <| Eq.trans (e91_2 C L k (fun e s => iter (execR Try.prog C hh L 91 (cAt (bodyOf Try.f91) [1, 0, 1, 0, 0])) [0, 1, 7, 8] 0 (prune (some ⟨[0, 1, 7, 8], [], [(0, [])], [4]⟩) 0 k) N e s) v0 v1 v2 v3) (congrArg (fun kg => d91_2 C L (fun v0 => k .ret (Env.lay .nil [4] [(.pv v0)]) []) kg (k (.exit 0) (Env.lay .nil [] []) []) v0 v1 v2 v3) (funext fun v0 => funext fun v1 => funext fun v2 => funext fun v3 => ih v0 v1 v2 v3))
theorem e91_1 {R : Type} (C : Kallee) (L : Nat) (k : Ex → Env → Store → Option R) (v0 : PV) (v1 : PV) (v2 : PV) (v3 : PV) : execR Try.prog C hh L 91 (cAt (bodyOf Try.f91) [1, 0, 1, 0]) (Env.lay .nil [0, 1, 7, 8] [(.pv v0), (.pv v1), (.pv v2), (.pv v3)]) [] k = d91_1 C L (fun v0 => k .ret (Env.lay .nil [4] [(.pv v0)]) []) (k (.exit 0) (Env.lay .nil [] []) []) v0 v1 v2 v3 :=
  Eq.trans (b := iter (execR Try.prog C hh L 91 (cAt (bodyOf Try.f91) [1, 0, 1, 0, 0])) [0, 1, 7, 8] 0 (prune (some ⟨[0, 1, 7, 8], [], [(0, [])], [4]⟩) 0 k) L (Env.lay .nil [0, 1, 7, 8] [(.pv v0), (.pv v1), (.pv v2), (.pv v3)]) []) (by kernel_rfl) (d91_1_i C L k L v0 v1 v2 v3)
noncomputable def d91_3 (C : Kallee) (L : Nat)   : Option PV := (some (.sc (.int Go.IntKind.i64 (-1))))
theorem e91_3 (C : Kallee) (L : Nat)  : execR Try.prog C hh L 91 (cAt (bodyOf Try.f91) [1, 1]) (Env.lay .nil [] []) [] (endP Try.prog Try.f91) = d91_3 C L := by kernel_rfl
noncomputable def g91_0 (C : Kallee) (X1 : PV → PV → PV → PV → Option PV)  (v0 : PV) (v1 : PV) : Option PV := (ob ((lenPV Try.prog 24 v0).map fun n => .sc (goInt n)) fun v103 => (X1 v0 v1 v103 (.sc (.int Go.IntKind.i64 0))))
noncomputable def d91_0 (C : Kallee) (L : Nat)  (v0 : PV) (v1 : PV) : Option PV := g91_0 C (fun v0 v1 v2 v3 => d91_1 C L (fun v0 => (some v0)) (d91_3 C L) v0 v1 v2 v3) v0 v1
theorem e91_0 (C : Kallee) (L : Nat) (v0 : PV) (v1 : PV) : execR Try.prog C hh L 91 (cAt (bodyOf Try.f91) []) (Env.ofArgs [.pv v0, .pv v1] 0 .nil) [] (endP Try.prog Try.f91) = d91_0 C L v0 v1 :=
  Eq.trans (b := g91_0 C (fun v0 v1 v2 v3 => execR Try.prog C hh L 91 (cAt (bodyOf Try.f91) [1, 0, 1, 0]) (Env.lay .nil [0, 1, 7, 8] [(.pv v0), (.pv v1), (.pv v2), (.pv v3)]) [] (leaveB 0 (nextT Try.prog C hh L 91 (cAt (bodyOf Try.f91) [1, 1]) (endP Try.prog Try.f91)))) v0 v1) (by kernel_rfl) (cg1 (fun X1 => g91_0 C X1 v0 v1) (funext fun v0 => funext fun v1 => funext fun v2 => funext fun v3 => Eq.trans (e91_1 C L (leaveB 0 (nextT Try.prog C hh L 91 (cAt (bodyOf Try.f91) [1, 1]) (endP Try.prog Try.f91))) v0 v1 v2 v3) (cg2 (fun kr ke0 => d91_1 C L kr ke0 v0 v1 v2 v3) (funext fun v0 => (by kernel_rfl)) (Eq.trans (b := execR Try.prog C hh L 91 (cAt (bodyOf Try.f91) [1, 1]) (Env.lay .nil [] []) [] (endP Try.prog Try.f91)) (by kernel_rfl) (e91_3 C L)))))
theorem r91 (C : Kallee) (L : Nat) (v0 : PV) (v1 : PV) : bodyPR Try.prog C hh L 91 [v0, v1] = d91_0 C L v0 v1 := Eq.trans (bodyPR_eq (c := cAt (bodyOf Try.f91) []) [v0, v1] Try.func91 (by kernel_rfl) (by kernel_rfl)) (e91_0 C L v0 v1)

end
end Go.Lite

namespace Go.Lite
open Go Go.Proofs
set_option maxRecDepth 1000000
set_option linter.unusedVariables false
noncomputable section
/-! ## 94: strings.indexFunc -/
noncomputable def d94_2 {R : Type} (C : Kallee) (L : Nat) (kr : PV → ByteArray → Nat → Option R) (kg : PV → PV → ByteArray → Nat → Option R) (ke0 : ByteArray → Nat → Option R) (v0 : PV) (v1 : PV) (s2 : ByteArray) (n3 : Nat) : Option R := (ob (extractPV (nextV s2 n3) 0) fun v105 => (cb v105 (ob (extractPV (nextV s2 n3) 1) fun v106 => (ob (extractPV (nextV s2 n3) 2) fun v107 => (ob (callD C.pure v0 [v107] false) fun v108 => (ob (binPV Try.prog .eql 4 (.tmp 17) (.tmp 18) v108 v1) fun v109 => (cb v109 (kr v106 s2 (nextPos s2 n3)) (kg v0 v1 s2 (nextPos s2 n3))))))) (ke0 s2 (nextPos s2 n3))))
theorem e94_2 {R : Type} (C : Kallee) (L : Nat) (k : Ex → Env → Store → Option R) (gg : Env → Store → Option R) (v0 : PV) (v1 : PV) (s2 : ByteArray) (n3 : Nat) : execR Try.prog C hh L 94 (cAt (bodyOf Try.f94) [1, 0, 1, 0, 0]) (Env.lay .nil [1, 2, 10] [(.pv v0), (.pv v1), (.ptr 0 0 0)]) [.sit s2 n3] (loopK gg [1, 2, 10] 1 (prune (some ⟨[1, 2, 10], [], [(0, [])], [6]⟩) 1 k)) = d94_2 C L (fun v0 s1 n2 => k .ret (Env.lay .nil [6] [(.pv v0)]) [.sit s1 n2]) (fun v0 v1 s2 n3 => gg (Env.lay .nil [1, 2, 10] [(.pv v0), (.pv v1), (.ptr 0 0 0)]) [.sit s2 n3]) (fun s0 n1 => k (.exit 0) (Env.lay .nil [] []) [.sit s0 n1]) v0 v1 s2 n3 := by kernel_rfl
noncomputable def d94_1i {R : Type} (C : Kallee) (L : Nat) (kr : PV → ByteArray → Nat → Option R) (ke0 : ByteArray → Nat → Option R) : Nat → PV → PV → ByteArray → Nat → Option R
  | 0, _, _, _, _ => none
  | N + 1, v0, v1, s2, n3 => d94_2 C L kr (fun v0 v1 s2 n3 => d94_1i C L kr ke0 N v0 v1 s2 n3) ke0 v0 v1 s2 n3
noncomputable def d94_1 {R : Type} (C : Kallee) (L : Nat) (kr : PV → ByteArray → Nat → Option R) (ke0 : ByteArray → Nat → Option R) (v0 : PV) (v1 : PV) (s2 : ByteArray) (n3 : Nat) : Option R := d94_1i C L kr ke0 L v0 v1 s2 n3
theorem d94_1_i {R : Type} (C : Kallee) (L : Nat) (k : Ex → Env → Store → Option R) (N : Nat) (v0 : PV) (v1 : PV) (s2 : ByteArray) (n3 : Nat) : iter (execR Try.prog C hh L 94 (cAt (bodyOf Try.f94) [1, 0, 1, 0, 0])) [1, 2, 10] 1 (prune (some ⟨[1, 2, 10], [], [(0, [])], [6]⟩) 1 k) N (Env.lay .nil [1, 2, 10] [(.pv v0), (.pv v1), (.ptr 0 0 0)]) [.sit s2 n3] = d94_1i C L (fun v0 s1 n2 => k .ret (Env.lay .nil [6] [(.pv v0)]) [.sit s1 n2]) (fun s0 n1 => k (.exit 0) (Env.lay .nil [] []) [.sit s0 n1]) N v0 v1 s2 n3 := by
  induction N generalizing v0 v1 s2 n3 with
  | zero => rfl
  | succ N ih => exact Eq.trans (b := execR Try.prog C hh L 94 (cAt (bodyOf Try.f94) [1, 0, 1, 0, 0]) (Env.lay .nil [1, 2, 10] [(.pv v0), (.pv v1), (.ptr 0 0 0)]) [.sit s2 n3] (loopK (fun e s => iter (execR Try.prog C hh L 94 (cAt (bodyOf Try.f94) [1, 0, 1, 0, 0])) [1, 2, 10] 1 (prune (some ⟨[1, 2, 10], [], [(0, [])], [6]⟩) 1 k) N e s) [1, 2, 10] 1 (prune (some ⟨[1, 2, 10], [], [(0, [])], [6]⟩) 1 k))) (by kernel_rfl) <| Eq.trans (e94_2 C L k (fun e s => iter (execR Try.prog C hh L 94 (cAt (bodyOf Try.f94) [1, 0, 1, 0, 0])) [1, 2, 10] 1 (prune (some ⟨[1, 2, 10], [], [(0, [])], [6]⟩) 1 k) N e s) v0 v1 s2 n3) (congrArg (fun kg => d94_2 C L (fun v0 s1 n2 => k .ret (Env.lay .nil [6] [(.pv v0)]) [.sit s1 n2]) kg (fun s0 n1 => k (.exit 0) (Env.lay .nil [] []) [.sit s0 n1]) v0 v1 s2 n3) (funext fun v0 => funext fun v1 => funext fun s2 => funext fun n3 => ih v0 v1 s2 n3))
theorem e94_1 {R : Type} (C : Kallee) (L : Nat) (k : Ex → Env → Store → Option R) (v0 : PV) (v1 : PV) (s2 : ByteArray) (n3 : Nat) : execR Try.prog C hh L 94 (cAt (bodyOf Try.f94) [1, 0, 1, 0]) (Env.lay .nil [1, 2, 10] [(.pv v0), (.pv v1), (.ptr 0 0 0)]) [.sit s2 n3] k = d94_1 C L (fun v0 s1 n2 => k .ret (Env.lay .nil [6] [(.pv v0)]) [.sit s1 n2]) (fun s0 n1 => k (.exit 0) (Env.lay .nil [] []) [.sit s0 n1]) v0 v1 s2 n3 :=
  Eq.trans (b := iter (execR Try.prog C hh L 94 (cAt (bodyOf Try.f94) [1, 0, 1, 0, 0])) [1, 2, 10] 1 (prune (some ⟨[1, 2, 10], [], [(0, [])], [6]⟩) 1 k) L (Env.lay .nil [1, 2, 10] [(.pv v0), (.pv v1), (.ptr 0 0 0)]) [.sit s2 n3]) (by kernel_rfl) (d94_1_i C L k L v0 v1 s2 n3)
noncomputable def d94_3 (C : Kallee) (L : Nat)  (s0 : ByteArray) (n1 : Nat) : Option PV := (some (.sc (.int Go.IntKind.i64 (-1))))
theorem e94_3 (C : Kallee) (L : Nat) (s0 : ByteArray) (n1 : Nat) : execR Try.prog C hh L 94 (cAt (bodyOf Try.f94) [1, 1]) (Env.lay .nil [] []) [.sit s0 n1] (endP Try.prog Try.f94) = d94_3 C L s0 n1 := by kernel_rfl
noncomputable def g94_0 (C : Kallee) (X1 : PV → PV → ByteArray → Nat → Option PV)  (v0 : PV) (v1 : PV) (v2 : PV) : Option PV := (obs (strPV? v0) fun s104 => (X1 v1 v2 s104 0))
noncomputable def d94_0 (C : Kallee) (L : Nat)  (v0 : PV) (v1 : PV) (v2 : PV) : Option PV := g94_0 C (fun v0 v1 s2 n3 => d94_1 C L (fun v0 s1 n2 => (some v0)) (fun s0 n1 => d94_3 C L s0 n1) v0 v1 s2 n3) v0 v1 v2
theorem e94_0 (C : Kallee) (L : Nat) (v0 : PV) (v1 : PV) (v2 : PV) : execR Try.prog C hh L 94 (cAt (bodyOf Try.f94) []) (Env.ofArgs [.pv v0, .pv v1, .pv v2] 0 .nil) [] (endP Try.prog Try.f94) = d94_0 C L v0 v1 v2 :=
  Eq.trans (b := g94_0 C (fun v0 v1 s2 n3 => execR Try.prog C hh L 94 (cAt (bodyOf Try.f94) [1, 0, 1, 0]) (Env.lay .nil [1, 2, 10] [(.pv v0), (.pv v1), (.ptr 0 0 0)]) [.sit s2 n3] (leaveB 0 (nextT Try.prog C hh L 94 (cAt (bodyOf Try.f94) [1, 1]) (endP Try.prog Try.f94)))) v0 v1 v2) (by kernel_rfl) (cg1 (fun X1 => g94_0 C X1 v0 v1 v2) (funext fun v0 => funext fun v1 => funext fun s2 => funext fun n3 => Eq.trans (e94_1 C L (leaveB 0 (nextT Try.prog C hh L 94 (cAt (bodyOf Try.f94) [1, 1]) (endP Try.prog Try.f94))) v0 v1 s2 n3) (cg2 (fun kr ke0 => d94_1 C L kr ke0 v0 v1 s2 n3) (funext fun v0 => funext fun s1 => funext fun n2 => (by kernel_rfl)) (funext fun s0 => funext fun n1 => (Eq.trans (b := execR Try.prog C hh L 94 (cAt (bodyOf Try.f94) [1, 1]) (Env.lay .nil [] []) [.sit s0 n1] (endP Try.prog Try.f94)) (by kernel_rfl) (e94_3 C L s0 n1))))))
theorem r94 (C : Kallee) (L : Nat) (v0 : PV) (v1 : PV) (v2 : PV) : bodyPR Try.prog C hh L 94 [v0, v1, v2] = d94_0 C L v0 v1 v2 := Eq.trans (bodyPR_eq (c := cAt (bodyOf Try.f94) []) [v0, v1, v2] Try.func94 (by kernel_rfl) (by kernel_rfl)) (e94_0 C L v0 v1 v2)

end
end Go.Lite
