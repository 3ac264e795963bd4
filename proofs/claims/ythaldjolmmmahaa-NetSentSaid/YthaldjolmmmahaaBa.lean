import Derived.Test.YthaldjolmmmahaaLf
import Derived.Test.YthaldjolmmmahaaProg
import Derived.KernelRfl
import Derived.Shelf.SlGeneric
import Derived.Shelf.SlIterI.Nil
import Derived.Shelf.SortM.Plain
import Derived.Shelf.SortM.SortNone
import Derived.Ground.GgzProg
import Derived.Ground.SlgmProg
set_option linter.unusedVariables false
set_option linter.unusedSimpArgs false

namespace Go.Lite
open Go Go.Proofs
set_option maxRecDepth 1000000
set_option linter.unusedVariables false
noncomputable section
def ownT : Tr (List (Nat × Nat)) := (.node 18 [(8, 0)] (.node 8 [(16, 778)] (.node 4 [(6, 1000), (6, 0)] (.node 3 [(25, 780), (31, 780), (58, 780)] .nil .nil) (.node 5 [(6, 0)] .nil .nil)) (.node 15 [(18, 779), (17, 1000), (25, 779), (24, 1000)] (.node 14 [(3, 5)] .nil .nil) .nil)) (.node 27 [(9, 5)] (.node 21 [(3, 0)] (.node 20 [(3, 0)] .nil .nil) .nil) (.node 39 [(7, 5)] (.node 34 [(5, 0)] .nil .nil) .nil)))
def liveT : Tr (List (Nat × List Nat)) := (.node 40 [(2, [1, 2, 5])] (.node 14 [(5, [0, 3, 14, 15, 16])] (.node 5 [(25, [0, 1, 5, 10, 11, 15, 16]), (12, [0, 1, 5, 10, 11]), (4, [0, 1, 5, 6, 7])] (.node 4 [(48, [3, 5, 6, 8, 10, 21, 22]), (41, [3, 5, 6, 8, 9, 10, 19, 20]), (9, [0, 3, 4, 5, 6, 7, 8, 9, 10, 11])] (.node 3 [(5, [1, 3, 4, 5, 6])] .nil .nil) .nil) (.node 8 [(3, [0, 1, 17, 18, 19])] (.node 7 [(9, [1, 5, 6, 8]), (4, [0, 1, 5, 6, 7])] .nil .nil) .nil)) (.node 28 [(4, [0, 1, 5])] (.node 26 [(2, [2, 3])] (.node 22 [(22, [0, 3, 9, 10]), (19, [0, 3, 9]), (14, [0, 3, 6, 7, 8]), (10, [0, 3, 6]), (6, [0, 3, 4, 5]), (3, [0, 3, 4])] .nil .nil) .nil) (.node 37 [(4, [1, 5, 6, 7])] .nil .nil))) (.node 53 [(2, [0, 6, 7])] (.node 49 [(4, [0, 1, 2, 6, 7]), (1, [0, 1, 2, 6])] (.node 47 [(2, [0, 1, 2, 3, 8, 9])] (.node 44 [(1, [0, 5])] .nil .nil) .nil) (.node 51 [(5, [0, 1, 6, 7, 8, 9])] (.node 50 [(8, [0, 6, 7, 10]), (4, [0, 6, 7, 8, 9])] .nil .nil) .nil)) (.node 57 [(15, [0, 1, 10, 11]), (13, [0, 1, 10, 11]), (5, [0, 1, 10, 11]), (3, [0, 1, 10, 11])] (.node 56 [(5, [0, 1, 9, 10]), (3, [0, 1, 9, 10])] (.node 54 [(20, [0, 1, 2, 7, 8, 10]), (14, [0, 1, 2, 7, 8, 9]), (5, [0, 1, 2, 7, 8]), (3, [0, 1, 2, 7, 8])] .nil .nil) .nil) (.node 60 [(1, [0, 2, 3, 8])] .nil .nil))))
def shutT : Tr (List (Nat × List Nat)) := (.node 3 [(2, [25]), (3, [31]), (11, [58])] .nil .nil)
def sharedT : Tr Bool := (.node 14 true (.node 11 true (.node 10 true (.node 9 true .nil .nil) .nil) (.node 13 true (.node 12 true .nil .nil) .nil)) (.node 33 true (.node 32 true (.node 31 true .nil .nil) .nil) (.node 36 true (.node 35 true .nil .nil) .nil)))
def methT : Tr (Nat × List Bool) := (.node 13 (1, []) (.node 11 (1, []) (.node 10 (1, []) (.node 9 (2, [true, false]) .nil .nil) .nil) (.node 12 (1, []) .nil .nil)) (.node 32 (1, []) (.node 31 (1, []) (.node 14 (1, []) .nil .nil) .nil) (.node 33 (1, []) .nil .nil)))
def ownFT : Tr OwnSp := .nil
def inlT : Tr Bool := (.node 36 true .nil .nil)
def joinTab : Tr (List (Nat × Join)) := (.node 14 [(24, ⟨[0, 3, 14, 15, 16], [], [(0, [3])], []⟩), (23, ⟨[0, 3], [0, 3, 14, 15, 16], [], []⟩)] (.node 4 [(196, ⟨[3, 5, 6, 8, 10, 21, 22], [], [(5, [3, 5, 8, 10, 21])], []⟩), (168, ⟨[3, 5, 6, 8, 9, 10, 19, 20], [], [(3, [3, 5, 6, 8, 10])], [2]⟩), (59, ⟨[0, 3, 4, 5, 6, 7, 8, 9, 10, 11, 12, 13], [0, 3, 4, 5, 6, 7, 8, 9, 10, 11, 12, 13, 50], [], []⟩), (40, ⟨[0, 3, 4, 5, 6, 7, 8, 9, 10, 11], [], [(0, [3, 5, 6, 8, 9, 10])], [2]⟩)] .nil .nil) .nil)
def h0 : Hints := { own := fun f t => (ownT.get? f).bind fun l => pairFind l t, live := fun f i => ((liveT.get? f).bind fun l => pairFind l i).getD [], join := fun f i => (joinTab.get? f).bind fun l => pairFind l i, shared := fun f => (sharedT.get? f).getD false, stil := fun f i => ((shutT.get? f).bind fun l => pairFind l i).getD [], meth := fun f => methT.get? f, inl := fun f => (inlT.get? f).getD false, primS := fun f => bif Nat.beq f 35 then some (sortedQ 44) else none, primM := fun g => none, ownF := fun f => ownFT.get? f, primO := fun g => none }
def hh : Hints := { h0 with prim := fun f => bif Nat.beq f 34 then some (cloneQ 0) else none }

end
end Go.Lite

namespace Go.Proofs
open Go.RowKit Go.Maps Go.Sort Go.Shelf Go.Lite

def Try.keysL_ren : Go.Shelf.Ren := ⟨fun | 7 => 36 | 10 => 44 | n => n, fun | 23 => 65 | 26 => 3 | 3 => 31 | 28 => 73 | 0 => 0 | 27 => 72 | 33 => 82 | 4 => 4 | n => n, fun | n => n⟩
theorem Try.keysL : Go.Proofs.SlLaysZI.n7 Try.prog Try.keysL_ren := {
  mixed := by kernel_rfl
  f7 := ⟨Try.f36.name, by decide, Try.func36.trans (congrArg some (by kernel_rfl))⟩
  f10 := ⟨Try.f44.name, by decide, Try.func44.trans (congrArg some (by kernel_rfl))⟩
  t0 := Try.underlying0
  a0 := Try.isAgg0
  z0 := Try.sizeOf0
  v0 := Try.zeroValue0
  t4 := Try.underlying4
  a4 := Try.isAgg4
  z4 := Try.sizeOf4
  v4 := Try.zeroValue4
  t23 := Try.underlying65
  a23 := Try.isAgg65
  z23 := Try.sizeOf65
  v23 := Try.zeroValue65
  t26 := Try.underlying3
  a26 := Try.isAgg3
  z26 := Try.sizeOf3
  v26 := Try.zeroValue3
  t27 := Try.underlying72
  a27 := Try.isAgg72
  z27 := Try.sizeOf72
  v27 := Try.zeroValue72
  t28 := Try.underlying73
  a28 := Try.isAgg73
  z28 := Try.sizeOf73
  v28 := Try.zeroValue73
  t33 := Try.underlying82
  a33 := Try.isAgg82
  z33 := Try.sizeOf82
  v33 := Try.zeroValue82 }
def Try.sortedL_ren : Go.Shelf.Ren := ⟨fun | 6 => 35 | 8 => 42 | 9 => 43 | 11 => 46 | 13 => 48 | 12 => 47 | 23 => 58 | 24 => 59 | 14 => 49 | 15 => 50 | 16 => 51 | 17 => 52 | 18 => 53 | 19 => 54 | 20 => 55 | 21 => 56 | 22 => 57 | 25 => 60 | 26 => 61 | 27 => 62 | 28 => 63 | 29 => 64 | 30 => 65 | 31 => 66 | n => n, fun | 26 => 3 | 28 => 73 | 24 => 37 | 0 => 0 | 3 => 3 | 37 => 38 | 48 => 98 | 50 => 83 | 4 => 4 | 40 => 90 | 39 => 89 | 45 => 95 | 5 => 5 | 9 => 9 | 51 => 100 | 55 => 104 | 57 => 106 | 58 => 107 | 33 => 82 | n => n, fun | n => n⟩
theorem Try.sortedL : Go.Proofs.SlLaysZI.n6 Try.prog Try.sortedL_ren := {
  mixed := by kernel_rfl
  f6 := ⟨Try.f35.name, by decide, Try.func35.trans (congrArg some (by kernel_rfl))⟩
  f8 := ⟨Try.f42.name, by decide, Try.func42.trans (congrArg some (by kernel_rfl))⟩
  f11 := ⟨Try.f46.name, by decide, Try.func46.trans (congrArg some (by kernel_rfl))⟩
  t0 := Try.underlying0
  a0 := Try.isAgg0
  z0 := Try.sizeOf0
  v0 := Try.zeroValue0
  t24 := Try.underlying37
  a24 := Try.isAgg37
  z24 := Try.sizeOf37
  v24 := Try.zeroValue37
  t26 := Try.underlying3
  a26 := Try.isAgg3
  z26 := Try.sizeOf3
  v26 := Try.zeroValue3
  t28 := Try.underlying73
  a28 := Try.isAgg73
  z28 := Try.sizeOf73
  v28 := Try.zeroValue73
  i26 := by kernel_rfl }
def Try.sortL_ren : Go.Shelf.Ren := ⟨fun | 5 => 43 | 8 => 48 | 7 => 47 | 19 => 58 | 20 => 59 | 10 => 49 | 11 => 50 | 12 => 51 | 13 => 52 | 14 => 53 | 15 => 54 | 16 => 55 | 17 => 56 | 18 => 57 | 30 => 60 | 31 => 61 | 32 => 62 | 33 => 63 | 34 => 64 | 35 => 65 | 40 => 66 | n => n, fun | 23 => 37 | 25 => 3 | 3 => 3 | 32 => 38 | 22 => 37 | 0 => 0 | 44 => 98 | 46 => 83 | 4 => 4 | 36 => 90 | 35 => 89 | 41 => 95 | 5 => 5 | 9 => 9 | 53 => 100 | 57 => 104 | 63 => 106 | 64 => 107 | n => n, fun | n => n⟩
theorem Try.sortL : Go.Proofs.SlLaysM.n5 Try.prog Try.sortL_ren := {
  mixed := by kernel_rfl
  f5 := ⟨Try.f43.name, by decide, Try.func43.trans (congrArg some (by kernel_rfl))⟩
  f7 := ⟨Try.f47.name, by decide, Try.func47.trans (congrArg some (by kernel_rfl))⟩
  f8 := Try.func48.trans (congrArg some (by kernel_rfl))
  f10 := ⟨Try.f49.name, by decide, Try.func49.trans (congrArg some (by kernel_rfl))⟩
  f11 := ⟨Try.f50.name, by decide, Try.func50.trans (congrArg some (by kernel_rfl))⟩
  f12 := ⟨Try.f51.name, by decide, Try.func51.trans (congrArg some (by kernel_rfl))⟩
  f13 := ⟨Try.f52.name, by decide, Try.func52.trans (congrArg some (by kernel_rfl))⟩
  f14 := ⟨Try.f53.name, by decide, Try.func53.trans (congrArg some (by kernel_rfl))⟩
  f15 := ⟨Try.f54.name, by decide, Try.func54.trans (congrArg some (by kernel_rfl))⟩
  f16 := ⟨Try.f55.name, by decide, Try.func55.trans (congrArg some (by kernel_rfl))⟩
  f17 := ⟨Try.f56.name, by decide, Try.func56.trans (congrArg some (by kernel_rfl))⟩
  f18 := ⟨Try.f57.name, by decide, Try.func57.trans (congrArg some (by kernel_rfl))⟩
  f19 := Try.func58.trans (congrArg some (by kernel_rfl))
  f20 := Try.func59.trans (congrArg some (by kernel_rfl))
  f30 := ⟨Try.f60.name, by decide, Try.func60.trans (congrArg some (by kernel_rfl))⟩
  f31 := Try.func61.trans (congrArg some (by kernel_rfl))
  f32 := Try.func62.trans (congrArg some (by kernel_rfl))
  f33 := ⟨Try.f63.name, by decide, Try.func63.trans (congrArg some (by kernel_rfl))⟩
  f34 := ⟨Try.f64.name, by decide, Try.func64.trans (congrArg some (by kernel_rfl))⟩
  f35 := ⟨Try.f65.name, by decide, Try.func65.trans (congrArg some (by kernel_rfl))⟩
  f40 := ⟨Try.f66.name, by decide, Try.func66.trans (congrArg some (by kernel_rfl))⟩
  t0 := Try.underlying0
  a0 := Try.isAgg0
  z0 := Try.sizeOf0
  v0 := Try.zeroValue0
  t3 := Try.underlying3
  a3 := Try.isAgg3
  z3 := Try.sizeOf3
  v3 := Try.zeroValue3
  t4 := Try.underlying4
  a4 := Try.isAgg4
  z4 := Try.sizeOf4
  v4 := Try.zeroValue4
  t5 := Try.underlying5
  a5 := Try.isAgg5
  z5 := Try.sizeOf5
  v5 := Try.zeroValue5
  t9 := Try.underlying9
  a9 := Try.isAgg9
  z9 := Try.sizeOf9
  v9 := Try.zeroValue9
  t22 := Try.underlying37
  a22 := Try.isAgg37
  z22 := Try.sizeOf37
  v22 := Try.zeroValue37
  t23 := Try.underlying37
  a23 := Try.isAgg37
  z23 := Try.sizeOf37
  v23 := Try.zeroValue37
  t25 := Try.underlying3
  a25 := Try.isAgg3
  z25 := Try.sizeOf3
  v25 := Try.zeroValue3
  t32 := Try.underlying38
  a32 := Try.isAgg38
  z32 := Try.sizeOf38
  v32 := Try.zeroValue38
  t35 := Try.underlying89
  a35 := Try.isAgg89
  z35 := Try.sizeOf89
  v35 := Try.zeroValue89
  t36 := Try.underlying90
  a36 := Try.isAgg90
  z36 := Try.sizeOf90
  v36 := Try.zeroValue90
  t41 := Try.underlying95
  a41 := Try.isAgg95
  z41 := Try.sizeOf95
  v41 := Try.zeroValue95
  t44 := Try.underlying98
  a44 := Try.isAgg98
  z44 := Try.sizeOf98
  v44 := Try.zeroValue98
  t46 := Try.underlying83
  a46 := Try.isAgg83
  z46 := Try.sizeOf83
  v46 := Try.zeroValue83
  t53 := Try.underlying100
  a53 := Try.isAgg100
  z53 := Try.sizeOf100
  v53 := Try.zeroValue100
  t57 := Try.underlying104
  a57 := Try.isAgg104
  z57 := Try.sizeOf104
  v57 := Try.zeroValue104
  t63 := Try.underlying106
  a63 := Try.isAgg106
  z63 := Try.sizeOf106
  v63 := Try.zeroValue106
  t64 := Try.underlying107
  a64 := Try.isAgg107
  z64 := Try.sizeOf107
  v64 := Try.zeroValue107 }

theorem Try.sortsIn (m : Nat) : AnyZI.SortsIn Try.prog Try.sortedL_ren Fence.wide m :=
  ⟨fun blk off cap ss W hH hblk hsz => callsIn_wide.2 (AnyM.slices_Sort_int Try.sortL blk off cap ss W hH hblk hsz),
   fun p cap W => callsIn_wide.2 (AnyM.slices_Sort_int_none Try.sortL p cap W)⟩

theorem sortsKeys : SortsKeys Try.prog 35 44 := by
  refine ⟨⟨_, Try.func35, by kernel_rfl, by kernel_rfl⟩, 3, by kernel_rfl, fun Bm b nn D0 W hcell hown hmax hbytes => ?_⟩
  have hlt : Bm < W.heap.size := World.block_lt_of_cell? (w := W) (a := ⟨Bm, 0, none⟩) hcell
  have hseq : SeqGives Fence.wide 2 Try.prog 44 #[.pointer (some ⟨Bm, 0, none⟩)] encZ (fun ss => ss.Perm (intKeys D0)) (Maps.size D0) W :=
    AnyZI.keys_gives (ρ := Try.keysL_ren) { Try.keysL with } Fence.wide _ trivial rfl (by omega) Bm b nn D0 W hlt hcell hown
  have cS := AnyZI.sorted_in Try.sortedL Fence.wide 5 trivial trivial trivial trivial rfl (by omega) (Try.sortsIn _) (enters_of Try.func43 (by kernel_rfl) rfl) 44 #[.pointer (some ⟨Bm, 0, none⟩)] trivial (enters_of Try.func44 (by kernel_rfl) rfl) _ _ hmax hbytes W hseq
  exact callsIn_wide.1 cS
end Go.Proofs
