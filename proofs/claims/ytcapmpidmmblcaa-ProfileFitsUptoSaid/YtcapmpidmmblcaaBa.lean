import Derived.Test.YtcapmpidmmblcaaLf
import Derived.Test.YtcapmpidmmblcaaProg
import Derived.KernelRfl
import Derived.Shelf.SortM.Plain
import Derived.Shelf.SortM.SortNone
import Derived.Ground.GgzProg
import Derived.Ground.SlgmProg
import Derived.Shelf.Spec.SlicesInsertGrow
set_option linter.unusedVariables false
set_option linter.unusedSimpArgs false

namespace Go.Lite
open Go Go.Proofs
set_option maxRecDepth 1000000
set_option linter.unusedVariables false
noncomputable section
def ownT : Tr (List (Nat × Nat)) := (.node 34 [(3, 0)] (.node 21 [(4, 0)] (.node 11 [(28, 1000), (28, 0)] (.node 10 [(3, 4)] (.node 9 [(3, 0)] .nil .nil) .nil) (.node 12 [(26, 0)] .nil .nil)) (.node 27 [(3, 3)] (.node 23 [(12, 0)] (.node 22 [(4, 0)] .nil .nil) .nil) (.node 30 [(2, 1000), (28, 781), (56, 781), (59, 781)] .nil .nil))) (.node 69 [(32, 1000), (32, 0), (14, 3)] (.node 60 [(5, 0)] (.node 53 [(12, 0)] (.node 38 [(50, 783), (12, 0)] .nil .nil) .nil) (.node 61 [(2, 1003), (2, 1003), (5, 1003), (5, 3)] .nil .nil)) (.node 83 [(4, 1003), (31, 781), (61, 781), (64, 781)] (.node 82 [(4, 1003)] .nil .nil) (.node 93 [(6, 1003), (12, 781), (34, 781), (43, 781), (50, 781), (53, 781), (60, 781), (66, 781), (73, 781), (76, 781), (80, 781), (86, 781), (91, 781)] .nil .nil))))
def liveT : Tr (List (Nat × List Nat)) := (.node 50 [(2, [0, 1, 5])] (.node 23 [(5, [0, 1, 2, 3, 4, 12, 13])] (.node 11 [(21, [0, 3, 71, 72, 73]), (15, [0, 3, 7, 56, 57, 58]), (9, [0, 3, 7, 29, 30, 31, 42, 43, 44]), (5, [0, 3, 7, 29, 30, 31])] (.node 7 [(3, [0, 3, 4])] (.node 5 [(22, [4, 7, 8, 14, 15, 145, 146, 147]), (9, [0, 2, 4, 7, 8, 9, 10, 11, 69, 70, 71])] (.node 4 [(7, [0, 3, 5, 7])] .nil .nil) (.node 6 [(18, [1, 7, 16, 24, 25]), (15, [1, 7, 16, 24])] .nil .nil)) (.node 10 [(3, [0, 3, 4])] (.node 9 [(3, [0, 3, 4])] .nil .nil) .nil)) (.node 14 [(4, [0, 1, 5])] (.node 13 [(4, [0, 1, 5])] (.node 12 [(17, [0, 3, 7, 11, 12]), (12, [0, 3, 7, 10]), (8, [0, 3, 7, 8, 9]), (5, [0, 3, 7, 8])] .nil .nil) .nil) (.node 22 [(5, [0, 4, 5])] (.node 21 [(5, [4, 17, 18, 19])] .nil .nil) .nil))) (.node 34 [(3, [0, 3, 4])] (.node 31 [(5, [0, 6, 16, 17])] (.node 27 [(3, [0, 3, 4])] (.node 26 [(2, [0, 3])] .nil .nil) (.node 30 [(9, [0, 3, 4, 5]), (4, [0, 3])] .nil .nil)) (.node 33 [(4, [1, 3])] (.node 32 [(3, [3, 4, 5, 7, 13, 14, 15])] .nil .nil) .nil)) (.node 38 [(5, [0, 1, 2, 3, 4, 12, 42, 43])] (.node 37 [(4, [0, 1, 5])] (.node 35 [(3, [2, 4, 7, 9])] .nil .nil) .nil) (.node 46 [(4, [0, 21, 22])] (.node 40 [(3, [1, 2, 7, 10, 11])] .nil .nil) .nil)))) (.node 71 [(4, [0, 1, 2, 6, 7]), (1, [0, 1, 2, 6])] (.node 64 [(4, [2, 8, 21, 22, 23])] (.node 57 [(2, [0, 1, 2, 3, 8, 9])] (.node 53 [(3, [0, 1, 2, 3, 4, 12, 13])] (.node 51 [(3, [0, 4, 5])] .nil .nil) (.node 54 [(4, [0, 3])] .nil .nil)) (.node 62 [(5, [1, 2, 3, 10, 32, 33])] (.node 60 [(3, [0, 1, 5, 6])] .nil .nil) .nil)) (.node 68 [(3, [0, 3, 4])] (.node 67 [(3, [0, 1, 2, 7, 8])] (.node 65 [(2, [0, 1, 7, 8])] .nil .nil) .nil) (.node 70 [(2, [0, 1, 7, 8])] (.node 69 [(17, [0, 1, 2, 3, 10, 14, 15]), (12, [0, 1, 2, 3, 10, 12, 13]), (9, [0, 1, 2, 3, 10, 12]), (5, [0, 1, 2, 3, 10, 11])] .nil .nil) .nil))) (.node 79 [(15, [0, 1, 10, 11]), (13, [0, 1, 10, 11]), (5, [0, 1, 10, 11]), (3, [0, 1, 10, 11])] (.node 75 [(2, [0, 6, 7])] (.node 73 [(5, [0, 1, 6, 7, 8, 9])] (.node 72 [(8, [0, 6, 7, 10]), (4, [0, 6, 7, 8, 9])] .nil .nil) .nil) (.node 78 [(5, [0, 1, 9, 10]), (3, [0, 1, 9, 10])] (.node 76 [(20, [0, 1, 2, 7, 8, 10]), (14, [0, 1, 2, 7, 8, 9]), (5, [0, 1, 2, 7, 8]), (3, [0, 1, 2, 7, 8])] .nil .nil) .nil)) (.node 87 [(1, [0, 2, 3, 8])] (.node 86 [(3, [0, 1, 5, 6])] (.node 83 [(9, [0, 1, 5, 6, 7]), (4, [0, 1, 5])] .nil .nil) .nil) (.node 100 [(1, [0, 2, 3])] (.node 94 [(2, [1, 5, 6])] .nil .nil) .nil)))))
def shutT : Tr (List (Nat × List Nat)) := .nil
def sharedT : Tr Bool := (.node 82 true (.node 30 true (.node 29 true .nil .nil) (.node 61 true .nil .nil)) (.node 93 true (.node 83 true .nil .nil) .nil))
def methT : Tr (Nat × List Bool) := .nil
def ownFT : Tr OwnSp := (.node 82 ⟨[1, 0], 0, [some 3]⟩ (.node 30 ⟨[1], 0, [some 0]⟩ (.node 29 ⟨[2], 1, []⟩ .nil .nil) (.node 61 ⟨[0], 0, [some 3]⟩ .nil .nil)) (.node 93 ⟨[1, 0, 0], 0, [some 3]⟩ (.node 83 ⟨[1, 0], 0, [some 3]⟩ .nil .nil) .nil))
def inlT : Tr Bool := .nil
def joinTab : Tr (List (Nat × Join)) := (.node 35 [(31, ⟨[2, 4, 7, 9, 10], [2, 4, 7, 9, 10, 49], [], []⟩), (16, ⟨[2, 4, 7, 9], [], [(0, [7])], []⟩)] (.node 21 [(24, ⟨[4, 17, 18, 19], [], [(0, [4])], [2, 3]⟩)] (.node 10 [(16, ⟨[0, 3, 4], [], [(0, [3])], []⟩)] (.node 7 [(16, ⟨[0, 3, 4], [], [(0, [0, 3])], []⟩)] (.node 5 [(92, ⟨[4, 7, 8, 14, 15, 145, 146, 147], [], [(2, [14, 15])], [6]⟩), (51, ⟨[0, 2, 4, 7, 8, 9, 10, 11, 13, 69, 70, 71], [0, 2, 4, 7, 8, 9, 10, 11, 13, 69, 70, 71, 87], [], []⟩), (40, ⟨[0, 2, 4, 7, 8, 9, 10, 11, 69, 70, 71], [], [(0, [0, 4, 7, 8, 9, 10, 11])], []⟩), (34, ⟨[0, 2, 4, 7, 8, 9, 53], [0, 4, 7, 8, 9], [], [6]⟩), (31, ⟨[0, 2, 4, 7, 8, 9], [0, 2, 4, 7, 8, 9, 53], [], []⟩)] (.node 4 [(32, ⟨[0, 3, 5, 7], [], [(0, [0, 3, 5])], [4]⟩)] .nil .nil) .nil) (.node 9 [(16, ⟨[0, 3, 4], [], [(0, [3])], []⟩)] .nil .nil)) (.node 13 [(20, ⟨[0, 1, 5], [], [(0, [])], [4]⟩)] (.node 12 [(72, ⟨[0, 3, 7, 11, 12], [], [(6, [0, 3, 11])], []⟩), (52, ⟨[0, 3, 7, 10], [], [(4, [0, 3, 7])], []⟩), (36, ⟨[0, 3, 7, 8, 9], [], [(2, [0, 3, 7, 8])], []⟩), (24, ⟨[0, 3, 7, 8], [], [(0, [0, 3, 7])], []⟩)] (.node 11 [(88, ⟨[0, 3, 71, 72, 73], [], [(6, [])], [4, 5, 6]⟩), (64, ⟨[0, 3, 7, 56, 57, 58], [], [(4, [0, 3, 7])], []⟩), (40, ⟨[0, 3, 7, 29, 30, 31, 42, 43, 44], [], [(2, [0, 3, 7, 29, 30, 31])], []⟩), (24, ⟨[0, 3, 7, 29, 30, 31], [], [(0, [0, 3, 7])], []⟩)] .nil .nil) .nil) (.node 14 [(20, ⟨[0, 1, 5], [], [(0, [])], [4]⟩)] .nil .nil))) (.node 30 [(40, ⟨[0, 3, 4, 5], [], [(2, [0, 3])], []⟩), (20, ⟨[0, 3], [], [(0, [0])], [2]⟩)] (.node 26 [(12, ⟨[0, 3], [], [(0, [0])], [2]⟩)] (.node 23 [(39, ⟨[0, 1, 2, 3, 4, 12, 13, 14], [0, 1, 2, 3, 4, 12, 13, 57], [], []⟩), (24, ⟨[0, 1, 2, 3, 4, 12, 13], [], [(0, [12])], []⟩)] (.node 22 [(24, ⟨[0, 4, 5], [], [(0, [4])], [2, 3]⟩)] .nil .nil) .nil) (.node 27 [(16, ⟨[0, 3, 4], [], [(0, [3])], []⟩)] .nil .nil)) (.node 33 [(20, ⟨[1, 3], [], [(0, [])], [2]⟩)] (.node 32 [(27, ⟨[3, 4, 5, 7, 9, 13, 14, 15], [3, 4, 5, 7, 9, 13, 14, 15, 31], [], []⟩), (16, ⟨[3, 4, 5, 7, 13, 14, 15], [], [(0, [3, 4, 5, 7])], []⟩)] (.node 31 [(24, ⟨[0, 6, 16, 17], [], [(0, [6])], []⟩)] .nil .nil) .nil) (.node 34 [(16, ⟨[0, 3, 4], [], [(0, [3])], []⟩)] .nil .nil)))) (.node 62 [(38, ⟨[1, 2, 3, 10, 11, 32, 33, 51], [1, 2, 3, 10, 11, 32, 33], [], []⟩), (35, ⟨[1, 2, 3, 10, 11, 32, 33], [1, 2, 3, 10, 11, 32, 33, 51], [], []⟩), (24, ⟨[1, 2, 3, 10, 32, 33], [], [(0, [10])], [8, 9]⟩)] (.node 50 [(12, ⟨[0, 1, 5], [], [(0, [0, 1])], []⟩)] (.node 40 [(27, ⟨[1, 2, 7, 8, 10, 11], [1, 2, 7, 8, 10, 11, 23], [], []⟩), (16, ⟨[1, 2, 7, 10, 11], [], [(0, [7])], []⟩)] (.node 38 [(42, ⟨[0, 1, 2, 3, 4, 12, 13, 14, 15, 42, 43, 55], [0, 1, 2, 3, 4, 12, 14, 15, 42, 43], [], []⟩), (24, ⟨[0, 1, 2, 3, 4, 12, 42, 43], [], [(0, [12])], [10, 11]⟩)] (.node 37 [(20, ⟨[0, 1, 5], [], [(0, [])], [4]⟩)] .nil .nil) .nil) (.node 46 [(20, ⟨[0, 21, 22], [], [(0, [])], [2]⟩)] .nil .nil)) (.node 54 [(20, ⟨[0, 3], [], [(0, [])], [2]⟩)] (.node 53 [(34, ⟨[0, 1, 2, 3, 4, 12, 13, 14, 30], [0, 1, 2, 3, 4, 12, 13, 14], [], [10, 11]⟩), (16, ⟨[0, 1, 2, 3, 4, 12, 13], [], [(0, [12])], [10, 11]⟩)] (.node 51 [(16, ⟨[0, 4, 5], [], [(0, [4])], [2, 3]⟩)] .nil .nil) .nil) (.node 60 [(27, ⟨[0, 1, 5, 6], [0, 1, 5, 6, 21], [], []⟩), (16, ⟨[0, 1, 5, 6], [], [(0, [5])], []⟩)] .nil .nil))) (.node 70 [(12, ⟨[0, 1, 7, 8], [], [(0, [])], [4]⟩)] (.node 67 [(27, ⟨[0, 1, 2, 7, 8], [0, 1, 2, 7, 8, 42], [], []⟩), (16, ⟨[0, 1, 2, 7, 8], [], [(0, [7])], []⟩)] (.node 65 [(12, ⟨[0, 1, 7, 8], [], [(0, [])], [4]⟩)] (.node 64 [(20, ⟨[2, 8, 21, 22, 23], [], [(0, [8])], []⟩)] .nil .nil) .nil) (.node 68 [(16, ⟨[0, 3, 4], [], [(0, [3])], []⟩)] .nil .nil)) (.node 86 [(16, ⟨[0, 1, 5, 6], [], [(0, [5])], []⟩)] (.node 83 [(40, ⟨[0, 1, 5, 6, 7], [], [(2, [0, 5])], []⟩), (20, ⟨[0, 1, 5], [], [(0, [0])], [4]⟩)] .nil .nil) (.node 94 [(12, ⟨[1, 5, 6], [], [(0, [5])], []⟩)] .nil .nil)))))
def h0 : Hints := { own := fun f t => (ownT.get? f).bind fun l => pairFind l t, live := fun f i => ((liveT.get? f).bind fun l => pairFind l i).getD [], join := fun f i => (joinTab.get? f).bind fun l => pairFind l i, shared := fun f => (sharedT.get? f).getD false, stil := fun f i => ((shutT.get? f).bind fun l => pairFind l i).getD [], meth := fun f => methT.get? f, inl := fun f => (inlT.get? f).getD false, primS := fun f => none, primM := fun g => none, ownF := fun f => ownFT.get? f, primO := fun g => bif Nat.beq g 29 then some sortPO else bif Nat.beq g 93 then some (insertPO 3 16) else none }
def hh : Hints := { h0 with prim := fun f => bif Nat.beq f 61 then some (cloneQ 3) else none }

end
end Go.Lite

namespace Go.Proofs
open Go.RowKit Go.Maps Go.Sort Go.Shelf Go.Lite
def Try.sortL_ren : Go.Shelf.Ren := ⟨fun | 5 => 29 | 8 => 58 | 7 => 57 | 19 => 80 | 20 => 81 | 10 => 71 | 11 => 72 | 12 => 73 | 13 => 74 | 14 => 75 | 15 => 76 | 16 => 77 | 17 => 78 | 18 => 79 | 30 => 87 | 31 => 88 | 32 => 89 | 33 => 90 | 34 => 91 | 35 => 92 | 40 => 96 | n => n, fun | 23 => 58 | 25 => 2 | 3 => 3 | 32 => 83 | 22 => 58 | 0 => 0 | 44 => 23 | 46 => 85 | 4 => 4 | 36 => 94 | 35 => 93 | 41 => 98 | 5 => 5 | 9 => 9 | 53 => 105 | 57 => 109 | 63 => 114 | 64 => 115 | n => n, fun | n => n⟩
theorem Try.sortL : Go.Proofs.SlLaysM.n5 Try.prog Try.sortL_ren := {
  mixed := by kernel_rfl
  f5 := ⟨Try.f29.name, by decide, Try.func29.trans (congrArg some (by kernel_rfl))⟩
  f7 := ⟨Try.f57.name, by decide, Try.func57.trans (congrArg some (by kernel_rfl))⟩
  f8 := Try.func58.trans (congrArg some (by kernel_rfl))
  f10 := ⟨Try.f71.name, by decide, Try.func71.trans (congrArg some (by kernel_rfl))⟩
  f11 := ⟨Try.f72.name, by decide, Try.func72.trans (congrArg some (by kernel_rfl))⟩
  f12 := ⟨Try.f73.name, by decide, Try.func73.trans (congrArg some (by kernel_rfl))⟩
  f13 := ⟨Try.f74.name, by decide, Try.func74.trans (congrArg some (by kernel_rfl))⟩
  f14 := ⟨Try.f75.name, by decide, Try.func75.trans (congrArg some (by kernel_rfl))⟩
  f15 := ⟨Try.f76.name, by decide, Try.func76.trans (congrArg some (by kernel_rfl))⟩
  f16 := ⟨Try.f77.name, by decide, Try.func77.trans (congrArg some (by kernel_rfl))⟩
  f17 := ⟨Try.f78.name, by decide, Try.func78.trans (congrArg some (by kernel_rfl))⟩
  f18 := ⟨Try.f79.name, by decide, Try.func79.trans (congrArg some (by kernel_rfl))⟩
  f19 := Try.func80.trans (congrArg some (by kernel_rfl))
  f20 := Try.func81.trans (congrArg some (by kernel_rfl))
  f30 := ⟨Try.f87.name, by decide, Try.func87.trans (congrArg some (by kernel_rfl))⟩
  f31 := Try.func88.trans (congrArg some (by kernel_rfl))
  f32 := Try.func89.trans (congrArg some (by kernel_rfl))
  f33 := ⟨Try.f90.name, by decide, Try.func90.trans (congrArg some (by kernel_rfl))⟩
  f34 := ⟨Try.f91.name, by decide, Try.func91.trans (congrArg some (by kernel_rfl))⟩
  f35 := ⟨Try.f92.name, by decide, Try.func92.trans (congrArg some (by kernel_rfl))⟩
  f40 := ⟨Try.f96.name, by decide, Try.func96.trans (congrArg some (by kernel_rfl))⟩
  t0 := Try.underlying0
  a0 := Try.isAgg0
  z0 := Try.sizeOf0
  v0 := Try.zeroValue0
  t3 := Try.underlying3
  a3 := Try.isAgg3
  z3 := Try.sizeOf3
  v3 := Try.zeroValue3
  t4 := Try.underlying4
  a4 := Try.isAgg4
  z4 := Try.sizeOf4
  v4 := Try.zeroValue4
  t5 := Try.underlying5
  a5 := Try.isAgg5
  z5 := Try.sizeOf5
  v5 := Try.zeroValue5
  t9 := Try.underlying9
  a9 := Try.isAgg9
  z9 := Try.sizeOf9
  v9 := Try.zeroValue9
  t22 := Try.underlying58
  a22 := Try.isAgg58
  z22 := Try.sizeOf58
  v22 := Try.zeroValue58
  t23 := Try.underlying58
  a23 := Try.isAgg58
  z23 := Try.sizeOf58
  v23 := Try.zeroValue58
  t25 := Try.underlying2
  a25 := Try.isAgg2
  z25 := Try.sizeOf2
  v25 := Try.zeroValue2
  t32 := Try.underlying83
  a32 := Try.isAgg83
  z32 := Try.sizeOf83
  v32 := Try.zeroValue83
  t35 := Try.underlying93
  a35 := Try.isAgg93
  z35 := Try.sizeOf93
  v35 := Try.zeroValue93
  t36 := Try.underlying94
  a36 := Try.isAgg94
  z36 := Try.sizeOf94
  v36 := Try.zeroValue94
  t41 := Try.underlying98
  a41 := Try.isAgg98
  z41 := Try.sizeOf98
  v41 := Try.zeroValue98
  t44 := Try.underlying23
  a44 := Try.isAgg23
  z44 := Try.sizeOf23
  v44 := Try.zeroValue23
  t46 := Try.underlying85
  a46 := Try.isAgg85
  z46 := Try.sizeOf85
  v46 := Try.zeroValue85
  t53 := Try.underlying105
  a53 := Try.isAgg105
  z53 := Try.sizeOf105
  v53 := Try.zeroValue105
  t57 := Try.underlying109
  a57 := Try.isAgg109
  z57 := Try.sizeOf109
  v57 := Try.zeroValue109
  t63 := Try.underlying114
  a63 := Try.isAgg114
  z63 := Try.sizeOf114
  v63 := Try.zeroValue114
  t64 := Try.underlying115
  a64 := Try.isAgg115
  z64 := Try.sizeOf115
  v64 := Try.zeroValue115 }
theorem sorts29 : SortsI Try.prog 29 := ⟨⟨_, Try.func29, by kernel_rfl, by kernel_rfl⟩,
  fun blk off cap zs w hH hblk hsz => AnyM.slices_Sort_int Try.sortL blk off cap zs w hH hblk hsz,
  fun p cap w => AnyM.slices_Sort_int_none Try.sortL p cap w⟩
def insRen : Ren := ⟨fun | 22 => 93 | 29 => 97 | 30 => 98 | n => n, fun | 24 => 52 | 9 => 54 | 3 => 3 | 4 => 4 | 0 => 0 | n => n, fun | n => n⟩
theorem insLay : InsLay Try.prog insRen 2 16 (.agg #[.int .i64 0, .int .i64 0]) := {
  mixed := by kernel_rfl
  f22 := ⟨Try.f93.name, by decide, Try.func93.trans (congrArg some (by kernel_rfl))⟩
  x29 := ⟨Try.f97, Try.func97, by decide, by kernel_rfl, by kernel_rfl, by kernel_rfl⟩
  t0 := Try.underlying0
  a0 := Try.isAgg0
  z0 := Try.sizeOf0
  v0 := Try.zeroValue0
  t3 := Try.underlying3
  a3 := Try.isAgg3
  z3 := Try.sizeOf3
  v3 := Try.zeroValue3
  t4 := Try.underlying4
  a4 := Try.isAgg4
  z4 := Try.sizeOf4
  v4 := Try.zeroValue4
  z9 := Try.sizeOf54
  t24 := Try.underlying52
  a24 := Try.isAgg52
  z24 := Try.sizeOf52
  v24 := Try.zeroValue52
  i9 := by kernel_rfl
  zk := by kernel_rfl
  k0 := by decide }
theorem ins93 : InsertsP Try.prog 93 3 16 := ⟨⟨_, Try.func93, by kernel_rfl, by kernel_rfl⟩, by decide, insRen, _, insLay, rfl⟩
end Go.Proofs
