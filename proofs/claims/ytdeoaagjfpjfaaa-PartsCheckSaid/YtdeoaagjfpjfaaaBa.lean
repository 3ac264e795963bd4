import Derived.Test.YtdeoaagjfpjfaaaLe
import Derived.Test.YtdeoaagjfpjfaaaProg
import Derived.KernelRfl
import Derived.Shelf.SortM.Plain
import Derived.Shelf.SortM.SortNone
import Derived.Ground.GgzProg
import Derived.Ground.SlgmProg
set_option linter.unusedVariables false
set_option linter.unusedSimpArgs false

namespace Go.Lite
open Go Go.Proofs
set_option maxRecDepth 1000000
set_option linter.unusedVariables false
noncomputable section
def ownT : Tr (List (Nat × Nat)) := (.node 14 [(4, 4)] (.node 9 [(28, 1000), (28, 0)] (.node 7 [(4, 0)] .nil .nil) .nil) (.node 70 [(11, 0)] (.node 26 [(2, 1000), (28, 781), (56, 781), (59, 781)] .nil .nil) .nil))
def liveT : Tr (List (Nat × List Nat)) := (.node 70 [(2, [0, 1, 5])] (.node 33 [(2, [1, 6, 7, 8])] (.node 21 [(2, [0, 1, 7, 8])] (.node 10 [(12, [6, 45, 46, 47])] (.node 9 [(21, [0, 3, 71, 72, 73]), (15, [0, 3, 7, 56, 57, 58]), (9, [0, 3, 7, 29, 30, 31, 42, 43, 44]), (5, [0, 3, 7, 29, 30, 31])] (.node 7 [(5, [4, 17, 18, 19])] .nil .nil) .nil) (.node 14 [(3, [4, 7, 8, 9])] .nil .nil)) (.node 28 [(3, [3, 4, 5, 7, 13, 14, 15])] (.node 27 [(5, [0, 6, 16, 17])] (.node 26 [(9, [0, 3, 4, 5]), (4, [0, 3])] .nil .nil) .nil) (.node 32 [(2, [0, 1, 9, 10, 11])] .nil .nil))) (.node 57 [(3, [1, 2, 7, 10, 11])] (.node 54 [(4, [0, 21, 22])] (.node 47 [(3, [1, 5, 8, 9, 10])] (.node 39 [(3, [1, 6, 7, 10, 11, 12])] .nil .nil) .nil) (.node 55 [(2, [0, 1, 2, 3, 8, 9])] .nil .nil)) (.node 64 [(2, [0, 1, 7, 8])] (.node 62 [(2, [0, 9, 10, 11])] .nil .nil) (.node 65 [(2, [0, 1, 7, 8])] .nil .nil)))) (.node 80 [(20, [0, 1, 2, 7, 8, 10]), (14, [0, 1, 2, 7, 8, 9]), (5, [0, 1, 2, 7, 8]), (3, [0, 1, 2, 7, 8])] (.node 75 [(4, [0, 1, 2, 6, 7]), (1, [0, 1, 2, 6])] (.node 73 [(2, [0, 1, 7, 8])] (.node 72 [(2, [0, 1, 7, 8])] (.node 71 [(2, [0, 1, 7, 8])] .nil .nil) .nil) (.node 74 [(2, [0, 1, 7, 8])] .nil .nil)) (.node 77 [(5, [0, 1, 6, 7, 8, 9])] (.node 76 [(8, [0, 6, 7, 10]), (4, [0, 6, 7, 8, 9])] .nil .nil) (.node 79 [(2, [0, 6, 7])] .nil .nil))) (.node 91 [(2, [0, 1, 7, 8])] (.node 87 [(4, [2, 8, 21, 22, 23])] (.node 83 [(15, [0, 1, 10, 11]), (13, [0, 1, 10, 11]), (5, [0, 1, 10, 11]), (3, [0, 1, 10, 11])] (.node 82 [(5, [0, 1, 9, 10]), (3, [0, 1, 9, 10])] .nil .nil) .nil) (.node 90 [(2, [1, 2, 10])] .nil .nil)) (.node 99 [(2, [0, 1, 7, 8])] (.node 92 [(1, [0, 2, 3, 8])] .nil .nil) (.node 101 [(2, [1, 5, 6])] .nil .nil)))))
def shutT : Tr (List (Nat × List Nat)) := .nil
def sharedT : Tr Bool := (.node 26 true (.node 25 true .nil .nil) .nil)
def methT : Tr (Nat × List Bool) := .nil
def ownFT : Tr OwnSp := (.node 26 ⟨[1], 0, [some 0]⟩ (.node 25 ⟨[2], 1, []⟩ .nil .nil) .nil)
def inlT : Tr Bool := .nil
def joinTab : Tr (List (Nat × Join)) := (.node 57 [(27, ⟨[1, 2, 7, 8, 10, 11], [1, 2, 7, 8, 10, 11, 23], [], []⟩), (16, ⟨[1, 2, 7, 10, 11], [], [(0, [7])], []⟩)] (.node 27 [(24, ⟨[0, 6, 16, 17], [], [(0, [6])], []⟩)] (.node 10 [(52, ⟨[6, 45, 46, 47], [], [(4, [])], [2]⟩), (9, ⟨[1, 4, 6], [1, 6], [(3, [])], [2]⟩)] (.node 7 [(24, ⟨[4, 17, 18, 19], [], [(0, [4])], [2, 3]⟩)] (.node 3 [(70, ⟨[3, 5, 14, 116], [3, 14], [], []⟩), (67, ⟨[3, 4, 5, 14], [3, 5, 14, 116], [], []⟩), (62, ⟨[3, 4, 5, 14, 103], [3, 4, 5, 14], [], []⟩), (59, ⟨[3, 4, 5, 14], [3, 4, 5, 14, 103], [], []⟩), (54, ⟨[3, 4, 5, 14, 90], [3, 4, 5, 14], [], []⟩), (51, ⟨[3, 4, 5, 14], [3, 4, 5, 14, 90], [], []⟩)] .nil .nil) (.node 9 [(88, ⟨[0, 3, 71, 72, 73], [], [(6, [])], [4, 5, 6]⟩), (64, ⟨[0, 3, 7, 56, 57, 58], [], [(4, [0, 3, 7])], []⟩), (40, ⟨[0, 3, 7, 29, 30, 31, 42, 43, 44], [], [(2, [0, 3, 7, 29, 30, 31])], []⟩), (24, ⟨[0, 3, 7, 29, 30, 31], [], [(0, [0, 3, 7])], []⟩)] .nil .nil)) (.node 21 [(12, ⟨[0, 1, 7, 8], [], [(0, [])], [4]⟩)] (.node 14 [(16, ⟨[4, 7, 8, 9], [], [(0, [4])], []⟩)] .nil .nil) (.node 26 [(40, ⟨[0, 3, 4, 5], [], [(2, [0, 3])], []⟩), (20, ⟨[0, 3], [], [(0, [0])], [2]⟩)] .nil .nil))) (.node 39 [(27, ⟨[1, 6, 7, 9, 10, 11, 12], [1, 6, 7, 9, 10, 11, 12, 24], [], []⟩), (16, ⟨[1, 6, 7, 10, 11, 12], [], [(0, [6, 7])], []⟩)] (.node 32 [(12, ⟨[0, 1, 9, 10, 11], [], [(0, [1])], [4]⟩)] (.node 28 [(27, ⟨[3, 4, 5, 7, 9, 13, 14, 15], [3, 4, 5, 7, 9, 13, 14, 15, 31], [], []⟩), (16, ⟨[3, 4, 5, 7, 13, 14, 15], [], [(0, [3, 4, 5, 7])], []⟩)] .nil .nil) (.node 33 [(12, ⟨[1, 6, 7, 8], [], [(0, [1])], [2]⟩)] .nil .nil)) (.node 54 [(20, ⟨[0, 21, 22], [], [(0, [])], [2]⟩)] (.node 47 [(27, ⟨[1, 5, 6, 7, 8, 9, 10], [1, 5, 6, 8, 9, 10, 22], [], []⟩), (16, ⟨[1, 5, 8, 9, 10], [], [(0, [5])], []⟩)] .nil .nil) .nil))) (.node 73 [(12, ⟨[0, 1, 7, 8], [], [(0, [])], [4]⟩)] (.node 70 [(12, ⟨[0, 1, 5], [], [(0, [5])], []⟩)] (.node 64 [(12, ⟨[0, 1, 7, 8], [], [(0, [])], [4]⟩)] (.node 62 [(12, ⟨[0, 9, 10, 11], [], [(0, [0])], [2]⟩)] .nil .nil) (.node 65 [(12, ⟨[0, 1, 7, 8], [], [(0, [])], [4]⟩)] .nil .nil)) (.node 72 [(12, ⟨[0, 1, 7, 8], [], [(0, [])], [4]⟩)] (.node 71 [(12, ⟨[0, 1, 7, 8], [], [(0, [])], [4]⟩)] .nil .nil) .nil)) (.node 91 [(12, ⟨[0, 1, 7, 8], [], [(0, [])], [4]⟩)] (.node 87 [(20, ⟨[2, 8, 21, 22, 23], [], [(0, [8])], []⟩)] (.node 74 [(12, ⟨[0, 1, 7, 8], [], [(0, [])], [4]⟩)] .nil .nil) (.node 90 [(12, ⟨[1, 2, 10], [], [(0, [])], [6]⟩)] .nil .nil)) (.node 101 [(12, ⟨[1, 5, 6], [], [(0, [5])], []⟩)] (.node 99 [(12, ⟨[0, 1, 7, 8], [], [(0, [])], [4]⟩)] .nil .nil) .nil))))
def h0 : Hints := { own := fun f t => (ownT.get? f).bind fun l => pairFind l t, live := fun f i => ((liveT.get? f).bind fun l => pairFind l i).getD [], join := fun f i => (joinTab.get? f).bind fun l => pairFind l i, shared := fun f => (sharedT.get? f).getD false, stil := fun f i => ((shutT.get? f).bind fun l => pairFind l i).getD [], meth := fun f => methT.get? f, inl := fun f => (inlT.get? f).getD false, primS := fun f => none, primM := fun g => none, ownF := fun f => ownFT.get? f, primO := fun g => bif Nat.beq g 25 then some sortPO else none }
def hh : Hints := { h0 with prim := fun f => none }

end
end Go.Lite

namespace Go.Proofs
open Go.RowKit Go.Maps Go.Sort Go.Shelf Go.Lite
def Try.sortL_ren : Go.Shelf.Ren := ⟨fun | 5 => 25 | 8 => 56 | 7 => 55 | 19 => 84 | 20 => 85 | 10 => 75 | 11 => 76 | 12 => 77 | 13 => 78 | 14 => 79 | 15 => 80 | 16 => 81 | 17 => 82 | 18 => 83 | 30 => 92 | 31 => 93 | 32 => 94 | 33 => 95 | 34 => 96 | 35 => 97 | 40 => 100 | n => n, fun | 23 => 71 | 25 => 2 | 3 => 3 | 32 => 115 | 22 => 71 | 0 => 0 | 44 => 41 | 46 => 145 | 4 => 4 | 36 => 139 | 35 => 138 | 41 => 39 | 5 => 5 | 9 => 9 | 53 => 151 | 57 => 155 | 63 => 160 | 64 => 93 | n => n, fun | n => n⟩
theorem Try.sortL : Go.Proofs.SlLaysM.n5 Try.prog Try.sortL_ren := {
  mixed := by kernel_rfl
  f5 := ⟨Try.f25.name, by decide, Try.func25.trans (congrArg some (by kernel_rfl))⟩
  f7 := ⟨Try.f55.name, by decide, Try.func55.trans (congrArg some (by kernel_rfl))⟩
  f8 := Try.func56.trans (congrArg some (by kernel_rfl))
  f10 := ⟨Try.f75.name, by decide, Try.func75.trans (congrArg some (by kernel_rfl))⟩
  f11 := ⟨Try.f76.name, by decide, Try.func76.trans (congrArg some (by kernel_rfl))⟩
  f12 := ⟨Try.f77.name, by decide, Try.func77.trans (congrArg some (by kernel_rfl))⟩
  f13 := ⟨Try.f78.name, by decide, Try.func78.trans (congrArg some (by kernel_rfl))⟩
  f14 := ⟨Try.f79.name, by decide, Try.func79.trans (congrArg some (by kernel_rfl))⟩
  f15 := ⟨Try.f80.name, by decide, Try.func80.trans (congrArg some (by kernel_rfl))⟩
  f16 := ⟨Try.f81.name, by decide, Try.func81.trans (congrArg some (by kernel_rfl))⟩
  f17 := ⟨Try.f82.name, by decide, Try.func82.trans (congrArg some (by kernel_rfl))⟩
  f18 := ⟨Try.f83.name, by decide, Try.func83.trans (congrArg some (by kernel_rfl))⟩
  f19 := Try.func84.trans (congrArg some (by kernel_rfl))
  f20 := Try.func85.trans (congrArg some (by kernel_rfl))
  f30 := ⟨Try.f92.name, by decide, Try.func92.trans (congrArg some (by kernel_rfl))⟩
  f31 := Try.func93.trans (congrArg some (by kernel_rfl))
  f32 := Try.func94.trans (congrArg some (by kernel_rfl))
  f33 := ⟨Try.f95.name, by decide, Try.func95.trans (congrArg some (by kernel_rfl))⟩
  f34 := ⟨Try.f96.name, by decide, Try.func96.trans (congrArg some (by kernel_rfl))⟩
  f35 := ⟨Try.f97.name, by decide, Try.func97.trans (congrArg some (by kernel_rfl))⟩
  f40 := ⟨Try.f100.name, by decide, Try.func100.trans (congrArg some (by kernel_rfl))⟩
  t0 := Try.underlying0
  a0 := Try.isAgg0
  z0 := Try.sizeOf0
  v0 := Try.zeroValue0
  t3 := Try.underlying3
  a3 := Try.isAgg3
  z3 := Try.sizeOf3
  v3 := Try.zeroValue3
  t4 := Try.underlying4
  a4 := Try.isAgg4
  z4 := Try.sizeOf4
  v4 := Try.zeroValue4
  t5 := Try.underlying5
  a5 := Try.isAgg5
  z5 := Try.sizeOf5
  v5 := Try.zeroValue5
  t9 := Try.underlying9
  a9 := Try.isAgg9
  z9 := Try.sizeOf9
  v9 := Try.zeroValue9
  t22 := Try.underlying71
  a22 := Try.isAgg71
  z22 := Try.sizeOf71
  v22 := Try.zeroValue71
  t23 := Try.underlying71
  a23 := Try.isAgg71
  z23 := Try.sizeOf71
  v23 := Try.zeroValue71
  t25 := Try.underlying2
  a25 := Try.isAgg2
  z25 := Try.sizeOf2
  v25 := Try.zeroValue2
  t32 := Try.underlying115
  a32 := Try.isAgg115
  z32 := Try.sizeOf115
  v32 := Try.zeroValue115
  t35 := Try.underlying138
  a35 := Try.isAgg138
  z35 := Try.sizeOf138
  v35 := Try.zeroValue138
  t36 := Try.underlying139
  a36 := Try.isAgg139
  z36 := Try.sizeOf139
  v36 := Try.zeroValue139
  t41 := Try.underlying39
  a41 := Try.isAgg39
  z41 := Try.sizeOf39
  v41 := Try.zeroValue39
  t44 := Try.underlying41
  a44 := Try.isAgg41
  z44 := Try.sizeOf41
  v44 := Try.zeroValue41
  t46 := Try.underlying145
  a46 := Try.isAgg145
  z46 := Try.sizeOf145
  v46 := Try.zeroValue145
  t53 := Try.underlying151
  a53 := Try.isAgg151
  z53 := Try.sizeOf151
  v53 := Try.zeroValue151
  t57 := Try.underlying155
  a57 := Try.isAgg155
  z57 := Try.sizeOf155
  v57 := Try.zeroValue155
  t63 := Try.underlying160
  a63 := Try.isAgg160
  z63 := Try.sizeOf160
  v63 := Try.zeroValue160
  t64 := Try.underlying93
  a64 := Try.isAgg93
  z64 := Try.sizeOf93
  v64 := Try.zeroValue93 }
theorem sorts25 : SortsI Try.prog 25 := ⟨⟨_, Try.func25, by kernel_rfl, by kernel_rfl⟩,
  fun blk off cap zs w hH hblk hsz => AnyM.slices_Sort_int Try.sortL blk off cap zs w hH hblk hsz,
  fun p cap w => AnyM.slices_Sort_int_none Try.sortL p cap w⟩
end Go.Proofs

namespace Go.Lite
open Go Go.Proofs
set_option linter.unusedVariables false
set_option linter.unusedSimpArgs false
set_option maxRecDepth 100000
theorem tidyTry : TidyF Try.prog := tidyF_of (by kernel_rfl)
theorem prims_hh : PrimsOK Try.prog hh.prim := fun g q h => by simp [hh, h0] at h
theorem primsS_hh : PrimsSOK Try.prog hh.primS := fun g q h => by simp [hh, h0] at h
theorem primsM_hh : PrimsMOK Try.prog hh.primM := fun g q h => by simp [hh, h0] at h
theorem primsO_hh : PrimsOOK Try.prog hh.ownF hh.primO := by
  intro g q sp h hsp
  simp only [hh, h0] at h
  cases hg : Nat.beq g 25 with
  | true =>
    rw [hg] at h
    simp only [cond_true, Option.some.injEq] at h
    subst h
    have : g = 25 := Nat.eq_of_beq_eq_true hg
    subst this
    have : sp = ⟨[2], 1, []⟩ := by
      have h1 : hh.ownF 25 = some ⟨[2], 1, []⟩ := by kernel_rfl
      rw [h1] at hsp; cases hsp; rfl
    subst this
    intro cp _ os r hq X B w K m vs hS hd hs hx
    exact sort_ok sorts25 os r hq X B w K m vs hS hd hs hx
  | false =>
    rw [hg] at h
    simp at h
noncomputable abbrev kk (L n : Nat) : Kallee := ⟨callP Try.prog hh L n, callS Try.prog hh L n, callM Try.prog hh L n, callO Try.prog hh L n, hh.calmB, hh.primS⟩
theorem t_awake : callP Try.prog hh 200 40 6 [] = some (Bo true) := by kernel_rfl
end Go.Lite

namespace Go.Lite
open Go Go.Proofs
theorem callP_of' {L n : Nat} {f : FuncId} {args : List PV} {x : PV} (hn : 1 ≤ n) (hp : hh.prim f = none) (he : bodyPR Try.prog (kk L n) hh L f args = some x) : callP Try.prog hh L (n + 1) f args = some x := by
  obtain ⟨k, rfl⟩ : ∃ k, n = k + 1 := ⟨n - 1, by omega⟩
  exact callP_of hp he
theorem callD_t {cp : FuncId → List PV → Option PV} {g : FuncId} {a b xs : List PV} {r : PV} (h : cp g (a ++ xs ++ b) = some r) (ht : r.roFree = true) : callD cp (.clo g a b) xs 1 = some r := by
  simp only [callD, h, okK, okAns, ht]; rfl
end Go.Lite
