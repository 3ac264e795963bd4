import Derived.Test.YthaldjolmmmahaaRn
import Derived.Shelf.SlGeneric
import Derived.Shelf.SlIterI.Nil
import Derived.Shelf.SortM.Plain
import Derived.Shelf.SortM.SortNone
import Derived.Ground.GgzProg
import Derived.Ground.SlgmProg
import Derived.Test.YthaldjolmmmahaaProg

namespace Go.Proofs
open Go.RowKit Go.Maps Go.Sort Go.Shelf Go.Lite

def Try.keysL_ren : Go.Shelf.Ren := ⟨fun | 7 => 36 | 10 => 44 | n => n, fun | 23 => 65 | 26 => 3 | 3 => 31 | 28 => 73 | 0 => 0 | 27 => 72 | 33 => 82 | 4 => 4 | n => n, fun | n => n⟩
theorem Try.keysL : Go.Proofs.SlLaysZI.n7 Try.prog Try.keysL_ren := {
  mixed := by kernel_rfl
  f7 := ⟨Try.f36.name, by decide, Try.func36.trans (congrArg some (by kernel_rfl))⟩
  f10 := ⟨Try.f44.name, by decide, Try.func44.trans (congrArg some (by kernel_rfl))⟩
  t0 := Try.underlying0
  a0 := Try.isAgg0
  z0 := Try.sizeOf0
  v0 := Try.zeroValue0
  t4 := Try.underlying4
  a4 := Try.isAgg4
  z4 := Try.sizeOf4
  v4 := Try.zeroValue4
  t23 := Try.underlying65
  a23 := Try.isAgg65
  z23 := Try.sizeOf65
  v23 := Try.zeroValue65
  t26 := Try.underlying3
  a26 := Try.isAgg3
  z26 := Try.sizeOf3
  v26 := Try.zeroValue3
  t27 := Try.underlying72
  a27 := Try.isAgg72
  z27 := Try.sizeOf72
  v27 := Try.zeroValue72
  t28 := Try.underlying73
  a28 := Try.isAgg73
  z28 := Try.sizeOf73
  v28 := Try.zeroValue73
  t33 := Try.underlying82
  a33 := Try.isAgg82
  z33 := Try.sizeOf82
  v33 := Try.zeroValue82 }
def Try.sortedL_ren : Go.Shelf.Ren := ⟨fun | 6 => 35 | 8 => 42 | 9 => 43 | 11 => 46 | 13 => 48 | 12 => 47 | 23 => 58 | 24 => 59 | 14 => 49 | 15 => 50 | 16 => 51 | 17 => 52 | 18 => 53 | 19 => 54 | 20 => 55 | 21 => 56 | 22 => 57 | 25 => 60 | 26 => 61 | 27 => 62 | 28 => 63 | 29 => 64 | 30 => 65 | 31 => 66 | n => n, fun | 26 => 3 | 28 => 73 | 24 => 37 | 0 => 0 | 3 => 3 | 37 => 38 | 48 => 98 | 50 => 83 | 4 => 4 | 40 => 90 | 39 => 89 | 45 => 95 | 5 => 5 | 9 => 9 | 51 => 100 | 55 => 104 | 57 => 106 | 58 => 107 | 33 => 82 | n => n, fun | n => n⟩
theorem Try.sortedL : Go.Proofs.SlLaysZI.n6 Try.prog Try.sortedL_ren := {
  mixed := by kernel_rfl
  f6 := ⟨Try.f35.name, by decide, Try.func35.trans (congrArg some (by kernel_rfl))⟩
  f8 := ⟨Try.f42.name, by decide, Try.func42.trans (congrArg some (by kernel_rfl))⟩
  f11 := ⟨Try.f46.name, by decide, Try.func46.trans (congrArg some (by kernel_rfl))⟩
  t0 := Try.underlying0
  a0 := Try.isAgg0
  z0 := Try.sizeOf0
  v0 := Try.zeroValue0
  t24 := Try.underlying37
  a24 := Try.isAgg37
  z24 := Try.sizeOf37
  v24 := Try.zeroValue37
  t26 := Try.underlying3
  a26 := Try.isAgg3
  z26 := Try.sizeOf3
  v26 := Try.zeroValue3
  t28 := Try.underlying73
  a28 := Try.isAgg73
  z28 := Try.sizeOf73
  v28 := Try.zeroValue73
  i26 := by kernel_rfl }
def Try.sortL_ren : Go.Shelf.Ren := ⟨fun | 5 => 43 | 8 => 48 | 7 => 47 | 19 => 58 | 20 => 59 | 10 => 49 | 11 => 50 | 12 => 51 | 13 => 52 | 14 => 53 | 15 => 54 | 16 => 55 | 17 => 56 | 18 => 57 | 30 => 60 | 31 => 61 | 32 => 62 | 33 => 63 | 34 => 64 | 35 => 65 | 40 => 66 | n => n, fun | 23 => 37 | 25 => 3 | 3 => 3 | 32 => 38 | 22 => 37 | 0 => 0 | 44 => 98 | 46 => 83 | 4 => 4 | 36 => 90 | 35 => 89 | 41 => 95 | 5 => 5 | 9 => 9 | 53 => 100 | 57 => 104 | 63 => 106 | 64 => 107 | n => n, fun | n => n⟩
theorem Try.sortL : Go.Proofs.SlLaysM.n5 Try.prog Try.sortL_ren := {
  mixed := by kernel_rfl
  f5 := ⟨Try.f43.name, by decide, Try.func43.trans (congrArg some (by kernel_rfl))⟩
  f7 := ⟨Try.f47.name, by decide, Try.func47.trans (congrArg some (by kernel_rfl))⟩
  f8 := Try.func48.trans (congrArg some (by kernel_rfl))
  f10 := ⟨Try.f49.name, by decide, Try.func49.trans (congrArg some (by kernel_rfl))⟩
  f11 := ⟨Try.f50.name, by decide, Try.func50.trans (congrArg some (by kernel_rfl))⟩
  f12 := ⟨Try.f51.name, by decide, Try.func51.trans (congrArg some (by kernel_rfl))⟩
  f13 := ⟨Try.f52.name, by decide, Try.func52.trans (congrArg some (by kernel_rfl))⟩
  f14 := ⟨Try.f53.name, by decide, Try.func53.trans (congrArg some (by kernel_rfl))⟩
  f15 := ⟨Try.f54.name, by decide, Try.func54.trans (congrArg some (by kernel_rfl))⟩
  f16 := ⟨Try.f55.name, by decide, Try.func55.trans (congrArg some (by kernel_rfl))⟩
  f17 := ⟨Try.f56.name, by decide, Try.func56.trans (congrArg some (by kernel_rfl))⟩
  f18 := ⟨Try.f57.name, by decide, Try.func57.trans (congrArg some (by kernel_rfl))⟩
  f19 := Try.func58.trans (congrArg some (by kernel_rfl))
  f20 := Try.func59.trans (congrArg some (by kernel_rfl))
  f30 := ⟨Try.f60.name, by decide, Try.func60.trans (congrArg some (by kernel_rfl))⟩
  f31 := Try.func61.trans (congrArg some (by kernel_rfl))
  f32 := Try.func62.trans (congrArg some (by kernel_rfl))
  f33 := ⟨Try.f63.name, by decide, Try.func63.trans (congrArg some (by kernel_rfl))⟩
  f34 := ⟨Try.f64.name, by decide, Try.func64.trans (congrArg some (by kernel_rfl))⟩
  f35 := ⟨Try.f65.name, by decide, Try.func65.trans (congrArg some (by kernel_rfl))⟩
  f40 := ⟨Try.f66.name, by decide, Try.func66.trans (congrArg some (by kernel_rfl))⟩
  t0 := Try.underlying0
  a0 := Try.isAgg0
  z0 := Try.sizeOf0
  v0 := Try.zeroValue0
  t3 := Try.underlying3
  a3 := Try.isAgg3
  z3 := Try.sizeOf3
  v3 := Try.zeroValue3
  t4 := Try.underlying4
  a4 := Try.isAgg4
  z4 := Try.sizeOf4
  v4 := Try.zeroValue4
  t5 := Try.underlying5
  a5 := Try.isAgg5
  z5 := Try.sizeOf5
  v5 := Try.zeroValue5
  t9 := Try.underlying9
  a9 := Try.isAgg9
  z9 := Try.sizeOf9
  v9 := Try.zeroValue9
  t22 := Try.underlying37
  a22 := Try.isAgg37
  z22 := Try.sizeOf37
  v22 := Try.zeroValue37
  t23 := Try.underlying37
  a23 := Try.isAgg37
  z23 := Try.sizeOf37
  v23 := Try.zeroValue37
  t25 := Try.underlying3
  a25 := Try.isAgg3
  z25 := Try.sizeOf3
  v25 := Try.zeroValue3
  t32 := Try.underlying38
  a32 := Try.isAgg38
  z32 := Try.sizeOf38
  v32 := Try.zeroValue38
  t35 := Try.underlying89
  a35 := Try.isAgg89
  z35 := Try.sizeOf89
  v35 := Try.zeroValue89
  t36 := Try.underlying90
  a36 := Try.isAgg90
  z36 := Try.sizeOf90
  v36 := Try.zeroValue90
  t41 := Try.underlying95
  a41 := Try.isAgg95
  z41 := Try.sizeOf95
  v41 := Try.zeroValue95
  t44 := Try.underlying98
  a44 := Try.isAgg98
  z44 := Try.sizeOf98
  v44 := Try.zeroValue98
  t46 := Try.underlying83
  a46 := Try.isAgg83
  z46 := Try.sizeOf83
  v46 := Try.zeroValue83
  t53 := Try.underlying100
  a53 := Try.isAgg100
  z53 := Try.sizeOf100
  v53 := Try.zeroValue100
  t57 := Try.underlying104
  a57 := Try.isAgg104
  z57 := Try.sizeOf104
  v57 := Try.zeroValue104
  t63 := Try.underlying106
  a63 := Try.isAgg106
  z63 := Try.sizeOf106
  v63 := Try.zeroValue106
  t64 := Try.underlying107
  a64 := Try.isAgg107
  z64 := Try.sizeOf107
  v64 := Try.zeroValue107 }

theorem Try.sortsIn (m : Nat) : AnyZI.SortsIn Try.prog Try.sortedL_ren Fence.wide m :=
  ⟨fun blk off cap ss W hH hblk hsz => callsIn_wide.2 (AnyM.slices_Sort_int Try.sortL blk off cap ss W hH hblk hsz),
   fun p cap W => callsIn_wide.2 (AnyM.slices_Sort_int_none Try.sortL p cap W)⟩

theorem sortsKeys : SortsKeys Try.prog 35 44 := by
  refine ⟨⟨_, Try.func35, by kernel_rfl, by kernel_rfl⟩, 3, by kernel_rfl, fun Bm b nn D0 W hcell hown hmax hbytes => ?_⟩
  have hlt : Bm < W.heap.size := World.block_lt_of_cell? (w := W) (a := ⟨Bm, 0, none⟩) hcell
  have hseq : SeqGives Fence.wide 2 Try.prog 44 #[.pointer (some ⟨Bm, 0, none⟩)] encZ (fun ss => ss.Perm (intKeys D0)) (Maps.size D0) W :=
    AnyZI.keys_gives (ρ := Try.keysL_ren) { Try.keysL with } Fence.wide _ trivial rfl (by omega) Bm b nn D0 W hlt hcell hown
  have cS := AnyZI.sorted_in Try.sortedL Fence.wide 5 trivial trivial trivial trivial rfl (by omega) (Try.sortsIn _) (enters_of Try.func43 (by kernel_rfl) rfl) 44 #[.pointer (some ⟨Bm, 0, none⟩)] trivial (enters_of Try.func44 (by kernel_rfl) rfl) _ _ hmax hbytes W hseq
  exact callsIn_wide.1 cS
end Go.Proofs

namespace Go.Lite
open Go Go.Proofs
set_option linter.unusedVariables false
set_option linter.unusedSimpArgs false
set_option maxRecDepth 100000

/-! # slices.Clone of bytes -/
theorem u27 : Try.prog.underlying 27 = some (.slice 5) := by kernel_rfl
theorem u37 : Try.prog.underlying 37 = some (.slice 3) := by kernel_rfl
theorem u34 : Try.prog.underlying 34 = some (.slice 31) := by kernel_rfl
theorem u44 : Try.prog.underlying 44 = some (.slice 27) := by kernel_rfl
theorem y5 : layOf Try.prog 5 = some 0 := by kernel_rfl
theorem y3 : layOf Try.prog 3 = some 0 := by kernel_rfl
theorem y27 : layOf Try.prog 27 = some 0 := by kernel_rfl
theorem y31 : layOf Try.prog 31 = some 5 := by kernel_rfl
theorem bytes_of {P : Program} {t : TypeId} {n : Nat} (h : (P.info? t).map (·.bytes) = some n) : ∃ i, P.info? t = some i ∧ i.bytes = n := by
  cases hi : P.info? t with
  | none => rw [hi] at h; cases h
  | some i => rw [hi] at h; simp at h; exact ⟨i, rfl, h⟩
theorem i5 : ∃ i, Try.prog.info? 5 = some i ∧ i.bytes = 1 := bytes_of (by kernel_rfl)
theorem z5 : zeroPV Try.prog 5 = some (.sc (.int .u8 0)) := by kernel_rfl
theorem i3 : ∃ i, Try.prog.info? 3 = some i ∧ i.bytes = 8 := bytes_of (by kernel_rfl)
theorem z3 : zeroPV Try.prog 3 = some (.sc (.int .i64 0)) := by kernel_rfl

@[simp] theorem oms_some {R : Type} (d : List (Int × PV)) (f : List (Int × PV) → Option R) : oms (some d) f = f d := rfl
@[simp] theorem ckB_true {R : Type} (y : Option R) : ckB true y = y := rfl
@[simp] theorem om_pair {R : Type} (r : MR) (fs : List FV) (f : MR → List FV → Option R) : om (some (r, fs)) f = f r fs := rfl
@[simp] theorem fp_p {R : Type} (d : PV) (r : List FV) (f : PV → List FV → Option R) : fp (.p d :: r) f = f d r := rfl
@[simp] theorem fm_m {R : Type} (es : List (Int × PV)) (r : List FV) (f : List (Int × PV) → List FV → Option R) : fm (.m es :: r) f = f es r := rfl
@[simp] theorem fnil_nil {R : Type} (x : Option R) : fnil [] x = x := rfl
@[simp] theorem r1_pure {R : Type} (d : PV) (f : PV → Option R) : r1 (.pure d) f = f d := rfl
@[simp] theorem r2_one {R : Type} (d : List FV) (f : List FV → Option R) : r2 (.one d) f = f d := rfl

theorem appendTo_bytes (xs ys : List PV) (c : Bool) (h : xs.length + ys.length ≤ 140737488355328) : appendTo Try.prog 27 27 0 xs (.list 0 c ys) = some (xs ++ ys) := by
  obtain ⟨i, h1, h2⟩ := i5
  simp [appendTo, u27, y5, h1, z5, h2, width, PV.hasLay, PV.isCell, layPV, elemsPV?, appendRoom, h]
theorem appendTo_ints (xs ys : List PV) (c : Bool) (h : xs.length + ys.length ≤ 1099511627776) : appendTo Try.prog 37 37 0 xs (.list 0 c ys) = some (xs ++ ys) := by
  obtain ⟨i, h1, h2⟩ := i3
  simp [appendTo, u37, y3, h1, z3, h2, width, PV.hasLay, PV.isCell, layPV, elemsPV?, appendRoom]
  omega
theorem build0 : buildXs Try.prog 27 0 0 [] = some [] := by kernel_rfl
theorem eqnil_list (x y : Operand) (c : Bool) (a : PV) (xs : List PV) : binPV Try.prog .eql 27 x y (.list 0 c (a :: xs)) (.sc (.slice none 0 0)) = some (.sc (.bool false)) := by
  simp [binPV, PV.plain?, nilCmpPV, u27]
theorem tidyTry : TidyF Try.prog := tidyF_of (by kernel_rfl)
theorem primsS0 : PrimsSOK Try.prog h0.primS := by
  intro g q h
  simp only [h0] at h
  cases hg : Nat.beq g 35 with
  | false => rw [hg] at h; simp at h
  | true =>
    rw [hg] at h
    simp only [cond_true, Option.some.injEq] at h
    subst h
    have : g = 35 := Nat.eq_of_beq_eq_true hg
    subst this
    exact sorted_ok sortsKeys
noncomputable abbrev kz : Kallee := ⟨callP Try.prog h0 1 1, callS Try.prog h0 1 1, callM Try.prog h0 1 1, h0.calmB⟩
theorem kz_ok : KOK Try.prog kz := call_sound tidyTry (fun g q h => by simp [h0] at h) primsS0 1
theorem kz_is : KIs Try.prog h0 1 kz := kis Try.prog h0 1 0
theorem clone34 : PureOK Try.prog fun g args => if g = 34 then cloneQ 0 args else none := by
  refine clone_ok (C := kz) (h := h0) (L := 1) tidyTry kz_ok (fun c x xs hl => ?_) ?_ fun a c => ?_
  · refine bodyPR_imp kz_is ?_
    rw [r34]
    have h := appendTo_bytes [] (x :: xs) c (by simp at hl ⊢; omega)
    simp [d34_0, eqnil_list, build0, h]
  · refine bodyPR_imp kz_is ?_
    rw [r34]; kernel_rfl
  · refine bodyPR_imp kz_is ?_
    rw [r34]; kernel_rfl
theorem prims_hh : PrimsOK Try.prog hh.prim := by
  intro g q h
  simp only [hh] at h
  cases hg : Nat.beq g 34 with
  | false => rw [hg] at h; simp at h
  | true =>
    rw [hg] at h
    simp only [cond_true, Option.some.injEq] at h
    subst h
    have : g = 34 := Nat.eq_of_beq_eq_true hg
    subst this
    exact clone34
end Go.Lite

namespace Go.Lite
open Go Go.Proofs
set_option linter.unusedVariables false
set_option linter.unusedSimpArgs false
set_option maxRecDepth 100000
noncomputable abbrev kk (L n : Nat) : Kallee := ⟨callP Try.prog hh L n, callS Try.prog hh L n, callM Try.prog hh L n, hh.calmB⟩

/-! # packets -/
abbrev U (n : Int) : PV := .sc (.int .u8 n)
abbrev B (ns : List Int) : PV := .list 0 false (ns.map U)
structure Pk where
  n : Int
  f : Int
  t : Int
  b : List Int
def Pk.pv (p : Pk) : PV := .agg [I p.n, I p.f, I p.t, B p.b]
def zpk : PV := .agg [I 0, I 0, I 0, nilSlice]
def ents (l : List Pk) : List (Int × PV) := l.map fun p => (p.n, p.pv)
abbrev st (es : List (Int × PV)) (v : Int) : List FV := [.m es, .p (I v)]

@[simp] theorem goI (n : Int) : PV.sc (goInt n) = I n := rfl
@[simp] theorem ckR (v : Int) : ckRoot 3 (.agg [.mp 1, .pv (I v)]) = true := rfl
@[simp] theorem ckH (v w : Int) : (PV.hasLay 0 (I v) && AV.hasLay 3 (.agg [.mp 1, .pv (I w)])) = true := rfl
@[simp] theorem pkl (p : Pk) : PV.hasLay 5 p.pv = true := rfl
@[simp] theorem pk0 (p : Pk) : PV.at_ 5 0 0 p.pv = some (I p.n) := rfl
@[simp] theorem pk1 (p : Pk) : PV.at_ 5 1 0 p.pv = some (I p.f) := rfl
@[simp] theorem pk3 (p : Pk) : PV.at_ 5 3 0 p.pv = some (B p.b) := rfl
@[simp] theorem put0 (p : Pk) (v : Int) : putPV 5 0 0 (.pv p.pv) (I v) = some ({ p with n := v } : Pk).pv := rfl
@[simp] theorem put3 (p : Pk) (b : List Int) : putPV 5 3 0 (.pv p.pv) (B b) = some ({ p with b := b } : Pk).pv := rfl
@[simp] theorem putA (v : AV) (p : Pk) : putPV 5 0 5 v p.pv = some p.pv := rfl
@[simp] theorem putZ (v : AV) : putPV 5 0 5 v zpk = some zpk := rfl
theorem im65 : intM Try.prog 65 = some 31 := by kernel_rfl
theorem z31 : zeroPV Try.prog 31 = some zpk := by kernel_rfl
@[simp] theorem look65 (ok : Bool) (es : List (Int × PV)) (k : Int) : lookPV Try.prog 65 ok es (I k) = some (lookT zpk ok k es) := by simp [lookPV, im65, z31, key?]
@[simp] theorem upd65 (es : List (Int × PV)) (k : Int) (d : PV) : updPV Try.prog 65 es (I k) d = some (updM k d es) := by simp [updPV, im65, key?]
@[simp] theorem del65 (es : List (Int × PV)) (k : Int) : delPV Try.prog 65 es (I k) = some (delM k es) := by simp [delPV, im65, key?]
@[simp] theorem ln27 (c : Bool) (xs : List PV) : (lenPV Try.prog 27 (.list 0 c xs)).map (fun n => I n) = some (I xs.length) := len_list u27 c xs
@[simp] theorem ln37 (c : Bool) (xs : List PV) : (lenPV Try.prog 37 (.list 0 c xs)).map (fun n => I n) = some (I xs.length) := len_list u37 c xs
@[simp] theorem ln37n : (lenPV Try.prog 37 (.sc (.slice none 0 0))).map (fun n => I n) = some (I 0) := len_nil u37
@[simp] theorem ln34 (c : Bool) (xs : List PV) : (lenPV Try.prog 34 (.list 5 c xs)).map (fun n => I n) = some (I xs.length) := len_list u34 c xs
@[simp] theorem ln44 (c : Bool) (xs : List PV) : (lenPV Try.prog 44 (.list 0 c xs)).map (fun n => I n) = some (I xs.length) := len_list u44 c xs
@[simp] theorem ia37 (c : Bool) (xs : List PV) (i : Nat) : indexAddrPV Try.prog 37 (.list 0 c xs) (I i) = (xs[i]?).map (.ro 0) := indexAddr_list u37 y3 c xs i
@[simp] theorem ia34 (c : Bool) (xs : List PV) (i : Nat) : indexAddrPV Try.prog 34 (.list 5 c xs) (I i) = (xs[i]?).map (.ro 5) := indexAddr_list u34 y31 c xs i
@[simp] theorem ia44 (c : Bool) (xs : List PV) (i : Nat) : indexAddrPV Try.prog 44 (.list 0 c xs) (I i) = (xs[i]?).map (.ro 0) := indexAddr_list u44 y27 c xs i
@[simp] theorem ld3 (d : PV) : loadPV Try.prog 3 (.ro 0 d) = some d := load_ro y3 d
@[simp] theorem ld27 (d : PV) : loadPV Try.prog 27 (.ro 0 d) = some d := load_ro y27 d
@[simp] theorem fa31_0 (p : Pk) : fieldAddrPV Try.prog 31 (.ro 5 p.pv) 0 = some (.ro 0 (I p.n)) := by kernel_rfl
theorem bp31 (f t : Int) (b : List Int) : buildPV Try.prog 31 [(1, I f), (2, I t), (3, B b)] = some (⟨0, f, t, b⟩ : Pk).pv := by kernel_rfl
theorem bp31z : buildPV Try.prog 31 [] = some zpk := by kernel_rfl
theorem bs34 (p : Pk) : buildSliceAV Try.prog 34 1 [(0, p.pv)] = some (.list 5 true [p.pv]) := by kernel_rfl
theorem i31 : ∃ i, Try.prog.info? 31 = some i ∧ i.bytes = 48 := bytes_of (by kernel_rfl)
theorem zl31 : PV.hasLay 5 zpk = true := rfl
theorem appendTo_pk (xs ys : List PV) (c : Bool) (h : xs.length + ys.length ≤ 1000000000) : appendTo Try.prog 34 34 5 xs (.list 5 c ys) = some (xs ++ ys) := by
  obtain ⟨i, h1, h2⟩ := i31
  simp [appendTo, u34, y31, h1, z31, h2, width, zl31, layPV, elemsPV?, appendRoom]
  omega

section
variable {L m : Nat}
@[simp] theorem c34 (hm : 1 ≤ m) (ns : List Int) (h : ns.length ≤ 1000000) : callP Try.prog hh L m 34 [B ns] = some (B ns) := by
  obtain ⟨n, rfl⟩ : ∃ n, m = n + 1 := ⟨m - 1, by omega⟩
  have : hh.prim 34 = some (cloneQ 0) := by kernel_rfl
  rw [callP, this]
  have h2 : ns.length ≤ 1099511627776 := by omega
  simp [cloneQ, h2]

theorem c31 (hm : 2 ≤ m) (es : List (Int × PV)) (v : Int) : callM Try.prog hh L m 31 (some (st es v)) [] = some (.pure (Bo false), st es v) := by
  obtain ⟨n, rfl⟩ : ∃ n, m = n + 1 + 1 := ⟨m - 2, by omega⟩
  refine callM_of ?_
  rw [r31]; simp [d31_0]

theorem c33 (hm : 4 ≤ m) (es : List (Int × PV)) (v k : Int) (p : Pk) (hp : findM k es = some p.pv) : callM Try.prog hh L m 33 (some (st es v)) [I k] = some (.pure (.tup [p.pv, I 0]), st es v) := by
  obtain ⟨n, rfl⟩ : ∃ n, m = n + 1 + 1 := ⟨m - 2, by omega⟩
  refine callM_of ?_
  rw [r33]; simp [d33_0, c31 (L := L) (m := n + 1) (by omega), lookT, hp]

theorem c33n (hm : 4 ≤ m) (es : List (Int × PV)) (v k : Int) (hp : findM k es = none) : callM Try.prog hh L m 33 (some (st es v)) [I k] = some (.pure (.tup [zpk, I 80]), st es v) := by
  obtain ⟨n, rfl⟩ : ∃ n, m = n + 1 + 1 := ⟨m - 2, by omega⟩
  refine callM_of ?_
  rw [r33]; simp [d33_0, c31 (L := L) (m := n + 1) (by omega), lookT, hp, bp31z]

theorem c32 (hm : 3 ≤ m) (es : List (Int × PV)) (v : Int) (p : Pk) (hl : es.length < 256) (hv : 0 ≤ v ∧ v < 1000000000) (hb : p.b.length ≤ 65545) :
    callM Try.prog hh L m 32 (some (st es v)) [p.pv] = some (.pure (.tup [I (v + 1), I 0]), st (updM (v + 1) ({ p with n := v + 1 } : Pk).pv es) (v + 1)) := by
  obtain ⟨n, rfl⟩ : ∃ n, m = n + 1 + 1 := ⟨m - 2, by omega⟩
  refine callM_of ?_
  have hw : IntKind.i64.wrap (v + 1) = v + 1 := wrap64 (by omega) (by omega)
  have h2 : ¬ (256 : Int) ≤ es.length := by omega
  rw [r32]; simp [d32_0, hw, h2, c34 (L := L) (m := n + 1) (by omega) p.b (by omega)]

theorem c10 (hm : 5 ≤ m) (es : List (Int × PV)) (v f t : Int) (b : List Int) (hl : es.length < 256) (hv : 0 ≤ v ∧ v < 1000000000) (hb : b.length ≤ 65545) :
    callM Try.prog hh L m 10 (some (st es v)) [I f, I t, B b] = some (.pure (.tup [I (v + 1), I 0]), st (updM (v + 1) (⟨v + 1, f, t, b⟩ : Pk).pv es) (v + 1)) := by
  obtain ⟨n, rfl⟩ : ∃ n, m = n + 1 + 1 := ⟨m - 2, by omega⟩
  refine callM_of ?_
  have h2 : ¬ (65545 : Int) < b.length := by omega
  rw [r10]; simp [d10_0, c31 (L := L) (m := n + 1) (by omega), h2, bp31, c32 (L := L) (m := n + 1) (by omega) es v ⟨0, f, t, b⟩ hl hv hb]
theorem c10l (hm : 5 ≤ m) (es : List (Int × PV)) (v f t : Int) (b : List Int) (hb : 65545 < b.length) :
    callM Try.prog hh L m 10 (some (st es v)) [I f, I t, B b] = some (.pure (.tup [I 0, I 3]), st es v) := by
  obtain ⟨n, rfl⟩ : ∃ n, m = n + 1 + 1 := ⟨m - 2, by omega⟩
  refine callM_of ?_
  have h2 : (65545 : Int) < b.length := by omega
  rw [r10]; simp [d10_0, c31 (L := L) (m := n + 1) (by omega), h2]

theorem c13 (hm : 6 ≤ m) (es : List (Int × PV)) (v k : Int) (p : Pk) (hp : findM k es = some p.pv) (hb : p.b.length ≤ 65545) :
    callM Try.prog hh L m 13 (some (st es v)) [I k] = some (.pure (.tup [p.pv, I 0]), st (delM k es) v) := by
  obtain ⟨n, rfl⟩ : ∃ n, m = n + 1 + 1 := ⟨m - 2, by omega⟩
  refine callM_of ?_
  rw [r13]; simp [d13_0, c33 (L := L) (m := n + 1) (by omega) es v k p hp, c34 (L := L) (m := n + 1) (by omega) p.b (by omega)]

theorem l14 {R : Type} (C : Kallee) (ke : PV → List (Int × PV) → List PV → Option R) (v : Int) (l : List Pk) (es : List (Int × PV)) (hl : l.length < 1000000) (hC : ∀ p ∈ l, C.pure 34 [B p.b] = some (B p.b))
    (hf : ∀ p ∈ l, findM p.n es = some p.pv) :
    ∀ (r : List Pk) (N i : Nat) (acc : List PV), l.drop i = r → r.length < N → acc.length + r.length ≤ 1000000 → d14_1i C L ke N (.list 0 false (l.map fun p => I p.n)) (I l.length) (I i) (I v) es acc = ke (I v) es (acc ++ r.map Pk.pv) := by
  intro r
  induction r with
  | nil =>
    intro N i acc h hN ha
    obtain ⟨N, rfl⟩ : ∃ n, N = n + 1 := ⟨N - 1, by omega⟩
    have := drop_nil' h
    have h2 : ¬ (i : Int) < l.length := by omega
    simp [d14_1i, d14_2, h2]
  | cons p r ih =>
    intro N i acc h hN ha
    obtain ⟨N, rfl⟩ : ∃ n, N = n + 1 := ⟨N - 1, by omega⟩
    obtain ⟨h1, h2, h3, h4⟩ := drop_cons' h
    have h5 : (i : Int) < l.length := by omega
    have h6 := wrap_succ (i := i) (by omega)
    have h7 := ih N (i + 1) (acc ++ [p.pv]) h3 (by simp at hN; omega) (by simp at ha ⊢; omega)
    have h8 := appendTo_pk acc [p.pv] true (by simp at ha ⊢; omega)
    simp only [List.append_assoc, List.cons_append, List.nil_append] at h7
    rw [show ((i + 1 : Nat) : Int) = (i : Int) + 1 by omega] at h7
    simp [d14_1i, d14_2, h5, h2, lookT, hf p h4, hC p h4, bs34, h8, h6, h7]

/-- keys that rise -/
def Rise (l : List Pk) : Prop := l.Pairwise fun p q => p.n < q.n
theorem findM_ents {l : List Pk} (hr : Rise l) {p : Pk} (hp : p ∈ l) : findM p.n (ents l) = some p.pv := by
  induction l with
  | nil => cases hp
  | cons q r ih =>
    have h1 := List.pairwise_cons.1 hr
    simp only [ents, List.map_cons, findM]
    rcases List.mem_cons.1 hp with rfl | hp
    · simp
    · have := h1.1 p hp
      have h2 : (q.n == p.n) = false := by simp; omega
      rw [h2]; exact ih h1.2 hp
theorem isort_rise : ∀ {l : List Pk}, Rise l → isort (l.map (·.n)) = l.map (·.n) := by
  intro l
  induction l with
  | nil => intro _; rfl
  | cons p r ih =>
    intro h
    have h1 := List.pairwise_cons.1 h
    simp only [List.map_cons, isort, ih h1.2]
    cases r with
    | nil => rfl
    | cons q r =>
      have := h1.1 q (by simp)
      have h2 : decide (p.n ≤ q.n) = true := by simp; omega
      simp [ins, h2]
theorem sorted_ents {l : List Pk} (hr : Rise l) (hk : ∀ p ∈ l, keyOK p.n = true) (hl : l.length ≤ 1000000) : sortedPV (ents l) = some (intsPV (l.map (·.n))) := by
  have h1 : ((ents l).all fun p => keyOK p.1) = true := by simp [ents]; exact hk
  have h2 : decide ((ents l).length * 8 ≤ 140737488355328) = true := by simp [ents]; omega
  have h3 : (ents l).map (·.1) = l.map (·.n) := by simp [ents]
  simp only [sortedPV, h1, h2, h3, isort_rise hr, Bool.and_self, cond_true]
theorem c14 (hm : 4 ≤ m) (hL : 1000 ≤ L) (l : List Pk) (v : Int) (hr : Rise l) (hk : ∀ p ∈ l, keyOK p.n = true) (hl : l.length ≤ 300) (hb : ∀ p ∈ l, p.b.length ≤ 65545) :
    callM Try.prog hh L m 14 (some (st (ents l) v)) [] = some (.pure (.list 5 false (l.map Pk.pv)), st (ents l) v) := by
  obtain ⟨n, rfl⟩ : ∃ n, m = n + 1 + 1 := ⟨m - 2, by omega⟩
  refine callM_of ?_
  rw [r14]
  have hs := sorted_ents hr hk (by omega)
  cases l with
  | nil =>
    obtain ⟨L, rfl⟩ : ∃ k, L = k + 1 := ⟨L - 1, by omega⟩
    have e : ents [] = [] := rfl
    rw [e] at hs ⊢
    simp [d14_0, g14_0, c31 (m := n + 1) (by omega), hs, intsPV, nilSlice, d14_1, d14_1i, d14_2, d14_3]
  | cons p r =>
    have hi : intsPV ((p :: r).map (·.n)) = .list 0 false ((p :: r).map fun p => I p.n) := by simp [intsPV]
    have h7 := l14 (L := L) (kk L (n + 1)) (fun v0 m1 x2 => d14_3 (kk L (n + 1)) L v0 m1 x2) v (p :: r) (ents (p :: r)) (by omega) (fun q hq => c34 (by omega) q.b (by have := hb q hq; omega)) (fun q hq => findM_ents hr hq) (p :: r) L 0 [] rfl (by omega) (by simp at hl ⊢; omega)
    rw [hi] at hs
    simp only [List.length_cons] at h7
    simp [d14_0, g14_0, c31 (L := L) (m := n + 1) (by omega), hs, d14_1] at h7 ⊢
    rw [h7]; simp [d14_3]
theorem byteM (ns : List Int) : (ns.map U).mapM byte? = some (ns.map fun n => UInt8.ofNat n.toNat) := by
  induction ns with
  | nil => rfl
  | cons a r ih => simp [List.mapM_cons, byte?, ih]
theorem c17 (hm : 2 ≤ m) (ns : List Int) : callP Try.prog hh L m 17 [B ns, B ns] = some (Bo true) := by
  obtain ⟨n, rfl⟩ : ∃ n, m = n + 1 + 1 := ⟨m - 2, by omega⟩
  refine callP_of rfl ?_
  have u9 : Try.prog.underlying 9 = some .string := by kernel_rfl
  have u5 : Try.prog.underlying 5 = some (.int .u8) := by kernel_rfl
  have h : convPV Try.prog 27 9 (B ns) = some (.sc (.string ⟨(ns.map fun n => UInt8.ofNat n.toNat).toArray⟩)) := by
    simp only [convPV, u27, u9, u5, byteM, Option.map_some]
  rw [r17]; simp [d17_0, h]
theorem rem_int (a : Int) (k : Nat) (h : ¬ (k : Int) = 0) (t : TypeId) (x y : Operand) : binPV Try.prog .rem t x y (I a) (I k) = some (I (a.tmod k)) := by
  simp only [binPV, PV.plain?, eqGuard, binOp]
  have : pureRun Try.prog (Op.intDiv .rem .i64 a k) = some (.int .i64 (a.tmod k)) := by
    unfold Op.intDiv; rw [if_neg h]; rfl
  simp [this]
theorem c19 (hm : 2 ≤ m) (a : Int) (k : Nat) (hk : 0 < k ∧ k < 1000000) : ∃ j : Nat, j < k ∧ callP Try.prog hh L m 19 [I a, I k] = some (I j) := by
  obtain ⟨n, rfl⟩ : ∃ n, m = n + 1 + 1 := ⟨m - 2, by omega⟩
  have h1 : ¬ (k : Int) ≤ 0 := by omega
  have hk0 : ¬ (k : Int) = 0 := by omega
  have hlt : (a.tmod k).natAbs < k := by
    have := Int.natAbs_tmod a k
    rw [this]; exact Nat.mod_lt _ (by simpa using hk.1)
  have hb : -(k : Int) < a.tmod k ∧ a.tmod k < k := by omega
  by_cases hneg : a.tmod k < 0
  · have hw : IntKind.i64.wrap (a.tmod k + k) = a.tmod k + k := wrap64 (by omega) (by omega)
    refine ⟨(a.tmod k + k).toNat, by omega, ?_⟩
    have e : (((a.tmod k + k).toNat : Nat) : Int) = a.tmod k + k := by omega
    rw [e]
    refine callP_of rfl ?_
    rw [r19]; simp [d19_0, h1, rem_int a k hk0, hneg, hw, show ¬ k = 0 by omega]
  · refine ⟨(a.tmod k).toNat, by omega, ?_⟩
    have e : (((a.tmod k).toNat : Nat) : Int) = a.tmod k := by omega
    rw [e]
    refine callP_of rfl ?_
    rw [r19]; simp [d19_0, h1, rem_int a k hk0, hneg, show ¬ k = 0 by omega]
theorem c20 (hm : 2 ≤ m) (xs : List PV) (h : xs.length ≤ 1000000) : callP Try.prog hh L m 20 [.list 0 false xs] = some (.list 0 false xs) := by
  obtain ⟨n, rfl⟩ : ∃ n, m = n + 1 + 1 := ⟨m - 2, by omega⟩
  refine callP_of rfl ?_
  rw [r20]; simp [d20_0, appendTo_ints [] xs false (by simp; omega)]
end
end Go.Lite

namespace Go.Lite
open Go Go.Proofs
set_option linter.unusedVariables false
set_option linter.unusedSimpArgs false
set_option maxRecDepth 1000000
theorem awake15 : callP Try.prog hh 1000 40 15 [] = some (.sc (.bool true)) := by kernel_rfl
theorem new9 : callM Try.prog hh 1000 40 9 none [] = some (.one (st [] 0), []) := by kernel_rfl

theorem slice37 (c : Bool) (xs : List PV) (k : Nat) (h : k ≤ xs.length) : slicePVd Try.prog 37 (.list 0 c xs) none (some (I k)) (some (I k)) = some (.list 0 true (xs.take k)) := by
  simp [slicePVd, u37, y3, optIntPV, intPV?, sliceMxPV, slicePV, h]
theorem slice37f (c : Bool) (xs : List PV) (k : Nat) (h : k ≤ xs.length) : slicePVd Try.prog 37 (.list 0 c xs) (some (I k)) none none = some (.list 0 (c && ((xs.length : Int) == xs.length)) (xs.drop k)) := by
  simp [slicePVd, u37, y3, optIntPV, intPV?, sliceMxPV, slicePV, h]
theorem app37 (xs ys : List PV) (c : Bool) (h : xs.length + ys.length ≤ 1000000) : appendPV Try.prog 37 37 (.list 0 true xs) (.list 0 c ys) = some (.list 0 ys.isEmpty (xs ++ ys)) := by
  obtain ⟨i, h1, h2⟩ := i3
  simp [appendPV, u37, y3, h1, z3, h2, width, PV.hasLay, PV.isCell, appendRoom]
  omega
theorem bs37 (v : Int) : buildSliceAV Try.prog 37 1 [(0, I v)] = some (.list 0 true [I v]) := by kernel_rfl
theorem sub_int (a b : Int) (t : TypeId) (x y : Operand) (h : -9223372036854775808 ≤ a - b ∧ a - b < 9223372036854775808) : binPV Try.prog .sub t x y (I a) (I b) = some (I (a - b)) := by
  have : binPV Try.prog .sub t x y (I a) (I b) = some (I (IntKind.i64.wrap (a - b))) := by
    simp [binPV, PV.plain?, eqGuard, binOp]; rfl
  rw [this, wrap64 h.1 h.2]
theorem add_int' (a b : Int) (t : TypeId) (x y : Operand) (h : -9223372036854775808 ≤ a + b ∧ a + b < 9223372036854775808) : binPV Try.prog .add t x y (I a) (I b) = some (I (a + b)) := by
  rw [add_int, wrap64 h.1 h.2]

/-- what is on its way: each from its place in the list of bodies -/
structure Good (bs : List (List Int)) (l : List Pk) : Prop where
  rise : Rise l
  len : l.length ≤ 12
  one : ∀ p ∈ l, ∃ j : Nat, j < 12 ∧ p.n = j + 1 ∧ p.f = j ∧ bs[j]? = some p.b ∧ p.b.length ≤ 65545

theorem updM_new {l : List Pk} {k : Int} {d : PV} (h : ∀ p ∈ l, p.n < k) : updM k d (ents l) = ents l ++ [(k, d)] := by
  induction l with
  | nil => rfl
  | cons p r ih =>
    have h1 := h p (by simp)
    have h2 : (p.n == k) = false := by simp; omega
    simp only [ents, List.map_cons, updM, h2, cond_false, List.cons_append]
    have := ih fun q hq => h q (by simp [hq])
    simp only [ents] at this
    rw [this]
theorem delM_ents {l : List Pk} (hr : Rise l) : ∀ {k : Nat} {p : Pk}, l[k]? = some p → delM p.n (ents l) = ents (l.eraseIdx k) := by
  induction l with
  | nil => intro k p h; simp at h
  | cons q r ih =>
    intro k p h
    have h1 := List.pairwise_cons.1 hr
    cases k with
    | zero => simp at h; subst h; simp [ents, delM]
    | succ k =>
      simp at h
      have h2 := h1.1 p (List.mem_of_getElem? h)
      have h3 : (q.n == p.n) = false := by simp; omega
      have := ih h1.2 h
      simp only [ents] at this
      simp [ents, delM, h3, this]
theorem Good.erase {bs : List (List Int)} {l : List Pk} (h : Good bs l) (k : Nat) : Good bs (l.eraseIdx k) where
  rise := h.rise.sublist (List.eraseIdx_sublist ..)
  len := Nat.le_trans (List.length_eraseIdx_le ..) h.len
  one p hp := h.one p (List.mem_of_mem_eraseIdx hp)
theorem Good.key {bs : List (List Int)} {l : List Pk} (h : Good bs l) : ∀ p ∈ l, keyOK p.n = true := fun p hp => by
  obtain ⟨j, h1, h2, _⟩ := h.one p hp
  simp [keyOK]; omega

section
variable {L m : Nat} {T : PV}
abbrev bodiesPV (bs : List (List Int)) : PV := .list 0 false (bs.map B)
abbrev numsPV (l : List Pk) : List PV := l.map fun p => I p.n

/-- the packets are sent -/
theorem l5_1 (hm : 5 ≤ m) (bs : List (List Int)) (hbs : bs.length ≤ 4000000000000000000) (ord : PV) (kr : PV → PV → List (Int × PV) → List PV → Option PV) (ke : PV → PV → PV → List (Int × PV) → List PV → Option PV)
    (haw : callP Try.prog hh L m 15 [] = some (Bo true)) (hkr : ∀ v es xs, kr (Bo true) v es xs = some T) (hke : ∀ l, Good bs l → ke (bodiesPV bs) ord (I l.length) (ents l) (numsPV l) = some T) :
    ∀ (r : List (List Int)) (N i : Nat) (l : List Pk), bs.drop i = r → 12 < N + i → i ≤ 12 → l.length = i → Good bs l → (∀ p ∈ l, p.n ≤ i) → d5_1i (kk L m) L kr ke N (bodiesPV bs) ord (I i) (I i) (ents l) (numsPV l) = some T := by
  intro r
  induction r with
  | nil =>
    intro N i l h hN hi hl hg hle
    obtain ⟨N, rfl⟩ : ∃ n, N = n + 1 := ⟨N - 1, by omega⟩
    have := drop_nil' h
    have h2 : ¬ (i : Int) < bs.length := by omega
    have := hke l hg
    rw [hl] at this
    simp [d5_1i, d5_2, h2, this]
  | cons b r ih =>
    intro N i l h hN hi hl hg hle
    obtain ⟨N, rfl⟩ : ∃ n, N = n + 1 := ⟨N - 1, by omega⟩
    obtain ⟨h1, h2, h3, h4⟩ := drop_cons' h
    have h5 : (i : Int) < bs.length := by omega
    by_cases h12 : i < 12
    · have h6 : (i : Int) < 12 := by omega
      have el : (ents l).length = i := by simp [ents, hl]
      by_cases hb : b.length ≤ 65545
      · have hs := c10 (L := L) hm (ents l) i i 0 b (by omega) (by omega) hb
        have hu : updM ((i : Int) + 1) (⟨(i : Int) + 1, i, 0, b⟩ : Pk).pv (ents l) = ents (l ++ [⟨(i : Int) + 1, i, 0, b⟩]) := by
          rw [updM_new fun p hp => by have := hle p hp; omega]; simp [ents]
        rw [hu] at hs
        have hg' : Good bs (l ++ [⟨(i : Int) + 1, i, 0, b⟩]) := by
          refine ⟨List.pairwise_append.2 ⟨hg.rise, by simp, fun p hp q hq => ?_⟩, by simp; omega, fun p hp => ?_⟩
          · simp at hq; subst hq; have := hle p hp; simp; omega
          · simp only [List.mem_append, List.mem_singleton] at hp
            rcases hp with hp | rfl
            · exact hg.one p hp
            · exact ⟨i, h12, rfl, rfl, h2, hb⟩
        have := ih N (i + 1) (l ++ [⟨(i : Int) + 1, i, 0, b⟩]) h3 (by omega) (by omega) (by simp [hl]) hg' (fun p hp => by
          simp only [List.mem_append, List.mem_singleton] at hp
          rcases hp with hp | rfl
          · have := hle p hp; omega
          · simp)
        rw [show ((i + 1 : Nat) : Int) = (i : Int) + 1 by omega] at this
        have ha := appendTo_ints (numsPV l) [I ((i : Int) + 1)] true (by simp [hl]; omega)
        have hadd : ∀ x y : Operand, binPV Try.prog .add 3 x y (I (i : Int)) (I 1) = some (I ((i : Int) + 1)) := fun x y => add_int' _ _ _ _ _ (by omega)
        simp only [numsPV, List.map_append, List.map_cons, List.map_nil] at this ha
        simp only [d5_1i, d5_2, ln44, goI, List.length_map, ob_some, lss_int, h5, decide_true, gcase_t, if_true, h6, cb_bool, ia44, List.getElem?_map, h2, Option.map_some, ld27, ckR, ckB_true, hs, om_pair, fm_m, fp_p, fnil_nil, r1_pure,
          extract_tup, List.getElem?_cons_zero, List.getElem?_cons_succ, neq_int, ne_eq, not_true_eq_false, decide_false, Bool.false_eq_true, if_false, bs37, ha, oxs_some, hadd, this]
      · have hs := c10l (L := L) hm (ents l) i i 0 b (by omega)
        simp [d5_1i, d5_2, h5, h6, h2, hs, haw, hkr]
    · have h6 : ¬ (i : Int) < 12 := by omega
      have := hke l hg
      rw [hl] at this
      simp [d5_1i, d5_2, h5, h6, this]

/-- the numbers are those that are left -/
theorem l5_8 (kr : PV → PV → List (Int × PV) → List PV → PV → Option PV) (ke : PV → PV → PV → PV → PV → List (Int × PV) → List PV → PV → Option PV) (bp ord v3 v6 : PV) (m7 : List (Int × PV)) (x8 : List PV) (v9 : PV) (c : Bool) (l : List Pk) (hl : l.length ≤ 12)
    (hke : ke bp ord (.list 0 c (numsPV l)) v3 v6 m7 x8 v9 = some T) :
    ∀ (r : List Pk) (N i : Nat), l.drop i = r → r.length < N → d5_8i (kk L m) L kr ke N bp ord (.list 0 c (numsPV l)) v3 (.list 5 false (l.map Pk.pv)) (I i) v6 m7 x8 v9 = some T := by
  intro r
  induction r with
  | nil =>
    intro N i h hN
    obtain ⟨N, rfl⟩ : ∃ n, N = n + 1 := ⟨N - 1, by omega⟩
    have := drop_nil' h
    have h2 : ¬ (i : Int) < l.length := by omega
    simp [d5_8i, d5_9, h2, hke]
  | cons p r ih =>
    intro N i h hN
    obtain ⟨N, rfl⟩ : ∃ n, N = n + 1 := ⟨N - 1, by omega⟩
    obtain ⟨h1, h2, h3, h4⟩ := drop_cons' h
    have h5 : (i : Int) < l.length := by omega
    have := ih N (i + 1) h3 (by simp at hN; omega)
    rw [show ((i + 1 : Nat) : Int) = (i : Int) + 1 by omega] at this
    have hadd : ∀ x y : Operand, binPV Try.prog .add 3 x y (I (i : Int)) (I 1) = some (I ((i : Int) + 1)) := fun x y => add_int' _ _ _ _ _ (by omega)
    simp only [d5_8i, d5_9, ln34, goI, List.length_map, ob_some, lss_int, h5, decide_true, cb_bool, if_true, ia34, List.getElem?_map, h2, Option.map_some, fa31_0, ld3, ia37, numsPV, neq_int, ne_eq, not_true_eq_false, decide_false, Bool.false_eq_true, if_false, hadd]
    exact this
end
end Go.Lite

namespace Go.Lite
open Go Go.Proofs
set_option linter.unusedVariables false
set_option linter.unusedSimpArgs false
set_option maxRecDepth 1000000
section
variable {L m : Nat} {T : PV}
theorem take_drop_erase {α : Type} (l : List α) (k : Nat) : l.take k ++ l.drop (k + 1) = l.eraseIdx k := by
  rw [List.eraseIdx_eq_take_drop_succ]
/-- one is delivered -/
theorem l5_7 (hm : 8 ≤ m) (hL : 1000 ≤ L) (bs : List (List Int)) (hbs : bs.length ≤ 4000000000000000000) (ord v3 : PV) (v : Int) (x7 : List PV) (c : Bool) (l : List Pk) (hg : Good bs l) (k : Nat) (hk : k < l.length)
    (kr : PV → PV → List (Int × PV) → List PV → Option PV) (kg : PV → PV → PV → PV → PV → List (Int × PV) → List PV → Option PV)
    (hkg : ∀ c', kg (bodiesPV bs) ord (.list 0 c' (numsPV (l.eraseIdx k))) (match binPV Try.prog .add 3 (.tmp 54) (.const (.int Go.IntKind.i64 1)) v3 (I 1) with | some d => d | none => v3) (I v) (ents (l.eraseIdx k)) x7 = some T)
    (hv3 : ∃ d, binPV Try.prog .add 3 (.tmp 54) (.const (.int Go.IntKind.i64 1)) v3 (I 1) = some d) :
    d5_7 (kk L m) L kr kg (bodiesPV bs) ord (.list 0 c (numsPV l)) v3 (I k) (I v) (ents l) x7 = some T := by
  have hp : l[k]? = some l[k] := List.getElem?_eq_getElem hk
  generalize hpp : l[k] = p at hp
  have hmem : p ∈ l := List.mem_of_getElem? hp
  obtain ⟨j, hj1, hj2, hj3, hj4, hj5⟩ := hg.one p hmem
  have hlen := hg.len
  have hd := c13 (L := L) (m := m) (by omega) (ents l) v p.n p (findM_ents hg.rise hmem) hj5
  rw [delM_ents hg.rise hp] at hd
  have hg' := hg.erase k
  have hl := c14 (L := L) (m := m) (by omega) hL (l.eraseIdx k) v hg'.rise hg'.key (by have := hg'.len; omega) (fun q hq => by obtain ⟨_, _, _, _, _, h⟩ := hg'.one q hq; exact h)
  have hsame := c17 (L := L) (m := m) (by omega) p.b
  obtain ⟨d3, hd3⟩ := hv3
  rw [hd3] at hkg
  simp only at hkg
  have s1 := slice37 c (numsPV l) k (by simp [numsPV]; omega)
  have s2 := slice37f c (numsPV l) (k + 1) (by simp [numsPV]; omega)
  rw [show ((k + 1 : Nat) : Int) = (k : Int) + 1 by omega] at s2
  have s3 := app37 ((numsPV l).take k) ((numsPV l).drop (k + 1)) (c && (((numsPV l).length : Int) == (numsPV l).length)) (by simp [numsPV]; omega)
  have he : (numsPV l).take k ++ (numsPV l).drop (k + 1) = numsPV (l.eraseIdx k) := by
    rw [← take_drop_erase]; simp [numsPV, List.map_take, List.map_drop]
  rw [he] at s3
  have hadd : ∀ x y : Operand, binPV Try.prog .add 3 x y (I (k : Int)) (I 1) = some (I ((k : Int) + 1)) := fun x y => add_int' _ _ _ _ _ (by omega)
  have hsub : ∀ x y : Operand, binPV Try.prog .sub 3 x y (I p.n) (I 1) = some (I (j : Int)) := fun x y => by
    rw [sub_int _ _ _ _ _ (by omega), hj2]; simp
  have hel : (l.eraseIdx k).length ≤ 12 := hg'.len
  have h8 := l5_8 (L := L) (m := m) (T := T) (fun v0 v1 m2 x3 v4 => kr v0 v1 m2 x3) (fun v0 v1 v2 v3 v4 m5 x6 v7 => d5_10 (kk L m) L kg v0 v1 v2 v3 v4 m5 x6 v7) (bodiesPV bs) ord v3 (I v) (ents (l.eraseIdx k)) x7 p.pv ((numsPV l).drop (k + 1)).isEmpty (l.eraseIdx k) hel
    (by simp only [d5_10, hd3, ob_some]; exact hkg _) (l.eraseIdx k) L 0 rfl (by omega)
  have hfn : ∀ t : TypeId, ∀ x y : Operand, binPV Try.prog .neq t x y (I p.n) (I p.n) = some (Bo false) := fun t x y => by simp
  have hff : ∀ t : TypeId, ∀ x y : Operand, binPV Try.prog .neq t x y (I p.f) (I (j : Int)) = some (Bo false) := fun t x y => by simp [hj3]
  have hll : ((l.eraseIdx k).map Pk.pv).length = (numsPV (l.eraseIdx k)).length := by simp [numsPV]
  have hpn : (numsPV l)[k]? = some (I p.n) := by simp [numsPV, hp]
  simp only [d5_7, g5_7, ia37, hpn, Option.map_some, ob_some, ld3, ckR, ckB_true, hd, om_pair, fm_m, fp_p, fnil_nil, r1_pure, extract_tup, List.getElem?_cons_zero, List.getElem?_cons_succ, putA, neq_int, ne_eq, not_true_eq_false, decide_false, gcase_f,
    Bool.false_eq_true, if_false, pk0, hfn, pk1, hsub, hff, pk3, ia44, List.getElem?_map, hj4, ld27, callD_clo, List.nil_append, List.append_nil, hsame, not_bool, Bool.not_true, cb_bool, s1, hadd, s2, s3, hl, ln34, goI, hll, ln37]
  simpa [d5_8] using h8

theorem l5_4 (hm : 8 ≤ m) (hL : 1000 ≤ L) (bs : List (List Int)) (hbs : bs.length ≤ 4000000000000000000) (os : List Int) (hos : os.length < 4000000000000000000) (v : Int) (x6 : List PV)
    (ke : PV → List (Int × PV) → List PV → Option PV) (kr : PV → PV → List (Int × PV) → List PV → Option PV) (hke : ∀ es, ke (I v) es x6 = some T) :
    ∀ (N i : Nat) (c : Bool) (l : List Pk), Good bs l → l.length < N → i + l.length ≤ 100 → d5_4i (kk L m) L ke kr N (bodiesPV bs) (.list 0 false (os.map fun n => I n)) (.list 0 c (numsPV l)) (I i) (I v) (ents l) x6 = some T := by
  intro N
  induction N with
  | zero => intro i c l hg hN hi; omega
  | succ N ih =>
    intro i c l hg hN hi
    by_cases h0 : l.length = 0
    · have : l = [] := List.eq_nil_of_length_eq_zero h0
      subst this
      simp [d5_4i, d5_5, g5_5, numsPV, hke]
    · have hpos : (0 : Int) < l.length := by omega
      have hlen := hg.len
      have hadd : ∀ x y : Operand, binPV Try.prog .add 3 x y (I (i : Int)) (I 1) = some (I ((i : Int) + 1)) := fun x y => add_int' _ _ _ _ _ (by omega)
      have step : ∀ k, k < l.length → d5_7 (kk L m) L kr (fun v0 v1 v2 v3 v4 m5 x6 => d5_4i (kk L m) L ke kr N v0 v1 v2 v3 v4 m5 x6) (bodiesPV bs) (.list 0 false (os.map fun n => I n)) (.list 0 c (numsPV l)) (I i) (I k) (I v) (ents l) x6 = some T := by
        intro k hk
        refine l5_7 hm hL bs hbs _ _ v x6 c l hg k hk _ _ (fun c' => ?_) ⟨_, hadd _ _⟩
        rw [hadd]
        have hle : (l.eraseIdx k).length = l.length - 1 := List.length_eraseIdx_of_lt hk
        have := ih (i + 1) c' (l.eraseIdx k) (hg.erase k) (by omega) (by omega)
        rw [show ((i + 1 : Nat) : Int) = (i : Int) + 1 by omega] at this
        exact this
      by_cases hos0 : os.length = 0
      · have : os = [] := List.eq_nil_of_length_eq_zero hos0
        subst this
        have := step 0 (by omega)
        simp [d5_4i, d5_5, g5_5, numsPV, show 0 < l.length by omega, d5_6] at this ⊢
        exact this
      · have hop : (0 : Int) < os.length := by omega
        have hj : ∃ j : Nat, j < os.length ∧ ((i : Int).tmod os.length) = j := ⟨i % os.length, Nat.mod_lt _ (by omega), by rw [Int.tmod_eq_emod_of_nonneg (by omega)]; simp⟩
        obtain ⟨j, hj1, hj2⟩ := hj
        have hrem : ∀ x y : Operand, binPV Try.prog .rem 3 x y (I (i : Int)) (I (os.length : Int)) = some (I (j : Int)) := fun x y => by
          rw [rem_int _ _ (by omega), hj2]
        obtain ⟨k, hk1, hk2⟩ := c19 (L := L) (m := m) (by omega) os[j] l.length (by omega)
        have hoj : os[j]? = some os[j] := List.getElem?_eq_getElem hj1
        have := step k hk1
        simp only [d5_4i, d5_5, g5_5, numsPV, ln37, goI, List.length_map, ob_some, gtr_int, hpos, decide_true, cb_bool, if_true, hop, d5_6, hrem, ia37, List.getElem?_map, hoj, Option.map_some, ld3, callD_clo, List.nil_append, List.append_nil, List.cons_append, hk2] at this ⊢
        exact this
end

theorem main5 (bs : List (List Int)) (hbs : bs.length ≤ 4000000000000000000) (os : List Int) (hos : os.length < 4000000000000000000) : callP Try.prog hh 1000 60 5 [bodiesPV bs, .list 0 false (os.map fun n => I n)] = some (Bo true) := by
  have haw : callP Try.prog hh 1000 59 15 [] = some (Bo true) := callP_mono (Nat.le_refl _) (by omega) awake15
  have hnew : callM Try.prog hh 1000 59 9 none [] = some (.one (st [] 0), []) := callM_mono (Nat.le_refl _) (by omega) new9
  refine callP_of (n := 58) rfl ?_
  rw [r5]
  have h1 := l5_1 (L := 1000) (m := 59) (T := Bo true) (by omega) bs hbs (.list 0 false (os.map fun n => I n)) (fun v0 v1 m2 x3 => some v0) (fun v0 v1 v2 m3 x4 => d5_3 (kk 1000 59) 1000 v0 v1 v2 m3 x4) haw (fun _ _ _ => rfl)
    (fun l hg => by
      have hlen := hg.len
      have hc := c20 (L := 1000) (m := 59) (by omega) (numsPV l) (by simp [numsPV]; omega)
      have h4 := l5_4 (L := 1000) (m := 59) (T := Bo true) (by omega) (by omega) bs hbs os hos l.length (numsPV l) (fun v0 m1 x2 => d5_11 (kk 1000 59) 1000 v0 m1 x2) (fun v0 v1 m2 x3 => some v0)
        (fun es => by simp [d5_11, haw]) 1000 0 false l hg (by omega) (by omega)
      simp only [d5_3, g5_3, callD_clo, List.nil_append, List.append_nil, hc, ob_some, d5_4]
      exact h4) bs 1000 0 [] rfl (by omega) (by omega) rfl ⟨by simp [Rise], by simp, by simp⟩ (by simp)
  simp only [d5_0, g5_0, hnew, om_pair, fnil_nil, r2_one, fm_m, fp_p, d5_1]
  exact h1
end Go.Lite

namespace Go.Lite
open Go Go.Proofs
set_option linter.unusedVariables false
theorem TypedA.cell {ct : CT} {d : PV} (h : TypedA (0, [ct]) d) : Typed ct d := by
  obtain ⟨xs, rfl, hl, hx⟩ := h
  match xs, hl with
  | [x], _ => exact hx 0 ct x rfl rfl
theorem rows_one {ct : CT} {f : Int → PV} (hi : ∀ d, Typed ct d → ∃ n, d = f n) : ∀ (rows : List (List PV)), (∀ xs ∈ rows, xs.length = 1) → (∀ xs ∈ rows, ∀ (i : Nat) (c : CT) (x : PV), [ct][i]? = some c → xs[i]? = some x → Typed c x) →
    ∃ ns : List Int, rows.map (rowPV 0) = ns.map f ∧ ns.length = rows.length := by
  intro rows
  induction rows with
  | nil => intro _ _; exact ⟨[], rfl, rfl⟩
  | cons r rows ih =>
    intro hl hx
    obtain ⟨ns, h1, h2⟩ := ih (fun xs h => hl xs (by simp [h])) (fun xs h => hx xs (by simp [h]))
    have hr := hl r (by simp)
    match r, hr with
    | [x], _ =>
      obtain ⟨n, rfl⟩ := hi x (hx [x] (by simp) 0 ct x rfl rfl)
      exact ⟨n :: ns, by simp [h1, rowPV], by simp [h2]⟩
theorem ints_inv {k : IntKind} {bytes : Nat} {d : PV} (h : Typed (.list 0 bytes [.int k]) d) : ∃ ns : List Int, d = .list 0 false (ns.map fun n => .sc (.int k n)) ∧ ns.length * bytes ≤ reachBytes := by
  cases h with
  | list rows hm hb hl hx =>
    obtain ⟨ns, h1, h2⟩ := rows_one (f := fun n => .sc (.int k n)) (fun d h => by cases h; exact ⟨_, rfl⟩) rows hl hx
    exact ⟨ns, by rw [h1], by rw [h2]; exact hb⟩
theorem bodies_inv {d : PV} (h : Typed (.list 0 24 [.list 0 1 [.int .u8]]) d) : ∃ bs : List (List Int), d = bodiesPV bs ∧ bs.length * 24 ≤ reachBytes := by
  cases h with
  | list rows hm hb hl hx =>
    have : ∀ (rows : List (List PV)), (∀ xs ∈ rows, xs.length = 1) → (∀ xs ∈ rows, ∀ (i : Nat) (c : CT) (x : PV), [CT.list 0 1 [.int .u8]][i]? = some c → xs[i]? = some x → Typed c x) →
        ∃ bs : List (List Int), rows.map (rowPV 0) = bs.map B ∧ bs.length = rows.length := by
      intro rows
      induction rows with
      | nil => intro _ _; exact ⟨[], rfl, rfl⟩
      | cons r rows ih =>
        intro hl hx
        obtain ⟨bs, h1, h2⟩ := ih (fun xs h => hl xs (by simp [h])) (fun xs h => hx xs (by simp [h]))
        have hr := hl r (by simp)
        match r, hr with
        | [x], _ =>
          obtain ⟨ns, rfl, _⟩ := ints_inv (hx [x] (by simp) 0 _ x rfl rfl)
          exact ⟨ns :: bs, by simp [h1, rowPV], by simp [h2]⟩
    obtain ⟨bs, h1, h2⟩ := this rows hl hx
    exact ⟨bs, by rw [h1], by rw [h2]; exact hb⟩
end Go.Lite
