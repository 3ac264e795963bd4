import Derived.Test.YthaldjolmmmahaaRn
import Derived.Shelf.SlGeneric
import Derived.Shelf.SlIterI.Nil
import Derived.Shelf.SortM.Plain
import Derived.Shelf.SortM.SortNone
import Derived.Ground.GgzProg
import Derived.Ground.SlgmProg
import Derived.Test.YthaldjolmmmahaaProg

namespace Go.Proofs
open Go.RowKit Go.Maps Go.Sort Go.Shelf Go.Lite

def Try.keysL_ren : Go.Shelf.Ren := ⟨fun | 7 => 36 | 10 => 44 | n => n, fun | 23 => 65 | 26 => 3 | 3 => 31 | 28 => 73 | 0 => 0 | 27 => 72 | 33 => 82 | 4 => 4 | n => n, fun | n => n⟩
theorem Try.keysL : Go.Proofs.SlLaysZI.n7 Try.prog Try.keysL_ren := {
  mixed := by kernel_rfl
  f7 := ⟨Try.f36.name, by decide, Try.func36.trans (congrArg some (by kernel_rfl))⟩
  f10 := ⟨Try.f44.name, by decide, Try.func44.trans (congrArg some (by kernel_rfl))⟩
  t0 := Try.underlying0
  a0 := Try.isAgg0
  z0 := Try.sizeOf0
  v0 := Try.zeroValue0
  t4 := Try.underlying4
  a4 := Try.isAgg4
  z4 := Try.sizeOf4
  v4 := Try.zeroValue4
  t23 := Try.underlying65
  a23 := Try.isAgg65
  z23 := Try.sizeOf65
  v23 := Try.zeroValue65
  t26 := Try.underlying3
  a26 := Try.isAgg3
  z26 := Try.sizeOf3
  v26 := Try.zeroValue3
  t27 := Try.underlying72
  a27 := Try.isAgg72
  z27 := Try.sizeOf72
  v27 := Try.zeroValue72
  t28 := Try.underlying73
  a28 := Try.isAgg73
  z28 := Try.sizeOf73
  v28 := Try.zeroValue73
  t33 := Try.underlying82
  a33 := Try.isAgg82
  z33 := Try.sizeOf82
  v33 := Try.zeroValue82 }
def Try.sortedL_ren : Go.Shelf.Ren := ⟨fun | 6 => 35 | 8 => 42 | 9 => 43 | 11 => 46 | 13 => 48 | 12 => 47 | 23 => 58 | 24 => 59 | 14 => 49 | 15 => 50 | 16 => 51 | 17 => 52 | 18 => 53 | 19 => 54 | 20 => 55 | 21 => 56 | 22 => 57 | 25 => 60 | 26 => 61 | 27 => 62 | 28 => 63 | 29 => 64 | 30 => 65 | 31 => 66 | n => n, fun | 26 => 3 | 28 => 73 | 24 => 37 | 0 => 0 | 3 => 3 | 37 => 38 | 48 => 98 | 50 => 83 | 4 => 4 | 40 => 90 | 39 => 89 | 45 => 95 | 5 => 5 | 9 => 9 | 51 => 100 | 55 => 104 | 57 => 106 | 58 => 107 | 33 => 82 | n => n, fun | n => n⟩
theorem Try.sortedL : Go.Proofs.SlLaysZI.n6 Try.prog Try.sortedL_ren := {
  mixed := by kernel_rfl
  f6 := ⟨Try.f35.name, by decide, Try.func35.trans (congrArg some (by kernel_rfl))⟩
  f8 := ⟨Try.f42.name, by decide, Try.func42.trans (congrArg some (by kernel_rfl))⟩
  f11 := ⟨Try.f46.name, by decide, Try.func46.trans (congrArg some (by kernel_rfl))⟩
  t0 := Try.underlying0
  a0 := Try.isAgg0
  z0 := Try.sizeOf0
  v0 := Try.zeroValue0
  t24 := Try.underlying37
  a24 := Try.isAgg37
  z24 := Try.sizeOf37
  v24 := Try.zeroValue37
  t26 := Try.underlying3
  a26 := Try.isAgg3
  z26 := Try.sizeOf3
  v26 := Try.zeroValue3
  t28 := Try.underlying73
  a28 := Try.isAgg73
  z28 := Try.sizeOf73
  v28 := Try.zeroValue73
  i26 := by kernel_rfl }
def Try.sortL_ren : Go.Shelf.Ren := ⟨fun | 5 => 43 | 8 => 48 | 7 => 47 | 19 => 58 | 20 => 59 | 10 => 49 | 11 => 50 | 12 => 51 | 13 => 52 | 14 => 53 | 15 => 54 | 16 => 55 | 17 => 56 | 18 => 57 | 30 => 60 | 31 => 61 | 32 => 62 | 33 => 63 | 34 => 64 | 35 => 65 | 40 => 66 | n => n, fun | 23 => 37 | 25 => 3 | 3 => 3 | 32 => 38 | 22 => 37 | 0 => 0 | 44 => 98 | 46 => 83 | 4 => 4 | 36 => 90 | 35 => 89 | 41 => 95 | 5 => 5 | 9 => 9 | 53 => 100 | 57 => 104 | 63 => 106 | 64 => 107 | n => n, fun | n => n⟩
theorem Try.sortL : Go.Proofs.SlLaysM.n5 Try.prog Try.sortL_ren := {
  mixed := by kernel_rfl
  f5 := ⟨Try.f43.name, by decide, Try.func43.trans (congrArg some (by kernel_rfl))⟩
  f7 := ⟨Try.f47.name, by decide, Try.func47.trans (congrArg some (by kernel_rfl))⟩
  f8 := Try.func48.trans (congrArg some (by kernel_rfl))
  f10 := ⟨Try.f49.name, by decide, Try.func49.trans (congrArg some (by kernel_rfl))⟩
  f11 := ⟨Try.f50.name, by decide, Try.func50.trans (congrArg some (by kernel_rfl))⟩
  f12 := ⟨Try.f51.name, by decide, Try.func51.trans (congrArg some (by kernel_rfl))⟩
  f13 := ⟨Try.f52.name, by decide, Try.func52.trans (congrArg some (by kernel_rfl))⟩
  f14 := ⟨Try.f53.name, by decide, Try.func53.trans (congrArg some (by kernel_rfl))⟩
  f15 := ⟨Try.f54.name, by decide, Try.func54.trans (congrArg some (by kernel_rfl))⟩
  f16 := ⟨Try.f55.name, by decide, Try.func55.trans (congrArg some (by kernel_rfl))⟩
  f17 := ⟨Try.f56.name, by decide, Try.func56.trans (congrArg some (by kernel_rfl))⟩
  f18 := ⟨Try.f57.name, by decide, Try.func57.trans (congrArg some (by kernel_rfl))⟩
  f19 := Try.func58.trans (congrArg some (by kernel_rfl))
  f20 := Try.func59.trans (congrArg some (by kernel_rfl))
  f30 := ⟨Try.f60.name, by decide, Try.func60.trans (congrArg some (by kernel_rfl))⟩
  f31 := Try.func61.trans (congrArg some (by kernel_rfl))
  f32 := Try.func62.trans (congrArg some (by kernel_rfl))
  f33 := ⟨Try.f63.name, by decide, Try.func63.trans (congrArg some (by kernel_rfl))⟩
  f34 := ⟨Try.f64.name, by decide, Try.func64.trans (congrArg some (by kernel_rfl))⟩
  f35 := ⟨Try.f65.name, by decide, Try.func65.trans (congrArg some (by kernel_rfl))⟩
  f40 := ⟨Try.f66.name, by decide, Try.func66.trans (congrArg some (by kernel_rfl))⟩
  t0 := Try.underlying0
  a0 := Try.isAgg0
  z0 := Try.sizeOf0
  v0 := Try.zeroValue0
  t3 := Try.underlying3
  a3 := Try.isAgg3
  z3 := Try.sizeOf3
  v3 := Try.zeroValue3
  t4 := Try.underlying4
  a4 := Try.isAgg4
  z4 := Try.sizeOf4
  v4 := Try.zeroValue4
  t5 := Try.underlying5
  a5 := Try.isAgg5
  z5 := Try.sizeOf5
  v5 := Try.zeroValue5
  t9 := Try.underlying9
  a9 := Try.isAgg9
  z9 := Try.sizeOf9
  v9 := Try.zeroValue9
  t22 := Try.underlying37
  a22 := Try.isAgg37
  z22 := Try.sizeOf37
  v22 := Try.zeroValue37
  t23 := Try.underlying37
  a23 := Try.isAgg37
  z23 := Try.sizeOf37
  v23 := Try.zeroValue37
  t25 := Try.underlying3
  a25 := Try.isAgg3
  z25 := Try.sizeOf3
  v25 := Try.zeroValue3
  t32 := Try.underlying38
  a32 := Try.isAgg38
  z32 := Try.sizeOf38
  v32 := Try.zeroValue38
  t35 := Try.underlying89
  a35 := Try.isAgg89
  z35 := Try.sizeOf89
  v35 := Try.zeroValue89
  t36 := Try.underlying90
  a36 := Try.isAgg90
  z36 := Try.sizeOf90
  v36 := Try.zeroValue90
  t41 := Try.underlying95
  a41 := Try.isAgg95
  z41 := Try.sizeOf95
  v41 := Try.zeroValue95
  t44 := Try.underlying98
  a44 := Try.isAgg98
  z44 := Try.sizeOf98
  v44 := Try.zeroValue98
  t46 := Try.underlying83
  a46 := Try.isAgg83
  z46 := Try.sizeOf83
  v46 := Try.zeroValue83
  t53 := Try.underlying100
  a53 := Try.isAgg100
  z53 := Try.sizeOf100
  v53 := Try.zeroValue100
  t57 := Try.underlying104
  a57 := Try.isAgg104
  z57 := Try.sizeOf104
  v57 := Try.zeroValue104
  t63 := Try.underlying106
  a63 := Try.isAgg106
  z63 := Try.sizeOf106
  v63 := Try.zeroValue106
  t64 := Try.underlying107
  a64 := Try.isAgg107
  z64 := Try.sizeOf107
  v64 := Try.zeroValue107 }

theorem Try.sortsIn (m : Nat) : AnyZI.SortsIn Try.prog Try.sortedL_ren Fence.wide m :=
  ⟨fun blk off cap ss W hH hblk hsz => callsIn_wide.2 (AnyM.slices_Sort_int Try.sortL blk off cap ss W hH hblk hsz),
   fun p cap W => callsIn_wide.2 (AnyM.slices_Sort_int_none Try.sortL p cap W)⟩

theorem sortsKeys : SortsKeys Try.prog 35 44 := by
  refine ⟨⟨_, Try.func35, by kernel_rfl, by kernel_rfl⟩, 3, by kernel_rfl, fun Bm b nn D0 W hcell hown hmax hbytes => ?_⟩
  have hlt : Bm < W.heap.size := World.block_lt_of_cell? (w := W) (a := ⟨Bm, 0, none⟩) hcell
  have hseq : SeqGives Fence.wide 2 Try.prog 44 #[.pointer (some ⟨Bm, 0, none⟩)] encZ (fun ss => ss.Perm (intKeys D0)) (Maps.size D0) W :=
    AnyZI.keys_gives (ρ := Try.keysL_ren) { Try.keysL with } Fence.wide _ trivial rfl (by omega) Bm b nn D0 W hlt hcell hown
  have cS := AnyZI.sorted_in Try.sortedL Fence.wide 5 trivial trivial trivial trivial rfl (by omega) (Try.sortsIn _) (enters_of Try.func43 (by kernel_rfl) rfl) 44 #[.pointer (some ⟨Bm, 0, none⟩)] trivial (enters_of Try.func44 (by kernel_rfl) rfl) _ _ hmax hbytes W hseq
  exact callsIn_wide.1 cS
end Go.Proofs

namespace Go.Lite
open Go Go.Proofs
set_option linter.unusedVariables false
set_option linter.unusedSimpArgs false
set_option maxRecDepth 100000

/-! # slices.Clone of bytes -/
theorem u27 : Try.prog.underlying 27 = some (.slice 5) := by kernel_rfl
theorem u37 : Try.prog.underlying 37 = some (.slice 3) := by kernel_rfl
theorem u34 : Try.prog.underlying 34 = some (.slice 31) := by kernel_rfl
theorem u44 : Try.prog.underlying 44 = some (.slice 27) := by kernel_rfl
theorem y5 : layOf Try.prog 5 = some 0 := by kernel_rfl
theorem y3 : layOf Try.prog 3 = some 0 := by kernel_rfl
theorem y27 : layOf Try.prog 27 = some 0 := by kernel_rfl
theorem y31 : layOf Try.prog 31 = some 5 := by kernel_rfl
theorem bytes_of {P : Program} {t : TypeId} {n : Nat} (h : (P.info? t).map (·.bytes) = some n) : ∃ i, P.info? t = some i ∧ i.bytes = n := by
  cases hi : P.info? t with
  | none => rw [hi] at h; cases h
  | some i => rw [hi] at h; simp at h; exact ⟨i, rfl, h⟩
theorem i5 : ∃ i, Try.prog.info? 5 = some i ∧ i.bytes = 1 := bytes_of (by kernel_rfl)
theorem z5 : zeroPV Try.prog 5 = some (.sc (.int .u8 0)) := by kernel_rfl
theorem i3 : ∃ i, Try.prog.info? 3 = some i ∧ i.bytes = 8 := bytes_of (by kernel_rfl)
theorem z3 : zeroPV Try.prog 3 = some (.sc (.int .i64 0)) := by kernel_rfl

@[simp] theorem oms_some {R : Type} (d : List (Int × PV)) (f : List (Int × PV) → Option R) : oms (some d) f = f d := rfl
@[simp] theorem ckB_true {R : Type} (y : Option R) : ckB true y = y := rfl
@[simp] theorem om_pair {R : Type} (r : MR) (fs : List FV) (f : MR → List FV → Option R) : om (some (r, fs)) f = f r fs := rfl
@[simp] theorem fp_p {R : Type} (d : PV) (r : List FV) (f : PV → List FV → Option R) : fp (.p d :: r) f = f d r := rfl
@[simp] theorem fm_m {R : Type} (es : List (Int × PV)) (r : List FV) (f : List (Int × PV) → List FV → Option R) : fm (.m es :: r) f = f es r := rfl
@[simp] theorem fnil_nil {R : Type} (x : Option R) : fnil [] x = x := rfl
@[simp] theorem r1_pure {R : Type} (d : PV) (f : PV → Option R) : r1 (.pure d) f = f d := rfl
@[simp] theorem r2_one {R : Type} (d : List FV) (f : List FV → Option R) : r2 (.one d) f = f d := rfl

theorem appendTo_bytes (xs ys : List PV) (c : Bool) (h : xs.length + ys.length ≤ 140737488355328) : appendTo Try.prog 27 27 0 xs (.list 0 c ys) = some (xs ++ ys) := by
  obtain ⟨i, h1, h2⟩ := i5
  simp [appendTo, u27, y5, h1, z5, h2, width, PV.hasLay, PV.isCell, layPV, elemsPV?, appendRoom, h]
theorem appendTo_ints (xs ys : List PV) (c : Bool) (h : xs.length + ys.length ≤ 1099511627776) : appendTo Try.prog 37 37 0 xs (.list 0 c ys) = some (xs ++ ys) := by
  obtain ⟨i, h1, h2⟩ := i3
  simp [appendTo, u37, y3, h1, z3, h2, width, PV.hasLay, PV.isCell, layPV, elemsPV?, appendRoom]
  omega
theorem build0 : buildXs Try.prog 27 0 0 [] = some [] := by kernel_rfl
theorem eqnil_list (x y : Operand) (c : Bool) (a : PV) (xs : List PV) : binPV Try.prog .eql 27 x y (.list 0 c (a :: xs)) (.sc (.slice none 0 0)) = some (.sc (.bool false)) := by
  simp [binPV, PV.plain?, nilCmpPV, u27]
theorem tidyTry : TidyF Try.prog := tidyF_of (by kernel_rfl)
theorem primsS0 : PrimsSOK Try.prog h0.primS := by
  intro g q h
  simp only [h0] at h
  cases hg : Nat.beq g 35 with
  | false => rw [hg] at h; simp at h
  | true =>
    rw [hg] at h
    simp only [cond_true, Option.some.injEq] at h
    subst h
    have : g = 35 := Nat.eq_of_beq_eq_true hg
    subst this
    exact sorted_ok sortsKeys
noncomputable abbrev kz : Kallee := ⟨callP Try.prog h0 1 1, callS Try.prog h0 1 1, callM Try.prog h0 1 1, h0.calmB⟩
theorem kz_ok : KOK Try.prog kz := call_sound tidyTry (fun g q h => by simp [h0] at h) primsS0 1
theorem kz_is : KIs Try.prog h0 1 kz := kis Try.prog h0 1 0
theorem clone34 : PureOK Try.prog fun g args => if g = 34 then cloneQ 0 args else none := by
  refine clone_ok (C := kz) (h := h0) (L := 1) tidyTry kz_ok (fun c x xs hl => ?_) ?_ fun a c => ?_
  · refine bodyPR_imp kz_is ?_
    rw [r34]
    have h := appendTo_bytes [] (x :: xs) c (by simp at hl ⊢; omega)
    simp [d34_0, eqnil_list, build0, h]
  · refine bodyPR_imp kz_is ?_
    rw [r34]; kernel_rfl
  · refine bodyPR_imp kz_is ?_
    rw [r34]; kernel_rfl
theorem prims_hh : PrimsOK Try.prog hh.prim := by
  intro g q h
  simp only [hh] at h
  cases hg : Nat.beq g 34 with
  | false => rw [hg] at h; simp at h
  | true =>
    rw [hg] at h
    simp only [cond_true, Option.some.injEq] at h
    subst h
    have : g = 34 := Nat.eq_of_beq_eq_true hg
    subst this
    exact clone34
end Go.Lite

namespace Go.Lite
open Go Go.Proofs
set_option linter.unusedVariables false
set_option linter.unusedSimpArgs false
set_option maxRecDepth 100000
noncomputable abbrev kk (L n : Nat) : Kallee := ⟨callP Try.prog hh L n, callS Try.prog hh L n, callM Try.prog hh L n, hh.calmB⟩

/-! # packets -/
abbrev U (n : Int) : PV := .sc (.int .u8 n)
abbrev B (ns : List Int) : PV := .list 0 false (ns.map U)
/-- a body: nil, or bytes -/
inductive Bd where
  | nil
  | l (xs : List PV)
def Bd.pv : Bd → PV
  | .nil => nilSlice
  | .l xs => .list 0 false xs
def Bd.len : Bd → Nat
  | .nil => 0
  | .l xs => xs.length
structure Pk where
  n : Int
  f : Int
  t : Int
  b : Bd
def Pk.pv (p : Pk) : PV := .agg [I p.n, I p.f, I p.t, p.b.pv]
def zpk : PV := .agg [I 0, I 0, I 0, nilSlice]
def ents (l : List Pk) : List (Int × PV) := l.map fun p => (p.n, p.pv)
abbrev st (es : List (Int × PV)) (v : Int) : List FV := [.m es, .p (I v)]

@[simp] theorem goI (n : Int) : PV.sc (goInt n) = I n := rfl
@[simp] theorem ckR (v : Int) : ckRoot 3 (.agg [.mp 1, .pv (I v)]) = true := rfl
@[simp] theorem ckH (v w : Int) : (PV.hasLay 0 (I v) && AV.hasLay 3 (.agg [.mp 1, .pv (I w)])) = true := rfl
@[simp] theorem bdc (b : Bd) : b.pv.isCell = true := by cases b <;> rfl
@[simp] theorem bdl (b : Bd) : PV.hasLay 0 b.pv = true := by cases b <;> rfl
@[simp] theorem pkl (p : Pk) : PV.hasLay 5 p.pv = true := by
  have h : ∀ n, (I n).isCell = true := fun _ => rfl
  simp [PV.hasLay, Pk.pv, h]
@[simp] theorem pk0 (p : Pk) : PV.at_ 5 0 0 p.pv = some (I p.n) := rfl
@[simp] theorem pk1 (p : Pk) : PV.at_ 5 1 0 p.pv = some (I p.f) := rfl
@[simp] theorem pk3 (p : Pk) : PV.at_ 5 3 0 p.pv = some p.b.pv := rfl
theorem bcell (b : Bd) : PV.cells b.pv = [b.pv] := by cases b <;> rfl
@[simp] theorem put0 (p : Pk) (v : Int) : putPV 5 0 0 (.pv p.pv) (I v) = some ({ p with n := v } : Pk).pv := by
  have h1 := pkl p
  have h2 : PV.hasLay 0 (I v) = true := rfl
  simp only [putPV, h1, h2]
  rfl
@[simp] theorem put3 (p : Pk) (b : Bd) : putPV 5 3 0 (.pv p.pv) b.pv = some ({ p with b := b } : Pk).pv := by
  have h1 := pkl p
  simp only [putPV, h1, bdl, bcell]
  rfl
@[simp] theorem putA (v : AV) (p : Pk) : putPV 5 0 5 v p.pv = some p.pv := by simp [putPV]
@[simp] theorem putZ (v : AV) : putPV 5 0 5 v zpk = some zpk := rfl
theorem im65 : intM Try.prog 65 = some 31 := by kernel_rfl
theorem z31 : zeroPV Try.prog 31 = some zpk := by kernel_rfl
@[simp] theorem look65 (ok : Bool) (es : List (Int × PV)) (k : Int) : lookPV Try.prog 65 ok es (I k) = some (lookT zpk ok k es) := by simp [lookPV, im65, z31, key?]
@[simp] theorem upd65 (es : List (Int × PV)) (k : Int) (d : PV) : updPV Try.prog 65 es (I k) d = some (updM k d es) := by simp [updPV, im65, key?]
@[simp] theorem del65 (es : List (Int × PV)) (k : Int) : delPV Try.prog 65 es (I k) = some (delM k es) := by simp [delPV, im65, key?]
@[simp] theorem ln27 (c : Bool) (xs : List PV) : (lenPV Try.prog 27 (.list 0 c xs)).map (fun n => I n) = some (I xs.length) := len_list u27 c xs
@[simp] theorem lnb (b : Bd) : (lenPV Try.prog 27 b.pv).map (fun n => I n) = some (I b.len) := by
  cases b with
  | nil => exact len_nil u27
  | l xs => exact len_list u27 false xs
@[simp] theorem ln37 (c : Bool) (xs : List PV) : (lenPV Try.prog 37 (.list 0 c xs)).map (fun n => I n) = some (I xs.length) := len_list u37 c xs
@[simp] theorem ln37n : (lenPV Try.prog 37 (.sc (.slice none 0 0))).map (fun n => I n) = some (I 0) := len_nil u37
@[simp] theorem ln34 (c : Bool) (xs : List PV) : (lenPV Try.prog 34 (.list 5 c xs)).map (fun n => I n) = some (I xs.length) := len_list u34 c xs
@[simp] theorem ln44 (c : Bool) (xs : List PV) : (lenPV Try.prog 44 (.list 0 c xs)).map (fun n => I n) = some (I xs.length) := len_list u44 c xs
@[simp] theorem ia37 (c : Bool) (xs : List PV) (i : Nat) : indexAddrPV Try.prog 37 (.list 0 c xs) (I i) = (xs[i]?).map (.ro 0) := indexAddr_list u37 y3 c xs i
@[simp] theorem ia34 (c : Bool) (xs : List PV) (i : Nat) : indexAddrPV Try.prog 34 (.list 5 c xs) (I i) = (xs[i]?).map (.ro 5) := indexAddr_list u34 y31 c xs i
@[simp] theorem ia44 (c : Bool) (xs : List PV) (i : Nat) : indexAddrPV Try.prog 44 (.list 0 c xs) (I i) = (xs[i]?).map (.ro 0) := indexAddr_list u44 y27 c xs i
@[simp] theorem ld3 (d : PV) : loadPV Try.prog 3 (.ro 0 d) = some d := load_ro y3 d
@[simp] theorem ld27 (d : PV) : loadPV Try.prog 27 (.ro 0 d) = some d := load_ro y27 d
@[simp] theorem fa31_0 (p : Pk) : fieldAddrPV Try.prog 31 (.ro 5 p.pv) 0 = some (.ro 0 (I p.n)) := by kernel_rfl
theorem bp31 (f t : Int) (b : Bd) : buildPV Try.prog 31 [(1, I f), (2, I t), (3, b.pv)] = some (⟨0, f, t, b⟩ : Pk).pv := by cases b <;> kernel_rfl
theorem bp31z : buildPV Try.prog 31 [] = some zpk := by kernel_rfl
theorem bs34 (p : Pk) : buildSliceAV Try.prog 34 1 [(0, p.pv)] = some (.list 5 true [p.pv]) := by
  obtain ⟨n, f, t, b⟩ := p
  cases b <;> kernel_rfl
theorem i31 : ∃ i, Try.prog.info? 31 = some i ∧ i.bytes = 48 := bytes_of (by kernel_rfl)
theorem zl31 : PV.hasLay 5 zpk = true := rfl
theorem appendTo_pk (xs ys : List PV) (c : Bool) (h : xs.length + ys.length ≤ 1000000000) : appendTo Try.prog 34 34 5 xs (.list 5 c ys) = some (xs ++ ys) := by
  obtain ⟨i, h1, h2⟩ := i31
  simp [appendTo, u34, y31, h1, z31, h2, width, zl31, layPV, elemsPV?, appendRoom]
  omega

section
variable {L m : Nat}
@[simp] theorem c34 (hm : 1 ≤ m) (b : Bd) (h : b.len ≤ 1000000) : callP Try.prog hh L m 34 [b.pv] = some b.pv := by
  obtain ⟨n, rfl⟩ : ∃ n, m = n + 1 := ⟨m - 1, by omega⟩
  have : hh.prim 34 = some (cloneQ 0) := by kernel_rfl
  rw [callP, this]
  cases b with
  | nil => rfl
  | l xs =>
    have h2 : xs.length ≤ 1099511627776 := by simp only [Bd.len] at h; omega
    simp [cloneQ, h2, Bd.pv]

theorem c31 (hm : 2 ≤ m) (es : List (Int × PV)) (v : Int) : callM Try.prog hh L m 31 (some (st es v)) [] = some (.pure (Bo false), st es v) := by
  obtain ⟨n, rfl⟩ : ∃ n, m = n + 1 + 1 := ⟨m - 2, by omega⟩
  refine callM_of ?_
  rw [r31]; simp [d31_0]

theorem c33 (hm : 4 ≤ m) (es : List (Int × PV)) (v k : Int) (p : Pk) (hp : findM k es = some p.pv) : callM Try.prog hh L m 33 (some (st es v)) [I k] = some (.pure (.tup [p.pv, I 0]), st es v) := by
  obtain ⟨n, rfl⟩ : ∃ n, m = n + 1 + 1 := ⟨m - 2, by omega⟩
  refine callM_of ?_
  rw [r33]; simp [d33_0, c31 (L := L) (m := n + 1) (by omega), lookT, hp]

theorem c33n (hm : 4 ≤ m) (es : List (Int × PV)) (v k : Int) (hp : findM k es = none) : callM Try.prog hh L m 33 (some (st es v)) [I k] = some (.pure (.tup [zpk, I 80]), st es v) := by
  obtain ⟨n, rfl⟩ : ∃ n, m = n + 1 + 1 := ⟨m - 2, by omega⟩
  refine callM_of ?_
  rw [r33]; simp [d33_0, c31 (L := L) (m := n + 1) (by omega), lookT, hp, bp31z]

theorem c32 (hm : 3 ≤ m) (es : List (Int × PV)) (v : Int) (p : Pk) (hl : es.length < 256) (hv : 0 ≤ v ∧ v < 1000000000) (hb : p.b.len ≤ 65545) :
    callM Try.prog hh L m 32 (some (st es v)) [p.pv] = some (.pure (.tup [I (v + 1), I 0]), st (updM (v + 1) ({ p with n := v + 1 } : Pk).pv es) (v + 1)) := by
  obtain ⟨n, rfl⟩ : ∃ n, m = n + 1 + 1 := ⟨m - 2, by omega⟩
  refine callM_of ?_
  have hw : IntKind.i64.wrap (v + 1) = v + 1 := wrap64 (by omega) (by omega)
  have h2 : ¬ (256 : Int) ≤ es.length := by omega
  rw [r32]; simp [d32_0, hw, h2, c34 (L := L) (m := n + 1) (by omega) p.b (by omega)]

theorem c10 (hm : 5 ≤ m) (es : List (Int × PV)) (v f t : Int) (b : Bd) (hl : es.length < 256) (hv : 0 ≤ v ∧ v < 1000000000) (hb : b.len ≤ 65545) :
    callM Try.prog hh L m 10 (some (st es v)) [I f, I t, b.pv] = some (.pure (.tup [I (v + 1), I 0]), st (updM (v + 1) (⟨v + 1, f, t, b⟩ : Pk).pv es) (v + 1)) := by
  obtain ⟨n, rfl⟩ : ∃ n, m = n + 1 + 1 := ⟨m - 2, by omega⟩
  refine callM_of ?_
  have h2 : ¬ (65545 : Int) < b.len := by omega
  rw [r10]; simp [d10_0, c31 (L := L) (m := n + 1) (by omega), h2, bp31, c32 (L := L) (m := n + 1) (by omega) es v ⟨0, f, t, b⟩ hl hv hb]
theorem c10l (hm : 5 ≤ m) (es : List (Int × PV)) (v f t : Int) (b : Bd) (hb : 65545 < b.len) :
    callM Try.prog hh L m 10 (some (st es v)) [I f, I t, b.pv] = some (.pure (.tup [I 0, I 3]), st es v) := by
  obtain ⟨n, rfl⟩ : ∃ n, m = n + 1 + 1 := ⟨m - 2, by omega⟩
  refine callM_of ?_
  have h2 : (65545 : Int) < b.len := by omega
  rw [r10]; simp [d10_0, c31 (L := L) (m := n + 1) (by omega), h2]

theorem c13 (hm : 6 ≤ m) (es : List (Int × PV)) (v k : Int) (p : Pk) (hp : findM k es = some p.pv) (hb : p.b.len ≤ 65545) :
    callM Try.prog hh L m 13 (some (st es v)) [I k] = some (.pure (.tup [p.pv, I 0]), st (delM k es) v) := by
  obtain ⟨n, rfl⟩ : ∃ n, m = n + 1 + 1 := ⟨m - 2, by omega⟩
  refine callM_of ?_
  rw [r13]; simp [d13_0, c33 (L := L) (m := n + 1) (by omega) es v k p hp, c34 (L := L) (m := n + 1) (by omega) p.b (by omega)]

theorem c13n (hm : 6 ≤ m) (es : List (Int × PV)) (v k : Int) (hp : findM k es = none) :
    callM Try.prog hh L m 13 (some (st es v)) [I k] = some (.pure (.tup [zpk, I 80]), st es v) := by
  obtain ⟨n, rfl⟩ : ∃ n, m = n + 1 + 1 := ⟨m - 2, by omega⟩
  refine callM_of ?_
  rw [r13]; simp [d13_0, c33n (L := L) (m := n + 1) (by omega) es v k hp, bp31z]
theorem c12 (hm : 8 ≤ m) (es : List (Int × PV)) (v k : Int) (p : Pk) (hp : findM k es = some p.pv) (hb : p.b.len ≤ 65545) :
    callM Try.prog hh L m 12 (some (st es v)) [I k] = some (.pure (I 0), st (delM k es) v) := by
  obtain ⟨n, rfl⟩ : ∃ n, m = n + 1 + 1 := ⟨m - 2, by omega⟩
  refine callM_of ?_
  rw [r12]; simp [d12_0, c13 (L := L) (m := n + 1) (by omega) es v k p hp hb]
theorem c12n (hm : 8 ≤ m) (es : List (Int × PV)) (v k : Int) (hp : findM k es = none) :
    callM Try.prog hh L m 12 (some (st es v)) [I k] = some (.pure (I 80), st es v) := by
  obtain ⟨n, rfl⟩ : ∃ n, m = n + 1 + 1 := ⟨m - 2, by omega⟩
  refine callM_of ?_
  rw [r12]; simp [d12_0, c13n (L := L) (m := n + 1) (by omega) es v k hp]
theorem c32f (hm : 3 ≤ m) (es : List (Int × PV)) (v : Int) (p : Pk) (hl : 256 ≤ es.length) :
    callM Try.prog hh L m 32 (some (st es v)) [p.pv] = some (.pure (.tup [I 0, I 5]), st es v) := by
  obtain ⟨n, rfl⟩ : ∃ n, m = n + 1 + 1 := ⟨m - 2, by omega⟩
  refine callM_of ?_
  have h2 : (256 : Int) ≤ es.length := by omega
  rw [r32]; simp [d32_0, h2]
theorem c10f (hm : 5 ≤ m) (es : List (Int × PV)) (v f t : Int) (b : Bd) (hl : 256 ≤ es.length) (hb : b.len ≤ 65545) :
    callM Try.prog hh L m 10 (some (st es v)) [I f, I t, b.pv] = some (.pure (.tup [I 0, I 5]), st es v) := by
  obtain ⟨n, rfl⟩ : ∃ n, m = n + 1 + 1 := ⟨m - 2, by omega⟩
  refine callM_of ?_
  have h2 : ¬ (65545 : Int) < b.len := by omega
  rw [r10]; simp [d10_0, c31 (L := L) (m := n + 1) (by omega), h2, bp31, c32f (L := L) (m := n + 1) (by omega) es v ⟨0, f, t, b⟩ hl]
theorem c11 (hm : 6 ≤ m) (es : List (Int × PV)) (v k : Int) (p : Pk) (hp : findM k es = some p.pv) (hl : es.length < 256) (hv : 0 ≤ v ∧ v < 1000000000) (hb : p.b.len ≤ 65545) :
    callM Try.prog hh L m 11 (some (st es v)) [I k] = some (.pure (.tup [I (v + 1), I 0]), st (updM (v + 1) ({ p with n := v + 1 } : Pk).pv es) (v + 1)) := by
  obtain ⟨n, rfl⟩ : ∃ n, m = n + 1 + 1 := ⟨m - 2, by omega⟩
  refine callM_of ?_
  rw [r11]; simp [d11_0, c33 (L := L) (m := n + 1) (by omega) es v k p hp, c32 (L := L) (m := n + 1) (by omega) es v p hl hv hb]
theorem c11n (hm : 6 ≤ m) (es : List (Int × PV)) (v k : Int) (hp : findM k es = none) :
    callM Try.prog hh L m 11 (some (st es v)) [I k] = some (.pure (.tup [I 0, I 80]), st es v) := by
  obtain ⟨n, rfl⟩ : ∃ n, m = n + 1 + 1 := ⟨m - 2, by omega⟩
  refine callM_of ?_
  rw [r11]; simp [d11_0, c33n (L := L) (m := n + 1) (by omega) es v k hp]
theorem c11f (hm : 6 ≤ m) (es : List (Int × PV)) (v k : Int) (p : Pk) (hp : findM k es = some p.pv) (hl : 256 ≤ es.length) :
    callM Try.prog hh L m 11 (some (st es v)) [I k] = some (.pure (.tup [I 0, I 5]), st es v) := by
  obtain ⟨n, rfl⟩ : ∃ n, m = n + 1 + 1 := ⟨m - 2, by omega⟩
  refine callM_of ?_
  rw [r11]; simp [d11_0, c33 (L := L) (m := n + 1) (by omega) es v k p hp, c32f (L := L) (m := n + 1) (by omega) es v p hl]

theorem l14 {R : Type} (C : Kallee) (ke : PV → List (Int × PV) → List PV → Option R) (v : Int) (l : List Pk) (es : List (Int × PV)) (hl : l.length < 1000000) (hC : ∀ p ∈ l, C.pure 34 [p.b.pv] = some p.b.pv)
    (hf : ∀ p ∈ l, findM p.n es = some p.pv) :
    ∀ (r : List Pk) (N i : Nat) (acc : List PV), l.drop i = r → r.length < N → acc.length + r.length ≤ 1000000 → d14_1i C L ke N (.list 0 false (l.map fun p => I p.n)) (I l.length) (I i) (I v) es acc = ke (I v) es (acc ++ r.map Pk.pv) := by
  intro r
  induction r with
  | nil =>
    intro N i acc h hN ha
    obtain ⟨N, rfl⟩ : ∃ n, N = n + 1 := ⟨N - 1, by omega⟩
    have := drop_nil' h
    have h2 : ¬ (i : Int) < l.length := by omega
    simp [d14_1i, d14_2, h2]
  | cons p r ih =>
    intro N i acc h hN ha
    obtain ⟨N, rfl⟩ : ∃ n, N = n + 1 := ⟨N - 1, by omega⟩
    obtain ⟨h1, h2, h3, h4⟩ := drop_cons' h
    have h5 : (i : Int) < l.length := by omega
    have h6 := wrap_succ (i := i) (by omega)
    have h7 := ih N (i + 1) (acc ++ [p.pv]) h3 (by simp at hN; omega) (by simp at ha ⊢; omega)
    have h8 := appendTo_pk acc [p.pv] true (by simp at ha ⊢; omega)
    simp only [List.append_assoc, List.cons_append, List.nil_append] at h7
    rw [show ((i + 1 : Nat) : Int) = (i : Int) + 1 by omega] at h7
    simp [d14_1i, d14_2, h5, h2, lookT, hf p h4, hC p h4, bs34, h8, h6, h7]

/-- keys that rise -/
def Rise (l : List Pk) : Prop := l.Pairwise fun p q => p.n < q.n
theorem findM_ents {l : List Pk} (hr : Rise l) {p : Pk} (hp : p ∈ l) : findM p.n (ents l) = some p.pv := by
  induction l with
  | nil => cases hp
  | cons q r ih =>
    have h1 := List.pairwise_cons.1 hr
    simp only [ents, List.map_cons, findM]
    rcases List.mem_cons.1 hp with rfl | hp
    · simp
    · have := h1.1 p hp
      have h2 : (q.n == p.n) = false := by simp; omega
      rw [h2]; exact ih h1.2 hp
theorem isort_rise : ∀ {l : List Pk}, Rise l → isort (l.map (·.n)) = l.map (·.n) := by
  intro l
  induction l with
  | nil => intro _; rfl
  | cons p r ih =>
    intro h
    have h1 := List.pairwise_cons.1 h
    simp only [List.map_cons, isort, ih h1.2]
    cases r with
    | nil => rfl
    | cons q r =>
      have := h1.1 q (by simp)
      have h2 : decide (p.n ≤ q.n) = true := by simp; omega
      simp [ins, h2]
theorem sorted_ents {l : List Pk} (hr : Rise l) (hk : ∀ p ∈ l, keyOK p.n = true) (hl : l.length ≤ 1000000) : sortedPV (ents l) = some (intsPV (l.map (·.n))) := by
  have h1 : ((ents l).all fun p => keyOK p.1) = true := by simp [ents]; exact hk
  have h2 : decide ((ents l).length * 8 ≤ 140737488355328) = true := by simp [ents]; omega
  have h3 : (ents l).map (·.1) = l.map (·.n) := by simp [ents]
  simp only [sortedPV, h1, h2, h3, isort_rise hr, Bool.and_self, cond_true]
theorem c14 (hm : 4 ≤ m) (hL : 1000 ≤ L) (l : List Pk) (v : Int) (hr : Rise l) (hk : ∀ p ∈ l, keyOK p.n = true) (hl : l.length ≤ 300) (hb : ∀ p ∈ l, p.b.len ≤ 65545) :
    callM Try.prog hh L m 14 (some (st (ents l) v)) [] = some (.pure (.list 5 false (l.map Pk.pv)), st (ents l) v) := by
  obtain ⟨n, rfl⟩ : ∃ n, m = n + 1 + 1 := ⟨m - 2, by omega⟩
  refine callM_of ?_
  rw [r14]
  have hs := sorted_ents hr hk (by omega)
  cases l with
  | nil =>
    obtain ⟨L, rfl⟩ : ∃ k, L = k + 1 := ⟨L - 1, by omega⟩
    have e : ents [] = [] := rfl
    rw [e] at hs ⊢
    simp [d14_0, g14_0, c31 (m := n + 1) (by omega), hs, intsPV, nilSlice, d14_1, d14_1i, d14_2, d14_3]
  | cons p r =>
    have hi : intsPV ((p :: r).map (·.n)) = .list 0 false ((p :: r).map fun p => I p.n) := by simp [intsPV]
    have h7 := l14 (L := L) (kk L (n + 1)) (fun v0 m1 x2 => d14_3 (kk L (n + 1)) L v0 m1 x2) v (p :: r) (ents (p :: r)) (by omega) (fun q hq => c34 (by omega) q.b (by have := hb q hq; omega)) (fun q hq => findM_ents hr hq) (p :: r) L 0 [] rfl (by omega) (by simp at hl ⊢; omega)
    rw [hi] at hs
    simp only [List.length_cons] at h7
    simp [d14_0, g14_0, c31 (L := L) (m := n + 1) (by omega), hs, d14_1] at h7 ⊢
    rw [h7]; simp [d14_3]
theorem byteM (ns : List Int) : (ns.map U).mapM byte? = some (ns.map fun n => UInt8.ofNat n.toNat) := by
  induction ns with
  | nil => rfl
  | cons a r ih => simp [List.mapM_cons, byte?, ih]
theorem c17 (hm : 2 ≤ m) (ns : List Int) : callP Try.prog hh L m 17 [B ns, B ns] = some (Bo true) := by
  obtain ⟨n, rfl⟩ : ∃ n, m = n + 1 + 1 := ⟨m - 2, by omega⟩
  refine callP_of rfl ?_
  have u9 : Try.prog.underlying 9 = some .string := by kernel_rfl
  have u5 : Try.prog.underlying 5 = some (.int .u8) := by kernel_rfl
  have h : convPV Try.prog 27 9 (B ns) = some (.sc (.string ⟨(ns.map fun n => UInt8.ofNat n.toNat).toArray⟩)) := by
    simp only [convPV, u27, u9, u5, byteM, Option.map_some]
  rw [r17]; simp [d17_0, h]
theorem rem_int (a : Int) (k : Nat) (h : ¬ (k : Int) = 0) (t : TypeId) (x y : Operand) : binPV Try.prog .rem t x y (I a) (I k) = some (I (a.tmod k)) := by
  simp only [binPV, PV.plain?, eqGuard, binOp]
  have : pureRun Try.prog (Op.intDiv .rem .i64 a k) = some (.int .i64 (a.tmod k)) := by
    unfold Op.intDiv; rw [if_neg h]; rfl
  simp [this]
theorem c19 (hm : 2 ≤ m) (a : Int) (k : Nat) (hk : 0 < k ∧ k < 1000000) : ∃ j : Nat, j < k ∧ callP Try.prog hh L m 19 [I a, I k] = some (I j) := by
  obtain ⟨n, rfl⟩ : ∃ n, m = n + 1 + 1 := ⟨m - 2, by omega⟩
  have h1 : ¬ (k : Int) ≤ 0 := by omega
  have hk0 : ¬ (k : Int) = 0 := by omega
  have hlt : (a.tmod k).natAbs < k := by
    have := Int.natAbs_tmod a k
    rw [this]; exact Nat.mod_lt _ (by simpa using hk.1)
  have hb : -(k : Int) < a.tmod k ∧ a.tmod k < k := by omega
  by_cases hneg : a.tmod k < 0
  · have hw : IntKind.i64.wrap (a.tmod k + k) = a.tmod k + k := wrap64 (by omega) (by omega)
    refine ⟨(a.tmod k + k).toNat, by omega, ?_⟩
    have e : (((a.tmod k + k).toNat : Nat) : Int) = a.tmod k + k := by omega
    rw [e]
    refine callP_of rfl ?_
    rw [r19]; simp [d19_0, h1, rem_int a k hk0, hneg, hw, show ¬ k = 0 by omega]
  · refine ⟨(a.tmod k).toNat, by omega, ?_⟩
    have e : (((a.tmod k).toNat : Nat) : Int) = a.tmod k := by omega
    rw [e]
    refine callP_of rfl ?_
    rw [r19]; simp [d19_0, h1, rem_int a k hk0, hneg, show ¬ k = 0 by omega]
theorem c20 (hm : 2 ≤ m) (xs : List PV) (h : xs.length ≤ 1000000) : callP Try.prog hh L m 20 [.list 0 false xs] = some (.list 0 false xs) := by
  obtain ⟨n, rfl⟩ : ∃ n, m = n + 1 + 1 := ⟨m - 2, by omega⟩
  refine callP_of rfl ?_
  rw [r20]; simp [d20_0, appendTo_ints [] xs false (by simp; omega)]
end
end Go.Lite

namespace Go.Lite
open Go Go.Proofs
set_option linter.unusedVariables false
set_option linter.unusedSimpArgs false
set_option maxRecDepth 1000000
theorem awake15 : callP Try.prog hh 1000 40 15 [] = some (.sc (.bool true)) := by kernel_rfl
theorem new9 : callM Try.prog hh 1000 40 9 none [] = some (.one (st [] 0), []) := by kernel_rfl
theorem add_int' (a b : Int) (t : TypeId) (x y : Operand) (h : -9223372036854775808 ≤ a + b ∧ a + b < 9223372036854775808) : binPV Try.prog .add t x y (I a) (I b) = some (I (a + b)) := by
  rw [add_int, wrap64 h.1 h.2]
theorem updM_new {l : List Pk} {k : Int} {d : PV} (h : ∀ p ∈ l, p.n < k) : updM k d (ents l) = ents l ++ [(k, d)] := by
  induction l with
  | nil => rfl
  | cons p r ih =>
    have h1 := h p (by simp)
    have h2 : (p.n == k) = false := by simp; omega
    simp only [ents, List.map_cons, updM, h2, cond_false, List.cons_append]
    have := ih fun q hq => h q (by simp [hq])
    simp only [ents] at this
    rw [this]
theorem findM_none {l : List Pk} {k : Int} (h : ∀ p ∈ l, p.n ≠ k) : findM k (ents l) = none := by
  induction l with
  | nil => rfl
  | cons p r ih =>
    have h2 : (p.n == k) = false := by simp; exact h p (by simp)
    simp only [ents, List.map_cons, findM, h2, cond_false]
    exact ih fun q hq => h q (by simp [hq])
theorem delM_ents {l : List Pk} (hr : Rise l) : ∀ {k : Nat} {p : Pk}, l[k]? = some p → delM p.n (ents l) = ents (l.eraseIdx k) := by
  induction l with
  | nil => intro k p h; simp at h
  | cons q r ih =>
    intro k p h
    have h1 := List.pairwise_cons.1 hr
    cases k with
    | zero => simp at h; subst h; simp [ents, delM]
    | succ k =>
      simp at h
      have h2 := h1.1 p (List.mem_of_getElem? h)
      have h3 : (q.n == p.n) = false := by simp; omega
      have := ih h1.2 h
      simp only [ents] at this
      simp [ents, delM, h3, this]
def big (n : Nat) : Bd := .l (zeros n (.sc (.int .u8 0)))
theorem big_pv (n : Nat) : (.list 0 false (zeros n (.sc (.int .u8 0))) : PV) = (big n).pv := rfl
theorem nil_pv : (.sc (.slice none 0 0) : PV) = Bd.nil.pv := rfl
theorem big_len (n : Nat) : (big n).len = n := by simp [big, Bd.len, zeros]
/-- what is sent: the longest packet, then empty ones -/
def sent (n : Nat) : List Pk := ⟨1, -1, 4611686018427387904, big 65545⟩ :: (List.range' 2 n).map fun (i : Nat) => ⟨(i : Int), 0, 0, .nil⟩
theorem sent_length (n : Nat) : (sent n).length = n + 1 := by simp [sent]
theorem sent_rise (n : Nat) : Rise (sent n) := by
  unfold Rise sent
  refine List.pairwise_cons.2 ⟨fun p hp => ?_, ?_⟩
  · simp only [List.mem_map, List.mem_range'_1] at hp
    obtain ⟨i, h, rfl⟩ := hp
    simp; omega
  · rw [List.pairwise_map]
    have : (List.range' 2 n).Pairwise (· < ·) := List.pairwise_lt_range' ..
    exact this.imp fun h => by simp; exact h
theorem sent_le (n : Nat) : ∀ p ∈ sent n, 1 ≤ p.n ∧ p.n ≤ n + 1 ∧ p.b.len ≤ 65545 := by
  intro p hp
  simp only [sent, List.mem_cons, List.mem_map, List.mem_range'_1] at hp
  rcases hp with rfl | ⟨i, h, rfl⟩
  · simp [big_len]; omega
  · simp [Bd.len]; omega
theorem sent_succ (n : Nat) : sent (n + 1) = sent n ++ [⟨(n : Int) + 2, 0, 0, .nil⟩] := by
  simp [sent, List.range'_concat]; omega
section
variable {L m : Nat} {T : PV}
theorem l3_1 (hm : 5 ≤ m) (v0 v1 v2 : PV) (kr : PV → PV → List (Int × PV) → Option PV) (ke : PV → PV → PV → PV → List (Int × PV) → Option PV) (hke : ke v0 v1 v2 (I 256) (ents (sent 255)) = some T) :
    ∀ (r N i : Nat), i + r = 255 → r < N → d3_1i (kk L m) L kr ke N v0 v1 v2 (I ((i : Int) + 2)) (I ((i : Int) + 1)) (ents (sent i)) = some T := by
  intro r
  induction r with
  | zero =>
    intro N i h hN
    obtain ⟨N, rfl⟩ : ∃ n, N = n + 1 := ⟨N - 1, by omega⟩
    obtain rfl : i = 255 := by omega
    simp [d3_1i, d3_2]
    exact hke
  | succ r ih =>
    intro N i h hN
    obtain ⟨N, rfl⟩ : ∃ n, N = n + 1 := ⟨N - 1, by omega⟩
    have h1 : (i : Int) + 2 ≤ 256 := by omega
    have hl := sent_length i
    have hs := c10 (L := L) hm (ents (sent i)) ((i : Int) + 1) 0 0 .nil (by simp [ents, hl]; omega) (by omega) (by simp [Bd.len])
    have hu : updM ((i : Int) + 1 + 1) (⟨(i : Int) + 1 + 1, 0, 0, .nil⟩ : Pk).pv (ents (sent i)) = ents (sent (i + 1)) := by
      rw [updM_new fun p hp => by have := (sent_le i p hp).2.1; omega, sent_succ]
      have : (i : Int) + 1 + 1 = (i : Int) + 2 := by omega
      rw [this]; simp [ents]
    rw [hu, ← nil_pv] at hs
    have := ih N (i + 1) (by omega) (by omega)
    rw [show ((i + 1 : Nat) : Int) + 2 = (i : Int) + 2 + 1 by omega, show ((i + 1 : Nat) : Int) + 1 = (i : Int) + 1 + 1 by omega] at this
    have hadd : ∀ x y : Operand, binPV Try.prog .add 3 x y (I ((i : Int) + 2)) (I 1) = some (I ((i : Int) + 2 + 1)) := fun x y => add_int' _ _ _ _ _ (by omega)
    have hne : ∀ x y : Operand, binPV Try.prog .neq 3 x y (I ((i : Int) + 1 + 1)) (I ((i : Int) + 2)) = some (Bo false) := fun x y => by
      rw [show (i : Int) + 1 + 1 = (i : Int) + 2 by omega]; simp
    simp only [d3_1i, d3_2, leq_int, h1, decide_true, ob_some, cb_bool, if_true, ckR, ckB_true, hs, om_pair, fm_m, fp_p, fnil_nil, r1_pure, extract_tup, List.getElem?_cons_zero, List.getElem?_cons_succ, hne, gcase_f, Bool.false_eq_true, if_false,
      neq_int, ne_eq, not_true_eq_false, decide_false, hadd, this]
end
theorem erase_ne {l : List Pk} (hr : Rise l) : ∀ {k : Nat} {p : Pk}, l[k]? = some p → ∀ q ∈ l.eraseIdx k, q.n ≠ p.n := by
  induction l with
  | nil => intro k p h; simp at h
  | cons a r ih =>
    intro k p h q hq
    have h1 := List.pairwise_cons.1 hr
    cases k with
    | zero =>
      simp at h hq; subst h
      have := h1.1 q hq; omega
    | succ k =>
      simp at h hq
      rcases hq with rfl | hq
      · have := h1.1 p (List.mem_of_getElem? h); omega
      · exact ih h1.2 h q hq
theorem last3 (C : Kallee) (L : Nat) (es es2 es3 : List (Int × PV)) (xs : List PV) (b : PV) (hb : (.list 0 false (zeros 65546 (.sc (.int .u8 0))) : PV) = b) (hx : xs.length = 256)
    (t1 : C.meth 10 (some (st es 256)) [I 0, I 0, .sc (.slice none 0 0)] = some (.pure (.tup [I 0, I 5]), st es 256))
    (t2 : C.meth 10 (some (st es 256)) [I 0, I 0, b] = some (.pure (.tup [I 0, I 3]), st es 256))
    (t3 : C.meth 11 (some (st es 256)) [I 1] = some (.pure (.tup [I 0, I 5]), st es 256))
    (t4 : C.meth 11 (some (st es 256)) [I 257] = some (.pure (.tup [I 0, I 80]), st es 256))
    (t5 : C.meth 12 (some (st es 256)) [I 9] = some (.pure (I 0), st es2 256))
    (t6 : C.meth 11 (some (st es2 256)) [I 1] = some (.pure (.tup [I 257, I 0]), st es3 257))
    (t7 : C.meth 13 (some (st es3 257)) [I 0] = some (.pure (.tup [zpk, I 80]), st es3 257))
    (t8 : C.meth 12 (some (st es3 257)) [I 9] = some (.pure (I 80), st es3 257))
    (t9 : C.meth 14 (some (st es3 257)) [] = some (.pure (.list 5 false xs), st es3 257))
    (haw : C.pure 15 [] = some (Bo true)) : d3_3 C L (I 3) (I 1) (I 0) (I 256) es = some (Bo true) := by
  have hz : putPV 5 0 5 (.pv (.agg [I 0, I 0, I 0, .sc (.slice none 0 0)])) zpk = some zpk := rfl
  have hp : ∀ c : Bool, pickPV (Bo c) (Bo true) (Bo false) = some (Bo c) := fun c => by cases c <;> rfl
  have hl : (lenPV Try.prog 34 (.list 5 false xs)).map (fun n => I n) = some (I 256) := by rw [ln34, hx]; rfl
  have o1 : ∀ f : MR → List FV → Option PV, om (C.meth 10 (some (st es 256)) [I 0, I 0, .sc (.slice none 0 0)]) f = f (.pure (.tup [I 0, I 5])) (st es 256) := fun f => by rw [t1]; rfl
  have o2 : ∀ f : MR → List FV → Option PV, om (C.meth 10 (some (st es 256)) [I 0, I 0, b]) f = f (.pure (.tup [I 0, I 3])) (st es 256) := fun f => by rw [t2]; rfl
  have o3 : ∀ f : MR → List FV → Option PV, om (C.meth 11 (some (st es 256)) [I 1]) f = f (.pure (.tup [I 0, I 5])) (st es 256) := fun f => by rw [t3]; rfl
  have o4 : ∀ f : MR → List FV → Option PV, om (C.meth 11 (some (st es 256)) [I 257]) f = f (.pure (.tup [I 0, I 80])) (st es 256) := fun f => by rw [t4]; rfl
  have o5 : ∀ f : MR → List FV → Option PV, om (C.meth 12 (some (st es 256)) [I 9]) f = f (.pure (I 0)) (st es2 256) := fun f => by rw [t5]; rfl
  have o6 : ∀ f : MR → List FV → Option PV, om (C.meth 11 (some (st es2 256)) [I 1]) f = f (.pure (.tup [I 257, I 0])) (st es3 257) := fun f => by rw [t6]; rfl
  have o7 : ∀ f : MR → List FV → Option PV, om (C.meth 13 (some (st es3 257)) [I 0]) f = f (.pure (.tup [zpk, I 80])) (st es3 257) := fun f => by rw [t7]; rfl
  have o8 : ∀ f : MR → List FV → Option PV, om (C.meth 12 (some (st es3 257)) [I 9]) f = f (.pure (I 80)) (st es3 257) := fun f => by rw [t8]; rfl
  have o9 : ∀ f : MR → List FV → Option PV, om (C.meth 14 (some (st es3 257)) []) f = f (.pure (.list 5 false xs)) (st es3 257) := fun f => by rw [t9]; rfl
  have qc : ∀ (v : Int) (y : Option PV), ckB (ckRoot 3 (.agg [.mp 1, .pv (I v)])) y = y := fun v y => rfl
  have qz : ∀ f : PV → Option PV, ob (putPV 5 0 5 (.pv (.agg [I 0, I 0, I 0, .sc (.slice none 0 0)])) zpk) f = f zpk := fun f => by rw [hz]; rfl
  have ql : ∀ f : PV → Option PV, ob ((lenPV Try.prog 34 (.list 5 false xs)).map fun n => .sc (goInt n)) f = f (I 256) := fun f => by simp only [goI]; rw [hl]; rfl
  have qp : ∀ (c : Bool) (f : PV → Option PV), ob (pickPV (Bo c) (Bo true) (Bo false)) f = f (Bo c) := fun c f => by rw [hp]; rfl
  have qa : ∀ f : PV → Option PV, ob (callD C.pure (.clo 15 [] []) [] false) f = f (Bo true) := fun f => by simp only [callD_clo, List.nil_append, haw]; rfl
  have qt : ∀ (a : Int) (y n u : Option PV), gcase true (.sc (.bool (decide (a = a)))) y n u = y := fun a y n u => by simp
  have q6 : decide ((256 : Int) = 256) = true := by decide
  unfold d3_3
  rw [hb]
  simp only [↓qc, ↓o1, ↓o2, ↓o3, ↓o4, ↓o5, ↓o6, ↓o7, ↓o8, ↓o9, ↓fm_m, ↓fp_p, ↓fnil_nil, ↓r1_pure, ↓q_ex0, ↓q_ex1, ↓qz, ↓q_eql, ↓qt, ↓ql, q6, ↓qp, ↓qa, ↓q_gTT]
theorem facts3 {L m : Nat} (hm : 20 ≤ m) (hL : 1000 ≤ L) : ∃ (es2 es3 : List (Int × PV)) (xs : List PV), xs.length = 256 ∧
    (callM Try.prog hh L m 10 (some (st (ents (sent 255)) 256)) [I 0, I 0, Bd.nil.pv] = some (.pure (.tup [I 0, I 5]), st (ents (sent 255)) 256)) ∧
    (callM Try.prog hh L m 10 (some (st (ents (sent 255)) 256)) [I 0, I 0, (big 65546).pv] = some (.pure (.tup [I 0, I 3]), st (ents (sent 255)) 256)) ∧
    (callM Try.prog hh L m 11 (some (st (ents (sent 255)) 256)) [I 1] = some (.pure (.tup [I 0, I 5]), st (ents (sent 255)) 256)) ∧
    (callM Try.prog hh L m 11 (some (st (ents (sent 255)) 256)) [I 257] = some (.pure (.tup [I 0, I 80]), st (ents (sent 255)) 256)) ∧
    (callM Try.prog hh L m 12 (some (st (ents (sent 255)) 256)) [I 9] = some (.pure (I 0), st es2 256)) ∧
    (callM Try.prog hh L m 11 (some (st es2 256)) [I 1] = some (.pure (.tup [I 257, I 0]), st es3 257)) ∧
    (callM Try.prog hh L m 13 (some (st es3 257)) [I 0] = some (.pure (.tup [zpk, I 80]), st es3 257)) ∧
    (callM Try.prog hh L m 12 (some (st es3 257)) [I 9] = some (.pure (I 80), st es3 257)) ∧
    (callM Try.prog hh L m 14 (some (st es3 257)) [] = some (.pure (.list 5 false xs), st es3 257)) := by
  have hl := sent_length 255
  have hr := sent_rise 255
  have el : (ents (sent 255)).length = 256 := by simp [ents, hl]
  have f1 : findM 1 (ents (sent 255)) = some (⟨1, -1, 4611686018427387904, big 65545⟩ : Pk).pv := findM_ents hr (p := ⟨1, -1, 4611686018427387904, big 65545⟩) (by simp [sent])
  have f9 : findM 9 (ents (sent 255)) = some (⟨9, 0, 0, .nil⟩ : Pk).pv := findM_ents hr (p := ⟨9, 0, 0, .nil⟩) (by
    simp only [sent, List.mem_cons, List.mem_map, List.mem_range'_1]; exact .inr ⟨9, by omega, rfl⟩)
  have f257 : findM 257 (ents (sent 255)) = none := findM_none fun p hp => by have := (sent_le 255 p hp).2.1; omega
  have g8 : (sent 255)[8]? = some ⟨9, 0, 0, .nil⟩ := by simp [sent]
  have d9 : delM 9 (ents (sent 255)) = ents ((sent 255).eraseIdx 8) := delM_ents hr g8
  obtain ⟨l2, hl2⟩ : ∃ l2, l2 = (sent 255).eraseIdx 8 := ⟨_, rfl⟩
  rw [← hl2] at d9
  have h2r : Rise l2 := by rw [hl2]; exact hr.sublist (List.eraseIdx_sublist ..)
  have h2l : l2.length = 255 := by rw [hl2, List.length_eraseIdx_of_lt (by omega), hl]
  have h2m : ∀ p ∈ l2, p ∈ sent 255 := fun p hp => List.mem_of_mem_eraseIdx (by rw [← hl2]; exact hp)
  have g1 : findM 1 (ents l2) = some (⟨1, -1, 4611686018427387904, big 65545⟩ : Pk).pv := findM_ents h2r (p := ⟨1, -1, 4611686018427387904, big 65545⟩) (by rw [hl2]; simp [sent])
  obtain ⟨l3, hl3⟩ : ∃ l3, l3 = l2 ++ [(⟨257, -1, 4611686018427387904, big 65545⟩ : Pk)] := ⟨_, rfl⟩
  have u3 : updM ((256 : Int) + 1) ({ (⟨1, -1, 4611686018427387904, big 65545⟩ : Pk) with n := (256 : Int) + 1 } : Pk).pv (ents l2) = ents l3 := by
    rw [updM_new fun p hp => by have := (sent_le 255 p (h2m p hp)).2.1; omega]
    rw [hl3]; simp [ents]
  have h3r : Rise l3 := by
    rw [hl3]
    exact List.pairwise_append.2 ⟨h2r, by simp, fun p hp q hq => by
      simp at hq; subst hq; have := (sent_le 255 p (h2m p hp)).2.1; simp; omega⟩
  have h3m : ∀ p ∈ l3, p.n ≠ 9 ∧ 1 ≤ p.n ∧ p.n ≤ 257 ∧ p.b.len ≤ 65545 := by
    intro p hp
    simp only [hl3, List.mem_append, List.mem_singleton] at hp
    rcases hp with hp | rfl
    · have h5 := sent_le 255 p (h2m p hp)
      subst hl2
      exact ⟨erase_ne hr g8 p hp, by omega, by omega, h5.2.2⟩
    · simp [big_len]
  have f9b : findM 9 (ents l3) = none := findM_none fun p hp => (h3m p hp).1
  have f0 : findM 0 (ents l3) = none := findM_none fun p hp => by have := (h3m p hp).2.1; omega
  have t1 := c10f (L := L) (m := m) (by omega) (ents (sent 255)) 256 0 0 .nil (by omega) (by simp [Bd.len])
  have t2 := c10l (L := L) (m := m) (by omega) (ents (sent 255)) 256 0 0 (big 65546) (by rw [big_len]; omega)
  have t3 := c11f (L := L) (m := m) (by omega) (ents (sent 255)) 256 1 _ f1 (by omega)
  have t4 := c11n (L := L) (m := m) (by omega) (ents (sent 255)) 256 257 f257
  have t5 := c12 (L := L) (m := m) (by omega) (ents (sent 255)) 256 9 _ f9 (by simp [Bd.len])
  rw [d9] at t5
  have t6 := c11 (L := L) (m := m) (by omega) (ents l2) 256 1 _ g1 (by simp [ents, h2l]) (by omega) (by simp [big_len])
  rw [u3] at t6
  have t7 := c13n (L := L) (m := m) (by omega) (ents l3) (256 + 1) 0 f0
  have t8 := c12n (L := L) (m := m) (by omega) (ents l3) (256 + 1) 9 f9b
  have t9 := c14 (L := L) (m := m) (by omega) hL l3 (256 + 1) h3r (fun p hp => by have := h3m p hp; simp [keyOK]; omega) (by rw [hl3]; simp [h2l]) (fun p hp => (h3m p hp).2.2.2)
  rw [show (256 : Int) + 1 = 257 from rfl] at t6 t7 t8 t9
  exact ⟨ents l2, ents l3, l3.map Pk.pv, by rw [hl3]; simp [h2l], t1, t2, t3, t4, t5, t6, t7, t8, t9⟩
theorem last3' {L m : Nat} (hm : 20 ≤ m) (hL : 1000 ≤ L) (haw : callP Try.prog hh L m 15 [] = some (Bo true)) : d3_3 (kk L m) L (I 3) (I 1) (I 0) (I 256) (ents (sent 255)) = some (Bo true) := by
  obtain ⟨es2, es3, xs, hx, t1, t2, t3, t4, t5, t6, t7, t8, t9⟩ := facts3 (L := L) (m := m) hm hL
  exact last3 (kk L m) L (ents (sent 255)) es2 es3 xs (big 65546).pv (big_pv 65546) hx t1 t2 t3 t4 t5 t6 t7 t8 t9 haw
theorem main3g {L m : Nat} (hm : 20 ≤ m) (hL : 1000 ≤ L) (haw : callP Try.prog hh L m 15 [] = some (Bo true)) (hnew : callM Try.prog hh L m 9 none [] = some (.one (st [] 0), [])) : d3_0 (kk L m) L = some (Bo true) := by
  have e0 : (ents [] : List (Int × PV)) = [] := rfl
  have s1 := c10l (L := L) (m := m) (by omega) (ents []) 0 0 0 (big 65546) (by rw [big_len]; omega)
  have s2 := c10 (L := L) (m := m) (by omega) (ents []) 0 (-1) 4611686018427387904 (big 65545) (by simp [ents]) (by omega) (by rw [big_len]; omega)
  have u2 : updM ((0 : Int) + 1) (⟨(0 : Int) + 1, -1, 4611686018427387904, big 65545⟩ : Pk).pv (ents []) = ents (sent 0) := rfl
  rw [u2] at s2
  rw [e0] at s1 s2
  have hlast : d3_3 (kk L m) L (I 3) (I 1) (I 0) (I 256) (ents (sent 255)) = some (Bo true) := last3' hm hL haw
  have hloop := l3_1 (L := L) (m := m) (T := Bo true) (by omega) (I 3) (I 1) (I 0) (fun v0 v1 m2 => some v0) (fun v0 v1 v2 v3 m4 => d3_3 (kk L m) L v0 v1 v2 v3 m4) hlast 255 L 0 rfl (by omega)
  rw [show (0 : Int) + 1 = 1 from rfl] at s2
  have s2' : (kk L m).meth 10 (some (st [] 0)) [I (-1), I 4611686018427387904, (big 65545).pv] = some (.pure (.tup [I 1, I 0]), st (ents (sent 0)) 1) := s2
  have s1' : (kk L m).meth 10 (some (st [] 0)) [I 0, I 0, (big 65546).pv] = some (.pure (.tup [I 0, I 3]), st [] 0) := s1
  have hnew' : (kk L m).meth 9 none [] = some (.one (st [] 0), []) := hnew
  generalize kk L m = C at hloop s1' s2' hnew' ⊢
  have o0 : ∀ f : MR → List FV → Option PV, om (C.meth 9 none []) f = f (.one (st [] 0)) [] := fun f => by rw [hnew']; rfl
  have o1 : ∀ f : MR → List FV → Option PV, om (C.meth 10 (some (st [] 0)) [I 0, I 0, (big 65546).pv]) f = f (.pure (.tup [I 0, I 3])) (st [] 0) := fun f => by rw [s1']; rfl
  have o2 : ∀ f : MR → List FV → Option PV, om (C.meth 10 (some (st [] 0)) [I (-1), I 4611686018427387904, (big 65545).pv]) f = f (.pure (.tup [I 1, I 0])) (st (ents (sent 0)) 1) := fun f => by rw [s2']; rfl
  have qc : ∀ (v : Int) (y : Option PV), ckB (ckRoot 3 (.agg [.mp 1, .pv (I v)])) y = y := fun v y => rfl
  unfold d3_0 g3_0
  rw [big_pv, big_pv]
  simp only [↓qc, ↓o0, ↓o1, ↓o2, ↓fm_m, ↓fp_p, ↓fnil_nil, ↓r1_pure, ↓r2_one, ↓q_ex0, ↓q_ex1, d3_1]
  exact hloop
theorem main3 : callP Try.prog hh 1000 60 3 [] = some (Bo true) := by
  have haw : callP Try.prog hh 1000 59 15 [] = some (Bo true) := callP_mono (Nat.le_refl _) (by omega) awake15
  have hnew : callM Try.prog hh 1000 59 9 none [] = some (.one (st [] 0), []) := callM_mono (Nat.le_refl _) (by omega) new9
  refine callP_of (n := 58) rfl ?_
  rw [rq3]
  exact main3g (by omega) (by omega) haw hnew
end Go.Lite
