import Derived.Test.YthaldjolmmmahaaRn
set_option linter.unusedVariables false
set_option linter.unusedSimpArgs false

namespace Go.Lite
open Go Go.Proofs
set_option linter.unusedVariables false
set_option linter.unusedSimpArgs false
set_option maxRecDepth 100000

/-! # slices.Clone of bytes -/
theorem u27 : Try.prog.underlying 27 = some (.slice 5) := by kernel_rfl
theorem u37 : Try.prog.underlying 37 = some (.slice 3) := by kernel_rfl
theorem u34 : Try.prog.underlying 34 = some (.slice 31) := by kernel_rfl
theorem u44 : Try.prog.underlying 44 = some (.slice 27) := by kernel_rfl
theorem y5 : layOf Try.prog 5 = some 0 := by kernel_rfl
theorem y3 : layOf Try.prog 3 = some 0 := by kernel_rfl
theorem y27 : layOf Try.prog 27 = some 0 := by kernel_rfl
theorem y31 : layOf Try.prog 31 = some 5 := by kernel_rfl
theorem i5 : ∃ i, Try.prog.info? 5 = some i ∧ i.bytes = 1 := bytes_of (by kernel_rfl)
theorem z5 : zeroPV Try.prog 5 = some (.sc (.int .u8 0)) := by kernel_rfl
theorem i3 : ∃ i, Try.prog.info? 3 = some i ∧ i.bytes = 8 := bytes_of (by kernel_rfl)
theorem z3 : zeroPV Try.prog 3 = some (.sc (.int .i64 0)) := by kernel_rfl


theorem appendTo_bytes (xs ys : List PV) (c : Bool) (h : xs.length + ys.length ≤ 140737488355328) : appendTo Try.prog 27 27 0 xs (.list 0 c ys) = some (xs ++ ys) := by
  obtain ⟨i, h1, h2⟩ := i5
  simp [appendTo, u27, y5, h1, z5, h2, width, PV.hasLay, PV.isCell, layPV, elemsPV?, appendRoom, h]
theorem appendTo_ints (xs ys : List PV) (c : Bool) (h : xs.length + ys.length ≤ 1099511627776) : appendTo Try.prog 37 37 0 xs (.list 0 c ys) = some (xs ++ ys) := by
  obtain ⟨i, h1, h2⟩ := i3
  simp [appendTo, u37, y3, h1, z3, h2, width, PV.hasLay, PV.isCell, layPV, elemsPV?, appendRoom]
  omega
theorem build0 : buildXs Try.prog 27 0 0 [] = some [] := by kernel_rfl
theorem eqnil_list (x y : Operand) (c : Bool) (a : PV) (xs : List PV) : binPV Try.prog .eql 27 x y (.list 0 c (a :: xs)) (.sc (.slice none 0 0)) = some (.sc (.bool false)) := by
  simp [binPV, PV.plain?, nilCmpPV, u27]
theorem tidyTry : TidyF Try.prog := tidyF_of (by kernel_rfl)
theorem primsS0 : PrimsSOK Try.prog h0.primS := by
  intro g q h
  simp only [h0] at h
  cases hg : Nat.beq g 35 with
  | false => rw [hg] at h; simp at h
  | true =>
    rw [hg] at h
    simp only [cond_true, Option.some.injEq] at h
    subst h
    have : g = 35 := Nat.eq_of_beq_eq_true hg
    subst this
    exact sorted_ok sortsKeys 35 _ (by simp)
noncomputable abbrev kz : Kallee := ⟨callP Try.prog h0 1 1, callS Try.prog h0 1 1, callM Try.prog h0 1 1, callO Try.prog h0 1 1, h0.calmB, h0.primS⟩
theorem kz_ok : KOK Try.prog kz := call_sound tidyTry (fun g q h => by simp [h0] at h) primsS0 (fun g q h => by simp [h0] at h) (fun g q sp h => by simp [h0] at h) 1
theorem kz_is : KIs Try.prog h0 1 kz := kis Try.prog h0 1 0
theorem clone34 : PureOK Try.prog fun g args => if g = 34 then cloneQ 0 args else none := by
  refine clone_ok (C := kz) (h := h0) (L := 1) tidyTry kz_ok (fun c x xs hl => ?_) ?_ fun a c => ?_
  · refine bodyPR_imp kz_is ?_
    rw [r34]
    have h := appendTo_bytes [] (x :: xs) c (by simp at hl ⊢; omega)
    simp [d34_0, eqnil_list, build0, h]
  · refine bodyPR_imp kz_is ?_
    rw [r34]; kernel_rfl
  · refine bodyPR_imp kz_is ?_
    rw [r34]; kernel_rfl
theorem prims_hh : PrimsOK Try.prog hh.prim := by
  intro g q h
  simp only [hh] at h
  cases hg : Nat.beq g 34 with
  | false => rw [hg] at h; simp at h
  | true =>
    rw [hg] at h
    simp only [cond_true, Option.some.injEq] at h
    subst h
    have : g = 34 := Nat.eq_of_beq_eq_true hg
    subst this
    exact clone34
end Go.Lite

namespace Go.Lite
open Go Go.Proofs
set_option linter.unusedVariables false
set_option linter.unusedSimpArgs false
set_option maxRecDepth 100000
noncomputable abbrev kk (L n : Nat) : Kallee := ⟨callP Try.prog hh L n, callS Try.prog hh L n, callM Try.prog hh L n, callO Try.prog hh L n, hh.calmB, hh.primS⟩

/-! # packets -/
abbrev U (n : Int) : PV := .sc (.int .u8 n)
abbrev B (ns : List Int) : PV := .list 0 false (ns.map U)
structure Pk where
  n : Int
  f : Int
  t : Int
  b : List Int
def Pk.pv (p : Pk) : PV := .agg [I p.n, I p.f, I p.t, B p.b]
def zpk : PV := .agg [I 0, I 0, I 0, nilSlice]
def ents (l : List Pk) : List (Int × PV) := l.map fun p => (p.n, p.pv)
abbrev st (es : List (Int × PV)) (v : Int) : List FV := [.m es, .p (I v)]

@[simp] theorem ckR (v : Int) : ckRoot 3 (.agg [.mp 1, .pv (I v)]) = true := rfl
@[simp] theorem ckH (v w : Int) : (PV.hasLay 0 (I v) && AV.sized 3 (.agg [.mp 1, .pv (I w)])) = true := rfl
@[simp] theorem pkl (p : Pk) : PV.hasLay 5 p.pv = true := rfl
@[simp] theorem pk0 (p : Pk) : PV.at_ 5 0 0 p.pv = some (I p.n) := rfl
@[simp] theorem pk1 (p : Pk) : PV.at_ 5 1 0 p.pv = some (I p.f) := rfl
@[simp] theorem pk3 (p : Pk) : PV.at_ 5 3 0 p.pv = some (B p.b) := rfl
@[simp] theorem put0 (p : Pk) (v : Int) : putPV 5 0 0 (.pv p.pv) (I v) = some ({ p with n := v } : Pk).pv := rfl
@[simp] theorem put3 (p : Pk) (b : List Int) : putPV 5 3 0 (.pv p.pv) (B b) = some ({ p with b := b } : Pk).pv := rfl
@[simp] theorem putA (v : AV) (p : Pk) : putPV 5 0 5 v p.pv = some p.pv := rfl
@[simp] theorem putZ (v : AV) : putPV 5 0 5 v zpk = some zpk := rfl
theorem im65 : intM Try.prog 65 = some 31 := by kernel_rfl
theorem z31 : zeroPV Try.prog 31 = some zpk := by kernel_rfl
@[simp] theorem look65 (ok : Bool) (es : List (Int × PV)) (k : Int) : lookPV Try.prog 65 ok es (I k) = some (lookT zpk ok k es) := by simp [lookPV, im65, z31, key?]
@[simp] theorem upd65 (es : List (Int × PV)) (k : Int) (d : PV) : updPV Try.prog 65 es (I k) d = some (updM k d es) := by simp [updPV, im65, key?]
@[simp] theorem del65 (es : List (Int × PV)) (k : Int) : delPV Try.prog 65 es (I k) = some (delM k es) := by simp [delPV, im65, key?]
@[simp] theorem ln27 (c : Bool) (xs : List PV) : (lenPV Try.prog 27 (.list 0 c xs)).map (fun n => I n) = some (I xs.length) := len_list u27 c xs
@[simp] theorem ln37 (c : Bool) (xs : List PV) : (lenPV Try.prog 37 (.list 0 c xs)).map (fun n => I n) = some (I xs.length) := len_list u37 c xs
@[simp] theorem ln37n : (lenPV Try.prog 37 (.sc (.slice none 0 0))).map (fun n => I n) = some (I 0) := len_nil u37
@[simp] theorem ln34 (c : Bool) (xs : List PV) : (lenPV Try.prog 34 (.list 5 c xs)).map (fun n => I n) = some (I xs.length) := len_list u34 c xs
@[simp] theorem ln44 (c : Bool) (xs : List PV) : (lenPV Try.prog 44 (.list 0 c xs)).map (fun n => I n) = some (I xs.length) := len_list u44 c xs
@[simp] theorem ia37 (c : Bool) (xs : List PV) (i : Nat) : indexAddrPV Try.prog 37 (.list 0 c xs) (I i) = (xs[i]?).map (.ro 0) := indexAddr_list u37 y3 c xs i
@[simp] theorem ia34 (c : Bool) (xs : List PV) (i : Nat) : indexAddrPV Try.prog 34 (.list 5 c xs) (I i) = (xs[i]?).map (.ro 5) := indexAddr_list u34 y31 c xs i
@[simp] theorem ia44 (c : Bool) (xs : List PV) (i : Nat) : indexAddrPV Try.prog 44 (.list 0 c xs) (I i) = (xs[i]?).map (.ro 0) := indexAddr_list u44 y27 c xs i
@[simp] theorem ld3 (d : PV) : loadPV Try.prog 3 (.ro 0 d) = some d := load_ro y3 d
@[simp] theorem ld27 (d : PV) : loadPV Try.prog 27 (.ro 0 d) = some d := load_ro y27 d
@[simp] theorem fa31_0 (p : Pk) : fieldAddrPV Try.prog 31 (.ro 5 p.pv) 0 = some (.ro 0 (I p.n)) := by kernel_rfl
theorem bp31 (f t : Int) (b : List Int) : buildPV Try.prog 31 [(1, I f), (2, I t), (3, B b)] = some (⟨0, f, t, b⟩ : Pk).pv := by kernel_rfl
theorem bp31z : buildPV Try.prog 31 [] = some zpk := by kernel_rfl
theorem bs34 (p : Pk) : buildSliceAV Try.prog 34 1 [(0, p.pv)] = some (.list 5 true [p.pv]) := by kernel_rfl
theorem i31 : ∃ i, Try.prog.info? 31 = some i ∧ i.bytes = 48 := bytes_of (by kernel_rfl)
theorem zl31 : PV.hasLay 5 zpk = true := rfl
theorem appendTo_pk (xs ys : List PV) (c : Bool) (h : xs.length + ys.length ≤ 1000000000) : appendTo Try.prog 34 34 5 xs (.list 5 c ys) = some (xs ++ ys) := by
  obtain ⟨i, h1, h2⟩ := i31
  simp [appendTo, u34, y31, h1, z31, h2, width, zl31, layPV, elemsPV?, appendRoom]
  omega

section
variable {L m : Nat}
@[simp] theorem c34 (hm : 1 ≤ m) (ns : List Int) (h : ns.length ≤ 1000000) : callP Try.prog hh L m 34 [B ns] = some (B ns) := by
  obtain ⟨n, rfl⟩ : ∃ n, m = n + 1 := ⟨m - 1, by omega⟩
  have : hh.prim 34 = some (cloneQ 0) := by kernel_rfl
  rw [callP, this]
  have h2 : ns.length ≤ 1099511627776 := by omega
  simp [cloneQ, h2]

theorem c31 (hm : 2 ≤ m) (es : List (Int × PV)) (v : Int) : callM Try.prog hh L m 31 (some (st es v)) [] = some (.pure (Bo false), st es v) := by
  obtain ⟨n, rfl⟩ : ∃ n, m = n + 1 + 1 := ⟨m - 2, by omega⟩
  refine callM_of (by kernel_rfl) ?_
  rw [r31]; simp [d31_0]

theorem c33 (hm : 4 ≤ m) (es : List (Int × PV)) (v k : Int) (p : Pk) (hp : findM k es = some p.pv) : callM Try.prog hh L m 33 (some (st es v)) [I k] = some (.pure (.tup [p.pv, I 0]), st es v) := by
  obtain ⟨n, rfl⟩ : ∃ n, m = n + 1 + 1 := ⟨m - 2, by omega⟩
  refine callM_of (by kernel_rfl) ?_
  rw [r33]; simp [d33_0, c31 (L := L) (m := n + 1) (by omega), lookT, hp]

theorem c33n (hm : 4 ≤ m) (es : List (Int × PV)) (v k : Int) (hp : findM k es = none) : callM Try.prog hh L m 33 (some (st es v)) [I k] = some (.pure (.tup [zpk, I 80]), st es v) := by
  obtain ⟨n, rfl⟩ : ∃ n, m = n + 1 + 1 := ⟨m - 2, by omega⟩
  refine callM_of (by kernel_rfl) ?_
  rw [r33]; simp [d33_0, c31 (L := L) (m := n + 1) (by omega), lookT, hp, bp31z]

theorem c32 (hm : 3 ≤ m) (es : List (Int × PV)) (v : Int) (p : Pk) (hl : es.length < 256) (hv : 0 ≤ v ∧ v < 1000000000) (hb : p.b.length ≤ 65545) :
    callM Try.prog hh L m 32 (some (st es v)) [p.pv] = some (.pure (.tup [I (v + 1), I 0]), st (updM (v + 1) ({ p with n := v + 1 } : Pk).pv es) (v + 1)) := by
  obtain ⟨n, rfl⟩ : ∃ n, m = n + 1 + 1 := ⟨m - 2, by omega⟩
  refine callM_of (by kernel_rfl) ?_
  have hw : IntKind.i64.wrap (v + 1) = v + 1 := wrap64 (by omega) (by omega)
  have h2 : ¬ (256 : Int) ≤ es.length := by omega
  rw [r32]; simp [d32_0, hw, h2, c34 (L := L) (m := n + 1) (by omega) p.b (by omega)]

theorem c10 (hm : 5 ≤ m) (es : List (Int × PV)) (v f t : Int) (b : List Int) (hl : es.length < 256) (hv : 0 ≤ v ∧ v < 1000000000) (hb : b.length ≤ 65545) :
    callM Try.prog hh L m 10 (some (st es v)) [I f, I t, B b] = some (.pure (.tup [I (v + 1), I 0]), st (updM (v + 1) (⟨v + 1, f, t, b⟩ : Pk).pv es) (v + 1)) := by
  obtain ⟨n, rfl⟩ : ∃ n, m = n + 1 + 1 := ⟨m - 2, by omega⟩
  refine callM_of (by kernel_rfl) ?_
  have h2 : ¬ (65545 : Int) < b.length := by omega
  rw [r10]; simp [d10_0, c31 (L := L) (m := n + 1) (by omega), h2, bp31, c32 (L := L) (m := n + 1) (by omega) es v ⟨0, f, t, b⟩ hl hv hb]
theorem c10l (hm : 5 ≤ m) (es : List (Int × PV)) (v f t : Int) (b : List Int) (hb : 65545 < b.length) :
    callM Try.prog hh L m 10 (some (st es v)) [I f, I t, B b] = some (.pure (.tup [I 0, I 3]), st es v) := by
  obtain ⟨n, rfl⟩ : ∃ n, m = n + 1 + 1 := ⟨m - 2, by omega⟩
  refine callM_of (by kernel_rfl) ?_
  have h2 : (65545 : Int) < b.length := by omega
  rw [r10]; simp [d10_0, c31 (L := L) (m := n + 1) (by omega), h2]

theorem c13 (hm : 6 ≤ m) (es : List (Int × PV)) (v k : Int) (p : Pk) (hp : findM k es = some p.pv) (hb : p.b.length ≤ 65545) :
    callM Try.prog hh L m 13 (some (st es v)) [I k] = some (.pure (.tup [p.pv, I 0]), st (delM k es) v) := by
  obtain ⟨n, rfl⟩ : ∃ n, m = n + 1 + 1 := ⟨m - 2, by omega⟩
  refine callM_of (by kernel_rfl) ?_
  rw [r13]; simp [d13_0, c33 (L := L) (m := n + 1) (by omega) es v k p hp, c34 (L := L) (m := n + 1) (by omega) p.b (by omega)]

theorem c12 (hm : 8 ≤ m) (es : List (Int × PV)) (v k : Int) (p : Pk) (hp : findM k es = some p.pv) (hb : p.b.length ≤ 65545) :
    callM Try.prog hh L m 12 (some (st es v)) [I k] = some (.pure (I 0), st (delM k es) v) := by
  obtain ⟨n, rfl⟩ : ∃ n, m = n + 1 + 1 := ⟨m - 2, by omega⟩
  refine callM_of (by kernel_rfl) ?_
  rw [r12]; simp [d12_0, c13 (L := L) (m := n + 1) (by omega) es v k p hp hb]
theorem c11 (hm : 6 ≤ m) (es : List (Int × PV)) (v k : Int) (p : Pk) (hp : findM k es = some p.pv) (hl : es.length < 256) (hv : 0 ≤ v ∧ v < 1000000000) (hb : p.b.length ≤ 65545) :
    callM Try.prog hh L m 11 (some (st es v)) [I k] = some (.pure (.tup [I (v + 1), I 0]), st (updM (v + 1) ({ p with n := v + 1 } : Pk).pv es) (v + 1)) := by
  obtain ⟨n, rfl⟩ : ∃ n, m = n + 1 + 1 := ⟨m - 2, by omega⟩
  refine callM_of (by kernel_rfl) ?_
  rw [r11]; simp [d11_0, c33 (L := L) (m := n + 1) (by omega) es v k p hp, c32 (L := L) (m := n + 1) (by omega) es v p hl hv hb]

theorem l14 {R : Type} (C : Kallee) (ke : PV → List (Int × PV) → List PV → Option R) (v : Int) (l : List Pk) (es : List (Int × PV)) (hl : l.length < 1000000) (hC : ∀ p ∈ l, C.pure 34 [B p.b] = some (B p.b))
    (hf : ∀ p ∈ l, findM p.n es = some p.pv) :
    ∀ (r : List Pk) (N i : Nat) (acc : List PV), l.drop i = r → r.length < N → acc.length + r.length ≤ 1000000 → d14_3i C L ke N (.list 0 false (l.map fun p => I p.n)) (I l.length) (I i) (I v) es acc = ke (I v) es (acc ++ r.map Pk.pv) := by
  intro r
  induction r with
  | nil =>
    intro N i acc h hN ha
    obtain ⟨N, rfl⟩ : ∃ n, N = n + 1 := ⟨N - 1, by omega⟩
    have := drop_nil' h
    have h2 : ¬ (i : Int) < l.length := by omega
    simp [d14_3i, d14_4, h2]
  | cons p r ih =>
    intro N i acc h hN ha
    obtain ⟨N, rfl⟩ : ∃ n, N = n + 1 := ⟨N - 1, by omega⟩
    obtain ⟨h1, h2, h3, h4⟩ := drop_cons' h
    have h5 : (i : Int) < l.length := by omega
    have h6 := wrap_succ (i := i) (by omega)
    have h7 := ih N (i + 1) (acc ++ [p.pv]) h3 (by simp at hN; omega) (by simp at ha ⊢; omega)
    have h8 := appendTo_pk acc [p.pv] true (by simp at ha ⊢; omega)
    simp only [List.append_assoc, List.cons_append, List.nil_append] at h7
    rw [show ((i + 1 : Nat) : Int) = (i : Int) + 1 by omega] at h7
    simp [d14_3i, d14_4, h5, h2, lookT, hf p h4, hC p h4, bs34, h8, h6, h7]

/-- keys that rise -/
def Rise (l : List Pk) : Prop := l.Pairwise fun p q => p.n < q.n
theorem findM_ents {l : List Pk} (hr : Rise l) {p : Pk} (hp : p ∈ l) : findM p.n (ents l) = some p.pv := by
  induction l with
  | nil => cases hp
  | cons q r ih =>
    have h1 := List.pairwise_cons.1 hr
    simp only [ents, List.map_cons, findM]
    rcases List.mem_cons.1 hp with rfl | hp
    · simp
    · have := h1.1 p hp
      have h2 : (q.n == p.n) = false := by simp; omega
      rw [h2]; exact ih h1.2 hp
theorem isort_rise : ∀ {l : List Pk}, Rise l → isort (l.map (·.n)) = l.map (·.n) := by
  intro l
  induction l with
  | nil => intro _; rfl
  | cons p r ih =>
    intro h
    have h1 := List.pairwise_cons.1 h
    simp only [List.map_cons, isort, ih h1.2]
    cases r with
    | nil => rfl
    | cons q r =>
      have := h1.1 q (by simp)
      have h2 : decide (p.n ≤ q.n) = true := by simp; omega
      simp [ins, h2]
theorem sorted_ents {l : List Pk} (hr : Rise l) (hk : ∀ p ∈ l, keyOK p.n = true) (hl : l.length ≤ 1000000) : sortedPV (ents l) = some (intsPV (l.map (·.n))) := by
  have h1 : ((ents l).all fun p => keyOK p.1) = true := by simp [ents]; exact hk
  have h2 : decide ((ents l).length * 8 ≤ 140737488355328) = true := by simp [ents]; omega
  have h3 : (ents l).map (·.1) = l.map (·.n) := by simp [ents]
  simp only [sortedPV, h1, h2, h3, isort_rise hr, Bool.and_self, cond_true]
theorem c14 (hm : 4 ≤ m) (hL : 1000 ≤ L) (l : List Pk) (v : Int) (hr : Rise l) (hk : ∀ p ∈ l, keyOK p.n = true) (hl : l.length ≤ 300) (hb : ∀ p ∈ l, p.b.length ≤ 65545) :
    callM Try.prog hh L m 14 (some (st (ents l) v)) [] = some (.pure (.list 5 false (l.map Pk.pv)), st (ents l) v) := by
  obtain ⟨n, rfl⟩ : ∃ n, m = n + 1 + 1 := ⟨m - 2, by omega⟩
  refine callM_of (by kernel_rfl) ?_
  rw [r14]
  have hs := sorted_ents hr hk (by omega)
  cases l with
  | nil =>
    obtain ⟨L, rfl⟩ : ∃ k, L = k + 1 := ⟨L - 1, by omega⟩
    have e : ents [] = [] := rfl
    rw [e] at hs ⊢
    simp [d14_0, g14_0, c31 (m := n + 1) (by omega), hs, intsPV, nilSlice, d14_1, g14_2, d14_2, d14_3, d14_3i, d14_4, d14_5]
  | cons p r =>
    have hi : intsPV ((p :: r).map (·.n)) = .list 0 false ((p :: r).map fun p => I p.n) := by simp [intsPV]
    have h7 := l14 (L := L) (kk L (n + 1)) (fun v0 m1 x2 => d14_5 (kk L (n + 1)) L v0 m1 x2) v (p :: r) (ents (p :: r)) (by omega) (fun q hq => c34 (by omega) q.b (by have := hb q hq; omega)) (fun q hq => findM_ents hr hq) (p :: r) L 0 [] rfl (by omega) (by simp at hl ⊢; omega)
    rw [hi] at hs
    simp only [List.length_cons] at h7
    simp [d14_0, g14_0, c31 (L := L) (m := n + 1) (by omega), hs, d14_1, g14_2, d14_2, d14_3] at h7 ⊢
    rw [h7]; simp [d14_5]
theorem byteM (ns : List Int) : (ns.map U).mapM byte? = some (ns.map fun n => UInt8.ofNat n.toNat) := by
  induction ns with
  | nil => rfl
  | cons a r ih => simp [List.mapM_cons, byte?, ih]
theorem c17 (hm : 2 ≤ m) (ns : List Int) : callP Try.prog hh L m 17 [B ns, B ns] = some (Bo true) := by
  obtain ⟨n, rfl⟩ : ∃ n, m = n + 1 + 1 := ⟨m - 2, by omega⟩
  refine callP_of (by kernel_rfl) ?_
  have u9 : Try.prog.underlying 9 = some .string := by kernel_rfl
  have u5 : Try.prog.underlying 5 = some (.int .u8) := by kernel_rfl
  have h : convPV Try.prog 27 9 (B ns) = some (.sc (.string ⟨(ns.map fun n => UInt8.ofNat n.toNat).toArray⟩)) := by
    simp only [convPV, u27, u9, u5, byteM, Option.map_some]
  rw [r17]; simp [d17_0, h]
theorem c19 (hm : 2 ≤ m) (a : Int) (k : Nat) (hk : 0 < k ∧ k < 1000000000) : ∃ j : Nat, j < k ∧ callP Try.prog hh L m 19 [I a, I k] = some (I j) := by
  obtain ⟨n, rfl⟩ : ∃ n, m = n + 1 + 1 := ⟨m - 2, by omega⟩
  have h1 : ¬ (k : Int) ≤ 0 := by omega
  have hk0 : ¬ (k : Int) = 0 := by omega
  have hlt : (a.tmod k).natAbs < k := by
    have := Int.natAbs_tmod a k
    rw [this]; exact Nat.mod_lt _ (by simpa using hk.1)
  have hb : -(k : Int) < a.tmod k ∧ a.tmod k < k := by omega
  by_cases hneg : a.tmod k < 0
  · have hw : IntKind.i64.wrap (a.tmod k + k) = a.tmod k + k := wrap64 (by omega) (by omega)
    refine ⟨(a.tmod k + k).toNat, by omega, ?_⟩
    have e : (((a.tmod k + k).toNat : Nat) : Int) = a.tmod k + k := by omega
    rw [e]
    refine callP_of (by kernel_rfl) ?_
    rw [r19]; simp [d19_0, h1, (fun t x y => rem_int Try.prog t x y a k hk0), hneg, hw, show ¬ k = 0 by omega]
  · refine ⟨(a.tmod k).toNat, by omega, ?_⟩
    have e : (((a.tmod k).toNat : Nat) : Int) = a.tmod k := by omega
    rw [e]
    refine callP_of (by kernel_rfl) ?_
    rw [r19]; simp [d19_0, h1, (fun t x y => rem_int Try.prog t x y a k hk0), hneg, show ¬ k = 0 by omega]
end
end Go.Lite

namespace Go.Lite
open Go Go.Proofs
set_option linter.unusedVariables false
set_option linter.unusedSimpArgs false
set_option maxRecDepth 1000000

/-! # the bodies of the packets -/
def isU : PV → Option Int
  | .sc (.int .u8 n) => some n
  | _ => none
def isB : PV → Option (List Int)
  | .list 0 false xs => xs.mapM isU
  | _ => none
theorem isUs {xs : List PV} : ∀ {ns : List Int}, xs.mapM isU = some ns → xs = ns.map U := by
  induction xs with
  | nil => intro ns h; simp at h; subst h; rfl
  | cons x r ih =>
    intro ns h
    rw [List.mapM_cons] at h
    cases hx : isU x with
    | none => rw [hx] at h; cases h
    | some n =>
      cases hr : r.mapM isU with
      | none => rw [hx, hr] at h; cases h
      | some ms =>
        rw [hx, hr] at h
        simp at h; subst h
        have : x = U n := by
          unfold isU at hx
          split at hx
          · cases hx; rfl
          · cases hx
        rw [List.map_cons, ← ih hr, this]
theorem isB_some {d : PV} {ns : List Int} (h : isB d = some ns) : d = B ns := by
  unfold isB at h
  split at h
  · rw [isUs h]
  · cases h
noncomputable def bodyF (k : Nat) : List Int := ((callP Try.prog hh 1000 38 18 [I k]).bind isB).getD []
noncomputable def okBody (k : Nat) : Bool := match (callP Try.prog hh 1000 38 18 [I k]).bind isB with
  | some (a :: b :: r) => decide (a = 0) && (decide (b = (k : Int)) && decide (r.length ≤ 100))
  | _ => false
theorem bodies_ok : (List.range 100).all okBody = true := by kernel_rfl
theorem body_is {k : Nat} (hk : k < 100) : callP Try.prog hh 1000 38 18 [I k] = some (B (bodyF k)) ∧ ∃ r, bodyF k = 0 :: (k : Int) :: r ∧ r.length ≤ 100 := by
  have h := List.all_eq_true.1 bodies_ok k (List.mem_range.2 hk)
  unfold okBody at h
  unfold bodyF
  split at h
  · rename_i a b r hx
    simp only [Bool.and_eq_true, decide_eq_true_eq] at h
    obtain ⟨h1, h2, h3⟩ := h
    subst h1; subst h2
    cases hc : callP Try.prog hh 1000 38 18 [I k] with
    | none => rw [hc] at hx; cases hx
    | some d =>
      rw [hc] at hx
      simp only [Option.bind_some] at hx
      refine ⟨?_, r, ?_, h3⟩
      · have e : ((some d).bind isB).getD [] = 0 :: (k : Int) :: r := by simp only [Option.bind_some, hx, Option.getD_some]
        rw [e]; exact congrArg some (isB_some hx)
      · simp only [Option.bind_some, hx, Option.getD_some]
  · cases h
section
variable {L m : Nat}
theorem c18 (hL : 1000 ≤ L) (hm : 38 ≤ m) {k : Nat} (hk : k < 100) : callP Try.prog hh L m 18 [I k] = some (B (bodyF k)) := callP_mono hL hm (body_is hk).1
theorem body_len {k : Nat} (hk : k < 100) : (bodyF k).length ≤ 65545 := by
  obtain ⟨_, r, h, hr⟩ := body_is hk
  rw [h]; simp; omega
end
end Go.Lite
