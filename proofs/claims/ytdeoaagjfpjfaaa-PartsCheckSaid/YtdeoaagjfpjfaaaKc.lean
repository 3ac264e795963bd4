import Derived.Test.YtdeoaagjfpjfaaaKb
set_option linter.unusedVariables false
set_option linter.unusedSimpArgs false

namespace Go.Lite.Pq
open Go Go.Proofs Go.Lite Go.Lite.Pp
set_option linter.unusedVariables false
set_option linter.unusedSimpArgs false
set_option maxRecDepth 100000
/-! # copies, and what is the same -/
theorem inf58 : (Try.prog.info? 47).map (·.bytes) = some 64 := by kernel_rfl
theorem zero58 : zeroPV Try.prog 47 = some (.agg [Sr ⟨#[]⟩, U 0, I 0, I 0, .sc (.slice none 0 0)]) := by kernel_rfl
theorem inf45 : (Try.prog.info? 89).map (·.bytes) = some 40 := by kernel_rfl
theorem zero45 : zeroPV Try.prog 89 = some (Acc.pv ⟨⟨#[]⟩, ⟨#[]⟩, 0⟩) := by kernel_rfl
theorem inf84 : (Try.prog.info? 107).map (·.bytes) = some 40 := by kernel_rfl
theorem zero84 : zeroPV Try.prog 107 = some (Qs.pv ⟨⟨#[]⟩, 0, 0, 0⟩) := by kernel_rfl
theorem app23 (xs ys : List PV) (c : Bool) (h : (xs.length + ys.length) * 64 ≤ appendRoom) : appendTo Try.prog 23 23 6 xs (.list 6 c ys) = some (xs ++ ys) := by
  have := inf58
  cases hi : Try.prog.info? 47 with
  | none => rw [hi] at this; simp at this
  | some i =>
    rw [hi] at this
    simp only [Option.map_some, Option.some.injEq] at this
    have hz : PV.hasLay 6 (.agg [Sr ⟨#[]⟩, U 0, I 0, I 0, .sc (.slice none 0 0)]) = true := rfl
    simp [appendTo, u23, y58, hi, zero58, this, hz, width, layPV, elemsPV?, h]
theorem app24 (xs ys : List PV) (c : Bool) (h : (xs.length + ys.length) * 40 ≤ appendRoom) : appendTo Try.prog 24 24 4 xs (.list 4 c ys) = some (xs ++ ys) := by
  have := inf45
  cases hi : Try.prog.info? 89 with
  | none => rw [hi] at this; simp at this
  | some i =>
    rw [hi] at this
    simp only [Option.map_some, Option.some.injEq] at this
    simp [appendTo, u24, y45, hi, zero45, this, width, layPV, elemsPV?, h]
theorem app25 (xs ys : List PV) (c : Bool) (h : (xs.length + ys.length) * 40 ≤ appendRoom) : appendTo Try.prog 25 25 5 xs (.list 5 c ys) = some (xs ++ ys) := by
  have := inf84
  cases hi : Try.prog.info? 107 with
  | none => rw [hi] at this; simp at this
  | some i =>
    rw [hi] at this
    simp only [Option.map_some, Option.some.injEq] at this
    simp [appendTo, u25, y84, hi, zero84, this, width, layPV, elemsPV?, h]
theorem bs23 (a : Pt) : buildSliceAV Try.prog 23 1 [(0, a.pv)] = some (.list 6 true [a.pv]) := by
  have hz : PV.hasLay 6 (.agg [Sr ⟨#[]⟩, U 0, I 0, I 0, .sc (.slice none 0 0)]) = true := rfl
  simp [buildSliceAV, u23, y58, zero58, hz, width, setAll]
theorem bs24 (a : Acc) : buildSliceAV Try.prog 24 1 [(0, a.pv)] = some (.list 4 true [a.pv]) := by
  simp [buildSliceAV, u24, y45, zero45, width, setAll]
theorem bs25 (a : Qs) : buildSliceAV Try.prog 25 1 [(0, a.pv)] = some (.list 5 true [a.pv]) := by
  simp [buildSliceAV, u25, y84, zero84, width, setAll]

/-! values of structs, compared -/
theorem pr_bind {α β : Type} (Q : Program) (x : Sem α) (f : α → Sem β) : pureRun Q (x >>= f) = (pureRun Q x).bind fun a => pureRun Q (f a) := by
  show pureRun Q (Sem.bind x f) = _
  induction x <;> simp [Sem.bind, pureRun, *]
theorem pr_underlying {Q : Program} {t : TypeId} {d : TypeDesc} (h : Q.underlying t = some d) : pureRun Q (underlying t) = some d := by
  have : underlying t = Sem.program fun P => (match P.underlying t with | some d => pure d | none => stuck "no such type") := rfl
  rw [this, pureRun, h]; rfl
def eqF (Q : Program) (d : Nat) (xs ys : Array Value) : List Field → Option Bool
  | [] => some true
  | f :: fs =>
    if f.name ≠ "_" then (pureRun Q (part f.type xs f.offset)).bind fun a => (pureRun Q (part f.type ys f.offset)).bind fun b => (pureRun Q (Op.equalIn d f.type a b)).bind fun r => if (!r) = true then some false else eqF Q d xs ys fs
    else eqF Q d xs ys fs
theorem pr_struct {Q : Program} (d : Nat) (t : TypeId) (xs ys : Array Value) (ht : Q.underlying t = some (.struct (Q.fieldsOf t))) (hp : Q.stoodInHeld t = false) :
    pureRun Q (Op.equalIn (d + 1) t (.agg xs) (.agg ys)) = eqF Q d xs ys (Q.fieldsOf t).toList := by
  have hprog : ∀ (β : Type) (k : Program → Sem β), pureRun Q (program >>= k) = pureRun Q (k Q) := fun β k => rfl
  simp only [Op.equalIn, pr_bind, pr_underlying ht, Option.bind_some]
  rw [show pureRun Q program = some Q from rfl]
  simp only [Option.bind_some, hp, Bool.false_eq_true, if_false, pr_bind]
  rw [← Array.forIn_toList]
  generalize (Q.fieldsOf t).toList = fs
  clear ht
  induction fs with
  | nil => simp [eqF, pureRun]; rfl
  | cons f fs ih =>
    simp only [List.forIn_cons, eqF, pr_bind]
    split
    · simp only [pr_bind]
      cases pureRun Q (part f.type xs f.offset) with
      | none => rfl
      | some a =>
        simp only [Option.bind_some]
        cases pureRun Q (part f.type ys f.offset) with
        | none => rfl
        | some b =>
          simp only [Option.bind_some]
          cases pureRun Q (Op.equalIn d f.type a b) with
          | none => rfl
          | some r =>
            cases r
            · rfl
            · simp only [Option.bind_some, Bool.not_true, Bool.false_eq_true, if_false]
              exact ih
    · exact ih
theorem pr_str {Q : Program} (d : Nat) (t : TypeId) (a : ByteArray) (h : Q.underlying t = some .string) : pureRun Q (Op.equalIn (d + 1) t (.string a) (.string a)) = some true := by
  simp only [Op.equalIn, pr_bind, pr_underlying h, Option.bind_some]
  show some (a == a) = some true
  rw [beq_toListBytes]; simp
theorem pr_int {Q : Program} (d : Nat) (t : TypeId) (k : IntKind) (a : Int) (h : Q.underlying t = some (.int k)) : pureRun Q (Op.equalIn (d + 1) t (.int k a) (.int k a)) = some true := by
  simp [Op.equalIn, pr_bind, pr_underlying h, pureRun]
  rfl
theorem u3 : Try.prog.underlying 3 = some (.int .i64) := by kernel_rfl
section
variable {L m : Nat}

structure OkP (L : Nat) (a : Pt) : Prop where
  len : a.accs.length ≤ 9223372036854775807
  lenL : a.accs.length < L
  room : a.accs.length * 16 ≤ appendRoom
  name : a.name.size + 1 < L
  nameB : a.name.size ≤ 9223372036854775807
  nodes : a.nodes < 2 ^ 32
theorem putp (a : Pt) : putPV 6 4 0 (.pv a.pv) (strs false a.accs) = some a.pv := rfl
structure OkC (L : Nat) (c : Cfg) : Prop where
  cores : c.cores.length ≤ 60
  parts : c.parts.length ≤ 60
  qosl : c.qos.length ≤ 60
  acc : OkA L c.accounts
  accl : c.accounts.length ≤ 60
  part : ∀ a ∈ c.parts, OkP L a
  qos : ∀ a ∈ c.qos, a.name.size + 1 < L
  qosB : ∀ a ∈ c.qos, a.name.size ≤ 9223372036854775807
theorem bld28 (c : Cfg) : buildPV Try.prog 28 [(0, intz false c.cores), (1, pts c.parts), (2, accs c.accounts), (3, qss c.qos), (4, W8 c.policy)] = some c.pv := by kernel_rfl
theorem put28 (c : Cfg) (v : AV) : putPV 6 0 6 v c.pv = some c.pv := by simp [putPV]
end
def lfrom (acc : List Acc) (l : List ByteArray) : Nat → List ByteArray → Bool
  | _, [] => true
  | i, s :: r => (afind acc s).isSome && !((l.take i).any fun a => decide (s = a)) && lfrom acc l (i + 1) r
def lst (acc : List Acc) (l : List ByteArray) : Bool := lfrom acc l 0 l && decide (l.length ≤ 8)
def qbad (l : List Qs) (i : Nat) (q : Qs) : Bool := !nm q.name || decide (0 ≤ qix (l.take i) q.name) || decide (q.prio < 0) || decide (1000 < q.prio) || offL q.limit || offL q.jobs
def qfrom (l : List Qs) : Nat → List Qs → Bool
  | _, [] => true
  | i, q :: r => !qbad l i q && qfrom l (i + 1) r
def qright (c : Cfg) : Bool := qfrom c.qos 0 c.qos && decide (1 ≤ c.qos.length) && decide (c.qos.length ≤ 8) && aright c.accounts
def pwrong (c : Cfg) (all : Nat) (i : Nat) (p : Pt) : Bool := (pfind (c.parts.take i) p.name).isSome || !nm p.name || decide (p.nodes = 0) || !within p.nodes all || !lst c.accounts p.accs
def pbad (c : Cfg) (all : Nat) (i : Nat) (p : Pt) : Bool := pwrong c all i p || decide (p.prio < 0) || decide (1000 < p.prio) || decide (p.max < 1) || decide (1048576 < p.max)
def pfrom (c : Cfg) (all : Nat) : Nat → List Pt → Bool
  | _, [] => true
  | i, p :: r => !pbad c all i p && pfrom c all (i + 1) r
def nodesOf (c : Cfg) : List Nd := c.cores.map mkN
def allOf (c : Cfg) : Nat := Pp.bits (qup (nodesOf c)) (nodesOf c).length
def cright (c : Cfg) : Bool := nright (nodesOf c) && qright c && decide (1 ≤ c.policy) && decide (c.policy ≤ 3) && decide (1 ≤ c.parts.length) && decide (c.parts.length ≤ 8) && pfrom c (allOf c) 0 c.parts

section
variable {L m : Nat}
theorem l32 {R : Type} (n : Nat) (hn : 5 ≤ n) (kr : PV → Option R) (ke : PV → Option R) (acc : List Acc) (ha : OkA L acc) (l : List ByteArray) (hl : l.length ≤ 9223372036854775807) (hlL : l.length < L) :
    ∀ (r : List ByteArray) (N i : Nat), l.drop i = r → r.length < N → d32_1i (kk L n) L kr ke N (accs acc) (strs false l) (strs false l) (I l.length) (I i) = if lfrom acc l i r then ke (strs false l) else kr (Bo false) := by
  intro r
  induction r with
  | nil =>
    intro N i h hN
    obtain ⟨N, rfl⟩ : ∃ n, N = n + 1 := ⟨N - 1, by omega⟩
    have := drop_nil' h
    have h2 : ¬ (i : Int) < l.length := by omega
    simp [d32_1i, d32_2, h2, lfrom]
  | cons s r ih =>
    intro N i h hN
    obtain ⟨N, rfl⟩ : ∃ n, N = n + 1 := ⟨N - 1, by omega⟩
    obtain ⟨h1, h2, h3, h4⟩ := drop_cons' h
    have h5 : (i : Int) < l.length := by omega
    simp only [List.length_cons] at hN
    have := ih N (i + 1) h3 (by omega)
    have ht : (l.take i).length ≤ 9223372036854775807 := by simp; omega
    have htL : (l.take i).length < L := by simp; omega
    simp only [d32_1i, d32_2, lss_int, ob_some, cb_bool, decide_eq_true_eq, h5, if_true, ia32, List.getElem?_map, h2, Option.map_some, ld9, callD_clo, List.nil_append, List.append_nil, c40 (show 5 ≤ n by omega) acc s ha.len ha.lenL, extract_tup, List.getElem?_cons_zero, List.getElem?_cons_succ,
      not_bool, gcase_f, slice32 l i (by omega), c51 (L := L) (show 3 ≤ n by omega) s false (l.take i) ht htL, add_int, wrap_succ (show i < 9223372036854775807 by omega), this, lfrom]
    by_cases q1 : (afind acc s).isSome = true <;> by_cases q2 : ((l.take i).any fun a => decide (s = a)) = true <;> simp only [q1, q2, Bool.not_true, Bool.not_false, Bool.and_true, Bool.and_false, Bool.true_and, Bool.false_and, if_true, if_false, Bool.false_eq_true]
theorem c32 (hm : 6 ≤ m) (acc : List Acc) (ha : OkA L acc) (l : List ByteArray) (hl : l.length ≤ 9223372036854775807) (hlL : l.length < L) : callP Try.prog hh L m 32 [accs acc, strs false l] = some (Bo (lst acc l)) := by
  obtain ⟨n, rfl⟩ : ∃ n, m = n + 1 := ⟨m - 1, by omega⟩
  refine callP_of' (by omega) (by kernel_rfl) ?_
  rw [r32]
  have := l32 (L := L) n (by omega) (fun v => some v) (fun v => d32_3 (kk L n) L v) acc ha l hl hlL l L 0 rfl hlL
  simp only [d32_0, g32_0, ln32, ob_some, d32_1, List.length_map]
  rw [show (PV.sc (Value.int IntKind.i64 0)) = I ((0 : Nat) : Int) from rfl, this]
  have e2 : (l.length : Int) ≤ 8 ↔ l.length ≤ 8 := by omega
  simp only [d32_3, ln32, ob_some, leq_int, List.length_map, lst, e2]
  by_cases q : lfrom acc l 0 l = true <;> simp [q]
/-! quotas -/
theorem bs22b (a b : Int) : buildSliceAV Try.prog 22 2 [(0, I a), (1, I b)] = some (.list 0 true [I a, I b]) := by
  simp [buildSliceAV, u22, y3, zero3, width, PV.hasLay, PV.isCell, setAll, List.replicate]
theorem l33 {R : Type} (n : Nat) (hn : 7 ≤ n) (hL : 100 < L) (kr : PV → PV → Option R) (ke : PV → Option R) (c : Cfg) (hc : OkC L c) :
    ∀ (r : List Qs) (N i : Nat), c.qos.drop i = r → r.length < N → d33_1i (kk L n) L kr ke N (qss c.qos) (I c.qos.length) (I i) c.pv = if qfrom c.qos i r then ke c.pv else kr (Bo false) c.pv := by
  intro r
  induction r with
  | nil =>
    intro N i h hN
    obtain ⟨N, rfl⟩ : ∃ n, N = n + 1 := ⟨N - 1, by omega⟩
    have := drop_nil' h
    have h2 : ¬ (i : Int) < c.qos.length := by omega
    simp [d33_1i, d33_2, h2, qfrom]
  | cons q r ih =>
    intro N i h hN
    obtain ⟨N, rfl⟩ : ∃ n, N = n + 1 := ⟨N - 1, by omega⟩
    obtain ⟨h1, h2, h3, h4⟩ := drop_cons' h
    have h5 : (i : Int) < c.qos.length := by omega
    simp only [List.length_cons] at hN
    have := ih N (i + 1) h3 (by omega)
    have hq := hc.qosl
    have ht : (c.qos.take i).length ≤ 9223372036854775807 := by simp; omega
    have htL : (c.qos.take i).length < L := by simp; omega
    simp only [d33_1i, d33_2, lss_int, gtr_int, geq_int, ob_some, cb_bool, decide_eq_true_eq, h5, if_true, ia25, List.getElem?_map, h2, Option.map_some, ld84, put5, qs0, qs1, qs2, qs3, cf3, callD_clo, List.nil_append, List.append_nil, c30 (show 6 ≤ n by omega) q.name (hc.qos q h4), not_bool, gcase_f, slice25 c.qos i (by omega),
      c66 (L := L) (show 4 ≤ n by omega) (c.qos.take i) q.name ht htL, bs22b, c67 (L := L) (show 5 ≤ n by omega) (by omega) q.limit q.jobs, add_int, wrap_succ (show i < 9223372036854775807 by omega), this, qfrom, qbad]
    by_cases q1 : nm q.name = true <;> by_cases q2 : 0 ≤ qix (c.qos.take i) q.name <;> by_cases q3 : q.prio < 0 <;> by_cases q4 : 1000 < q.prio <;> by_cases q5 : offL q.limit = true <;> by_cases q6 : offL q.jobs = true <;>
      simp only [q1, q2, q3, q4, q5, q6, Bool.not_true, Bool.not_false, decide_true, decide_false, Bool.or_true, Bool.or_false, Bool.true_or, Bool.false_or, Bool.and_true, Bool.and_false, Bool.true_and, Bool.false_and, if_true, if_false, Bool.false_eq_true]
theorem c33 (hm : 9 ≤ m) (hL : 100 < L) (c : Cfg) (hc : OkC L c) : callP Try.prog hh L m 33 [c.pv] = some (Bo (qright c)) := by
  obtain ⟨n, rfl⟩ : ∃ n, m = n + 1 := ⟨m - 1, by omega⟩
  refine callP_of' (by omega) (by kernel_rfl) ?_
  rw [r33]
  have hq := hc.qosl
  have := l33 (L := L) n (by omega) hL (fun v w => some v) (fun v => d33_3 (kk L n) L v) c hc c.qos L 0 rfl (by omega)
  simp only [d33_0, g33_0, cfl, ck_true, cf3, ln25, ob_some, d33_1, List.length_map]
  rw [show (PV.sc (Value.int IntKind.i64 0)) = I ((0 : Nat) : Int) from rfl, this]
  have e1 : (1 : Int) ≤ c.qos.length ↔ 1 ≤ c.qos.length := by omega
  have e2 : (c.qos.length : Int) ≤ 8 ↔ c.qos.length ≤ 8 := by omega
  simp only [d33_3, cf3, cf2, ln25, ob_some, geq_int, leq_int, gcase_t, List.length_map, qright, e1, e2, callD_clo, List.nil_append, List.append_nil, c17 (show 8 ≤ n by omega) c.accounts hc.acc]
  by_cases q : qfrom c.qos 0 c.qos = true <;> by_cases q1 : 1 ≤ c.qos.length <;> by_cases q2 : c.qos.length ≤ 8 <;> simp [q, q1, q2]
def qos3 (c : Cfg) (s : ByteArray) : PV := if qright c then (if qix c.qos s < 0 then .tup [I 0, I 0, I 141] else .tup [I 0, I 0, I 0]) else .tup [I 0, I 0, I 2]
theorem c75n (hm : 2 ≤ m) (hL : 100 < L) (clo : PV) : callP Try.prog hh L m 39 [.sc (.slice none 0 0), clo] = some (.tup [I 0, I 0]) := by
  obtain ⟨n, rfl⟩ : ∃ n, m = n + 1 := ⟨m - 1, by omega⟩
  refine callP_of' (by omega) (by kernel_rfl) ?_
  rw [r39]
  obtain ⟨N, rfl⟩ : ∃ q, L = q + 1 := ⟨L - 1, by omega⟩
  simp only [d39_0, g39_0, ln100n, ob_some, d39_1, d39_1i, d39_2, g39_2, lss_int, cb_bool]
  simp [d39_5]
theorem c41 (hm : 10 ≤ m) (hL : 100 < L) (c : Cfg) (hc : OkC L c) (s : ByteArray) : callP Try.prog hh L m 13 [c.pv, .sc (.slice none 0 0), Sr s] = some (qos3 c s) := by
  obtain ⟨n, rfl⟩ : ∃ n, m = n + 1 := ⟨m - 1, by omega⟩
  refine callP_of' (by omega) (by kernel_rfl) ?_
  rw [r13]
  have hq := hc.qosl
  have hk : PV.hasLay 0 (Sr s) = true := rfl
  have h75 : callD (callP Try.prog hh L n) (.clo 39 [] []) [.sc (.slice none 0 0), .clo 40 [] [.ro 0 (Sr s)]] 1 = _ := callD_t (c75n (L := L) (m := n) (by omega) hL (.clo 40 [] [.ro 0 (Sr s)])) rfl
  simp only [d13_0, cfl, hk, ck_true, callD_clo, List.nil_append, List.append_nil, c33 (L := L) (show 9 ≤ n by omega) hL c hc, ob_some, not_bool, cb_bool, cf3, c66 (L := L) (show 4 ≤ n by omega) c.qos s (by omega) (by omega), lss_int, h75, extract_tup, List.getElem?_cons_zero, List.getElem?_cons_succ, qos3]
  by_cases q : qright c = true <;> by_cases q1 : qix c.qos s < 0 <;> simp [q, q1]
end
section
variable {L m : Nat}
theorem ro6 (c : Cfg) : PV.hasLay 6 c.pv = true := rfl
theorem nup_len (c : Cfg) (h : nright (nodesOf c) = true) : (nodesOf c).length ≤ 32 := by
  simp only [nright, Bool.and_eq_true, decide_eq_true_eq] at h
  exact h.1.2
theorem allOf_lt (c : Cfg) (h : nright (nodesOf c) = true) : allOf c < 2 ^ 32 :=
  Nat.lt_of_lt_of_le (bits_lt _ _) (Nat.pow_le_pow_right (by decide) (nup_len c h))
theorem c29 (hm : 7 ≤ m) (hL : 100 < L) (c : Cfg) (hc : OkC L c) (all : Nat) (hall : all < 2 ^ 32) (i : Nat) (hi : i ≤ c.parts.length) (p : Pt) (hp : OkP L p) :
    callP Try.prog hh L m 30 [I i, p.pv, .ro 6 c.pv, .ro 0 (U all)] = some (Bo (pwrong c all i p)) := by
  obtain ⟨n, rfl⟩ : ∃ n, m = n + 1 := ⟨m - 1, by omega⟩
  refine callP_of' (by omega) (by kernel_rfl) ?_
  rw [r30]
  have h2 := hc.parts
  have ht : (c.parts.take i).length ≤ 9223372036854775807 := by simp; omega
  have htL : (c.parts.take i).length < L := by simp; omega
  have e0 : (((p.nodes : Nat) : Int) = 0) = (p.nodes = 0) := by apply propext; omega
  simp only [d30_0, ptl, ck_true, fa28_1, fa28_2, ld23, ld24, ld56, ob_some, slice23 c.parts i hi, pt0, pt1, pt4, callD_clo, List.nil_append, List.append_nil, c8 (L := L) (show 4 ≤ n by omega) (c.parts.take i) p.name ht htL, extract_tup, List.getElem?_cons_zero, List.getElem?_cons_succ, gcase_f,
    c30 (show 6 ≤ n by omega) p.name hp.name, not_bool, eql_int, e0, c31 (L := L) (show 2 ≤ n by omega) p.nodes all hp.nodes hall, c32 (L := L) (show 6 ≤ n by omega) c.accounts hc.acc p.accs hp.len hp.lenL, pwrong]
  by_cases q1 : (pfind (c.parts.take i) p.name).isSome = true <;> by_cases q2 : nm p.name = true <;> by_cases q3 : p.nodes = 0 <;> by_cases q4 : within p.nodes all = true <;> by_cases q5 : lst c.accounts p.accs = true <;>
    simp only [q1, q2, q3, q4, q5, Bool.not_true, Bool.not_false, decide_true, decide_false, Bool.or_true, Bool.or_false, Bool.true_or, Bool.false_or, if_true, if_false, Bool.false_eq_true]
theorem l10 {R : Type} (n : Nat) (hn : 7 ≤ n) (hL : 100 < L) (kr : PV → PV → PV → Option R) (ke : PV → PV → Option R) (c : Cfg) (hc : OkC L c) (all : Nat) (hall : all < 2 ^ 32) :
    ∀ (r : List Pt) (N i : Nat), c.parts.drop i = r → r.length < N → d10_3i (kk L n) L kr ke N (pts c.parts) (I c.parts.length) (I i) c.pv (U all) = if pfrom c all i r then ke c.pv (U all) else kr (Bo false) c.pv (U all) := by
  intro r
  induction r with
  | nil =>
    intro N i h hN
    obtain ⟨N, rfl⟩ : ∃ n, N = n + 1 := ⟨N - 1, by omega⟩
    have := drop_nil' h
    have h2 : ¬ (i : Int) < c.parts.length := by omega
    simp [d10_3i, d10_4, h2, pfrom]
  | cons p r ih =>
    intro N i h hN
    obtain ⟨N, rfl⟩ : ∃ n, N = n + 1 := ⟨N - 1, by omega⟩
    obtain ⟨h1, h2, h3, h4⟩ := drop_cons' h
    have h5 : (i : Int) < c.parts.length := by omega
    simp only [List.length_cons] at hN
    have := ih N (i + 1) h3 (by omega)
    have hpl := hc.parts
    have h29 : callD (callP Try.prog hh L n) (.clo 30 [] [.ro 6 c.pv, .ro 0 (U all)]) [I i, p.pv] 1 = _ := callD_t (by simpa using c29 (L := L) (m := n) (by omega) hL c hc all hall i (by omega) p (hc.part p h4)) rfl
    simp only [d10_3i, d10_4, lss_int, gtr_int, ob_some, cb_bool, decide_eq_true_eq, h5, if_true, ia23, List.getElem?_map, h2, Option.map_some, ld58, put6, h29, gcase_f, pt2, pt3, add_int, wrap_succ (show i < 9223372036854775807 by omega), this, pfrom, pbad]
    by_cases q1 : pwrong c all i p = true <;> by_cases q2 : p.prio < 0 <;> by_cases q3 : 1000 < p.prio <;> by_cases q4 : p.max < 1 <;> by_cases q5 : 1048576 < p.max <;>
      simp only [q1, q2, q3, q4, q5, Bool.not_true, Bool.not_false, decide_true, decide_false, Bool.or_true, Bool.or_false, Bool.true_or, Bool.false_or, Bool.and_true, Bool.and_false, Bool.true_and, Bool.false_and, if_true, if_false, Bool.false_eq_true]
theorem c10 (hm : 10 ≤ m) (hL : 100 < L) (c : Cfg) (hc : OkC L c) : callP Try.prog hh L m 10 [c.pv] = some (Bo (cright c)) := by
  obtain ⟨n, rfl⟩ : ∃ n, m = n + 1 := ⟨m - 1, by omega⟩
  refine callP_of' (by omega) (by kernel_rfl) ?_
  rw [r10]
  have h1 := hc.cores
  have h2 := hc.parts
  have h27 := c27 (L := L) (show 6 ≤ n by omega) c.cores (by omega) (by omega)
  have h33 := c33 (L := L) (show 9 ≤ n by omega) hL c hc
  have e1 : (c.parts.length : Int) < 1 ↔ ¬ 1 ≤ c.parts.length := by omega
  have e2 : (8 : Int) < c.parts.length ↔ ¬ c.parts.length ≤ 8 := by omega
  simp only [d10_0, g10_0, cfl, ck_true, cf0, ob_some, callD_clo, List.nil_append, List.append_nil, h27]
  by_cases hn : nright (nodesOf c) = true
  · have hlen := nup_len c hn
    have hall := allOf_lt c hn
    have h28 := c28 (L := L) (m := n) (by omega) (nodesOf c) hlen (by omega)
    have hl := l10 (L := L) n (by omega) hL (fun v w x => some v) (fun v w => d10_5 (kk L n) L v w) c hc (allOf c) hall c.parts L 0 rfl (by omega)
    have hnn : nnew c.cores = .tup [nds (nodesOf c), I 0] := by simp only [nnew]; rw [if_pos (show nright (c.cores.map mkN) = true from hn)]; rfl
    simp only [hnn, extract_tup, List.getElem?_cons_zero, List.getElem?_cons_succ, ob_some, h28, putU _ (U (Pp.bits (qup (nodesOf c)) (nodesOf c).length)) rfl, d10_1, eql_int, gcase_t, decide_true, if_true, callD_clo, List.nil_append, List.append_nil, h33, cb_bool, cf4, cf1, lss_int, gtr_int, gcase_f, d10_6]
    by_cases q : qright c = true
    · by_cases p1 : c.policy < 1
      · have : ¬ 1 ≤ c.policy := by omega
        simp [q, p1, cright, hn, this]
      · have p1' : 1 ≤ c.policy := by omega
        by_cases p2 : 3 < c.policy
        · have : ¬ c.policy ≤ 3 := by omega
          simp [q, p1, p2, cright, hn, this]
        · have p2' : c.policy ≤ 3 := by omega
          simp only [q, p1, p2, if_true, if_false, decide_false, Bool.false_eq_true, d10_2, g10_2, cf1, ob_some, ln23, lss_int, gtr_int, gcase_f, cb_bool, List.length_map, e1, e2, decide_not, Bool.not_eq_true']
          by_cases r1 : 1 ≤ c.parts.length
          · by_cases r2 : c.parts.length ≤ 8
            · simp only [r1, r2, decide_true, Bool.true_eq_false, if_false, d10_3]
              rw [show (PV.sc (Value.int IntKind.i64 0)) = I ((0 : Nat) : Int) from rfl]
              rw [show (U (Pp.bits (qup (nodesOf c)) (nodesOf c).length)) = U (allOf c) from rfl, hl]
              simp only [cright, hn, q, p1', p2', r1, r2, decide_true, Bool.and_true, Bool.true_and, d10_5]
              by_cases f : pfrom c (allOf c) 0 c.parts = true <;> simp [f]
            · simp [r1, r2, cright]
          · simp [r1, cright]
    · simp [q, cright]
  · have h28 := c28n (L := L) (m := n) (by omega) (by omega)
    have hnn : nnew c.cores = .tup [.sc (.slice none 0 0), I 2] := by simp only [nnew]; rw [if_neg (show ¬ nright (c.cores.map mkN) = true from hn)]
    simp only [hnn, extract_tup, List.getElem?_cons_zero, List.getElem?_cons_succ, ob_some, h28, putU _ (U 0) rfl, d10_1, eql_int, gcase_t, d10_6]
    simp [cright, hn]
theorem any_swap (p who : List ByteArray) : (who.any fun w => p.any fun a => decide (w = a)) = (p.any fun x => who.any fun a => decide (x = a)) := by
  rw [Bool.eq_iff_iff]
  simp only [List.any_eq_true, decide_eq_true_eq]
  constructor
  · rintro ⟨w, hw, a, ha, rfl⟩; exact ⟨w, ha, w, hw, rfl⟩
  · rintro ⟨w, hw, a, ha, rfl⟩; exact ⟨w, ha, w, hw, rfl⟩
end
structure Sp where
  user : ByteArray
  account : ByteArray
  qos : ByteArray
  part : ByteArray
  nodes : Int
  cores : Int
  limit : Int
  deps : List PV
def Sp.pv (s : Sp) : PV := .agg [Sr s.user, Sr s.account, Sr s.qos, Sr s.part, I s.nodes, I s.cores, I s.limit, .list 3 false s.deps]
@[simp] theorem sp0 (a : Sp) : PV.at_ 9 0 0 a.pv = some (Sr a.user) := rfl
@[simp] theorem sp1 (a : Sp) : PV.at_ 9 1 0 a.pv = some (Sr a.account) := rfl
@[simp] theorem sp2 (a : Sp) : PV.at_ 9 2 0 a.pv = some (Sr a.qos) := rfl
@[simp] theorem sp3 (a : Sp) : PV.at_ 9 3 0 a.pv = some (Sr a.part) := rfl
@[simp] theorem sp4 (a : Sp) : PV.at_ 9 4 0 a.pv = some (I a.nodes) := rfl
@[simp] theorem sp5 (a : Sp) : PV.at_ 9 5 0 a.pv = some (I a.cores) := rfl
@[simp] theorem sp6 (a : Sp) : PV.at_ 9 6 0 a.pv = some (I a.limit) := rfl
@[simp] theorem spl (a : Sp) : PV.hasLay 9 a.pv = true := rfl
def sbad (s : Sp) : Bool := !nm s.user || decide (s.nodes < 1) || decide (32 < s.nodes) || decide (s.cores < 1) || decide (64 < s.cores) || decide (s.limit < 1)
def able (c : Cfg) (p : Pt) (s : Sp) : Nat := Pp.bits (qable (nodesOf c) p.nodes s.cores) (nodesOf c).length
def chk (c : Cfg) (s : Sp) : Int :=
  if cright c then
    if sbad s then 2 else
    match pfind c.parts s.part with
    | none => 141
    | some i =>
      if !(afind c.accounts s.account).isSome || decide (qix c.qos s.qos < 0) then 141 else
      match c.parts[i]? with
      | none => 0
      | some p =>
        if admits c.accounts p.accs s.account then
          (if decide (p.max < s.limit) || decide (((ons (able c p s).testBit 32).length : Int) < s.nodes) then 150 else 0)
        else 160
  else 250
theorem neqb (x y : Operand) (b c : Bool) : binPV Try.prog .neq 4 x y (.sc (.bool b)) (.sc (.bool c)) = some (Bo (b != c)) := by
  cases b <;> cases c <;> kernel_rfl
theorem cright_n {c : Cfg} (h : cright c = true) : nright (nodesOf c) = true ∧ qright c = true := by
  simp only [cright, Bool.and_eq_true] at h
  exact ⟨h.1.1.1.1.1.1, h.1.1.1.1.1.2⟩

section
variable {L m : Nat}
theorem able_lt (c : Cfg) (h : nright (nodesOf c) = true) (p : Pt) (s : Sp) : able c p s < 2 ^ 32 :=
  Nat.lt_of_lt_of_le (bits_lt _ _) (Nat.pow_le_pow_right (by decide) (nup_len c h))
theorem pfind_get {l : List Pt} {s : ByteArray} {i : Nat} (h : pfind l s = some i) : ∃ p, l[i]? = some p := by
  obtain ⟨_, a, h2, _⟩ := ffrom_some h
  exact ⟨a, by simpa using h2⟩
theorem c12 (hm : 12 ≤ m) (hL : 100 < L) (c : Cfg) (hc : OkC L c) (s : Sp) (hu : s.user.size + 1 < L) : callP Try.prog hh L m 5 [c.pv, s.pv] = some (I (chk c s)) := by
  obtain ⟨n, rfl⟩ : ∃ n, m = n + 1 := ⟨m - 1, by omega⟩
  refine callP_of' (by omega) (by kernel_rfl) ?_
  rw [r5]
  have h1 := hc.cores
  have h2 := hc.parts
  have h10 := c10 (L := L) (show 10 ≤ n by omega) hL c hc
  have h8 := c8 (L := L) (show 4 ≤ n by omega) c.parts s.part (by omega) (by omega)
  have h40 := c40 (L := L) (show 5 ≤ n by omega) c.accounts s.account hc.acc.len hc.acc.lenL
  have h41 := c41 (L := L) (show 10 ≤ n by omega) hL c hc s.qos
  have h30 := c30 (L := L) (show 6 ≤ n by omega) s.user hu
  have h27 := c27 (L := L) (show 6 ≤ n by omega) c.cores (by omega) (by omega)
  simp only [d5_0, cfl, spl, ck_true, callD_clo, List.nil_append, List.append_nil, h10, ob_some, not_bool, cb_bool]
  by_cases hr : cright c = false
  · simp [hr, chk]
  have hr : cright c = true := by simpa using hr
  obtain ⟨hn, hq⟩ := cright_n hr
  simp only [hr, Bool.not_true, Bool.false_eq_true, if_false, sp0, sp1, sp2, sp3, sp4, sp5, sp6, cf0, cf1, cf2, ob_some, h30, gcase_f, lss_int, gtr_int, not_bool, cb_bool, h8, h40, h41, extract_tup, List.getElem?_cons_zero, List.getElem?_cons_succ, qos3, hq, if_true]
  by_cases hb : sbad s = true
  · have hc' : chk c s = 2 := by simp [chk, hr, hb]
    rw [hc']
    simp only [sbad, Bool.or_eq_true, Bool.not_eq_true', decide_eq_true_eq] at hb
    by_cases b1 : nm s.user = true <;> by_cases b2 : s.nodes < 1 <;> by_cases b3 : 32 < s.nodes <;> by_cases b4 : s.cores < 1 <;> by_cases b5 : 64 < s.cores <;> by_cases b6 : s.limit < 1 <;> first | (simp [b1, b2, b3, b4, b5, b6]; done) | (exfalso; simp [b1] at hb; omega)
  · have hb' := hb
    simp only [sbad, Bool.or_eq_true, Bool.not_eq_true', decide_eq_true_eq, not_or] at hb'
    obtain ⟨⟨⟨⟨⟨b1, b2⟩, b3⟩, b4⟩, b5⟩, b6⟩ := hb'
    have b1 : nm s.user = true := by simpa using b1
    simp only [b1, b2, b3, b4, b5, b6, Bool.not_true, decide_false, Bool.false_eq_true, if_false]
    cases hf : pfind c.parts s.part with
    | none =>
      have hc' : chk c s = 141 := by simp [chk, hr, hb, hf]
      rw [hc']
      by_cases hqi : qix c.qos s.qos < 0 <;> simp [hqi]
    | some i =>
      obtain ⟨p, hp⟩ := pfind_get hf
      have hpm : p ∈ c.parts := List.mem_of_getElem? hp
      have hop := hc.part p hpm
      have hadm := c14 (L := L) (show 11 ≤ n by omega) c.accounts p.accs (strs false p.accs) s.account hc.acc (.inl ⟨false, rfl⟩) hop.len hop.lenL
      have hlen := nup_len c hn
      have hnn : nnew c.cores = .tup [nds (nodesOf c), I 0] := by simp only [nnew]; rw [if_pos (show nright (c.cores.map mkN) = true from hn)]; rfl
      have h43 := c43 (L := L) (show 4 ≤ n by omega) (nodesOf c) hlen p.nodes hop.nodes s.cores (by omega)
      rw [show Pp.bits (qable (nodesOf c) p.nodes s.cores) (nodesOf c).length = able c p s from rfl] at h43
      have h42 := c42 (L := L) (show 3 ≤ n by omega) (able c p s) (able_lt c hn p s)
      by_cases ha : (afind c.accounts s.account).isSome = true
      · by_cases hqi : qix c.qos s.qos < 0
        · have hc' : chk c s = 141 := by simp [chk, hr, hb, hf, hqi]
          rw [hc']
          simp [ha, hqi]
        · have hc' : chk c s = if admits c.accounts p.accs s.account then (if decide (p.max < s.limit) || decide (((ons (able c p s).testBit 32).length : Int) < s.nodes) then 150 else 0) else 160 := by
            simp [chk, hr, hb, hf, hqi, ha, hp]
          rw [hc']
          simp only [hqi, if_false, ob_some, List.getElem?_cons_zero, List.getElem?_cons_succ, Option.isSome_some, Option.getD_some, Bool.not_true, Bool.false_eq_true, ha, neq_int, ne_eq, not_true_eq_false, decide_false, ia23, List.getElem?_map, hp, Option.map_some, ld58, put6, pt1, pt3, pt4, h27, hnn, hadm, h43, h42]
          by_cases h1' : admits c.accounts p.accs s.account = true
          · by_cases h2' : p.max < s.limit
            · simp [h1', h2']
            · by_cases h3' : ((ons (able c p s).testBit 32).length : Int) < s.nodes <;> simp [h1', h2', h3'] <;> rw [h43, ob_some, h42] <;> simp [h3']
          · simp [h1']
      · have hc' : chk c s = 141 := by simp [chk, hr, hb, hf, ha]
        rw [hc']
        by_cases hqi : qix c.qos s.qos < 0 <;> simp [hqi, ha]
end

end Go.Lite.Pq

namespace Go.Lite.Pq
open Go Go.Proofs Go.Lite Go.Lite.Pp
set_option linter.unusedVariables false
set_option linter.unusedSimpArgs false
set_option maxRecDepth 100000
def belowF (l : List Acc) (s : ByteArray) : Nat → List Acc → List ByteArray
  | _, [] => []
  | i, a :: r => if (path l i).any (fun x => decide (s = x)) then a.name :: belowF l s (i + 1) r else belowF l s (i + 1) r
def below (l : List Acc) (s : ByteArray) : List ByteArray := belowF l s 0 l

theorem apv32 (xs ys : List PV) (c : Bool) (h : (xs.length + ys.length) * 16 ≤ appendRoom) : appendPV Try.prog 45 45 (.list 0 true xs) (.list 0 c ys) = some (.list 0 ys.isEmpty (xs ++ ys)) := by
  have := inf9
  cases hi : Try.prog.info? 9 with
  | none => rw [hi] at this; simp at this
  | some i =>
    rw [hi] at this
    simp only [Option.map_some, Option.some.injEq] at this
    have hz : PV.hasLay 0 (Sr ⟨#[]⟩) = true := rfl
    simp [appendPV, u32, y9, hi, zero9, this, hz, width, h]

theorem below_len (l : List Acc) (s : ByteArray) : ∀ (r : List Acc) (i : Nat), (belowF l s i r).length ≤ r.length := by
  intro r
  induction r with
  | nil => intro i; simp [belowF]
  | cons a r ih =>
    intro i
    simp only [belowF]
    have := ih (i + 1)
    split <;> simp <;> omega
theorem below_mem {l : List Acc} {s b : ByteArray} : ∀ {r : List Acc} {i : Nat}, l.drop i = r → b ∈ belowF l s i r → ∃ k a, l[k]? = some a ∧ a.name = b ∧ s ∈ path l k := by
  intro r
  induction r with
  | nil => intro i _ h; simp [belowF] at h
  | cons a r ih =>
    intro i hd h
    obtain ⟨h1, h2, h3, h4⟩ := drop_cons' hd
    simp only [belowF] at h
    split at h
    · rename_i hany
      rcases List.mem_cons.1 h with rfl | h
      · refine ⟨i, a, h2, rfl, ?_⟩
        simp only [List.any_eq_true, decide_eq_true_eq] at hany
        obtain ⟨x, hx, rfl⟩ := hany
        exact hx
      · exact ih h3 h
    · exact ih h3 h

theorem path_sub {l : List Acc} (ht : IsTree l) {i : Nat} {a : Acc} (ha : l[i]? = some a) : ∀ (k : Nat) (c : Acc), l[k]? = some c → a.name ∈ path l k → ∀ x ∈ path l i, x ∈ path l k := by
  intro k
  induction k using Nat.strongRecOn with
  | ind k ih =>
    intro c hc hm x hx
    by_cases hki : k = i
    · subst hki; exact hx
    · simp only [path, hc, List.mem_cons] at hm
      rcases hm with hm | hm
      · exfalso
        have h1 := ht.find ha
        have h2 := ht.find hc
        rw [hm, h2] at h1
        simp only [Option.some.injEq] at h1
        exact hki h1
      · by_cases hp : c.parent = ⟨#[]⟩
        · simp [upF, hc, hp] at hm
        · obtain ⟨j, b, q1, q2, q3, q4, q5⟩ := ht.step hc hp
          have hup : upF l (k + 1) k = b.name :: upF l k j := by simp [upF, hc, hp, q3, q4]
          have hpj : path l j = b.name :: upF l k j := by
            simp only [path, q4]
            rw [upF_fuel ht j (j + 1) k (by omega) (by omega)]
          rw [hup, ← hpj] at hm
          have := ih j q1 b q4 hm x hx
          simp only [path, hc, List.mem_cons]
          rw [hup, ← hpj]
          exact .inr this

section
variable {L m : Nat}
theorem admits_nil {l : List Acc} (hr : aright l = true) {i : Nat} {a : Acc} (ha : l[i]? = some a) : admits l [] a.name = true := by
  simp [admits, hr, (aright_tree hr).find ha]
theorem admits_self {l : List Acc} (hr : aright l = true) {i : Nat} {a : Acc} (ha : l[i]? = some a) : admits l [a.name] a.name = true := by
  simp [admits, hr, (aright_tree hr).find ha, path, ha]
theorem admits_below {l : List Acc} (hr : aright l = true) {i : Nat} {a : Acc} (ha : l[i]? = some a) {who : List ByteArray} (h : admits l who a.name = true) {b : ByteArray} (hb : b ∈ below l a.name) : admits l who b = true := by
  have ht := aright_tree hr
  obtain ⟨k, c, hc, rfl, hm⟩ := below_mem (i := 0) rfl hb
  have hsub := path_sub ht ha k c hc hm
  simp only [admits, hr, ht.find ha, ht.find hc, Bool.true_and, Bool.or_eq_true, List.any_eq_true] at h ⊢
  rcases h with h | ⟨x, hx, h⟩
  · exact .inl h
  · exact .inr ⟨x, hsub x hx, h⟩
theorem admits_more {l : List Acc} {who : List ByteArray} {s t : ByteArray} (h0 : who ≠ []) (h : admits l who s = true) : admits l (t :: who) s = true := by
  simp only [admits, Bool.and_eq_true] at h ⊢
  refine ⟨h.1, ?_⟩
  have h2 := h.2
  cases hf : afind l s with
  | none => rw [hf] at h2; simp at h2
  | some i =>
    rw [hf] at h2
    simp only [Bool.or_eq_true, List.any_eq_true] at h2 ⊢
    rcases h2 with h2 | ⟨x, hx, y, hy, h2⟩
    · simp at h2; exact absurd h2 h0
    · exact .inr ⟨x, hx, y, List.mem_cons_of_mem _ hy, h2⟩
end
section
variable {L m : Nat}
end

/-! # the arguments -/
theorem list_bound {α : Type} (f : α → Nat) : ∀ (l : List α), ∃ B, ∀ a ∈ l, f a < B := by
  intro l
  induction l with
  | nil => exact ⟨0, by simp⟩
  | cons a r ih =>
    obtain ⟨B, hB⟩ := ih
    refine ⟨B + f a + 1, fun b hb => ?_⟩
    rcases List.mem_cons.1 hb with rfl | hb
    · omega
    · have := hB b hb; omega
theorem str_inv {d : PV} (h : Typed .str d) : ∃ s, d = Sr s ∧ s.size ≤ 9223372036854775807 := by
  cases h with
  | str h => exact ⟨_, rfl, Nat.le_trans h (by decide)⟩
theorem int_inv {k : IntKind} {d : PV} (h : Typed (.int k) d) : ∃ n, d = .sc (.int k n) := by cases h; exact ⟨_, rfl⟩
theorem rows_acc : ∀ (rows : List (List PV)), (∀ xs ∈ rows, xs.length = 3) → (∀ xs ∈ rows, ∀ (i : Nat) (ct : CT) (x : PV), [CT.str, .str, .int .i64][i]? = some ct → xs[i]? = some x → Typed ct x) →
    ∃ l : List Acc, rows.map (rowPV 4) = l.map Acc.pv ∧ ∀ a ∈ l, a.name.size ≤ 9223372036854775807 := by
  intro rows
  induction rows with
  | nil => intro _ _; exact ⟨[], rfl, by simp⟩
  | cons xs r ih =>
    intro h1 h2
    obtain ⟨l, hl, hb⟩ := ih (fun ys hy => h1 ys (List.mem_cons_of_mem _ hy)) (fun ys hy => h2 ys (List.mem_cons_of_mem _ hy))
    match xs, h1 xs (List.mem_cons_self), h2 xs (List.mem_cons_self) with
    | [x, y, z], _, h =>
      obtain ⟨s, rfl, hs⟩ := str_inv (h 0 _ _ rfl rfl)
      obtain ⟨t, rfl, _⟩ := str_inv (h 1 _ _ rfl rfl)
      obtain ⟨n, rfl⟩ := int_inv (h 2 _ _ rfl rfl)
      exact ⟨⟨s, t, n⟩ :: l, by simp [hl, rowPV, Acc.pv], fun a ha => by
        rcases List.mem_cons.1 ha with rfl | ha
        · exact hs
        · exact hb a ha⟩
theorem accs_inv {d : PV} (h : Typed (.list 4 40 [.str, .str, .int .i64]) d) : ∃ l, d = accs l ∧ ∀ a ∈ l, a.name.size ≤ 9223372036854775807 := by
  cases h with
  | list rows hm hb hl hx =>
    obtain ⟨l, e, hb'⟩ := rows_acc rows hl hx
    exact ⟨l, by rw [e], hb'⟩
theorem rows_str : ∀ (rows : List (List PV)), (∀ xs ∈ rows, xs.length = 1) → (∀ xs ∈ rows, ∀ (i : Nat) (ct : CT) (x : PV), [CT.str][i]? = some ct → xs[i]? = some x → Typed ct x) →
    ∃ l : List ByteArray, rows.map (rowPV 0) = l.map Sr := by
  intro rows
  induction rows with
  | nil => intro _ _; exact ⟨[], rfl⟩
  | cons xs r ih =>
    intro h1 h2
    obtain ⟨l, hl⟩ := ih (fun ys hy => h1 ys (List.mem_cons_of_mem _ hy)) (fun ys hy => h2 ys (List.mem_cons_of_mem _ hy))
    match xs, h1 xs (List.mem_cons_self), h2 xs (List.mem_cons_self) with
    | [x], _, h =>
      obtain ⟨s, rfl, _⟩ := str_inv (h 0 _ _ rfl rfl)
      exact ⟨s :: l, by simp [hl, rowPV]⟩
theorem strs_inv {d : PV} (h : Typed (.list 0 16 [.str]) d) : ∃ l, d = strs false l := by
  cases h with
  | list rows hm hb hl hx =>
    obtain ⟨l, e⟩ := rows_str rows hl hx
    exact ⟨l, by rw [e]⟩
section
variable {L m : Nat}
def isBig (c : Cfg) : Bool := decide (60 < c.cores.length) || decide (60 < c.parts.length) || decide (60 < c.accounts.length) || decide (60 < c.qos.length)
theorem c5 (hm : 2 ≤ m) (c : Cfg) : callP Try.prog hh L m 4 [c.pv] = some (Bo (isBig c)) := by
  obtain ⟨n, rfl⟩ : ∃ n, m = n + 1 := ⟨m - 1, by omega⟩
  refine callP_of' (by omega) (by kernel_rfl) ?_
  rw [r4]
  have e1 : (60 : Int) < c.cores.length ↔ 60 < c.cores.length := by omega
  have e2 : (60 : Int) < c.parts.length ↔ 60 < c.parts.length := by omega
  have e3 : (60 : Int) < c.accounts.length ↔ 60 < c.accounts.length := by omega
  have e4 : (60 : Int) < c.qos.length ↔ 60 < c.qos.length := by omega
  simp only [d4_0, cfl, ck_true, cf0, cf1, cf2, cf3, ob_some, ln22, ln23, ln24, ln25, gtr_int, gcase_f, List.length_map, e1, e2, e3, e4, isBig]
  by_cases q1 : 60 < c.cores.length <;> by_cases q2 : 60 < c.parts.length <;> by_cases q3 : 60 < c.accounts.length <;> simp [q1, q2, q3]
end

/-! # the arguments of PartsTells -/
def partCT : List CT := [.str, .int .u32, .int .i64, .int .i64, .list 0 16 [.str]]
def qosCT : List CT := [.str, .int .i64, .int .i64, .int .i64]
def cfgCT : List CT := [.list 0 8 [.int .i64], .list 6 64 partCT, .list 4 40 [.str, .str, .int .i64], .list 5 40 qosCT, .int .u8]
def depCT : List CT := [.int .u8, .int .i64]
def spCT : List CT := [.str, .str, .str, .str, .int .i64, .int .i64, .int .i64, .list 3 16 depCT]

theorem u32_inv {d : PV} (h : Typed (.int .u32) d) : ∃ n : Nat, d = U n ∧ n < 2 ^ 32 := by
  cases h with
  | int h =>
    rename_i n
    have h' : (0 : Int) ≤ n ∧ n ≤ 4294967295 := by
      have : (decide (IntKind.u32.min ≤ n) && decide (n ≤ IntKind.u32.max)) = true := by simpa [Lit.wf] using h
      simp only [Bool.and_eq_true, decide_eq_true_eq] at this
      exact ⟨this.1, this.2⟩
    refine ⟨n.toNat, ?_, by omega⟩
    show _ = PV.sc (.int .u32 ((n.toNat : Nat) : Int))
    rw [Int.toNat_of_nonneg h'.1]
theorem rows_gen {T : Type} (lay k : Nat) (cts : List CT) (enc : T → PV) (ok : T → Prop)
    (h1 : ∀ xs : List PV, xs.length = cts.length → (∀ (i : Nat) (ct : CT) (x : PV), cts[i]? = some ct → xs[i]? = some x → Typed ct x) → ∃ t, rowPV lay xs = enc t ∧ ok t) :
    ∀ (rows : List (List PV)), (∀ xs ∈ rows, xs.length = cts.length) → (∀ xs ∈ rows, ∀ (i : Nat) (ct : CT) (x : PV), cts[i]? = some ct → xs[i]? = some x → Typed ct x) →
      ∃ l : List T, rows.map (rowPV lay) = l.map enc ∧ ∀ a ∈ l, ok a := by
  intro rows
  induction rows with
  | nil => intro _ _; exact ⟨[], rfl, by simp⟩
  | cons xs r ih =>
    intro g1 g2
    obtain ⟨l, hl, hb⟩ := ih (fun ys hy => g1 ys (List.mem_cons_of_mem _ hy)) (fun ys hy => g2 ys (List.mem_cons_of_mem _ hy))
    obtain ⟨t, ht, hok⟩ := h1 xs (g1 xs List.mem_cons_self) (g2 xs List.mem_cons_self)
    refine ⟨t :: l, by simp [hl, ht], fun a ha => ?_⟩
    rcases List.mem_cons.1 ha with rfl | ha
    · exact hok
    · exact hb a ha
theorem strs_inv' {d : PV} (h : Typed (.list 0 16 [.str]) d) : ∃ l, d = strs false l ∧ l.length ≤ 9223372036854775807 ∧ l.length * 16 ≤ appendRoom := by
  cases h with
  | list rows hm hb hl hx =>
    obtain ⟨l, e⟩ := rows_str rows hl hx
    have hlen : rows.length = l.length := by have := congrArg List.length e; simpa using this
    refine ⟨l, by rw [e], ?_, ?_⟩
    · rw [← hlen]; exact Nat.le_trans hm (by decide)
    · rw [← hlen]; exact Nat.le_trans hb (by decide)
def PtB (p : Pt) : Prop := p.accs.length ≤ 9223372036854775807 ∧ p.accs.length * 16 ≤ appendRoom ∧ p.name.size ≤ 9223372036854775807 ∧ p.nodes < 2 ^ 32
theorem part_inv (xs : List PV) (hl : xs.length = partCT.length) (h : ∀ (i : Nat) (ct : CT) (x : PV), partCT[i]? = some ct → xs[i]? = some x → Typed ct x) : ∃ t : Pt, rowPV 6 xs = t.pv ∧ PtB t := by
  match xs, hl with
  | [a, b, c, d, e], _ =>
    obtain ⟨s, rfl, hs⟩ := str_inv (h 0 _ _ rfl rfl)
    obtain ⟨n, rfl, hn⟩ := u32_inv (h 1 _ _ rfl rfl)
    obtain ⟨p, rfl⟩ := int_inv (h 2 _ _ rfl rfl)
    obtain ⟨q, rfl⟩ := int_inv (h 3 _ _ rfl rfl)
    obtain ⟨l, rfl, h1, h2⟩ := strs_inv' (h 4 _ _ rfl rfl)
    exact ⟨⟨s, n, p, q, l⟩, rfl, h1, h2, hs, hn⟩
theorem qos_inv (xs : List PV) (hl : xs.length = qosCT.length) (h : ∀ (i : Nat) (ct : CT) (x : PV), qosCT[i]? = some ct → xs[i]? = some x → Typed ct x) : ∃ t : Qs, rowPV 5 xs = t.pv ∧ t.name.size ≤ 9223372036854775807 := by
  match xs, hl with
  | [a, b, c, d], _ =>
    obtain ⟨s, rfl, hs⟩ := str_inv (h 0 _ _ rfl rfl)
    obtain ⟨p, rfl⟩ := int_inv (h 1 _ _ rfl rfl)
    obtain ⟨q, rfl⟩ := int_inv (h 2 _ _ rfl rfl)
    obtain ⟨r, rfl⟩ := int_inv (h 3 _ _ rfl rfl)
    exact ⟨⟨s, p, q, r⟩, rfl, hs⟩
theorem int_row (xs : List PV) (hl : xs.length = [CT.int .i64].length) (h : ∀ (i : Nat) (ct : CT) (x : PV), [CT.int .i64][i]? = some ct → xs[i]? = some x → Typed ct x) : ∃ t : Int, rowPV 0 xs = I t ∧ True := by
  match xs, hl with
  | [a], _ =>
    obtain ⟨p, rfl⟩ := int_inv (h 0 _ _ rfl rfl)
    exact ⟨p, rfl, trivial⟩
theorem pts_inv {d : PV} (h : Typed (.list 6 64 partCT) d) : ∃ l, d = pts l ∧ ∀ a ∈ l, PtB a := by
  cases h with
  | list rows hm hb hl hx =>
    obtain ⟨l, e, hok⟩ := rows_gen 6 0 partCT Pt.pv PtB part_inv rows hl hx
    exact ⟨l, by rw [e], hok⟩
theorem qss_inv {d : PV} (h : Typed (.list 5 40 qosCT) d) : ∃ l : List Qs, d = qss l ∧ ∀ a ∈ l, a.name.size ≤ 9223372036854775807 := by
  cases h with
  | list rows hm hb hl hx =>
    obtain ⟨l, e, hok⟩ := rows_gen 5 0 qosCT Qs.pv (fun a => a.name.size ≤ 9223372036854775807) qos_inv rows hl hx
    exact ⟨l, by rw [e], hok⟩
theorem intz_inv {d : PV} (h : Typed (.list 0 8 [.int .i64]) d) : ∃ l, d = intz false l := by
  cases h with
  | list rows hm hb hl hx =>
    obtain ⟨l, e, _⟩ := rows_gen 0 0 [.int .i64] (fun i => I i) (fun _ => True) int_row rows hl hx
    exact ⟨l, by rw [e]⟩

end Go.Lite.Pq

namespace Go.Lite.Pq
open Go Go.Proofs Go.Lite Go.Lite.Pp
set_option linter.unusedVariables false
set_option linter.unusedSimpArgs false
set_option maxRecDepth 100000
/-! # a new profile -/
def flat (x : Int) : List Ct := [(0, x)]
theorem ndOk {x : Int} (h : ndBad (mkN x) = false) : 1 ≤ x ∧ x ≤ 64 := by
  simp only [ndBad, mkN, Bool.or_eq_false_iff] at h
  obtain ⟨⟨⟨h1, h2⟩, _⟩, _⟩ := h
  have := of_decide_eq_false h1
  have := of_decide_eq_false h2
  omega
def profC (c : Cfg) : List (List Ct) := c.cores.map flat
theorem bp73 (x : Int) : buildPV Try.prog 73 [(1, I x)] = some (cpv (0, x)) := by kernel_rfl
section
variable {L m : Nat}
theorem cFlat (hm : 2 ≤ m) (x : Int) (h : 1 ≤ x ∧ x ≤ 64) : callP Try.prog hh L m 20 [I x] = some (.tup [cuts true (flat x), I 0]) := by
  obtain ⟨n, rfl⟩ : ∃ n, m = n + 1 := ⟨m - 1, by omega⟩
  refine callP_of' (by omega) (by kernel_rfl) ?_
  rw [r20]
  have h1 : ¬ x < 0 := by omega
  have h2 : ¬ 1073741824 < x := by omega
  simp only [d20_0, lss_int, gtr_int, h1, h2, decide_false, ob_some, gcase_f, Bool.false_eq_true, if_false, cb_bool, bp73, bs52]
  rfl
theorem lNew {R : Type} (n : Nat) (hn : 3 ≤ n) (kr : PV → PV → List PV → Option R) (ke : List PV → Option R) (l : List Int) (hl : l.length ≤ 32) (hb : ∀ x ∈ l, 1 ≤ x ∧ x ≤ 64) :
    ∀ (r : List Int) (N i : Nat) (acc : List PV), l.drop i = r → r.length < N → acc.length + r.length ≤ 1000 → d7_1i (kk L n) L kr ke N (intz false l) (I l.length) (I i) acc = ke (acc ++ (r.map flat).map (cuts true)) := by
  intro r
  induction r with
  | nil =>
    intro N i acc h hN ha
    obtain ⟨N, rfl⟩ : ∃ n, N = n + 1 := ⟨N - 1, by omega⟩
    have := drop_nil' h
    have h2 : ¬ (i : Int) < l.length := by omega
    simp [d7_1i, d7_2, h2]
  | cons x r ih =>
    intro N i acc h hN ha
    obtain ⟨N, rfl⟩ : ∃ n, N = n + 1 := ⟨N - 1, by omega⟩
    obtain ⟨h1, h2, h3, h4⟩ := drop_cons' h
    have h5 : (i : Int) < l.length := by omega
    simp only [List.length_cons] at hN ha
    have := ih N (i + 1) (acc ++ [cuts true (flat x)]) h3 (by omega) (by simp; omega)
    have hx := hb x h4
    have e1 : ¬ x < 1 := by omega
    have e2 : ¬ 64 < x := by omega
    have happ : appendTo Try.prog 36 36 0 acc (.list 0 true [cuts true (flat x)]) = some (acc ++ [cuts true (flat x)]) := Pp.sl22.appTo Pp.sl22 .list (by simp; omega)
    have hadd : ∀ a b : Operand, binPV Try.prog .add 3 a b (I (i : Int)) (I 1) = some (I ((i + 1 : Nat) : Int)) := fun a b => by
      rw [add_int' _ _ _ _ _ _ (by omega)]; simp
    simp only [d7_1i, d7_2, lss_int, gtr_int, ob_some, cb_bool, h5, decide_true, if_true, Pq.ia22, List.getElem?_map, h2, Option.map_some, Pq.ld3, callD_clo, List.nil_append, List.append_nil, cFlat (L := L) (m := n) (by omega) x hx, extract_tup, List.getElem?_cons_zero, List.getElem?_cons_succ,
      neq_int, ne_eq, not_true_eq_false, decide_false, gcase_f, Bool.false_eq_true, if_false, e1, e2, Pp.bs22, happ, oxs_some, hadd, this, List.map_cons, List.append_assoc, List.cons_append]
theorem cNew (hm : 5 ≤ m) (hL : 100 < L) (c : Cfg) (h : nright (nodesOf c) = true) : callP Try.prog hh L m 7 [intz false c.cores] = some (.tup [prof (profC c), I 0]) := by
  obtain ⟨n, rfl⟩ : ∃ n, m = n + 1 := ⟨m - 1, by omega⟩
  refine callP_of' (by omega) (by kernel_rfl) ?_
  rw [r7]
  simp only [nright, Bool.and_eq_true, decide_eq_true_eq, Bool.not_eq_true', List.any_eq_false, nodesOf, List.length_map] at h
  obtain ⟨⟨h1, h2⟩, h3⟩ := h
  have hb : ∀ x ∈ c.cores, 1 ≤ x ∧ x ≤ 64 := fun x hx => by
    have := h3 (mkN x) (List.mem_map.2 ⟨x, hx, rfl⟩)
    have h4 : ndBad (mkN x) = false := by simpa using this
    obtain ⟨a1, a2⟩ := ndOk h4
    omega
  have e1 : ¬ (c.cores.length : Int) < 1 := by omega
  have e2 : ¬ (32 : Int) < c.cores.length := by omega
  have hl := lNew (L := L) n (by omega) (fun v0 v1 x2 => some (.tup [v0, v1])) (fun x0 => d7_3 (kk L n) L x0) c.cores h2 hb c.cores L 0 [] rfl (by omega) (by simp; omega)
  simp only [d7_0, g7_0, Pq.ln22, ob_some, lss_int, gtr_int, List.length_map, e1, e2, decide_false, gcase_f, cb_bool, Bool.false_eq_true, if_false, d7_1]
  rw [show (PV.sc (Value.int IntKind.i64 0)) = I ((0 : Nat) : Int) from rfl, hl]
  simp [d7_3, profC, prof]
end
end Go.Lite.Pq

namespace Go.Lite.Pq
open Go Go.Proofs Go.Lite Go.Lite.Pp
set_option linter.unusedVariables false
set_option linter.unusedSimpArgs false
/-! # the plain law: what is let in fits at once -/
/-- what it means to be let in -/
structure In (c : Cfg) (s : Sp) (i : Nat) (p : Pt) : Prop where
  r : cright c = true
  b : sbad s = false
  f : pfind c.parts s.part = some i
  g : c.parts[i]? = some p
  a : (afind c.accounts s.account).isSome = true
  q : ¬ qix c.qos s.qos < 0
  ad : admits c.accounts p.accs s.account = true
  mx : s.limit ≤ p.max
  n : s.nodes ≤ ((ons (able c p s).testBit 32).length : Int)
theorem chk_in {c : Cfg} {s : Sp} (h : chk c s = 0) : ∃ i p, In c s i p := by
  unfold chk at h
  by_cases h1 : cright c = true
  · rw [if_pos h1] at h
    by_cases h2 : sbad s = true
    · rw [if_pos h2] at h; omega
    · rw [if_neg h2] at h
      cases h3 : pfind c.parts s.part with
      | none => rw [h3] at h; simp at h
      | some i =>
        obtain ⟨p, h4⟩ := pfind_get h3
        rw [h3] at h
        simp only [h4] at h
        by_cases h5 : (!(afind c.accounts s.account).isSome || decide (qix c.qos s.qos < 0)) = true
        · rw [if_pos h5] at h; omega
        · rw [if_neg h5] at h
          by_cases h6 : admits c.accounts p.accs s.account = true
          · rw [if_pos h6] at h
            by_cases h7 : (decide (p.max < s.limit) || decide (((ons (able c p s).testBit 32).length : Int) < s.nodes)) = true
            · rw [if_pos h7] at h; omega
            · have h8 : (afind c.accounts s.account).isSome = true := by
                cases hh : (afind c.accounts s.account).isSome with
                | true => rfl
                | false => exact absurd (by rw [hh]; rfl) h5
              simp only [Bool.or_eq_true, Bool.not_eq_true', decide_eq_true_eq, not_or] at h5 h7
              exact ⟨i, p, h1, by simpa using h2, h3, h4, h8, h5.2, h6, by omega, by omega⟩
          · rw [if_neg h6] at h; omega
  · rw [if_neg h1] at h; omega
theorem in_chk {c : Cfg} {s : Sp} {i : Nat} {p : Pt} (h : In c s i p) : chk c s = 0 := by
  unfold chk
  have h7 : ¬ (decide (p.max < s.limit) || decide (((ons (able c p s).testBit 32).length : Int) < s.nodes)) = true := by
    have := h.mx; have := h.n
    simp only [Bool.or_eq_true, decide_eq_true_eq, not_or]; omega
  have h5 : ¬ (!(afind c.accounts s.account).isSome || decide (qix c.qos s.qos < 0)) = true := by
    simp [h.a]; have := h.q; omega
  rw [if_pos h.r, if_neg (by rw [h.b]; simp), h.f]
  simp only [h.g]
  rw [if_neg h5, if_pos h.ad, if_neg h7]
theorem sbad_in {s : Sp} (h : sbad s = false) : nm s.user = true ∧ 1 ≤ s.nodes ∧ s.nodes ≤ 32 ∧ 1 ≤ s.cores ∧ s.cores ≤ 64 ∧ 1 ≤ s.limit := by
  simp only [sbad, Bool.or_eq_false_iff, Bool.not_eq_false', decide_eq_false_iff_not] at h
  obtain ⟨⟨⟨⟨⟨h1, h2⟩, h3⟩, h4⟩, h5⟩, h6⟩ := h
  exact ⟨h1, by omega, by omega, by omega, by omega, by omega⟩
theorem in_sbad {s : Sp} (h1 : nm s.user = true) (h2 : 1 ≤ s.nodes) (h3 : s.nodes ≤ 32) (h4 : 1 ≤ s.cores) (h5 : s.cores ≤ 64) (h6 : 1 ≤ s.limit) : sbad s = false := by
  simp only [sbad, Bool.or_eq_false_iff, Bool.not_eq_false', decide_eq_false_iff_not]
  exact ⟨⟨⟨⟨⟨h1, by omega⟩, by omega⟩, by omega⟩, by omega⟩, by omega⟩
theorem pfrom_bad {c : Cfg} {all : Nat} : ∀ {l : List Pt} {k : Nat}, pfrom c all k l = true → ∀ {i : Nat} {p : Pt}, l[i]? = some p → pbad c all (k + i) p = false
  | [], k, _, i, p, h => by simp at h
  | a :: r, k, h, i, p, hi => by
    simp only [pfrom, Bool.and_eq_true, Bool.not_eq_true'] at h
    cases i with
    | zero => simp at hi; subst hi; exact h.1
    | succ i => simp at hi; rw [show k + (i + 1) = k + 1 + i by omega]; exact pfrom_bad h.2 hi
theorem In.max {c : Cfg} {s : Sp} {i : Nat} {p : Pt} (h : In c s i p) : p.max ≤ 1048576 := by
  have h1 := h.r
  simp only [cright, Bool.and_eq_true] at h1
  have h2 := pfrom_bad h1.2 h.g
  simp only [pbad, Bool.or_eq_false_iff, decide_eq_false_iff_not] at h2
  omega
/-! ## at once -/
abbrev askOf (s : Sp) (p : Pt) : Ask := ⟨s.nodes, s.cores, s.limit, p.nodes, 0, []⟩
theorem least_flat (x l : Int) (hl : 0 < l) : leastR (flat x) 0 (0 + l) = x := by
  simp [leastR, val, flat]
theorem opn_able (c : Cfg) (s : Sp) (p : Pt) (hl : 0 < s.limit) (i : Nat) : opn (profC c) (askOf s p) 0 i = qable (nodesOf c) p.nodes s.cores i := by
  unfold opn qable profC nodesOf
  rw [List.getElem?_map, List.getElem?_map]
  cases c.cores[i]? with
  | none => rfl
  | some x =>
    simp only [Option.map_some, askOf, least_flat x s.limit hl, List.all_nil, Bool.and_true, mkN]
theorem qable_len {l : List Nd} {s : Nat} {k : Int} {i : Nat} (h : qable l s k i = true) : i < l.length := by
  unfold qable at h
  rcases Nat.lt_or_ge i l.length with h1 | h1
  · exact h1
  · rw [List.getElem?_eq_none h1] at h; cases h
theorem able_ons (c : Cfg) (p : Pt) (s : Sp) : ons (able c p s).testBit 32 = ons (qable (nodesOf c) p.nodes s.cores) 32 := ons_cong fun i hi => by
  unfold able
  rw [bits_testBit]
  cases h : qable (nodesOf c) p.nodes s.cores i with
  | false => simp
  | true => have := qable_len h; simp [this]
theorem right_prof {c : Cfg} (h : nright (nodesOf c) = true) : rightP (profC c) = true := by
  simp only [nright, Bool.and_eq_true, decide_eq_true_eq, Bool.not_eq_true', List.any_eq_false, nodesOf, List.length_map] at h
  obtain ⟨⟨h1, h2⟩, h3⟩ := h
  simp only [rightP, Bool.and_eq_true, decide_eq_true_eq, List.all_eq_true, profC, List.length_map]
  refine ⟨⟨h1, h2⟩, fun s hs => ?_⟩
  obtain ⟨x, hx, rfl⟩ := List.mem_map.1 hs
  have h4 : ndBad (mkN x) = false := by simpa using h3 (mkN x) (List.mem_map.2 ⟨x, hx, rfl⟩)
  obtain ⟨a1, a2⟩ := ndOk h4
  simp [rightS, flat, okC, tailOK]
  omega
theorem ask_ok {c : Cfg} {s : Sp} {i : Nat} {p : Pt} (h : In c s i p) : askB (askOf s p) = true := by
  obtain ⟨_, h1, h2, h3, h4, h5⟩ := sbad_in h.b
  have := h.max; have := h.mx
  simp [askB, askOf]
  omega
theorem fit_now {c : Cfg} {s : Sp} {i : Nat} {p : Pt} (h : In c s i p) : fitP (profC c) (askOf s p) = some 0 := by
  obtain ⟨_, h1, h2, h3, h4, h5⟩ := sbad_in h.b
  refine IsFirst.eq (fitP_first _ _) ⟨?_, fun u hu => ?_⟩
  · simp only [fits, good, Bool.and_eq_true, decide_eq_true_eq]
    refine ⟨⟨by simp [askOf], by omega⟩, ?_⟩
    have hn := h.n
    rw [able_ons] at hn
    have e : onsN (opn (profC c) (askOf s p) 0) = (ons (qable (nodesOf c) p.nodes s.cores) 32).length := by
      rw [onsN_ons, ons_cong fun i _ => opn_able c s p (by omega) i]
    rw [e]; exact hn
  · simp only [fits, Bool.and_eq_true, decide_eq_true_eq] at hu
    exact hu.1.1
theorem fit_pv {c : Cfg} {s : Sp} {i : Nat} {p : Pt} (h : In c s i p) : fitPV (profC c) (askOf s p) = .tup [I 0, U (onP (profC c) (askOf s p) 0), I 0] := by
  unfold fitPV
  rw [ask_ok h, right_prof (cright_n h.r).1, fit_now h]
  rfl
theorem on_in {c : Cfg} (s : Sp) (p : Pt) (h : nright (nodesOf c) = true) (hp : p.nodes < 2 ^ 32) : onP (profC c) (askOf s p) 0 < 2 ^ 32 ∧ onP (profC c) (askOf s p) 0 &&& (2 ^ 32 - 1 - p.nodes) = 0 := by
  have hlen : (profC c).length ≤ 32 := by
    have := nup_len c h
    simpa [profC, nodesOf] using this
  have hlt : onP (profC c) (askOf s p) 0 < 2 ^ 32 := Nat.lt_of_lt_of_le (onP_lt hlen) (Nat.pow_le_pow_right (by decide) hlen)
  refine ⟨hlt, (within_bits _ _ hlt hp).2 fun i _ hi => ?_⟩
  obtain ⟨_, ho⟩ := onP_bit i hi
  obtain ⟨_, _, h2, _⟩ := opn_in ho
  exact h2
/-! ## a smaller one -/
theorem In.small {c : Cfg} {s : Sp} {i : Nat} {p : Pt} (h : In c s i p) {n k l : Int} (hn : 1 ≤ n ∧ n ≤ s.nodes) (hk : 1 ≤ k ∧ k ≤ s.cores) (hl : 1 ≤ l ∧ l ≤ s.limit) : In c { s with nodes := n, cores := k, limit := l } i p := by
  obtain ⟨h0, h1, h2, h3, h4, h5⟩ := sbad_in h.b
  refine { r := h.r, b := in_sbad h0 (by exact hn.1) (by show n ≤ 32; omega) hk.1 (by show k ≤ 64; omega) hl.1, f := h.f, g := h.g, a := h.a, q := h.q, ad := h.ad, mx := ?_, n := ?_ }
  · have := h.mx; show l ≤ p.max; omega
  · have hn' := h.n
    rw [able_ons] at hn' ⊢
    have : (ons (qable (nodesOf c) p.nodes s.cores) 32).length ≤ (ons (qable (nodesOf c) p.nodes k) 32).length := by
      unfold ons
      rw [← List.countP_eq_length_filter, ← List.countP_eq_length_filter]
      refine List.countP_mono_left fun i _ hi => ?_
      unfold qable at hi ⊢
      cases ha : (nodesOf c)[i]? with
      | none => rw [ha] at hi; cases hi
      | some a =>
        rw [ha] at hi
        simp only [Bool.and_eq_true, decide_eq_true_eq] at hi ⊢
        exact ⟨hi.1, by omega⟩
    show n ≤ ((ons (qable (nodesOf c) p.nodes k) 32).length : Int)
    omega
end Go.Lite.Pq

namespace Go.Lite.Pq
open Go Go.Proofs Go.Lite Go.Lite.Pp
set_option linter.unusedVariables false
set_option linter.unusedSimpArgs false
set_option maxRecDepth 100000
theorem bp50 (s : Sp) (p : Pt) : buildPV Try.prog 50 [(0, I s.nodes), (1, I s.cores), (2, I s.limit), (4, U p.nodes)] = some (apv (askOf s p)) := by kernel_rfl
@[simp] theorem fa47_1 (p : Pt) : fieldAddrPV Try.prog 47 (.ro 6 p.pv) 1 = some (.ro 0 (U p.nodes)) := by kernel_rfl
theorem putSp (v : AV) (s : Sp) : putPV 9 0 9 v s.pv = some s.pv := putPV_all rfl
theorem putN (s : Sp) (n : Int) : putPV 9 4 0 (.pv s.pv) (I n) = some ({ s with nodes := n } : Sp).pv := rfl
theorem putK (s : Sp) (n : Int) : putPV 9 5 0 (.pv s.pv) (I n) = some ({ s with cores := n } : Sp).pv := rfl
theorem putL (s : Sp) (n : Int) : putPV 9 6 0 (.pv s.pv) (I n) = some ({ s with limit := n } : Sp).pv := rfl
def lower (x y : Int) : Int := if 1 ≤ y ∧ y ≤ x then y else x
theorem lower_ok {x y : Int} (h : 1 ≤ x) : 1 ≤ lower x y ∧ lower x y ≤ x := by unfold lower; split <;> omega
section
variable {L m : Nat}
theorem q12 (hm : 20 ≤ m) (hL : 400000 < L) (c : Cfg) (s less s' : Sp) (hc : OkC L c) (hu : s'.user.size + 1 < L) (haw : callP Try.prog hh L m 6 [] = some (Bo true)) (h : chk c s' = 0) :
    d3_12 (kk L m) L c.pv s.pv less.pv s'.pv = some (Bo true) := by
  have h12 := c12 (L := L) (m := m) (by omega) (by omega) c hc s' hu
  simp only [d3_12, callD_clo, List.nil_append, List.append_nil, h12, h, ob_some, eql_int, decide_true, gcase_t, if_true, haw]
theorem q1 (hm : 20 ≤ m) (hL : 400000 < L) (c : Cfg) (s less : Sp) (hc : OkC L c) (hu : s.user.size + 1 < L) (haw : callP Try.prog hh L m 6 [] = some (Bo true)) {i : Nat} {p : Pt} (h : In c s i p) :
    d3_1 (kk L m) L (fun v0 v1 v2 v3 v4 => d3_2 (kk L m) L v0 v1 v2 v3 v4) c.pv s.pv less.pv s.pv = some (Bo true) := by
  obtain ⟨_, b1, b2, b3, b4, b5⟩ := sbad_in h.b
  have key : ∀ n k l : Int, (1 ≤ n ∧ n ≤ s.nodes) → (1 ≤ k ∧ k ≤ s.cores) → (1 ≤ l ∧ l ≤ s.limit) → d3_12 (kk L m) L c.pv s.pv less.pv ({ s with nodes := n, cores := k, limit := l } : Sp).pv = some (Bo true) := fun n k l hn hk hl =>
    q12 hm hL c s less _ hc hu haw (in_chk (h.small hn hk hl))
  have s3 : ∀ n k : Int, (1 ≤ n ∧ n ≤ s.nodes) → (1 ≤ k ∧ k ≤ s.cores) → d3_8 (kk L m) L c.pv s.pv less.pv ({ s with nodes := n, cores := k } : Sp).pv = some (Bo true) := by
    intro n k hn hk
    have := key n k s.limit hn hk ⟨b5, by omega⟩
    simp only [d3_8, g3_8, d3_9, sp6, ob_some, geq_int, gcase_t, decide_eq_true_eq]
    by_cases e1 : 1 ≤ less.limit
    · by_cases e2 : less.limit ≤ s.limit
      · simp only [e1, e2, if_true, leq_int, decide_true, ob_some, d3_10, g3_10, d3_11, cb_bool, sp6, putL]
        exact key n k less.limit hn hk ⟨e1, e2⟩
      · simp only [e1, e2, if_true, leq_int, decide_false, ob_some, d3_10, g3_10, d3_11, cb_bool, Bool.false_eq_true, if_false]
        exact this
    · simp only [e1, if_false, d3_10, g3_10, d3_11, cb_bool, Bool.false_eq_true]
      exact this
  have s2 : ∀ n : Int, (1 ≤ n ∧ n ≤ s.nodes) → d3_4 (kk L m) L c.pv s.pv less.pv ({ s with nodes := n } : Sp).pv = some (Bo true) := by
    intro n hn
    have := s3 n s.cores hn ⟨b3, by omega⟩
    simp only [d3_4, g3_4, d3_5, sp5, ob_some, geq_int, gcase_t, decide_eq_true_eq]
    by_cases e1 : 1 ≤ less.cores
    · by_cases e2 : less.cores ≤ s.cores
      · simp only [e1, e2, if_true, leq_int, decide_true, ob_some, d3_6, g3_6, d3_7, cb_bool, sp5, putK]
        exact s3 n less.cores hn ⟨e1, e2⟩
      · simp only [e1, e2, if_true, leq_int, decide_false, ob_some, d3_6, g3_6, d3_7, cb_bool, Bool.false_eq_true, if_false]
        exact this
    · simp only [e1, if_false, d3_6, g3_6, d3_7, cb_bool, Bool.false_eq_true]
      exact this
  have := s2 s.nodes ⟨b1, by omega⟩
  simp only [d3_1, sp4, ob_some, geq_int, gcase_t, decide_eq_true_eq]
  by_cases e1 : 1 ≤ less.nodes
  · by_cases e2 : less.nodes ≤ s.nodes
    · simp only [e1, e2, if_true, leq_int, decide_true, ob_some, d3_2, g3_2, d3_3, cb_bool, sp4, putN]
      exact s2 less.nodes ⟨e1, e2⟩
    · simp only [e1, e2, if_true, leq_int, decide_false, ob_some, d3_2, g3_2, d3_3, cb_bool, Bool.false_eq_true, if_false]
      exact this
  · simp only [e1, if_false, d3_2, g3_2, d3_3, cb_bool, Bool.false_eq_true]
    exact this
theorem cLaw (hm : 20 ≤ m) (hL : 400000 < L) (c : Cfg) (s less : Sp) (hc : isBig c = false → OkC L c) (hu : s.user.size + 1 < L) (haw : callP Try.prog hh L m 6 [] = some (Bo true)) :
    bodyPR Try.prog (kk L m) hh L 3 [c.pv, s.pv, less.pv] = some (Bo true) := by
  rw [rq3]
  have h4 := c5 (L := L) (m := m) (by omega) c
  simp only [d3_0, g3_0, cfl, spl, ck_true, callD_clo, List.nil_append, List.append_nil, h4, ob_some, gcase_f]
  by_cases hb : isBig c = true
  · simp only [hb, if_true, haw, ob_some]
  have hb : isBig c = false := by simpa using hb
  have hc := hc hb
  have h12 := c12 (L := L) (m := m) (by omega) (by omega) c hc s hu
  simp only [hb, Bool.false_eq_true, if_false, h12, ob_some, neq_int, cb_bool, decide_eq_true_eq]
  by_cases h0 : chk c s = 0
  case neg => simp only [ne_eq, h0, not_false_eq_true, if_true, haw, ob_some]
  obtain ⟨i, p, h⟩ := chk_in h0
  obtain ⟨hn, _⟩ := cright_n h.r
  have hpm : p ∈ c.parts := List.mem_of_getElem? h.g
  have hop := hc.part p hpm
  have hpl := hc.parts
  have hlen := nup_len c hn
  have h7 := cNew (L := L) (m := m) (by omega) (by omega) c hn
  have h8 := c8 (L := L) (m := m) (by omega) c.parts s.part (by omega) (by omega)
  rw [h.f] at h8
  have hlp : (profC c).length ≤ 32 := by simpa [profC, nodesOf] using hlen
  have h9 := Pp.c11 (L := L) (m := m) (by omega) (profC c) ⟨by omega, fun s hs => by obtain ⟨x, _, rfl⟩ := List.mem_map.1 hs; simp [flat], by omega⟩ (askOf s p) ⟨by simp, hop.nodes, by simp⟩ (by omega)
  rw [fit_pv h] at h9
  obtain ⟨o1, o2⟩ := on_in (c := c) s p hn hop.nodes
  have hand : ∀ x y : Operand, binPV Try.prog .andNot 42 x y (U (onP (profC c) (askOf s p) 0)) (U p.nodes) = some (U 0) := fun x y => by
    rw [andNot_u _ _ _ _ _ _ o1 hop.nodes, o2]
  have hgp : (c.parts.map Pt.pv)[i]? = some p.pv := by rw [List.getElem?_map, h.g]; rfl
  have ho := q1 hm hL c s less hc hu haw h
  simp only [ne_eq, h0, not_true_eq_false, if_false, cf0, cf1, sp3, sp4, sp5, sp6, ob_some, h7, h8, extract_tup, List.getElem?_cons_zero, List.getElem?_cons_succ, Option.getD_some, Option.isSome_some, neq_int, decide_false, gcase_f, Bool.false_eq_true, not_bool, Bool.not_true, cb_bool,
    Pq.ia23, hgp, Option.map_some, fa47_1, ld56, bp50, h9, hand, putSp]
  exact ho
end
end Go.Lite.Pq

namespace Go.Lite.Pq
open Go Go.Proofs Go.Lite Go.Lite.Pp
set_option linter.unusedVariables false
set_option linter.unusedSimpArgs false
theorem sp_inv {b : PV} (hb : TypedA (9, spCT) b) : ∃ s : Sp, b = s.pv ∧ s.user.size ≤ 9223372036854775807 := by
  obtain ⟨ys, rfl, hyl, hy⟩ := hb
  match ys, hyl with
  | [y0, y1, y2, y3, y4, y5, y6, y7], _ =>
    obtain ⟨user, rfl, hub⟩ := str_inv (hy 0 _ _ rfl rfl)
    obtain ⟨account, rfl, _⟩ := str_inv (hy 1 _ _ rfl rfl)
    obtain ⟨qn, rfl, _⟩ := str_inv (hy 2 _ _ rfl rfl)
    obtain ⟨part, rfl, _⟩ := str_inv (hy 3 _ _ rfl rfl)
    obtain ⟨nodes, rfl⟩ := int_inv (hy 4 _ _ rfl rfl)
    obtain ⟨co, rfl⟩ := int_inv (hy 5 _ _ rfl rfl)
    obtain ⟨lim, rfl⟩ := int_inv (hy 6 _ _ rfl rfl)
    obtain ⟨deps, rfl⟩ : ∃ ds, y7 = .list 3 false ds := by
      have := hy 7 _ _ rfl rfl
      cases this with
      | list rows _ _ _ _ => exact ⟨_, rfl⟩
    exact ⟨⟨user, account, qn, part, nodes, co, lim, deps⟩, rfl, hub⟩
theorem main3 (a b w : PV) (ha : TypedA (6, cfgCT) a) (hb : TypedA (9, spCT) b) (hw : TypedA (9, spCT) w) :
    ∃ L n, callP Try.prog hh L n 3 [a, b, w] = some (.sc (.bool true)) := by
  obtain ⟨less, rfl, _⟩ := sp_inv hw
  obtain ⟨s, rfl, hub⟩ := sp_inv hb
  obtain ⟨xs, rfl, hxl, hx⟩ := ha
  match xs, hxl with
  | [x0, x1, x2, x3, x4], _ =>
    obtain ⟨cores, rfl⟩ := intz_inv (hx 0 _ _ rfl rfl)
    obtain ⟨parts, rfl, hpb⟩ := pts_inv (hx 1 _ _ rfl rfl)
    obtain ⟨acc, rfl, hab⟩ := accs_inv (hx 2 _ _ rfl rfl)
    obtain ⟨qos, rfl, hqb⟩ := qss_inv (hx 3 _ _ rfl rfl)
    obtain ⟨pol, rfl⟩ := int_inv (hx 4 _ _ rfl rfl)
    obtain ⟨B1, hB1⟩ := list_bound (fun a : Acc => a.name.size) acc
    obtain ⟨B2, hB2⟩ := list_bound (fun a : Qs => a.name.size) qos
    obtain ⟨B3, hB3⟩ := list_bound (fun a : Pt => a.name.size + a.accs.length) parts
    let c : Cfg := ⟨cores, parts, acc, qos, pol⟩
    refine ⟨B1 + B2 + B3 + s.user.size + 500001, 62, callP_of' (n := 61) (by omega) (by kernel_rfl) (cLaw (by omega) (by omega) c s less (fun hb => ?_) (by omega) (callP_mono (by omega) (by omega) t_awake))⟩
    have hbig : cores.length ≤ 60 ∧ parts.length ≤ 60 ∧ acc.length ≤ 60 ∧ qos.length ≤ 60 := by
      simp only [isBig, Bool.or_eq_false_iff, decide_eq_false_iff_not] at hb
      obtain ⟨⟨⟨g1, g2⟩, g3⟩, g4⟩ := hb
      exact ⟨by show cores.length ≤ 60; have : ¬ 60 < cores.length := g1; omega, by have : ¬ 60 < parts.length := g2; omega, by have : ¬ 60 < acc.length := g3; omega, by have : ¬ 60 < qos.length := g4; omega⟩
    obtain ⟨g1, g2, g3, g4⟩ := hbig
    exact ⟨g1, g2, g4, ⟨by show acc.length < _; omega, by show acc.length < _; omega, fun a ha => by have := hB1 a ha; omega, hab⟩, g3,
      fun p hp => by
        obtain ⟨q1, q2, q3, q4⟩ := hpb p hp
        have := hB3 p hp
        exact ⟨q1, by omega, q2, by omega, q3, q4⟩,
      fun q hq => by have := hB2 q hq; omega, hqb⟩
end Go.Lite.Pq
