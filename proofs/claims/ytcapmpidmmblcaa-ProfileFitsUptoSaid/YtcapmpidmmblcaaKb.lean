import Derived.Test.YtcapmpidmmblcaaKc
set_option linter.unusedVariables false
set_option linter.unusedSimpArgs false

namespace Go.Lite
open Go Go.Proofs
set_option linter.unusedVariables false
set_option linter.unusedSimpArgs false
set_option maxRecDepth 100000

/-! # step functions: the program -/
def cpv (c : Ct) : PV := .agg [I c.1, I c.2]
abbrev cuts (b : Bool) (l : List Ct) : PV := .list 3 b (l.map cpv)
theorem sl52 : SlTy Try.prog 52 54 3 16 := .of (by kernel_rfl) (by kernel_rfl) (by kernel_rfl) (by kernel_rfl) (by kernel_rfl) (by kernel_rfl)
@[simp] theorem ln52 (b : Bool) (l : List Ct) : (lenPV Try.prog 52 (cuts b l)).map (fun n => PV.sc (goInt n)) = some (I l.length) := by have := sl52.lenL (c := b) (xs := l.map cpv); simpa using this
@[simp] theorem ia52 (b : Bool) (l : List Ct) (i : Nat) : indexAddrPV Try.prog 52 (cuts b l) (I i) = (l[i]?).map (fun c => .ro 3 (cpv c)) := by rw [sl52.atL]; simp [Function.comp_def]
@[simp] theorem ia52z (b : Bool) (l : List Ct) : indexAddrPV Try.prog 52 (cuts b l) (I 0) = (l[0]?).map (fun c => .ro 3 (cpv c)) := ia52 b l 0
theorem y54 : layOf Try.prog 54 = some 3 := by kernel_rfl
theorem y2 : layOf Try.prog 2 = some 0 := by kernel_rfl
theorem y3 : layOf Try.prog 3 = some 0 := by kernel_rfl
theorem y52 : layOf Try.prog 52 = some 0 := by kernel_rfl
@[simp] theorem ld54 (d : PV) : loadPV Try.prog 54 (.ro 3 d) = some d := load_ro y54 d
@[simp] theorem ld2 (d : PV) : loadPV Try.prog 2 (.ro 0 d) = some d := load_ro y2 d
@[simp] theorem ld3 (d : PV) : loadPV Try.prog 3 (.ro 0 d) = some d := load_ro y3 d
@[simp] theorem ld52 (d : PV) : loadPV Try.prog 52 (.ro 0 d) = some d := load_ro y52 d
@[simp] theorem fa54a (c : Ct) : fieldAddrPV Try.prog 54 (.ro 3 (cpv c)) 0 = some (.ro 0 (I c.1)) := by kernel_rfl
@[simp] theorem fa54b (c : Ct) : fieldAddrPV Try.prog 54 (.ro 3 (cpv c)) 1 = some (.ro 0 (I c.2)) := by kernel_rfl
theorem putC (v : AV) (c : Ct) : putPV 3 0 3 v (cpv c) = some (cpv c) := by
  have h : (cpv c).hasLay 3 = true := rfl
  simp [putPV, h]
@[simp] theorem at30 (c : Ct) : PV.at_ 3 0 0 (cpv c) = some (I c.1) := nonrfl rfl
@[simp] theorem at31 (c : Ct) : PV.at_ 3 1 0 (cpv c) = some (I c.2) := nonrfl rfl
def tailO : Option Ct → List Ct → Bool
  | none, [] => true
  | none, c :: r => okC c && tailOK c r
  | some p, r => tailOK p r
section
variable {L m : Nat}
theorem idxPred {i : Nat} (h : 0 < i) : IntKind.i64.wrap ((i : Int) - 1) = ((i - 1 : Nat) : Int) ∨ 9223372036854775807 < i := by
  by_cases hi : 9223372036854775807 < i
  · exact .inr hi
  · left; rw [wrap64 (by omega) (by omega)]; omega
theorem l46 {R : Type} (C : Kallee) (kr : PV → Option R) (ke : Option R) (b : Bool) (s : List Ct) (hs : s.length ≤ 9223372036854775807) :
    ∀ (r : List Ct) (N i : Nat) (p : Option Ct), s.drop i = r → r.length < N → (match p with | none => i = 0 | some p => 0 < i ∧ s[i - 1]? = some p) → d46_1i C L kr ke N (cuts b s) (I s.length) (I i) = if tailO p r = true then ke else kr (Bo false) := by
  intro r
  induction r with
  | nil =>
    intro N i p h hN hp
    obtain ⟨N, rfl⟩ : ∃ n, N = n + 1 := ⟨N - 1, by omega⟩
    have := drop_nil' h
    have h2 : ¬ (i : Int) < s.length := by omega
    have : tailO p [] = true := by cases p <;> rfl
    simp [d46_1i, d46_2, h2, this]
  | cons c r ih =>
    intro N i p h hN hp
    obtain ⟨N, rfl⟩ : ∃ n, N = n + 1 := ⟨N - 1, by omega⟩
    obtain ⟨h1, h2, h3, h4⟩ := drop_cons' h
    have h5 : (i : Int) < s.length := by omega
    simp only [List.length_cons] at hN
    have hrec := ih N (i + 1) (some c) h3 (by omega) ⟨by omega, by simpa using h2⟩
    simp only [d46_1i, d46_2, lss_int, ob_some, cb_bool, decide_eq_true_eq, h5, if_true, ia52, h2, Option.map_some, ld54, putC, at30, at31, gtr_int, gcase_f, gcase_t]
    have hadd : binPV Try.prog .add 3 = binPV Try.prog .add 3 := rfl
    have hok : okC c = (!decide (2199023255552 < c.1) && !decide (c.2 < 0) && !decide (1073741824 < c.2)) := by
      simp only [okC, ← decide_not]
      congr 1; congr 1 <;> (rw [decide_eq_decide]; omega)
      rw [decide_eq_decide]; omega
    by_cases q1 : (2199023255552 : Int) < c.1
    · cases p <;> simp [q1, tailO, tailOK, hok]
    by_cases q2 : c.2 < 0
    · cases p <;> simp [q1, q2, tailO, tailOK, hok]
    by_cases q3 : 1073741824 < c.2
    · cases p <;> simp [q1, q2, q3, tailO, tailOK, hok]
    cases p with
    | none =>
      subst hp
      simp only [q1, q2, q3, if_false, Int.natCast_zero, Int.lt_irrefl, decide_false, Bool.false_eq_true, add_int, ob_some, Int.zero_add]
      rw [show IntKind.i64.wrap 1 = ((0 + 1 : Nat) : Int) from rfl, hrec]
      simp [tailO, hok, q1, q2, q3]
      rfl
    | some p =>
      obtain ⟨hi, hpi⟩ := hp
      have hi' : (0 : Int) < i := by omega
      have hpred : IntKind.i64.wrap ((i : Int) - 1) = ((i - 1 : Nat) : Int) := by rcases idxPred hi with h | h <;> omega
      simp only [q1, q2, q3, if_false, hi', decide_true, decide_false, Bool.false_eq_true, if_true, sub_int0, hpred, ob_some, ia52, hpi, Option.map_some, fa54a, fa54b, ld2, ld3, leq_int, eql_int, add_int, wrap_succ (show i < 9223372036854775807 by omega), hrec]
      by_cases q4 : c.1 ≤ p.1
      · have : ¬ p.1 < c.1 := by omega
        simp [q4, tailO, tailOK, this]
      · have : p.1 < c.1 := by omega
        by_cases q5 : c.2 = p.2
        · simp [q4, q5, tailO, tailOK]
        · have : ¬ p.2 = c.2 := fun h => q5 h.symm
          simp [q4, q5, tailO, tailOK, hok, q1, q2, q3, this, *]
          rfl
theorem c46 (hm : 2 ≤ m) (b : Bool) (s : List Ct) (hs : s.length ≤ 9223372036854775807) (hL : s.length < L) : callP Try.prog hh L m 46 [cuts b s] = some (Bo (rightS s)) := by
  obtain ⟨n, rfl⟩ : ∃ n, m = n + 1 + 1 := ⟨m - 2, by omega⟩
  refine callP_of (by kernel_rfl) ?_
  rw [r46]
  have := l46 (L := L) (kk L (n + 1)) (fun v => some v) (d46_3 (kk L (n + 1)) L) b s hs s L 0 none rfl hL rfl
  cases s with
  | nil =>
    simp only [d46_0, g46_0, ln52, ob_some, eql_int, List.length_nil, gcase_f, rightS]
    rfl
  | cons c r =>
    have h0 : ¬ (((c :: r).length : Nat) : Int) = 0 := by simp; omega
    simp only [d46_0, g46_0, d46_1, ln52, ob_some, eql_int, decide_eq_true_eq, h0, decide_false, gcase_f, Bool.false_eq_true, if_false, gtr_int, ia52z, List.getElem?_cons_zero, Option.map_some, fa54a, ld2, neq_int, cb_bool]
    rw [show (PV.sc (Value.int IntKind.i64 0)) = I ((0 : Nat) : Int) from rfl, this]
    by_cases q1 : (4096 : Int) < ((c :: r).length : Nat)
    · have : ¬ (c :: r).length ≤ 4096 := by omega
      simp only [q1, decide_true, if_true, rightS, this, decide_false, Bool.false_and]
    · have q1' : (c :: r).length ≤ 4096 := by omega
      by_cases q2 : c.1 = 0
      · simp only [q1, decide_false, Bool.false_eq_true, if_false, q2, ne_eq, not_true_eq_false, rightS, q1', decide_true, Bool.true_and, d46_3]
        have e : (okC c && tailOK c r) = tailO none (c :: r) := rfl
        rw [e]
        by_cases hq : tailO none (c :: r) = true
        · rw [if_pos hq, hq]
        · rw [if_neg hq, Bool.eq_false_iff.2 hq]
      · simp only [q1, decide_false, Bool.false_eq_true, if_false, q2, ne_eq, not_false_eq_true, decide_true, if_true, rightS, q1', Bool.true_and, Bool.false_and]
def winB (fr to : Int) : Bool := decide (0 ≤ fr) && decide (fr < to) && decide (to ≤ 2199023255552)
theorem c39 (hm : 2 ≤ m) (fr to : Int) : callP Try.prog hh L m 39 [I fr, I to] = some (Bo (winB fr to)) := by
  obtain ⟨n, rfl⟩ : ∃ n, m = n + 1 + 1 := ⟨m - 2, by omega⟩
  refine callP_of (by kernel_rfl) ?_
  rw [r39]
  simp only [d39_0, geq_int, lss_int, leq_int, ob_some, gcase_t, winB]
  by_cases q1 : 0 ≤ fr <;> by_cases q2 : fr < to <;> simp [q1, q2]
theorem c63 (hm : 3 ≤ m) (b : Bool) (s : List Ct) (hs : s.length ≤ 9223372036854775807) (hL : s.length < L) (fr to : Int) : callP Try.prog hh L m 63 [cuts b s, I fr, I to] = some (Bo (winB fr to && rightS s)) := by
  obtain ⟨n, rfl⟩ : ∃ n, m = n + 1 + 1 := ⟨m - 2, by omega⟩
  refine callP_of (by kernel_rfl) ?_
  rw [r63]
  simp only [d63_0, geq_int, lss_int, leq_int, ob_some, gcase_t, winB, callD_clo, List.nil_append, List.append_nil, c46 (L := L) (show 2 ≤ n + 1 by omega) b s hs hL]
  by_cases q1 : 0 ≤ fr <;> by_cases q2 : fr < to <;> by_cases q3 : to ≤ 2199023255552 <;> simp [q1, q2, q3]
/-! ## where a time is -/
theorem conv383 (n : Int) : convPV Try.prog 3 83 (I n) = some (.sc (.int .u64 (IntKind.u64.wrap n))) := by kernel_rfl
theorem conv833 (n : Int) : convPV Try.prog 83 3 (.sc (.int .u64 n)) = some (I (IntKind.i64.wrap n)) := by kernel_rfl
theorem wrapu64 {n : Int} (h : 0 ≤ n) (h' : n < 18446744073709551616) : IntKind.u64.wrap n = n := by
  have e1 : (2 ^ IntKind.u64.bits : Int) = 18446744073709551616 := by rfl
  have e3 : IntKind.u64.signed = false := rfl
  simp only [IntKind.wrap, e1, e3, Bool.false_and]
  simp; omega
theorem shr1 (t : TypeId) (x y : Operand) (a : Nat) : binPV Try.prog .shr t x y (.sc (.int .u64 (a : Int))) (.sc (.int .u64 1)) = some (.sc (.int .u64 ((a / 2 : Nat) : Int))) := by
  have h1 : pureRun Try.prog (Op.shift .shr .u64 (a : Int) .u64 1) = some (.int .u64 ((a : Int).fdiv (2 ^ (min (1 : Int).toNat 64)))) := rfl
  have h3 : (a : Int).fdiv (2 ^ (min (1 : Int).toNat 64)) = ((a / 2 : Nat) : Int) := by
    rw [Int.fdiv_eq_ediv_of_nonneg _ (by exact Int.pow_nonneg (by decide))]
    rfl
  rw [h3] at h1
  simp [binPV, PV.plain?, eqGuard, binOp, h1]
theorem l94 {R : Type} (C : Kallee) (ke : PV → Option R) (d : PV) (n k : Nat) (hn : n ≤ 4611686018427387904) (hd : ∀ i, i < n → callD C.pure d [I (i : Nat)] 0 = some (Bo (decide (k ≤ i)))) :
    ∀ (N i j : Nat), i ≤ k → k ≤ j → j ≤ n → j - i < N → d94_1i C L ke N d (I i) (I j) = ke (I k) := by
  intro N
  induction N with
  | zero => intro i j _ _ _ h; omega
  | succ N ih =>
    intro i j h1 h2 h3 h4
    by_cases hij : i < j
    · have e1 : (i : Int) < j := by omega
      have e2 : IntKind.i64.wrap ((i : Int) + j) = ((i + j : Nat) : Int) := by rw [wrap64 (by omega) (by omega)]; omega
      have e3 : IntKind.u64.wrap ((i + j : Nat) : Int) = ((i + j : Nat) : Int) := wrapu64 (by omega) (by omega)
      have e4 : IntKind.i64.wrap (((i + j) / 2 : Nat) : Int) = (((i + j) / 2 : Nat) : Int) := wrap64 (by omega) (by omega)
      have hh' := hd ((i + j) / 2) (by omega)
      simp only [d94_1i, d94_2, lss_int, ob_some, cb_bool, decide_eq_true_eq, e1, if_true, add_int, e2, conv383, e3, shr1, conv833, e4, hh', not_bool]
      by_cases hk : k ≤ (i + j) / 2
      · simp only [hk, decide_true, Bool.not_true, Bool.false_eq_true, if_false]
        exact ih i ((i + j) / 2) h1 hk (by omega) (by omega)
      · simp only [hk, decide_false, Bool.not_false, if_true]
        rw [wrap_succ (by omega)]
        exact ih ((i + j) / 2 + 1) j (by omega) h2 h3 (by omega)
    · have e1 : ¬ (i : Int) < j := by omega
      have : i = k := by omega
      subst this
      simp [d94_1i, d94_2, e1]
theorem c94 (hm : 2 ≤ m) (d : PV) (n k : Nat) (hn : n ≤ 4611686018427387904) (hk : k ≤ n) (hL : n < L) (hd : ∀ q, m ≤ q + 1 → ∀ i, i < n → callD (callP Try.prog hh L q) d [I (i : Nat)] 0 = some (Bo (decide (k ≤ i)))) :
    callP Try.prog hh L m 94 [I n, d] = some (I k) := by
  obtain ⟨p, rfl⟩ : ∃ n, m = n + 1 + 1 := ⟨m - 2, by omega⟩
  refine callP_of (by kernel_rfl) ?_
  rw [r94]
  simp only [d94_0, g94_0, d94_1]
  rw [show (PV.sc (Value.int IntKind.i64 0)) = I ((0 : Nat) : Int) from rfl, l94 (L := L) (kk L (p + 1)) _ d n k hn (hd (p + 1) (by omega)) L 0 n (by omega) hk (Nat.le_refl _) (by omega)]
  simp [d94_3]
theorem up_spec : ∀ {s : List Ct} {t : Int}, s.Pairwise (fun a b => a.1 < b.1) → up s t ≤ s.length ∧ ∀ (i : Nat) (c : Ct), s[i]? = some c → (decide (t < c.1)) = decide (up s t ≤ i)
  | [], t, _ => by simp [up]
  | c :: r, t, h => by
    obtain ⟨h1, h2⟩ := List.pairwise_cons.1 h
    by_cases hc : c.1 ≤ t
    · rw [up_cons hc]
      obtain ⟨i1, i2⟩ := up_spec (t := t) h2
      refine ⟨by simpa using i1, fun i x hx => ?_⟩
      cases i with
      | zero => simp at hx; subst hx; simp; omega
      | succ i => simp at hx; rw [i2 i x hx, decide_eq_decide]; omega
    · rw [up_none hc]
      refine ⟨by omega, fun i x hx => ?_⟩
      have : t < x.1 := by
        cases i with
        | zero => simp at hx; subst hx; omega
        | succ i => simp at hx; have := h1 x (List.mem_of_getElem? hx); omega
      simp [this]
theorem c95 (hm : 2 ≤ m) (b : Bool) (s : List Ct) (t : Int) (i : Nat) (c : Ct) (hc : s[i]? = some c) : callP Try.prog hh L m 95 [I (i : Nat), .ro 0 (cuts b s), .ro 0 (I t)] = some (Bo (decide (t < c.1))) := by
  obtain ⟨n, rfl⟩ : ∃ n, m = n + 1 + 1 := ⟨m - 2, by omega⟩
  refine callP_of (by kernel_rfl) ?_
  rw [r95]
  simp only [d95_0, ld52, ob_some, ia52, hc, Option.map_some, fa54a, ld2, gtr_int]
@[simp] theorem hl0I (n : Int) : PV.hasLay 0 (I n) = true := rfl
@[simp] theorem hl0c (b : Bool) (s : List Ct) : PV.hasLay 0 (cuts b s) = true := rfl
theorem callD1 (cp : FuncId → List PV → Option PV) (g : FuncId) (a b xs : List PV) (n : Int) (h : cp g (a ++ xs ++ b) = some (I n)) : callD cp (.clo g a b) xs 1 = some (I n) := by
  simp only [callD, h]; rfl
theorem c85 (hm : 4 ≤ m) (b : Bool) (s : List Ct) (t : Int) (hr : s.Pairwise (fun a b => a.1 < b.1)) (hs : s.length ≤ 4611686018427387904) (hL : s.length < L) : callP Try.prog hh L m 85 [cuts b s, I t] = some (I ((up s t : Int) - 1)) := by
  obtain ⟨n, rfl⟩ : ∃ n, m = n + 1 + 1 := ⟨m - 2, by omega⟩
  refine callP_of (by kernel_rfl) ?_
  rw [r85]
  obtain ⟨h1, h2⟩ := up_spec (t := t) hr
  have := c94 (L := L) (m := n + 1) (by omega) (.clo 95 [] [.ro 0 (cuts b s), .ro 0 (I t)]) s.length (up s t) hs h1 hL (fun q hq i hi => by
    rw [callD_clo]
    have hc : s[i]? = some s[i] := List.getElem?_eq_getElem hi
    simp only [List.nil_append, List.cons_append, c95 (L := L) (m := q) (by omega) b s t i _ hc]
    rw [h2 i _ hc])
  simp only [d85_0, hl0c, hl0I, ck_true, ln52, ob_some]
  rw [callD1 _ _ _ _ _ (up s t) (by simpa using this)]
  simp only [ob_some, sub_int0]
  rw [wrap64 (by omega) (by omega)]
theorem l64 {R : Type} (C : Kallee) (ke : PV → Option R) (b : Bool) (s : List Ct) (to : Int) (hs : s.length ≤ 9223372036854775807) :
    ∀ (r : List Ct) (N i : Nat) (v : Int), s.drop i = r → r.length < N → d64_1i C L ke N (I to) (I v) (cuts b s) (I s.length) (I i) = ke (I (walkMin v to r)) := by
  intro r
  induction r with
  | nil =>
    intro N i v h hN
    obtain ⟨N, rfl⟩ : ∃ n, N = n + 1 := ⟨N - 1, by omega⟩
    have := drop_nil' h
    have h2 : ¬ (i : Int) < s.length := by omega
    simp [d64_1i, d64_2, h2, walkMin]
  | cons c r ih =>
    intro N i v h hN
    obtain ⟨N, rfl⟩ : ∃ n, N = n + 1 := ⟨N - 1, by omega⟩
    obtain ⟨h1, h2, h3, h4⟩ := drop_cons' h
    have h5 : (i : Int) < s.length := by omega
    simp only [List.length_cons] at hN
    have hmin : minPV Try.prog [I v, I c.2] = some (I (min v c.2)) := by
      have : pureRun Try.prog (Builtin.min_ #[] 0 #[Value.int .i64 v, Value.int .i64 c.2]) = some (.int .i64 (if c.2 < v then c.2 else v)) := rfl
      simp [minPV, PV.scalar?, this]
      omega
    simp only [d64_1i, d64_2, lss_int, ob_some, cb_bool, decide_eq_true_eq, h5, if_true, ia52, h2, Option.map_some, ld54, putC, at30, at31, geq_int, hmin, add_int, wrap_succ (show i < 9223372036854775807 by omega), ih N (i + 1) _ h3 (by omega), walkMin]
    split <;> rfl
theorem c64 (hm : 5 ≤ m) (b : Bool) (s : List Ct) (fr to : Int) (hr : rightS s = true) (hf : 0 ≤ fr) (hft : fr < to) (hL : s.length < L) : callP Try.prog hh L m 64 [cuts b s, I fr, I to] = some (I (leastR s fr to)) := by
  obtain ⟨n, rfl⟩ : ∃ n, m = n + 1 + 1 := ⟨m - 2, by omega⟩
  refine callP_of (by kernel_rfl) ?_
  rw [r64]
  rw [← least_eq hr hf hft]
  obtain ⟨c, r, rfl, hc, hri, _, hlen⟩ := rightS_cons hr
  have h85 := c85 (L := L) (m := n + 1) (by omega) b (c :: r) fr hri (by omega) hL
  have hup : 1 ≤ up (c :: r) fr := by rw [up_cons (by omega)]; omega
  have hule := (up_spec (t := fr) hri).1
  have e1 : ((up (c :: r) fr : Int) - 1) = ((up (c :: r) fr - 1 : Nat) : Int) := by omega
  rw [e1] at h85
  obtain ⟨i, hi⟩ : ∃ i, up (c :: r) fr - 1 = i := ⟨_, rfl⟩
  rw [hi] at h85
  have hil : i < (c :: r).length := by omega
  have hd : (c :: r).drop i = (c :: r)[i] :: (c :: r).drop (i + 1) := List.drop_eq_getElem_cons hil
  have hsl : slicePVd Try.prog 52 (cuts b (c :: r)) (some (I i)) none none = some (cuts b ((c :: r).drop i)) := by
    have := sl52.from (c := b) (xs := (c :: r).map cpv) (i := i) (by simp at hil ⊢; omega)
    rw [this]; simp
  simp only [d64_0, g64_0, d64_1, callD_clo, List.nil_append, List.append_nil, h85, ob_some, ia52, List.getElem?_eq_getElem hil, Option.map_some, fa54b, ld3, hsl, ln52]
  rw [show (PV.sc (Value.int IntKind.i64 0)) = I ((0 : Nat) : Int) from rfl, l64 (L := L) (kk L (n + 1)) _ b ((c :: r).drop i) to (by rw [List.length_drop]; omega) ((c :: r).drop i) L 0 _ rfl (by rw [List.length_drop]; omega)]
  simp only [d64_3, leastP, hi]
  rw [hd]
theorem c42 (hm : 6 ≤ m) (b : Bool) (s : List Ct) (fr to : Int) (hs : s.length ≤ 9223372036854775807) (hL : s.length < L) : callP Try.prog hh L m 42 [cuts b s, I fr, I to] = some (if (winB fr to && rightS s) = true then .tup [I (leastR s fr to), I 0] else .tup [I 0, I 2]) := by
  obtain ⟨n, rfl⟩ : ∃ n, m = n + 1 + 1 := ⟨m - 2, by omega⟩
  refine callP_of (by kernel_rfl) ?_
  rw [r42]
  simp only [d42_0, callD_clo, List.nil_append, List.append_nil, c63 (L := L) (show 3 ≤ n + 1 by omega) b s hs hL fr to, ob_some, not_bool, cb_bool]
  cases hw : (winB fr to && rightS s) with
  | false => simp
  | true =>
    have hw' := hw
    simp only [winB, Bool.and_eq_true, decide_eq_true_eq] at hw'
    simp only [Bool.not_true, Bool.false_eq_true, if_false, if_true, c64 (L := L) (show 5 ≤ n + 1 by omega) b s fr to hw'.2 hw'.1.1.1 hw'.1.1.2 hL, ob_some]
end
end Go.Lite

namespace Go.Lite
open Go Go.Proofs
set_option linter.unusedVariables false
set_option linter.unusedSimpArgs false
set_option maxRecDepth 100000

/-! # words of 32 bits -/
abbrev U (a : Nat) : PV := .sc (.int .u32 (a : Int))
theorem wrapU {n : Int} (h : 0 ≤ n) (h' : n < 4294967296) : IntKind.u32.wrap n = n := by
  have e1 : (2 ^ IntKind.u32.bits : Int) = 4294967296 := by rfl
  have e3 : IntKind.u32.signed = false := rfl
  simp only [IntKind.wrap, e1, e3, Bool.false_and]
  simp; omega
theorem ofInt_nat (a : Nat) : BitVec.ofInt IntKind.u32.bits (a : Int) = BitVec.ofNat 32 a := by
  show BitVec.ofInt 32 (a : Int) = _
  exact BitVec.ofInt_natCast 32 a
section
variable (Q : Program) (t : TypeId) (x y : Operand)
theorem and_u (a b : Nat) (ha : a < 2 ^ 32) (hb : b < 2 ^ 32) : binPV Q .and t x y (U a) (U b) = some (U (a &&& b)) := by
  have h : pureRun Q (Op.intBits .and .u32 (a : Int) (b : Int)) = some (.int .u32 (IntKind.u32.wrap ((BitVec.ofInt IntKind.u32.bits (a : Int) &&& BitVec.ofInt IntKind.u32.bits (b : Int)).toNat : Int))) := rfl
  have h2 : (BitVec.ofInt IntKind.u32.bits (a : Int) &&& BitVec.ofInt IntKind.u32.bits (b : Int)).toNat = a &&& b := by
    rw [ofInt_nat, ofInt_nat]
    show (BitVec.ofNat 32 a &&& BitVec.ofNat 32 b).toNat = _
    rw [BitVec.toNat_and, BitVec.toNat_ofNat, BitVec.toNat_ofNat, Nat.mod_eq_of_lt ha, Nat.mod_eq_of_lt hb]
  have hle : a &&& b ≤ a := Nat.and_le_left
  rw [h2, wrapU (by omega) (by omega)] at h
  simp [binPV, PV.plain?, eqGuard, binOp, h]
theorem or_u (a b : Nat) (ha : a < 2 ^ 32) (hb : b < 2 ^ 32) : binPV Q .or t x y (U a) (U b) = some (U (a ||| b)) := by
  have h : pureRun Q (Op.intBits .or .u32 (a : Int) (b : Int)) = some (.int .u32 (IntKind.u32.wrap ((BitVec.ofInt IntKind.u32.bits (a : Int) ||| BitVec.ofInt IntKind.u32.bits (b : Int)).toNat : Int))) := rfl
  have h2 : (BitVec.ofInt IntKind.u32.bits (a : Int) ||| BitVec.ofInt IntKind.u32.bits (b : Int)).toNat = a ||| b := by
    rw [ofInt_nat, ofInt_nat]
    show (BitVec.ofNat 32 a ||| BitVec.ofNat 32 b).toNat = _
    rw [BitVec.toNat_or, BitVec.toNat_ofNat, BitVec.toNat_ofNat, Nat.mod_eq_of_lt ha, Nat.mod_eq_of_lt hb]
  have hle : a ||| b < 2 ^ 32 := Nat.or_lt_two_pow ha hb
  rw [h2, wrapU (by omega) (by omega)] at h
  simp [binPV, PV.plain?, eqGuard, binOp, h]
theorem andNot_u (a b : Nat) (ha : a < 2 ^ 32) (hb : b < 2 ^ 32) : binPV Q .andNot t x y (U a) (U b) = some (U (a &&& (2 ^ 32 - 1 - b))) := by
  have h : pureRun Q (Op.intBits .andNot .u32 (a : Int) (b : Int)) = some (.int .u32 (IntKind.u32.wrap ((BitVec.ofInt IntKind.u32.bits (a : Int) &&& ~~~ BitVec.ofInt IntKind.u32.bits (b : Int)).toNat : Int))) := rfl
  have h2 : (BitVec.ofInt IntKind.u32.bits (a : Int) &&& ~~~ BitVec.ofInt IntKind.u32.bits (b : Int)).toNat = a &&& (2 ^ 32 - 1 - b) := by
    rw [ofInt_nat, ofInt_nat]
    show (BitVec.ofNat 32 a &&& ~~~ BitVec.ofNat 32 b).toNat = _
    rw [BitVec.toNat_and, BitVec.toNat_not, BitVec.toNat_ofNat, BitVec.toNat_ofNat, Nat.mod_eq_of_lt ha, Nat.mod_eq_of_lt hb]
  have hle : a &&& (2 ^ 32 - 1 - b) ≤ a := Nat.and_le_left
  rw [h2, wrapU (by omega) (by omega)] at h
  simp [binPV, PV.plain?, eqGuard, binOp, h]
theorem quo_u (a : Nat) (ha : a < 2 ^ 32) : binPV Q .quo t x y (U a) (.sc (.int .u32 2)) = some (U (a / 2)) := by
  have h : pureRun Q (Op.intDiv .quo .u32 (a : Int) 2) = some (.int .u32 (IntKind.u32.wrap ((a : Int).tdiv 2))) := rfl
  have h2 : (a : Int).tdiv 2 = ((a / 2 : Nat) : Int) := by rw [Int.tdiv_eq_ediv_of_nonneg (by omega)]; omega
  rw [h2, wrapU (by omega) (by omega)] at h
  simp [binPV, PV.plain?, eqGuard, binOp, h]
theorem rem_u (a : Nat) : binPV Q .rem t x y (U a) (.sc (.int .u32 2)) = some (U (a % 2)) := by
  have h : pureRun Q (Op.intDiv .rem .u32 (a : Int) 2) = some (.int .u32 ((a : Int).tmod 2)) := rfl
  have h2 : (a : Int).tmod 2 = ((a % 2 : Nat) : Int) := by rw [Int.tmod_eq_emod_of_nonneg (by omega)]; omega
  rw [h2] at h
  simp [binPV, PV.plain?, eqGuard, binOp, h]
theorem mul_u (a : Nat) (ha : a * 2 < 2 ^ 32) : binPV Q .mul t x y (U a) (.sc (.int .u32 2)) = some (U (a * 2)) := by
  have h : pureRun Q (Op.intArith .mul .u32 (a : Int) 2) = some (.int .u32 (IntKind.u32.wrap ((a : Int) * 2))) := rfl
  rw [wrapU (by omega) (by omega), show (a : Int) * 2 = ((a * 2 : Nat) : Int) by omega] at h
  simp [binPV, PV.plain?, eqGuard, binOp, h]
theorem add_u (a b : Nat) (ha : a + b < 2 ^ 32) : binPV Q .add t x y (U a) (U b) = some (U (a + b)) := by
  rw [add_int, wrapU (by omega) (by omega)]
  rw [show (a : Int) + b = ((a + b : Nat) : Int) by omega]
theorem shl_u (i : Nat) (h : i < 32) : binPV Q .shl t x y (.sc (.int .u32 1)) (I i) = some (U (2 ^ i)) := by
  have h1 : pureRun Q (Op.shift .shl .u32 1 .i64 (i : Int)) = some (.int .u32 (IntKind.u32.wrap (1 * 2 ^ (min (i : Int).toNat 32)))) := by
    have : ¬ (i : Int) < 0 := by omega
    simp only [Op.shift, this, if_false]; rfl
  have h2 : (2 : Nat) ^ i < 2 ^ 32 := Nat.pow_lt_pow_right (by decide) h
  have h3 : (1 * 2 ^ (min (i : Int).toNat 32) : Int) = ((2 ^ i : Nat) : Int) := by
    have : min (i : Int).toNat 32 = i := by omega
    rw [this]; simp
  have h4 : IntKind.u32.wrap (1 * 2 ^ (min (i : Int).toNat 32)) = ((2 ^ i : Nat) : Int) := by
    rw [h3]; exact wrapU (by exact Int.natCast_nonneg _) (by omega)
  rw [h4] at h1
  simp [binPV, PV.plain?, eqGuard, binOp]
  rw [wrapU (by exact Int.pow_nonneg (by decide)) (by have : ((2:Int)^i) = ((2^i : Nat):Int) := by simp
                                                      rw [this]; omega)]; rfl
theorem shr_u (a i : Nat) (h : i < 32) : binPV Q .shr t x y (U a) (I i) = some (U (a / 2 ^ i)) := by
  have h1 : pureRun Q (Op.shift .shr .u32 (a : Int) .i64 (i : Int)) = some (.int .u32 ((a : Int).fdiv (2 ^ (min (i : Int).toNat 32)))) := by
    have : ¬ (i : Int) < 0 := by omega
    simp only [Op.shift, this, if_false]; rfl
  have h3 : (a : Int).fdiv (2 ^ (min (i : Int).toNat 32)) = ((a / 2 ^ i : Nat) : Int) := by
    have : min (i : Int).toNat 32 = i := by omega
    rw [this, Int.fdiv_eq_ediv_of_nonneg _ (by exact Int.pow_nonneg (by decide))]
    simp
  rw [h3] at h1
  simp [binPV, PV.plain?, eqGuard, binOp]
  rfl
end

/-- the sum of the bits that are so, below k -/
def bits (p : Nat → Bool) : Nat → Nat
  | 0 => 0
  | k + 1 => bits p k + (if p k then 2 ^ k else 0)
theorem bits_lt (p : Nat → Bool) : ∀ k, bits p k < 2 ^ k := by
  intro k
  induction k with
  | zero => simp [bits]
  | succ k ih => simp only [bits]; rw [Nat.pow_succ]; split <;> omega
theorem bits_or (p : Nat → Bool) (k : Nat) : bits p k ||| 2 ^ k = bits p k + 2 ^ k := by
  have := Nat.two_pow_add_eq_or_of_lt (bits_lt p k) 1
  rw [Nat.mul_one] at this
  rw [Nat.or_comm, ← this, Nat.add_comm]
theorem bits_testBit (p : Nat → Bool) : ∀ (k i : Nat), (bits p k).testBit i = (decide (i < k) && p i) := by
  intro k
  induction k with
  | zero => intro i; simp [bits]
  | succ k ih =>
    intro i
    simp only [bits]
    by_cases hp : p k = true
    · simp only [hp, if_true]
      rw [← bits_or, Nat.testBit_or, ih, Nat.testBit_two_pow]
      by_cases hik : k = i
      · subst hik; simp [hp]
      · by_cases h1 : i < k
        · simp [h1, hik, show i < k + 1 by omega]
        · simp [h1, hik, show ¬ i < k + 1 by omega]
    · simp only [hp, Bool.false_eq_true, if_false, Nat.add_zero]
      rw [ih]
      by_cases hik : k = i
      · subst hik; simp [hp]
      · by_cases h1 : i < k
        · simp [h1, show i < k + 1 by omega]
        · simp [h1, show ¬ i < k + 1 by omega]
/-! # the reference's sets -/
theorem u50 : Try.prog.underlying 50 = some (.slice 3) := by kernel_rfl
@[simp] theorem ia50 (c : Bool) (xs : List PV) (i : Nat) : indexAddrPV Try.prog 50 (.list 0 c xs) (I i) = (xs[i]?).map (.ro 0) := indexAddr_list u50 y3 c xs i
@[simp] theorem ln50 (c : Bool) (xs : List PV) : (lenPV Try.prog 50 (.list 0 c xs)).map (fun n => PV.sc (goInt n)) = some (I xs.length) := len_list u50 c xs
theorem inf3 : (Try.prog.info? 3).map (·.bytes) = some 8 := by kernel_rfl
theorem zero3 : zeroPV Try.prog 3 = some (I 0) := by kernel_rfl
theorem app50 (xs ys : List PV) (c : Bool) (h : (xs.length + ys.length) * 8 ≤ appendRoom) : appendTo Try.prog 50 50 0 xs (.list 0 c ys) = some (xs ++ ys) := by
  have := inf3
  cases hi : Try.prog.info? 3 with
  | none => rw [hi] at this; simp at this
  | some i =>
    rw [hi] at this
    simp only [Option.map_some, Option.some.injEq] at this
    have hz : PV.hasLay 0 (I 0) = true := rfl
    simp [appendTo, u50, y3, hi, zero3, this, hz, width, layPV, elemsPV?, h]
theorem bs50 (s : Int) : buildSliceAV Try.prog 50 1 [(0, I s)] = some (.list 0 true [I s]) := by
  simp [buildSliceAV, u50, y3, zero3, width, PV.hasLay, PV.isCell, setAll]

section
variable {L m : Nat}
theorem l50 {R : Type} (C : Kallee) (ke : PV → PV → Option R) (i : Nat) (hi : i ≤ 32) : ∀ (d N k s : Nat), k + d = i → d < N → s < 2 ^ 32 → d50_1i C L ke N (U s) (I i) (I k) = ke (U (s / 2 ^ d)) (I i) := by
  intro d
  induction d with
  | zero =>
    intro N k s h hN hs
    obtain ⟨N, rfl⟩ : ∃ n, N = n + 1 := ⟨N - 1, by omega⟩
    have h2 : ¬ (k : Int) < i := by omega
    simp [d50_1i, d50_2, h2]
  | succ d ih =>
    intro N k s h hN hs
    obtain ⟨N, rfl⟩ : ∃ n, N = n + 1 := ⟨N - 1, by omega⟩
    have h5 : (k : Int) < i := by omega
    have := ih N (k + 1) (s / 2) (by omega) (by omega) (by omega)
    simp only [d50_1i, d50_2, lss_int, ob_some, cb_bool, decide_eq_true_eq, h5, if_true, quo_u _ _ _ _ _ hs, add_int, wrap_succ (show k < 9223372036854775807 by omega), this]
    rw [Nat.div_div_eq_div_mul, Nat.pow_succ, Nat.mul_comm]
/-- Has -/
theorem c50 (hm : 2 ≤ m) (hL : 40 < L) (s i : Nat) (hs : s < 2 ^ 32) (hi : i < 32) : callP Try.prog hh L m 50 [U s, I i] = some (Bo (s.testBit i)) := by
  obtain ⟨n, rfl⟩ : ∃ n, m = n + 1 + 1 := ⟨m - 2, by omega⟩
  refine callP_of (by kernel_rfl) ?_
  rw [r50]
  have := l50 (L := L) (kk L (n + 1)) (fun v w => d50_3 (kk L (n + 1)) L v w) i (by omega) i L 0 s (by omega) (by omega) hs
  simp only [d50_0, g50_0, d50_1]
  rw [show (PV.sc (Value.int IntKind.i64 0)) = I ((0 : Nat) : Int) from rfl, this]
  have e1 : (0 : Int) ≤ i := by omega
  have e2 : (i : Int) < 32 := by omega
  have e3 : (((s / 2 ^ i % 2 : Nat) : Int) = 1) = (s / 2 ^ i % 2 = 1) := by apply propext; omega
  simp only [d50_3, geq_int, ob_some, gcase_t, e1, lss_int, e2, rem_u, eql_int, decide_true, if_true, Nat.testBit_eq_decide_div_mod_eq, e3]
theorem l68 {R : Type} (C : Kallee) (ke : PV → Option R) (i : Nat) (hi : i < 32) : ∀ (d N k : Nat), k + d = i → d < N → d68_1i C L ke N (I i) (U (2 ^ k)) (I k) = ke (U (2 ^ i)) := by
  intro d
  induction d with
  | zero =>
    intro N k h hN
    obtain ⟨N, rfl⟩ : ∃ n, N = n + 1 := ⟨N - 1, by omega⟩
    have h2 : ¬ (k : Int) < i := by omega
    have : k = i := by omega
    subst this
    simp [d68_1i, d68_2]
  | succ d ih =>
    intro N k h hN
    obtain ⟨N, rfl⟩ : ∃ n, N = n + 1 := ⟨N - 1, by omega⟩
    have h5 : (k : Int) < i := by omega
    have := ih N (k + 1) (by omega) (by omega)
    have hp : (2 : Nat) ^ (k + 1) < 2 ^ 32 := Nat.pow_lt_pow_right (by decide) (by omega)
    simp only [d68_1i, d68_2, lss_int, ob_some, cb_bool, decide_eq_true_eq, h5, if_true, mul_u _ _ _ _ (2 ^ k) (by rw [Nat.pow_succ] at hp; exact hp), add_int, wrap_succ (show k < 9223372036854775807 by omega)]
    rw [← Nat.pow_succ, this]
theorem c68 (hm : 2 ≤ m) (hL : 40 < L) (i : Nat) (hi : i < 32) : callP Try.prog hh L m 68 [I i] = some (U (2 ^ i)) := by
  obtain ⟨n, rfl⟩ : ∃ n, m = n + 1 + 1 := ⟨m - 2, by omega⟩
  refine callP_of (by kernel_rfl) ?_
  rw [r68]
  have := l68 (L := L) (kk L (n + 1)) (fun v => d68_3 (kk L (n + 1)) L v) i hi i L 0 (by omega) (by omega)
  simp only [d68_0, g68_0, d68_1]
  rw [show (PV.sc (Value.int IntKind.i64 0)) = I ((0 : Nat) : Int) from rfl, show (PV.sc (Value.int IntKind.u32 1)) = U (2 ^ 0) from rfl, this]
  rfl
/-- the bits that are so, as a list -/
def ons (p : Nat → Bool) (k : Nat) : List Nat := (List.range k).filter p
theorem ons_succ (p : Nat → Bool) (k : Nat) : ons p (k + 1) = if p k then ons p k ++ [k] else ons p k := by
  simp only [ons, List.range_succ, List.filter_append]
  cases hp : p k <;> simp [hp]
theorem ons_len (p : Nat → Bool) (k : Nat) : (ons p k).length ≤ k := by
  unfold ons
  have := List.length_filter_le p (List.range k)
  simpa using this
abbrev ints (c : Bool) (l : List Nat) : PV := .list 0 c (l.map fun i => I (i : Nat))
def sumB (l : List Nat) : Nat := (l.map (2 ^ ·)).sum
theorem bits_sum (p : Nat → Bool) : ∀ k, sumB (ons p k) = bits p k := by
  intro k
  induction k with
  | zero => rfl
  | succ k ih =>
    rw [ons_succ]
    simp only [bits]
    split
    · simp only [sumB, List.map_append, List.sum_append] at ih ⊢
      rw [ih]; simp
    · rw [ih]; simp
/-- Of, of what rises -/
theorem l51 {R : Type} (n : Nat) (hn : 2 ≤ n) (hL : 40 < L) (kr : PV → PV → Option R) (ke : PV → Option R) (c : Bool) (l : List Nat) (hlen : l.length ≤ 32) (hr : l.Pairwise (· < ·)) (hb : ∀ x ∈ l, x < 32) :
    ∀ (r : List Nat) (N i s : Nat), l.drop i = r → r.length < N → (∀ x ∈ r, s < 2 ^ x) → d51_1i (kk L n) L kr ke N (ints c l) (U s) (I i) = ke (U (s + sumB r)) := by
  intro r
  induction r with
  | nil =>
    intro N i s h hN hs
    obtain ⟨N, rfl⟩ : ∃ n, N = n + 1 := ⟨N - 1, by omega⟩
    have := drop_nil' h
    have h2 : ¬ (i : Int) < l.length := by omega
    simp [-goI, d51_1i, d51_2, h2, sumB]
  | cons a r ih =>
    intro N i s h hN hs
    obtain ⟨N, rfl⟩ : ∃ n, N = n + 1 := ⟨N - 1, by omega⟩
    obtain ⟨h1, h2, h3, h4⟩ := drop_cons' h
    have h5 : (i : Int) < l.length := by omega
    simp only [List.length_cons] at hN
    have ha := hb a h4
    have hsa := hs a (by simp)
    have hpa : (2 : Nat) ^ (a + 1) ≤ 2 ^ 32 := Nat.pow_le_pow_right (by decide) ha
    have hpa' : (2 : Nat) ^ (a + 1) = 2 * 2 ^ a := by rw [Nat.pow_succ]; omega
    have hrise : ∀ x ∈ r, a < x := by
      have := hr.sublist (List.drop_sublist i l)
      rw [h] at this
      exact (List.pairwise_cons.1 this).1
    have hrec := ih N (i + 1) (s + 2 ^ a) h3 (by omega) (fun x hx => by
      have := hrise x hx
      have h9 : (2 : Nat) ^ (a + 1) ≤ 2 ^ x := Nat.pow_le_pow_right (by decide) this
      omega)
    have q1 : ¬ (a : Int) < 0 := by omega
    have q2 : ¬ (31 : Int) < a := by omega
    have ht : s.testBit a = false := Nat.testBit_lt_two_pow hsa
    simp only [d51_1i, d51_2, ln50, List.length_map, lss_int, ob_some, cb_bool, decide_eq_true_eq, h5, if_true, ia50, List.getElem?_map, h2, Option.map_some, ld3, q1, decide_false, gcase_f, gtr_int, q2, Bool.false_eq_true, if_false,
      callD_clo, List.nil_append, List.append_nil, c50 (L := L) hn hL s a (by omega) ha, c68 (L := L) hn hL a ha, ht, not_bool, Bool.not_false, add_u _ _ _ _ s (2 ^ a) (by omega)]
    rw [add_int, wrap_succ (show i < 9223372036854775807 by omega)]
    simp only [ob_some, hrec, sumB, List.map_cons, List.sum_cons]
    rw [Nat.add_assoc]
theorem c51 (hm : 3 ≤ m) (hL : 40 < L) (c : Bool) (p : Nat → Bool) (k : Nat) (hk : k ≤ 32) : callP Try.prog hh L m 51 [ints c (ons p k)] = some (.tup [U (bits p k), I 0]) := by
  obtain ⟨n, rfl⟩ : ∃ n, m = n + 1 + 1 := ⟨m - 2, by omega⟩
  refine callP_of (by kernel_rfl) ?_
  rw [r51]
  have hlen := ons_len p k
  have := l51 (L := L) (n + 1) (by omega) hL (fun v w => some (.tup [v, w])) (fun v => d51_3 (kk L (n + 1)) L v) c (ons p k) (by omega) ((List.pairwise_lt_range).filter p) (fun x hx => by
    simp only [ons, List.mem_filter, List.mem_range] at hx; omega) (ons p k) L 0 0 rfl (by omega) (fun x _ => Nat.two_pow_pos x)
  simp only [d51_0, g51_0, d51_1]
  rw [show (PV.sc (Value.int IntKind.i64 0)) = I ((0 : Nat) : Int) from rfl, show (PV.sc (Value.int IntKind.u32 0)) = U 0 from rfl, this]
  simp [d51_3, bits_sum]
/-- Within, both -/
theorem within_bits (a b : Nat) (ha : a < 2 ^ 32) (hb : b < 2 ^ 32) : (a &&& (2 ^ 32 - 1 - b) = 0) ↔ ∀ i, i < 32 → a.testBit i = true → b.testBit i = true := by
  have hc : ∀ i, i < 32 → (2 ^ 32 - 1 - b).testBit i = !b.testBit i := by
    intro i hi
    rw [show 2 ^ 32 - 1 - b = 2 ^ 32 - (b + 1) by omega, Nat.testBit_two_pow_sub_succ hb]
    simp [hi]
  constructor
  · intro h i hi ha'
    have h1 : (a &&& (2 ^ 32 - 1 - b)).testBit i = false := by rw [h]; exact Nat.zero_testBit i
    rw [Nat.testBit_and, ha', hc i hi] at h1
    simpa using h1
  · intro h
    apply Nat.eq_of_testBit_eq
    intro i
    rw [Nat.testBit_and, Nat.zero_testBit]
    by_cases hi : i < 32
    · rw [hc i hi]
      cases ha' : a.testBit i with
      | false => rfl
      | true => rw [h i hi ha']; rfl
    · have : a < 2 ^ i := Nat.lt_of_lt_of_le ha (Nat.pow_le_pow_right (by decide) (by omega))
      rw [Nat.testBit_lt_two_pow this]; rfl
def within (a b : Nat) : Bool := decide (a &&& (2 ^ 32 - 1 - b) = 0)
/-- List -/
theorem l34 {R : Type} (n : Nat) (hn : 2 ≤ n) (hL : 40 < L) (ke : List PV → Option R) (a : Nat) (ha : a < 2 ^ 32) :
    ∀ (d N i : Nat), i + d = 32 → d < N → d34_1i (kk L n) L ke N (U a) (I i) ((ons a.testBit i).map fun i => I (i : Nat)) = ke ((ons a.testBit 32).map fun i => I (i : Nat)) := by
  intro d
  induction d with
  | zero =>
    intro N i h hN
    obtain ⟨N, rfl⟩ : ∃ n, N = n + 1 := ⟨N - 1, by omega⟩
    have : i = 32 := by omega
    subst this
    simp [-goI, d34_1i, d34_2]
  | succ d ih =>
    intro N i h hN
    obtain ⟨N, rfl⟩ : ∃ n, N = n + 1 := ⟨N - 1, by omega⟩
    have h5 : (i : Int) < 32 := by omega
    have := ih N (i + 1) (by omega) (by omega)
    rw [ons_succ] at this
    have hlen := ons_len a.testBit i
    have happ := app50 ((ons a.testBit i).map fun i => I (i : Nat)) [I (i : Nat)] true (by simp [appendRoom]; omega)
    simp only [d34_1i, d34_2, lss_int, ob_some, cb_bool, decide_eq_true_eq, h5, if_true, callD_clo, List.nil_append, List.append_nil, c50 (L := L) hn hL a i ha (by omega), bs50, happ, oxs_some, add_int, wrap_succ (show i < 9223372036854775807 by omega)]
    by_cases q1 : a.testBit i = true
    · simp only [q1, if_true] at this ⊢
      rw [← this]; simp
    · simp only [q1, Bool.false_eq_true, if_false] at this ⊢
      exact this
theorem c34 (hm : 3 ≤ m) (hL : 40 < L) (a : Nat) (ha : a < 2 ^ 32) : callP Try.prog hh L m 34 [U a] = some (ints false (ons a.testBit 32)) := by
  obtain ⟨n, rfl⟩ : ∃ n, m = n + 1 + 1 := ⟨m - 2, by omega⟩
  refine callP_of (by kernel_rfl) ?_
  rw [r34]
  have := l34 (L := L) (n + 1) (by omega) hL (fun v => d34_3 (kk L (n + 1)) L v) a ha 32 L 0 (by omega) (by omega)
  simp only [d34_0, g34_0, d34_1]
  rw [show (PV.sc (Value.int IntKind.i64 0)) = I ((0 : Nat) : Int) from rfl]
  exact this
end
end Go.Lite

namespace Go.Lite
open Go Go.Proofs
set_option linter.unusedVariables false
set_option linter.unusedSimpArgs false
set_option maxRecDepth 100000

/-! # profiles and asks -/
abbrev prof (p : List (List Ct)) : PV := .list 0 false (p.map (cuts false))
def bpv (b : Blk) : PV := .agg [U b.nodes, I b.fr, I b.to]
abbrev blks (l : List Blk) : PV := .list 4 false (l.map bpv)
def apv (a : Ask) : PV := .agg [I a.count, I a.cores, I a.limit, I a.fr, U a.nodes, blks a.blocks]
theorem sl22 : SlTy Try.prog 22 52 0 24 := .of (by kernel_rfl) (by kernel_rfl) (by kernel_rfl) (by kernel_rfl) (by kernel_rfl) (by kernel_rfl)
theorem sl25 : SlTy Try.prog 25 46 4 24 := .of (by kernel_rfl) (by kernel_rfl) (by kernel_rfl) (by kernel_rfl) (by kernel_rfl) (by kernel_rfl)
@[simp] theorem ln22 (l : List (List Ct)) : (lenPV Try.prog 22 (prof l)).map (fun n => PV.sc (goInt n)) = some (I l.length) := by have := sl22.lenL (c := false) (xs := l.map (cuts false)); simpa using this
@[simp] theorem ia22 (l : List (List Ct)) (i : Nat) : indexAddrPV Try.prog 22 (prof l) (I i) = (l[i]?).map (fun c => .ro 0 (cuts false c)) := by rw [sl22.atL]; simp [Function.comp_def]
@[simp] theorem ln25 (l : List Blk) : (lenPV Try.prog 25 (blks l)).map (fun n => PV.sc (goInt n)) = some (I l.length) := by have := sl25.lenL (c := false) (xs := l.map bpv); simpa using this
@[simp] theorem ia25 (l : List Blk) (i : Nat) : indexAddrPV Try.prog 25 (blks l) (I i) = (l[i]?).map (fun c => .ro 4 (bpv c)) := by rw [sl25.atL]; simp [Function.comp_def]
theorem y46 : layOf Try.prog 46 = some 4 := by kernel_rfl
@[simp] theorem ld46 (d : PV) : loadPV Try.prog 46 (.ro 4 d) = some d := load_ro y46 d
theorem y22 : layOf Try.prog 22 = some 0 := by kernel_rfl
@[simp] theorem ld22 (d : PV) : loadPV Try.prog 22 (.ro 0 d) = some d := load_ro y22 d
theorem putB (v : AV) (b : Blk) : putPV 4 0 4 v (bpv b) = some (bpv b) := by
  have h : (bpv b).hasLay 4 = true := rfl
  simp [putPV, h]
@[simp] theorem at40 (b : Blk) : PV.at_ 4 0 0 (bpv b) = some (U b.nodes) := nonrfl rfl
@[simp] theorem at41 (b : Blk) : PV.at_ 4 1 0 (bpv b) = some (I b.fr) := nonrfl rfl
@[simp] theorem at42 (b : Blk) : PV.at_ 4 2 0 (bpv b) = some (I b.to) := nonrfl rfl
@[simp] theorem at70 (a : Ask) : PV.at_ 7 0 0 (apv a) = some (I a.count) := nonrfl rfl
@[simp] theorem at71 (a : Ask) : PV.at_ 7 1 0 (apv a) = some (I a.cores) := nonrfl rfl
@[simp] theorem at72 (a : Ask) : PV.at_ 7 2 0 (apv a) = some (I a.limit) := nonrfl rfl
@[simp] theorem at73 (a : Ask) : PV.at_ 7 3 0 (apv a) = some (I a.fr) := nonrfl rfl
@[simp] theorem at74 (a : Ask) : PV.at_ 7 4 0 (apv a) = some (U a.nodes) := nonrfl rfl
@[simp] theorem at75 (a : Ask) : PV.at_ 7 5 0 (apv a) = some (blks a.blocks) := nonrfl rfl
@[simp] theorem hl7a (a : Ask) : PV.hasLay 7 (apv a) = true := nonrfl rfl
@[simp] theorem hl4b (b : Blk) : PV.hasLay 4 (bpv b) = true := nonrfl rfl
@[simp] theorem hl0p (p : List (List Ct)) : PV.hasLay 0 (prof p) = true := nonrfl rfl
/-- how many operations an index search takes -/
def ix {α : Type} (p : α → Bool) (l : List α) : Int := match ffrom p 0 l with | some j => j | none => -1
theorem ffrom_any {α : Type} (p : α → Bool) : ∀ (l : List α) (i : Nat), (ffrom p i l).isSome = l.any p
  | [], _ => rfl
  | a :: r, i => by
    simp only [ffrom, List.any_cons]
    cases h : p a
    · simp [ffrom_any p r (i + 1)]
    · simp
theorem ix_any {α : Type} (p : α → Bool) (l : List α) : decide (0 ≤ ix p l) = l.any p := by
  rw [← ffrom_any p l 0, ix]
  cases h : ffrom p 0 l <;> simp
section
variable {L m : Nat}
theorem l65 {R : Type} (C : Kallee) (kr : PV → Option R) (ke : Option R) (clo : PV) (p : (List Ct) → Bool) (l : List (List Ct)) (hl : l.length ≤ 4611686018427387904) (hcl : ∀ a ∈ l, callD C.pure clo [cuts false a] 0 = some (Bo (p a))) :
    ∀ (r : List (List Ct)) (N i : Nat), l.drop i = r → r.length < N → d65_1i C L kr ke N (prof l) clo (I l.length) (I i) = (match ffrom p i r with | some j => kr (I j) | none => ke) := by
  intro r
  induction r with
  | nil =>
    intro N i h hN
    obtain ⟨N, rfl⟩ : ∃ n, N = n + 1 := ⟨N - 1, by omega⟩
    have := drop_nil' h
    have h2 : ¬ (i : Int) < l.length := by omega
    simp [d65_1i, d65_2, h2, ffrom]
  | cons a r ih =>
    intro N i h hN
    obtain ⟨N, rfl⟩ : ∃ n, N = n + 1 := ⟨N - 1, by omega⟩
    obtain ⟨h1, h2, h3, h4⟩ := drop_cons' h
    have h5 : (i : Int) < l.length := by omega
    simp only [List.length_cons] at hN
    have := ih N (i + 1) h3 (by omega)
    simp only [d65_1i, d65_2, lss_int, ob_some, cb_bool, decide_eq_true_eq, h5, if_true, ia22, List.getElem?_map, h2, Option.map_some, ld52, hcl a h4, add_int, wrap_succ (show i < 9223372036854775807 by omega), this, ffrom]
    cases p a <;> simp
theorem c65 (hm : 2 ≤ m) (clo : PV) (p : (List Ct) → Bool) (l : List (List Ct)) (hl : l.length ≤ 4611686018427387904) (hL : l.length < L) (hcl : ∀ k, m ≤ k + 1 → ∀ a ∈ l, callD (callP Try.prog hh L k) clo [cuts false a] 0 = some (Bo (p a))) :
    callP Try.prog hh L m 65 [prof l, clo] = some (I (ix p l)) := by
  obtain ⟨n, rfl⟩ : ∃ n, m = n + 1 + 1 := ⟨m - 2, by omega⟩
  refine callP_of (by kernel_rfl) ?_
  rw [r65]
  have := l65 (L := L) (kk L (n + 1)) (fun v => some v) (d65_3 (kk L (n + 1)) L) clo p l hl (hcl (n + 1) (by omega)) l L 0 rfl hL
  simp only [d65_0, g65_0, d65_1, ln22, ob_some, List.length_map]
  rw [show (PV.sc (Value.int IntKind.i64 0)) = I ((0 : Nat) : Int) from rfl, this, ix]
  cases ffrom p 0 l <;> rfl
theorem c44 (hm : 3 ≤ m) (clo : PV) (p : (List Ct) → Bool) (l : List (List Ct)) (hl : l.length ≤ 4611686018427387904) (hL : l.length < L) (hcl : ∀ k, m ≤ k + 2 → ∀ a ∈ l, callD (callP Try.prog hh L k) clo [cuts false a] 0 = some (Bo (p a))) :
    callP Try.prog hh L m 44 [prof l, clo] = some (Bo (l.any p)) := by
  obtain ⟨n, rfl⟩ : ∃ n, m = n + 1 + 1 := ⟨m - 2, by omega⟩
  refine callP_of (by kernel_rfl) ?_
  rw [r44]
  simp only [d44_0, callD_clo, List.nil_append, List.append_nil, c65 (L := L) (m := n + 1) (by omega) clo p l hl hL (fun k hk => hcl k (by omega)), ob_some, geq_int, ix_any]
theorem l70 {R : Type} (C : Kallee) (kr : PV → Option R) (ke : Option R) (clo : PV) (p : Blk → Bool) (l : List Blk) (hl : l.length ≤ 4611686018427387904) (hcl : ∀ a ∈ l, callD C.pure clo [bpv a] 0 = some (Bo (p a))) :
    ∀ (r : List Blk) (N i : Nat), l.drop i = r → r.length < N → d70_1i C L kr ke N (blks l) clo (I l.length) (I i) = (match ffrom p i r with | some j => kr (I j) | none => ke) := by
  intro r
  induction r with
  | nil =>
    intro N i h hN
    obtain ⟨N, rfl⟩ : ∃ n, N = n + 1 := ⟨N - 1, by omega⟩
    have := drop_nil' h
    have h2 : ¬ (i : Int) < l.length := by omega
    simp [d70_1i, d70_2, h2, ffrom]
  | cons a r ih =>
    intro N i h hN
    obtain ⟨N, rfl⟩ : ∃ n, N = n + 1 := ⟨N - 1, by omega⟩
    obtain ⟨h1, h2, h3, h4⟩ := drop_cons' h
    have h5 : (i : Int) < l.length := by omega
    simp only [List.length_cons] at hN
    have := ih N (i + 1) h3 (by omega)
    simp only [d70_1i, d70_2, lss_int, ob_some, cb_bool, decide_eq_true_eq, h5, if_true, ia25, List.getElem?_map, h2, Option.map_some, ld46, hcl a h4, add_int, wrap_succ (show i < 9223372036854775807 by omega), this, ffrom]
    cases p a <;> simp
theorem c70 (hm : 2 ≤ m) (clo : PV) (p : Blk → Bool) (l : List Blk) (hl : l.length ≤ 4611686018427387904) (hL : l.length < L) (hcl : ∀ k, m ≤ k + 1 → ∀ a ∈ l, callD (callP Try.prog hh L k) clo [bpv a] 0 = some (Bo (p a))) :
    callP Try.prog hh L m 70 [blks l, clo] = some (I (ix p l)) := by
  obtain ⟨n, rfl⟩ : ∃ n, m = n + 1 + 1 := ⟨m - 2, by omega⟩
  refine callP_of (by kernel_rfl) ?_
  rw [r70]
  have := l70 (L := L) (kk L (n + 1)) (fun v => some v) (d70_3 (kk L (n + 1)) L) clo p l hl (hcl (n + 1) (by omega)) l L 0 rfl hL
  simp only [d70_0, g70_0, d70_1, ln25, ob_some, List.length_map]
  rw [show (PV.sc (Value.int IntKind.i64 0)) = I ((0 : Nat) : Int) from rfl, this, ix]
  cases ffrom p 0 l <;> rfl
theorem c55 (hm : 3 ≤ m) (clo : PV) (p : Blk → Bool) (l : List Blk) (hl : l.length ≤ 4611686018427387904) (hL : l.length < L) (hcl : ∀ k, m ≤ k + 2 → ∀ a ∈ l, callD (callP Try.prog hh L k) clo [bpv a] 0 = some (Bo (p a))) :
    callP Try.prog hh L m 55 [blks l, clo] = some (Bo (l.any p)) := by
  obtain ⟨n, rfl⟩ : ∃ n, m = n + 1 + 1 := ⟨m - 2, by omega⟩
  refine callP_of (by kernel_rfl) ?_
  rw [r55]
  simp only [d55_0, callD_clo, List.nil_append, List.append_nil, c70 (L := L) (m := n + 1) (by omega) clo p l hl hL (fun k hk => hcl k (by omega)), ob_some, geq_int, ix_any]
theorem c45 (hm : 3 ≤ m) (s : List Ct) (hs : s.length ≤ 9223372036854775807) (hL : s.length < L) : callP Try.prog hh L m 45 [cuts false s] = some (Bo (!rightS s)) := by
  obtain ⟨n, rfl⟩ : ∃ n, m = n + 1 + 1 := ⟨m - 2, by omega⟩
  refine callP_of (by kernel_rfl) ?_
  rw [r45]
  simp only [d45_0, callD_clo, List.nil_append, List.append_nil, c46 (L := L) (show 2 ≤ n + 1 by omega) false s hs hL, ob_some, not_bool]
/-- a profile: of a size that is gone through -/
structure OkP (L : Nat) (p : List (List Ct)) : Prop where
  n : p.length ≤ 40
  c : ∀ s ∈ p, s.length ≤ 3000
  L : 5000 < L
def rightP (p : List (List Ct)) : Bool := decide (1 ≤ p.length) && decide (p.length ≤ 32) && p.all rightS
theorem c20' (hm : 6 ≤ m) (p : List (List Ct)) (h1 : p.length ≤ 40) (h2 : ∀ s ∈ p, s.length ≤ 4096) (h3 : 5000 < L) : callP Try.prog hh L m 20 [prof p] = some (Bo (rightP p)) := by
  obtain ⟨n, rfl⟩ : ∃ n, m = n + 1 + 1 := ⟨m - 2, by omega⟩
  refine callP_of (by kernel_rfl) ?_
  rw [r20]
  have := c44 (L := L) (m := n + 1) (by omega) (.clo 45 [] []) (fun s => !rightS s) p (by omega) (by omega) (fun k hk s hs => by
    rw [callD_clo]; exact c45 (by omega) s (by have := h2 s hs; omega) (by have := h2 s hs; omega))
  have e : (p.any fun s => !rightS s) = !p.all rightS := by rw [List.all_eq_not_any_not]; simp
  rw [e] at this
  simp only [d20_0, ln22, ob_some, geq_int, leq_int, gcase_t, callD_clo, List.nil_append, List.append_nil, this, not_bool, Bool.not_not, rightP]
  by_cases q1 : 1 ≤ p.length
  · have q1' : (1 : Int) ≤ p.length := by omega
    by_cases q2 : p.length ≤ 32
    · have q2' : (p.length : Int) ≤ 32 := by omega
      simp [q1, q1', q2, q2']
    · have q2' : ¬ (p.length : Int) ≤ 32 := by omega
      simp [q1, q1', q2, q2']
  · have q1' : ¬ (1 : Int) ≤ p.length := by omega
    simp [q1, q1']
theorem c20 (hm : 6 ≤ m) (p : List (List Ct)) (hp : OkP L p) : callP Try.prog hh L m 20 [prof p] = some (Bo (rightP p)) := c20' hm p hp.n (fun s hs => by have := hp.c s hs; omega) hp.L
theorem c56 (hm : 3 ≤ m) (b : Blk) : callP Try.prog hh L m 56 [bpv b] = some (Bo (!winB b.fr b.to)) := by
  obtain ⟨n, rfl⟩ : ∃ n, m = n + 1 + 1 := ⟨m - 2, by omega⟩
  refine callP_of (by kernel_rfl) ?_
  rw [r56]
  simp only [d56_0, hl4b, ck_true, at41, at42, ob_some, callD_clo, List.nil_append, List.append_nil, c39 (L := L) (show 2 ≤ n + 1 by omega), not_bool]
/-- an ask: of a size that is gone through -/
structure OkQ (a : Ask) : Prop where
  b : a.blocks.length ≤ 100
  n : a.nodes < 2 ^ 32
  bn : ∀ b ∈ a.blocks, b.nodes < 2 ^ 32
def askB (a : Ask) : Bool := decide (1 ≤ a.count) && decide (a.count ≤ 32) && decide (1 ≤ a.cores) && decide (a.cores ≤ 64) && decide (1 ≤ a.limit) && decide (a.limit ≤ 1048576) && decide (0 ≤ a.fr) && decide (a.fr ≤ 1099511627776) && a.blocks.all fun b => winB b.fr b.to
theorem c28 (hm : 6 ≤ m) (hL : 5000 < L) (a : Ask) (ha : OkQ a) : callP Try.prog hh L m 28 [apv a] = some (Bo (askB a)) := by
  obtain ⟨n, rfl⟩ : ∃ n, m = n + 1 + 1 := ⟨m - 2, by omega⟩
  refine callP_of (by kernel_rfl) ?_
  rw [r28]
  have hb := ha.b
  have := c55 (L := L) (m := n + 1) (by omega) (.clo 56 [] []) (fun b => !winB b.fr b.to) a.blocks (by omega) (by omega) (fun k hk s hs => by
    rw [callD_clo]; exact c56 (by omega) s)
  have e : (a.blocks.any fun b => !winB b.fr b.to) = !a.blocks.all fun b => winB b.fr b.to := by rw [List.all_eq_not_any_not]; simp
  rw [e] at this
  have hb' : (a.blocks.length : Int) ≤ 4096 := by omega
  simp only [d28_0, hl7a, ck_true, at70, at71, at72, at73, at75, ln25, ob_some, geq_int, leq_int, lss_int, gtr_int, gcase_t, gcase_f, callD_clo, List.nil_append, List.append_nil, this, not_bool, Bool.not_not, askB, cb_bool, hb', decide_true, if_true]
  by_cases q1 : a.count < 1
  · have : ¬ 1 ≤ a.count := by omega
    simp [q1, this]
  by_cases q2 : 32 < a.count
  · have : ¬ a.count ≤ 32 := by omega
    simp [q1, q2, this]
  by_cases q3 : a.cores < 1
  · have : ¬ 1 ≤ a.cores := by omega
    simp [q1, q2, q3, this]
  by_cases q4 : 64 < a.cores
  · have : ¬ a.cores ≤ 64 := by omega
    simp [q1, q2, q3, q4, this]
  by_cases q5 : a.limit < 1
  · have : ¬ 1 ≤ a.limit := by omega
    simp [q1, q2, q3, q4, q5, this]
  by_cases q6 : 1048576 < a.limit
  · have : ¬ a.limit ≤ 1048576 := by omega
    simp [q1, q2, q3, q4, q5, q6, this]
  have g1 : 1 ≤ a.count := by omega
  have g2 : a.count ≤ 32 := by omega
  have g3 : 1 ≤ a.cores := by omega
  have g4 : a.cores ≤ 64 := by omega
  have g5 : 1 ≤ a.limit := by omega
  have g6 : a.limit ≤ 1048576 := by omega
  by_cases q7 : 0 ≤ a.fr <;> by_cases q8 : a.fr ≤ 1099511627776 <;> simp [q1, q2, q3, q4, q5, q6, g1, g2, g3, g4, g5, g6, q7, q8]
/-- the nodes of a profile that are so -/
def somB (p : List (List Ct)) (s : Nat) (q : Nat → Bool) (i : Nat) : Bool := decide (i < p.length) && (s.testBit i && q i)
theorem and1_u (t : TypeId) (x y : Operand) (a : Nat) (ha : a < 2 ^ 32) : binPV Try.prog .and t x y (U a) (.sc (.int .u32 1)) = some (U (a % 2)) := by
  have := and_u Try.prog t x y a 1 ha (by decide)
  rw [show a &&& 1 = a % 2 from Nat.and_one_is_mod a] at this
  exact this
theorem bit_is (s i : Nat) : (decide (((s / 2 ^ i % 2 : Nat) : Int) = 1)) = s.testBit i := by
  have e3 : (((s / 2 ^ i % 2 : Nat) : Int) = 1) = (s / 2 ^ i % 2 = 1) := by apply propext; omega
  rw [Nat.testBit_eq_decide_div_mod_eq, decide_eq_decide, e3]
theorem l40 {R : Type} (C : Kallee) (ke : PV → Option R) (clo : PV) (s : Nat) (hs : s < 2 ^ 32) (q : Nat → Bool) (p : List (List Ct)) (hp : p.length ≤ 32) (hcl : ∀ (i : Nat), i < p.length → s.testBit i = true → callD C.pure clo [I i] 0 = some (Bo (q i))) :
    ∀ (d N i : Nat), i + d = p.length → d < N → d40_1i C L ke N (U s) clo (U (bits (fun j => s.testBit j && q j) i)) (I p.length) (I i) = ke (U (bits (fun j => s.testBit j && q j) p.length)) := by
  intro d
  induction d with
  | zero =>
    intro N i h hN
    obtain ⟨N, rfl⟩ : ∃ n, N = n + 1 := ⟨N - 1, by omega⟩
    have h2 : ¬ (i : Int) < p.length := by omega
    have : i = p.length := by omega
    subst this
    simp [d40_1i, d40_2, g40_2]
  | succ d ih =>
    intro N i h hN
    obtain ⟨N, rfl⟩ : ∃ n, N = n + 1 := ⟨N - 1, by omega⟩
    have h5 : (i : Int) < p.length := by omega
    have := ih N (i + 1) (by omega) (by omega)
    have hb : bits (fun j => s.testBit j && q j) i < 2 ^ 32 := Nat.lt_of_lt_of_le (bits_lt _ i) (Nat.pow_le_pow_right (by decide) (by omega))
    have hp2 : (2 : Nat) ^ i < 2 ^ 32 := Nat.pow_lt_pow_right (by decide) (by omega)
    have hsd : s / 2 ^ i < 2 ^ 32 := Nat.lt_of_le_of_lt (Nat.div_le_self _ _) hs
    have e1 : ∀ (t : TypeId) (x y : Operand), binPV Try.prog .shl t x y (.sc (.int .u32 1)) (I (i : Nat)) = some (U (2 ^ i)) := fun t x y => shl_u _ t x y i (by omega)
    simp only [d40_1i, d40_2, g40_2, d40_3, d40_4, lss_int, ob_some, cb_bool, decide_eq_true_eq, h5, if_true, shr_u _ _ _ _ s i (show i < 32 by omega), and1_u _ _ _ _ hsd, eql_int, bit_is, gcase_t]
    simp only [bits] at this
    by_cases hsb : s.testBit i = true
    · simp only [hsb, if_true, hcl i (by omega) hsb, ob_some, e1, or_u _ _ _ _ _ (2 ^ i) hb hp2, bits_or, add_int, wrap_succ (show i < 9223372036854775807 by omega), cb_bool]
      by_cases hq : q i = true
      · simp only [hsb, hq, Bool.and_true, if_true] at this ⊢
        rw [this]
      · simp only [hsb, hq, Bool.and_false, Bool.false_eq_true, if_false, Nat.add_zero, Bool.true_and] at this ⊢
        rw [this]
    · simp only [hsb, Bool.false_eq_true, if_false, cb_bool, add_int, wrap_succ (show i < 9223372036854775807 by omega), ob_some, Bool.false_and, Nat.add_zero] at this ⊢
      rw [this]
theorem bits_cong {f g : Nat → Bool} : ∀ {k : Nat}, (∀ i, i < k → f i = g i) → bits f k = bits g k
  | 0, _ => rfl
  | k + 1, h => by simp only [bits]; rw [bits_cong fun i hi => h i (by omega), h k (by omega)]
theorem c40 (hm : 2 ≤ m) (hL : 40 < L) (clo : PV) (s : Nat) (hs : s < 2 ^ 32) (q : Nat → Bool) (p : List (List Ct)) (hp : p.length ≤ 32) (hcl : ∀ k, m ≤ k + 1 → ∀ (i : Nat), i < p.length → s.testBit i = true → callD (callP Try.prog hh L k) clo [I i] 0 = some (Bo (q i))) :
    callP Try.prog hh L m 40 [prof p, U s, clo] = some (U (bits (fun j => s.testBit j && q j) p.length)) := by
  obtain ⟨n, rfl⟩ : ∃ n, m = n + 1 + 1 := ⟨m - 2, by omega⟩
  refine callP_of (by kernel_rfl) ?_
  rw [r40]
  have := l40 (L := L) (kk L (n + 1)) (fun v => d40_5 (kk L (n + 1)) L v) clo s hs q p hp (hcl (n + 1) (by omega)) p.length L 0 (by omega) (by omega)
  simp only [d40_0, g40_0, ln22, ob_some, d40_1]
  rw [show (PV.sc (Value.int IntKind.i64 0)) = I ((0 : Nat) : Int) from rfl, show (PV.sc (Value.int IntKind.u32 0)) = U (bits (fun j => s.testBit j && q j) 0) from rfl, this]
  simp [d40_5]
@[simp] theorem fa271 (a : Ask) : fieldAddrPV Try.prog 27 (.ro 7 (apv a)) 1 = some (.ro 0 (I a.cores)) := by kernel_rfl
@[simp] theorem fa272 (a : Ask) : fieldAddrPV Try.prog 27 (.ro 7 (apv a)) 2 = some (.ro 0 (I a.limit)) := by kernel_rfl
theorem add_ok (t : TypeId) (x y : Operand) (a b : Int) (h : -9223372036854775808 ≤ a + b) (h' : a + b < 9223372036854775808) : binPV Try.prog .add t x y (I a) (I b) = some (I (a + b)) := add_int' _ _ _ _ _ _ ⟨h, h'⟩
theorem c59 (hm : 7 ≤ m) (p : List (List Ct)) (hp : OkP L p) (a : Ask) (t : Int) (i : Nat) (s : List Ct) (hi : p[i]? = some s) (ht : winB t (t + a.limit) = true) (hr : rightS s = true) :
    callP Try.prog hh L m 59 [I i, .ro 0 (prof p), .ro 0 (I t), .ro 7 (apv a)] = some (Bo (decide (a.cores ≤ leastR s t (t + a.limit)))) := by
  obtain ⟨n, rfl⟩ : ∃ n, m = n + 1 + 1 := ⟨m - 2, by omega⟩
  refine callP_of (by kernel_rfl) ?_
  rw [r59]
  have hs := hp.c s (List.mem_of_getElem? hi)
  have hL := hp.L
  have hw := ht
  simp only [winB, Bool.and_eq_true, decide_eq_true_eq] at hw
  have h42 := c42 (L := L) (show 6 ≤ n + 1 by omega) false s t (t + a.limit) (by omega) (by omega)
  rw [ht, hr] at h42
  simp only [d59_0, ld22, ob_some, ia22, hi, Option.map_some, ld52, ld2, fa272, add_ok _ _ _ t a.limit (by omega) (by omega), callD_clo, List.nil_append, List.append_nil, h42, Bool.and_self, if_true, extract_tup, List.getElem?_cons_zero, List.getElem?_cons_succ, fa271, ld3, geq_int]
/-- the nodes of an ask that no block takes -/
def lessB (s : Nat) (a : Ask) (t : Int) : List Blk → Nat
  | [] => s
  | b :: r => lessB (if hits b a t then s &&& (2 ^ 32 - 1 - b.nodes) else s) a t r
theorem lessB_lt {a : Ask} {t : Int} : ∀ {l : List Blk} {s : Nat}, s < 2 ^ 32 → lessB s a t l < 2 ^ 32
  | [], s, h => h
  | b :: r, s, h => by
    simp only [lessB]
    apply lessB_lt
    split
    · exact Nat.lt_of_le_of_lt Nat.and_le_left h
    · exact h
theorem lessB_bit {a : Ask} {t : Int} : ∀ {l : List Blk} {s : Nat}, s < 2 ^ 32 → (∀ b ∈ l, b.nodes < 2 ^ 32) → ∀ i, (lessB s a t l).testBit i = (s.testBit i && l.all fun b => !(hits b a t && b.nodes.testBit i))
  | [], s, _, _, i => by simp [lessB]
  | b :: r, s, h, hb, i => by
    have hbn := hb b (by simp)
    simp only [lessB]
    have hlt : (if hits b a t then s &&& (2 ^ 32 - 1 - b.nodes) else s) < 2 ^ 32 := by split; exact Nat.lt_of_le_of_lt Nat.and_le_left h; exact h
    rw [lessB_bit hlt (fun x hx => hb x (by simp [hx]))]
    simp only [List.all_cons]
    cases hh' : hits b a t with
    | false => simp
    | true =>
      simp only [if_true, Nat.testBit_and, Bool.true_and]
      by_cases hi : i < 32
      · have hc : (2 ^ 32 - 1 - b.nodes).testBit i = !b.nodes.testBit i := by
          rw [show 2 ^ 32 - 1 - b.nodes = 2 ^ 32 - (b.nodes + 1) by omega, Nat.testBit_two_pow_sub_succ hbn]
          simp [hi]
        rw [hc, Bool.and_assoc]
      · have : s < 2 ^ i := Nat.lt_of_lt_of_le h (Nat.pow_le_pow_right (by decide) (by omega))
        rw [Nat.testBit_lt_two_pow this]; simp
theorem l32 {R : Type} (C : Kallee) (ke : PV → PV → PV → PV → Option R) (v4 : PV) (a : Ask) (t : Int) (ht : winB t (t + a.limit) = true) (l : List Blk) (hl : l.length ≤ 1000) (hb : ∀ b ∈ l, b.nodes < 2 ^ 32) :
    ∀ (r : List Blk) (N i s : Nat), l.drop i = r → r.length < N → s < 2 ^ 32 → d32_1i C L ke N (U s) (blks l) (I l.length) (I i) v4 (apv a) (I t) = ke (U (lessB s a t r)) v4 (apv a) (I t) := by
  have hw := ht
  simp only [winB, Bool.and_eq_true, decide_eq_true_eq] at hw
  intro r
  induction r with
  | nil =>
    intro N i s h hN hs
    obtain ⟨N, rfl⟩ : ∃ n, N = n + 1 := ⟨N - 1, by omega⟩
    have := drop_nil' h
    have h2 : ¬ (i : Int) < l.length := by omega
    simp [d32_1i, d32_2, g32_2, h2, lessB]
  | cons b r ih =>
    intro N i s h hN hs
    obtain ⟨N, rfl⟩ : ∃ n, N = n + 1 := ⟨N - 1, by omega⟩
    obtain ⟨h1, h2, h3, h4⟩ := drop_cons' h
    have h5 : (i : Int) < l.length := by omega
    simp only [List.length_cons] at hN
    simp only [d32_1i, d32_2, g32_2, d32_3, d32_4, lss_int, ob_some, cb_bool, decide_eq_true_eq, h5, if_true, ia25, h2, Option.map_some, ld46, putB, at40, at41, at42, at72, add_ok _ _ _ t a.limit (by omega) (by omega), gcase_t, andNot_u _ _ _ _ s b.nodes hs (hb b h4), add_int, wrap_succ (show i < 9223372036854775807 by omega), lessB, hits]
    have hlt : s &&& (2 ^ 32 - 1 - b.nodes) < 2 ^ 32 := Nat.lt_of_le_of_lt Nat.and_le_left hs
    by_cases q1 : b.fr < t + a.limit
    · by_cases q2 : t < b.to
      · simp only [q1, q2, decide_true, if_true, Bool.and_self]
        exact ih N (i + 1) _ h3 (by omega) hlt
      · simp only [q1, q2, decide_true, decide_false, if_true, Bool.and_false, Bool.false_eq_true, if_false]
        exact ih N (i + 1) _ h3 (by omega) hs
    · simp only [q1, decide_false, Bool.false_eq_true, if_false, Bool.false_and, cb_bool]
      exact ih N (i + 1) _ h3 (by omega) hs
theorem callD1u (cp : FuncId → List PV → Option PV) (g : FuncId) (a b xs : List PV) (n : Nat) (h : cp g (a ++ xs ++ b) = some (U n)) : callD cp (.clo g a b) xs 1 = some (U n) := by
  simp only [callD, h]; rfl
theorem rightP_in {p : List (List Ct)} (h : rightP p = true) : 1 ≤ p.length ∧ p.length ≤ 32 ∧ ∀ s ∈ p, rightS s = true := by
  simp only [rightP, Bool.and_eq_true, decide_eq_true_eq, List.all_eq_true] at h
  exact ⟨h.1.1, h.1.2, h.2⟩
theorem c32 (hm : 10 ≤ m) (p : List (List Ct)) (hp : OkP L p) (hr : rightP p = true) (a : Ask) (ha : OkQ a) (t : Int) (ht : winB t (t + a.limit) = true) :
    callP Try.prog hh L m 32 [prof p, apv a, I t] = some (U (bits (opn p a t) 32)) := by
  obtain ⟨n, rfl⟩ : ∃ n, m = n + 1 + 1 := ⟨m - 2, by omega⟩
  refine callP_of (by kernel_rfl) ?_
  rw [r32]
  obtain ⟨q1, q2, q3⟩ := rightP_in hr
  have hL := hp.L
  have hb := ha.b
  have := l32 (L := L) (kk L (n + 1)) (fun v0 v1 v2 v3 => d32_5 (kk L (n + 1)) L v0 v1 v2 v3) (prof p) a t ht a.blocks (by omega) ha.bn a.blocks L 0 a.nodes rfl (by omega) ha.n
  have hlt := lessB_lt (a := a) (t := t) (l := a.blocks) ha.n
  have h40 := c40 (L := L) (m := n + 1) (by omega) (by omega) (.clo 59 [] [.ro 0 (prof p), .ro 0 (I t), .ro 7 (apv a)]) (lessB a.nodes a t a.blocks) hlt (fun i => match p[i]? with | some s => decide (a.cores ≤ leastR s t (t + a.limit)) | none => false) p q2 (fun k hk i hi _ => by
    have hg : p[i]? = some p[i] := List.getElem?_eq_getElem hi
    rw [callD_clo]
    simp only [hg, List.nil_append, List.cons_append]
    exact c59 (by omega) p hp a t i p[i] hg ht (q3 _ (List.getElem_mem hi)))
  simp only [d32_0, g32_0, d32_1, hl0p, hl7a, hl0I, ck_true, at74, at75, ob_some, ln25]
  rw [show (PV.sc (Value.int IntKind.i64 0)) = I ((0 : Nat) : Int) from rfl, this]
  simp only [d32_5]
  rw [callD1u _ _ _ _ _ _ (by simpa using h40)]
  simp only [ob_some, Option.some.injEq, PV.sc.injEq, Value.int.injEq, true_and, Int.natCast_inj]
  apply Nat.eq_of_testBit_eq
  intro i
  rw [bits_testBit, bits_testBit, lessB_bit ha.n ha.bn]
  unfold opn
  by_cases hi : i < p.length
  · have hg : p[i]? = some p[i] := List.getElem?_eq_getElem hi
    have hi2 : i < 32 := by omega
    simp only [hi, hi2, hg, decide_true, Bool.true_and]
    rw [Bool.and_right_comm]
  · have hg : p[i]? = none := List.getElem?_eq_none (by omega)
    simp [hi, hg]
def cutsN (p : List (List Ct)) : Nat := (p.map List.length).sum
def bigB (p : List (List Ct)) : Bool := decide (3000 < cutsN p) || decide (40 < p.length)
theorem l7 {R : Type} (C : Kallee) (ke : PV → PV → Option R) (p : List (List Ct)) (hn : cutsN p + p.length ≤ 4611686018427387904) :
    ∀ (r : List (List Ct)) (N i k : Nat), p.drop i = r → r.length < N → k + cutsN r = cutsN p → d7_1i C L ke N (prof p) (I k) (I i) = ke (prof p) (I (cutsN p)) := by
  intro r
  induction r with
  | nil =>
    intro N i k h hN hk
    obtain ⟨N, rfl⟩ : ∃ n, N = n + 1 := ⟨N - 1, by omega⟩
    have := drop_nil' h
    have h2 : ¬ (i : Int) < p.length := by omega
    have : k = cutsN p := by simpa [cutsN] using hk
    subst this
    simp only [d7_1i, d7_2, ln22, ob_some, lss_int, cb_bool, decide_eq_true_eq, h2, if_false]
  | cons s r ih =>
    intro N i k h hN hk
    obtain ⟨N, rfl⟩ : ∃ n, N = n + 1 := ⟨N - 1, by omega⟩
    obtain ⟨h1, h2, h3, h4⟩ := drop_cons' h
    have h5 : (i : Int) < p.length := by omega
    simp only [List.length_cons] at hN
    have hk' : k + (s.length + cutsN r) = cutsN p := by simpa [cutsN] using hk
    have e : IntKind.i64.wrap ((k : Int) + s.length) = ((k + s.length : Nat) : Int) := by rw [wrap64 (by omega) (by omega)]; omega
    simp only [d7_1i, d7_2, ln22, ob_some, lss_int, cb_bool, decide_eq_true_eq, h5, if_true, ia22, h2, Option.map_some, ld52, ln52, add_int, e, wrap_succ (show i < 9223372036854775807 by omega), ih N (i + 1) (k + s.length) h3 (by omega) (by omega)]
theorem c7 (hm : 2 ≤ m) (p : List (List Ct)) (hn : cutsN p + p.length ≤ 4611686018427387904) (hL : p.length < L) : callP Try.prog hh L m 7 [prof p] = some (Bo (bigB p)) := by
  obtain ⟨n, rfl⟩ : ∃ n, m = n + 1 + 1 := ⟨m - 2, by omega⟩
  refine callP_of (by kernel_rfl) ?_
  rw [r7]
  have := l7 (L := L) (kk L (n + 1)) (fun v0 v1 => d7_3 (kk L (n + 1)) L v0 v1) p hn p L 0 0 rfl hL (by omega)
  simp only [d7_0, g7_0, d7_1]
  rw [show (PV.sc (Value.int IntKind.i64 0)) = I ((0 : Nat) : Int) from rfl, this]
  simp only [d7_3, gtr_int, ob_some, gcase_f, ln22, bigB]
  by_cases q1 : 3000 < cutsN p
  · have : (3000 : Int) < cutsN p := by omega
    simp [q1, this]
  · have : ¬ (3000 : Int) < cutsN p := by omega
    have e : (decide ((40 : Int) < p.length)) = decide (40 < p.length) := by rw [decide_eq_decide]; omega
    simp [q1, this, e]
end
theorem zeroed_len {xs : List PV} {lo n : Nat} {z : PV} (h : lo + n ≤ xs.length) : (zeroed xs lo n z).length = xs.length := by
  simp [zeroed]; omega
theorem zeroed_take {xs : List PV} {lo n : Nat} {z : PV} (h : lo + n ≤ xs.length) : (zeroed xs lo n z).take lo = xs.take lo := by
  unfold zeroed
  rw [List.take_append_of_le_length (by simp; omega), List.take_take, Nat.min_self]
section
variable {R : Type}
theorem oo_s (d : List OV) (f : List OV → Option R) : oo (some d) f = f d := nonrfl rfl
theorem oa_s (lay : Nat) (xs : List PV) (r : List OV) (f : List PV → List OV → Option R) : oa lay (.a lay xs :: r) f = f xs r := by simp [oa, ckB]
theorem onil_s (x : Option R) : onil [] x = x := nonrfl rfl
end
theorem cutsN_mem : ∀ {p : List (List Ct)} {s : List Ct}, s ∈ p → s.length ≤ cutsN p
  | x :: r, s, h => by
    have e : cutsN (x :: r) = x.length + cutsN r := by simp [cutsN]
    rw [e]
    rcases List.mem_cons.1 h with rfl | h
    · omega
    · have := cutsN_mem h; omega
def freeB (p : List (List Ct)) (s : Nat) (fr to c : Int) (i : Nat) : Bool := match p[i]? with | some x => s.testBit i && decide (c ≤ leastR x fr to) | none => false
def freePV (p : List (List Ct)) (s : Nat) (fr to c : Int) : PV := if (rightP p && winB fr to) = true then .tup [U (bits (freeB p s fr to c) p.length), I 0] else .tup [U 0, I 2]
theorem bs52 (c : Ct) : buildSliceAV Try.prog 52 1 [(0, cpv c)] = some (.list 3 true [cpv c]) := by kernel_rfl
theorem bs22 (s : List Ct) : buildSliceAV Try.prog 22 1 [(0, cuts false s)] = some (.list 0 true [cuts false s]) := by kernel_rfl
theorem bs25 (b : Blk) : buildSliceAV Try.prog 25 1 [(0, bpv b)] = some (.list 4 true [bpv b]) := by kernel_rfl
theorem app52 (l : List Ct) (c : Ct) (h : l.length ≤ 1000000) : appendTo Try.prog 52 52 3 (l.map cpv) (.list 3 true [cpv c]) = some ((l ++ [c]).map cpv) := by
  rw [sl52.appTo sl52 .list (by simp; omega)]; simp
theorem app22 (l : List (List Ct)) (c : List Ct) (h : l.length ≤ 1000000) : appendTo Try.prog 22 22 0 (l.map (cuts false)) (.list 0 true [cuts false c]) = some ((l ++ [c]).map (cuts false)) := by
  rw [sl22.appTo sl22 .list (by simp; omega)]; simp
theorem app25 (l : List Blk) (c : Blk) (h : l.length ≤ 1000000) : appendTo Try.prog 25 25 4 (l.map bpv) (.list 4 true [bpv c]) = some ((l ++ [c]).map bpv) := by
  rw [sl25.appTo sl25 .list (by simp; omega)]; simp
end Go.Lite

namespace Go.Lite
open Go Go.Proofs
set_option linter.unusedVariables false
set_option linter.unusedSimpArgs false
set_option maxRecDepth 100000
theorem u9 : Try.prog.underlying 9 = some .string := by kernel_rfl
def tab : ByteArray := ⟨#[0, 1, 1, 2, 1, 2, 2, 3, 1, 2, 2, 3, 2, 3, 3, 4, 1, 2, 2, 3, 2, 3, 3, 4, 2, 3, 3, 4, 3, 4, 4, 5, 1, 2, 2, 3, 2, 3, 3, 4, 2, 3, 3, 4, 3, 4, 4, 5, 2, 3, 3, 4, 3, 4, 4, 5, 3, 4, 4, 5, 4, 5, 5, 6, 1, 2, 2, 3, 2, 3, 3, 4, 2, 3, 3, 4, 3, 4, 4, 5, 2, 3, 3, 4, 3, 4, 4, 5, 3, 4, 4, 5, 4, 5, 5, 6, 2, 3, 3, 4, 3, 4, 4, 5, 3, 4, 4, 5, 4, 5, 5, 6, 3, 4, 4, 5, 4, 5, 5, 6, 4, 5, 5, 6, 5, 6, 6, 7, 1, 2, 2, 3, 2, 3, 3, 4, 2, 3, 3, 4, 3, 4, 4, 5, 2, 3, 3, 4, 3, 4, 4, 5, 3, 4, 4, 5, 4, 5, 5, 6, 2, 3, 3, 4, 3, 4, 4, 5, 3, 4, 4, 5, 4, 5, 5, 6, 3, 4, 4, 5, 4, 5, 5, 6, 4, 5, 5, 6, 5, 6, 6, 7, 2, 3, 3, 4, 3, 4, 4, 5, 3, 4, 4, 5, 4, 5, 5, 6, 3, 4, 4, 5, 4, 5, 5, 6, 4, 5, 5, 6, 5, 6, 6, 7, 3, 4, 4, 5, 4, 5, 5, 6, 4, 5, 5, 6, 5, 6, 6, 7, 4, 5, 5, 6, 5, 6, 6, 7, 5, 6, 6, 7, 6, 7, 7, 8]⟩
def popN (v : Nat) : Nat := (List.range 8).countP v.testBit
theorem tab_size : tab.size = 256 := by decide +kernel
theorem tab_get : ∀ v : Fin 256, (tab.data[v.val]?).map (·.toNat) = some (popN v.val) := by decide +kernel
theorem index_tab (v : Nat) (h : v < 256) : indexPV Try.prog 9 (.sc (.string tab)) (U v) = some (.sc (.int .u8 (popN v : Nat))) := by
  have hs : v < tab.size := by rw [tab_size]; exact h
  have hv := tab_get ⟨v, h⟩
  have hb : tab[(v : Int).toNat]? = some (tab.data[v]'hs) := by
    show tab[v]? = _
    rw [getElem?_pos tab v hs]; rfl
  have hd : tab.data[v]? = some (tab.data[v]'hs) := Array.getElem?_eq_getElem hs
  simp only [hd, Option.map_some, Option.some.injEq] at hv
  have hu : ∀ (α : Type) (k : TypeDesc → Sem α), pureRun Try.prog (underlying 9 >>= k) = pureRun Try.prog (k .string) := by
    intro α k
    have : underlying 9 >>= k = Sem.program fun P => (match P.underlying 9 with | some d => pure d | none => stuck "no such type") >>= k := rfl
    rw [this, pureRun, u9]; rfl
  have : pureRun Try.prog (Instr.index 9 (.string tab) (.int .u32 v)) = some (.int .u8 (tab.data[v]'hs).toNat) := by
    unfold Instr.index
    show pureRun Try.prog (underlying 9 >>= fun d => _) = _
    rw [hu]
    simp only [Int.natCast_nonneg, if_true, hb]
    rfl
  simp only [indexPV, this, Option.map_some, hv]
theorem popN_le (v : Nat) : popN v ≤ 8 := by
  have := List.countP_le_length (p := v.testBit) (l := List.range 8)
  simpa [popN] using this
theorem pop_byte (a q : Nat) : (List.range 8).countP (fun j => a.testBit (8 * q + j)) = popN (a / 2 ^ (8 * q) % 256) := by
  unfold popN
  apply List.countP_congr
  intro j hj
  simp only [List.mem_range] at hj
  rw [show 256 = 2 ^ 8 from rfl, Nat.testBit_mod_two_pow, Nat.testBit_div_two_pow, Nat.add_comm j]
  simp [hj]
theorem range32 : List.range 32 = List.range 8 ++ (List.range 8).map (8 + ·) ++ (List.range 8).map (16 + ·) ++ (List.range 8).map (24 + ·) := by decide
theorem pop_all (a : Nat) (h : a < 2 ^ 32) : (ons a.testBit 32).length = popN (a / 2 ^ 24) + popN (a / 2 ^ 16 % 256) + popN (a / 2 ^ 8 % 256) + popN (a % 256) := by
  have h24 : a / 2 ^ 24 = a / 2 ^ 24 % 256 := by omega
  have e : (ons a.testBit 32).length = (List.range 32).countP a.testBit := by rw [ons, List.countP_eq_length_filter]
  have p0 : (List.range 8).countP a.testBit = popN (a % 256) := by have := pop_byte a 0; simpa using this
  have p1 := pop_byte a 1
  have p2 := pop_byte a 2
  have p3 := pop_byte a 3
  simp only [Nat.mul_one, show 8 * 2 = 16 from rfl, show 8 * 3 = 24 from rfl] at p1 p2 p3
  rw [← h24] at p3
  rw [e, range32]
  simp only [List.countP_append, List.countP_map, Function.comp_def]
  rw [p0, p1, p2, p3]
  omega
noncomputable def e43 (T : ByteArray) (v0 : PV) : Option PV := (ob (binPV Try.prog .shr 23 (.tmp 3) (.const (.int Go.IntKind.u64 24)) v0 (.sc (.int Go.IntKind.u64 24))) fun v102 => (ob (indexPV Try.prog 9 (.sc (.string T)) v102) fun v103 => (ob (binPV Try.prog .shr 23 (.tmp 6) (.const (.int Go.IntKind.u64 16)) v0 (.sc (.int Go.IntKind.u64 16))) fun v104 => (ob (binPV Try.prog .and 23 (.tmp 7) (.const (.int Go.IntKind.u32 255)) v104 (.sc (.int Go.IntKind.u32 255))) fun v105 => (ob (indexPV Try.prog 9 (.sc (.string T)) v105) fun v106 => (ob (binPV Try.prog .add 5 (.tmp 5) (.tmp 9) v103 v106) fun v107 => (ob (binPV Try.prog .shr 23 (.tmp 11) (.const (.int Go.IntKind.u64 8)) v0 (.sc (.int Go.IntKind.u64 8))) fun v108 => (ob (binPV Try.prog .and 23 (.tmp 12) (.const (.int Go.IntKind.u32 255)) v108 (.sc (.int Go.IntKind.u32 255))) fun v109 => (ob (indexPV Try.prog 9 (.sc (.string T)) v109) fun v110 => (ob (binPV Try.prog .add 5 (.tmp 10) (.tmp 14) v107 v110) fun v111 => (ob (binPV Try.prog .and 23 (.tmp 16) (.const (.int Go.IntKind.u32 255)) v0 (.sc (.int Go.IntKind.u32 255))) fun v112 => (ob (indexPV Try.prog 9 (.sc (.string T)) v112) fun v113 => (ob (binPV Try.prog .add 5 (.tmp 15) (.tmp 18) v111 v113) fun v114 => (ob (convPV Try.prog 5 3 v114) fun v115 => (some v115)))))))))))))))
theorem d43_eq (C : Kallee) (L : Nat) (v0 : PV) : d43_0 C L v0 = e43 tab v0 := by kernel_rfl
section
variable {L m : Nat}
variable (t : TypeId) (x y : Operand)
theorem shr64 (a i : Nat) (h : i < 32) : binPV Try.prog .shr t x y (U a) (.sc (.int .u64 i)) = some (U (a / 2 ^ i)) := by
  have h1 : pureRun Try.prog (Op.shift .shr .u32 (a : Int) .u64 (i : Int)) = some (.int .u32 ((a : Int).fdiv (2 ^ (min (i : Int).toNat 32)))) := by
    have : ¬ (i : Int) < 0 := by omega
    simp only [Op.shift, this, if_false]; rfl
  have h3 : (a : Int).fdiv (2 ^ (min (i : Int).toNat 32)) = ((a / 2 ^ i : Nat) : Int) := by
    have : min (i : Int).toNat 32 = i := by omega
    rw [this, Int.fdiv_eq_ediv_of_nonneg _ (by exact Int.pow_nonneg (by decide))]
    simp
  rw [h3] at h1
  simp [binPV, PV.plain?, eqGuard, binOp]
  rfl
theorem and255 (a : Nat) (h : a < 2 ^ 32) : binPV Try.prog .and t x y (U a) (.sc (.int .u32 255)) = some (U (a % 256)) := by
  have := and_u Try.prog t x y a 255 h (by decide)
  rw [show a &&& 255 = a % 256 from Nat.and_two_pow_sub_one_eq_mod a 8] at this
  exact this
theorem add8 (a b : Nat) (h : a + b < 256) : binPV Try.prog .add t x y (.sc (.int .u8 (a : Nat))) (.sc (.int .u8 (b : Nat))) = some (.sc (.int .u8 ((a + b : Nat) : Int))) := by
  rw [add_int]
  have e1 : (2 ^ IntKind.u8.bits : Int) = 256 := by rfl
  have e3 : IntKind.u8.signed = false := rfl
  have : IntKind.u8.wrap ((a : Int) + b) = ((a + b : Nat) : Int) := by
    simp only [IntKind.wrap, e1, e3, Bool.false_and]
    simp; omega
  rw [this]
theorem conv53 (n : Int) : convPV Try.prog 5 3 (.sc (.int .u8 n)) = some (I (IntKind.i64.wrap n)) := by kernel_rfl
theorem c43 (hm : 2 ≤ m) (a : Nat) (ha : a < 2 ^ 32) : callP Try.prog hh L m 43 [U a] = some (I ((ons a.testBit 32).length : Nat)) := by
  obtain ⟨n, rfl⟩ : ∃ n, m = n + 1 + 1 := ⟨m - 2, by omega⟩
  refine callP_of (by kernel_rfl) ?_
  rw [r43]
  have l1 := popN_le (a / 2 ^ 24)
  have l2 := popN_le (a / 2 ^ 16 % 256)
  have l3 := popN_le (a / 2 ^ 8 % 256)
  have l4 := popN_le (a % 256)
  have hp := pop_all a ha
  have s24 := fun x y => shr64 23 x y a 24 (by decide)
  have s16 := fun x y => shr64 23 x y a 16 (by decide)
  have s8 := fun x y => shr64 23 x y a 8 (by decide)
  simp only [Int.cast_ofNat_Int] at s24 s16 s8
  have h16 : a / 2 ^ 16 < 2 ^ 32 := by omega
  have h8 : a / 2 ^ 8 < 2 ^ 32 := by omega
  rw [d43_eq]
  simp only [e43, s24, s16, s8, ob_some, index_tab (a / 2 ^ 24) (by omega), and255 _ _ _ (a / 2 ^ 16) h16, index_tab (a / 2 ^ 16 % 256) (by omega), add8 _ _ _ (popN (a / 2 ^ 24)) (popN (a / 2 ^ 16 % 256)) (by omega),
    and255 _ _ _ (a / 2 ^ 8) h8, index_tab (a / 2 ^ 8 % 256) (by omega), add8 _ _ _ (popN (a / 2 ^ 24) + popN (a / 2 ^ 16 % 256)) (popN (a / 2 ^ 8 % 256)) (by omega), and255 _ _ _ a ha, index_tab (a % 256) (by omega),
    add8 _ _ _ (popN (a / 2 ^ 24) + popN (a / 2 ^ 16 % 256) + popN (a / 2 ^ 8 % 256)) (popN (a % 256)) (by omega), conv53]
  rw [wrap64 (by omega) (by omega), hp]
theorem c18 (hm : 3 ≤ m) (a : Nat) (ha : a < 2 ^ 32) : callP Try.prog hh L m 18 [U a] = some (I ((ons a.testBit 32).length : Nat)) := by
  obtain ⟨n, rfl⟩ : ∃ n, m = n + 1 + 1 := ⟨m - 2, by omega⟩
  refine callP_of (by kernel_rfl) ?_
  rw [r18]
  simp only [d18_0, callD_clo, List.nil_append, List.append_nil, c43 (L := L) (show 2 ≤ n + 1 by omega) a ha, ob_some]
end
end Go.Lite

namespace Go.Lite
open Go Go.Proofs
set_option linter.unusedVariables false
set_option linter.unusedSimpArgs false
set_option maxRecDepth 100000

/-! # the lowest nodes -/
theorem low_bit {s a : Nat} (hs : s < 2 ^ 32) (ha : s.testBit a = true) (hz : ∀ j, j < a → s.testBit j = false) : s &&& (2 ^ 32 - s) = 2 ^ a := by
  have hs0 : 0 < s := by
    rcases Nat.eq_zero_or_pos s with h | h
    · subst h; simp at ha
    · exact h
  have ha32 : a < 32 := by
    rcases Nat.lt_or_ge a 32 with h | h
    · exact h
    · rw [Nat.testBit_lt_two_pow (Nat.lt_of_lt_of_le hs (Nat.pow_le_pow_right (by decide) h))] at ha; cases ha
  have hmod : s % 2 ^ a = 0 := by
    apply Nat.eq_of_testBit_eq
    intro i
    rw [Nat.testBit_mod_two_pow, Nat.zero_testBit]
    by_cases hi : i < a
    · simp [hz i hi]
    · simp [hi]
  have hq : s = 2 ^ a * (s / 2 ^ a) := by have := Nat.div_add_mod s (2 ^ a); omega
  have hodd : (s / 2 ^ a) % 2 = 1 := by
    rw [Nat.testBit_eq_decide_div_mod_eq] at ha
    simpa using ha
  obtain ⟨q, hqq⟩ : ∃ q, s / 2 ^ a = 2 * q + 1 := ⟨s / 2 ^ a / 2, by omega⟩
  have hpa : 0 < 2 ^ a := Nat.two_pow_pos a
  have h1 : s - 1 = 2 ^ a * (2 * q) + (2 ^ a - 1) := by
    rw [hq, hqq, Nat.mul_add]; omega
  have h2 : 2 ^ 32 - s = 2 ^ 32 - (s - 1 + 1) := by omega
  apply Nat.eq_of_testBit_eq
  intro i
  rw [Nat.testBit_and, h2, Nat.testBit_two_pow_sub_succ (by omega), h1, Nat.testBit_two_pow_mul_add _ (by omega), Nat.testBit_two_pow]
  by_cases hi : i < a
  · simp only [if_pos hi, Nat.testBit_two_pow_sub_one, hi, decide_true, Bool.not_true, Bool.and_false]
    simp; omega
  · simp only [if_neg hi]
    by_cases hia : a = i
    · subst hia
      have : (2 * q).testBit (a - a) = false := by rw [Nat.sub_self]; simp
      simp [ha, ha32]
    · have hgt : a < i := by omega
      obtain ⟨d, rfl⟩ : ∃ d, i = a + (d + 1) := ⟨i - a - 1, by omega⟩
      have e1 : s.testBit (a + (d + 1)) = q.testBit d := by
        rw [Nat.add_comm a (d + 1), ← Nat.testBit_div_two_pow, hqq, Nat.testBit_succ]
        congr 1; omega
      have e2 : (2 * q).testBit (a + (d + 1) - a) = q.testBit d := by
        rw [show a + (d + 1) - a = d + 1 by omega, Nat.testBit_succ]
        congr 1; omega
      rw [e1, e2]
      have : ¬ a = a + (d + 1) := by omega
      cases q.testBit d <;> simp [this]
theorem ons_mem {p : Nat → Bool} {k i : Nat} : i ∈ ons p k ↔ i < k ∧ p i = true := by simp [ons]
theorem ons_pair (p : Nat → Bool) (k : Nat) : (ons p k).Pairwise (· < ·) := List.pairwise_lt_range.filter p
theorem ons_cong {p q : Nat → Bool} {k : Nat} (h : ∀ i, i < k → p i = q i) : ons p k = ons q k := by
  unfold ons
  apply List.filter_congr
  intro i hi
  exact h i (by simpa using hi)
theorem ons_cons {p : Nat → Bool} {k a : Nat} {r : List Nat} (h : ons p k = a :: r) : p a = true ∧ a < k ∧ (∀ j, j < a → p j = false) ∧ ons (fun i => p i && !decide (i = a)) k = r := by
  have hp := ons_pair p k
  rw [h] at hp
  obtain ⟨h1, h2⟩ := List.pairwise_cons.1 hp
  have ha : a ∈ ons p k := by rw [h]; simp
  obtain ⟨h3, h4⟩ := ons_mem.1 ha
  refine ⟨h4, h3, fun j hj => ?_, ?_⟩
  · cases hpj : p j with
    | false => rfl
    | true =>
      have : j ∈ ons p k := ons_mem.2 ⟨by omega, hpj⟩
      rw [h] at this
      rcases List.mem_cons.1 this with rfl | hr
      · omega
      · have := h1 j hr; omega
  · have : ons (fun i => p i && !decide (i = a)) k = (ons p k).filter fun i => !decide (i = a) := by
      unfold ons
      rw [List.filter_filter]
      congr 1
      funext i
      rw [Bool.and_comm]
    rw [this, h, List.filter_cons]
    simp only [decide_true, Bool.not_true, Bool.false_eq_true, if_false]
    apply List.filter_eq_self.2
    intro i hi
    have := h1 i hi
    simp; omega
theorem neg_u (a : Nat) (ha : 0 < a) (ha2 : a < 2 ^ 32) : unPV Try.prog .neg (U a) = some (U (2 ^ 32 - a)) := by
  have h : unPV Try.prog .neg (U a) = some (.sc (.int .u32 (IntKind.u32.wrap (0 - (a : Int))))) := by kernel_rfl
  rw [h]
  have e1 : (2 ^ IntKind.u32.bits : Int) = 4294967296 := by rfl
  have e3 : IntKind.u32.signed = false := rfl
  have : IntKind.u32.wrap (0 - (a : Int)) = ((2 ^ 32 - a : Nat) : Int) := by
    simp only [IntKind.wrap, e1, e3, Bool.false_and]
    simp; omega
  rw [this]
section
variable {L m : Nat}
/-- the lowest n of a set -/
def firstN (s : Nat) (n : Nat) : Nat := sumB ((ons s.testBit 32).take n)
theorem sumB_lt : ∀ {l : List Nat} {k b : Nat}, l.Pairwise (· < ·) → (∀ x ∈ l, b ≤ x) → (∀ x ∈ l, x < k) → b ≤ k → sumB l + 2 ^ b ≤ 2 ^ k
  | [], k, b, _, _, _, h => by simpa [sumB] using Nat.pow_le_pow_right (show 0 < 2 by decide) h
  | a :: r, k, b, hp, hb, hk, h => by
    obtain ⟨h1, h2⟩ := List.pairwise_cons.1 hp
    have ha := hk a (by simp)
    have hba := hb a (by simp)
    have := sumB_lt (b := a + 1) h2 (fun x hx => h1 x hx) (fun x hx => hk x (by simp [hx])) ha
    have e : sumB (a :: r) = 2 ^ a + sumB r := by simp [sumB]
    have e2 : 2 ^ (a + 1) = 2 * 2 ^ a := by rw [Nat.pow_succ]; omega
    have e3 : 2 ^ b ≤ 2 ^ a := Nat.pow_le_pow_right (by decide) hba
    rw [e]; omega
theorem c51' (hm : 4 ≤ m) (hL : 40 < L) (c : Bool) (l : List Nat) (hl : l.length ≤ 32) (hp : l.Pairwise (· < ·)) (hb : ∀ x ∈ l, x < 32) : callP Try.prog hh L m 51 [ints c l] = some (.tup [U (sumB l), I 0]) := by
  obtain ⟨n, rfl⟩ : ∃ n, m = n + 1 + 1 := ⟨m - 2, by omega⟩
  refine callP_of (by kernel_rfl) ?_
  rw [r51]
  have := l51 (L := L) (n + 1) (by omega) hL (fun v w => some (.tup [v, w])) (fun v => d51_3 (kk L (n + 1)) L v) c l hl hp hb l L 0 0 rfl (by omega) (fun x _ => Nat.two_pow_pos x)
  simp only [d51_0, g51_0, d51_1]
  rw [show (PV.sc (Value.int IntKind.i64 0)) = I ((0 : Nat) : Int) from rfl, show (PV.sc (Value.int IntKind.u32 0)) = U 0 from rfl, this]
  simp [d51_3]
theorem low_rest {s a : Nat} {r : List Nat} (hs : s < 2 ^ 32) (h : ons s.testBit 32 = a :: r) : s &&& (2 ^ 32 - s) = 2 ^ a ∧ ons (s &&& (2 ^ 32 - 1 - 2 ^ a)).testBit 32 = r := by
  obtain ⟨h1, h2, h3, h4⟩ := ons_cons h
  refine ⟨low_bit hs h1 h3, ?_⟩
  rw [← h4]
  apply ons_cong
  intro i hi
  have hp : (2 : Nat) ^ a < 2 ^ 32 := Nat.pow_lt_pow_right (by decide) h2
  rw [Nat.testBit_and, show 2 ^ 32 - 1 - 2 ^ a = 2 ^ 32 - (2 ^ a + 1) by omega, Nat.testBit_two_pow_sub_succ hp, Nat.testBit_two_pow]
  have : (decide (a = i)) = decide (i = a) := by rw [decide_eq_decide]; omega
  simp [hi, this]
theorem or_rise {o a : Nat} (h : o < 2 ^ a) : o ||| 2 ^ a = o + 2 ^ a := by
  have := Nat.two_pow_add_eq_or_of_lt h 1
  rw [Nat.mul_one] at this
  rw [Nat.or_comm, ← this, Nat.add_comm]
theorem l31 {R : Type} (C : Kallee) (ke : PV → Option R) (n : Nat) :
    ∀ (d N i s o : Nat) (l : List Nat), i + d = n → d < N → s < 2 ^ 32 → ons s.testBit 32 = l → d ≤ l.length → (∀ x ∈ l, o < 2 ^ x) → n ≤ 64 → d31_1i C L ke N (U s) (U o) (I n) (I i) = ke (U (o + sumB (l.take d))) := by
  intro d
  induction d with
  | zero =>
    intro N i s o l h hN hs hl hd ho hn
    obtain ⟨N, rfl⟩ : ∃ n, N = n + 1 := ⟨N - 1, by omega⟩
    have h2 : ¬ (i : Int) < n := by omega
    simp [d31_1i, d31_2, h2, sumB]
  | succ d ih =>
    intro N i s o l h hN hs hl hd ho hn
    obtain ⟨N, rfl⟩ : ∃ n, N = n + 1 := ⟨N - 1, by omega⟩
    have h5 : (i : Int) < n := by omega
    cases l with
    | nil => simp at hd
    | cons a r =>
      obtain ⟨g1, g2⟩ := low_rest hs hl
      obtain ⟨g3, g4, _, _⟩ := ons_cons hl
      have hs0 : 0 < s := by
        rcases Nat.eq_zero_or_pos s with h | h
        · subst h; simp at g3
        · exact h
      have hp : (2 : Nat) ^ a < 2 ^ 32 := Nat.pow_lt_pow_right (by decide) g4
      have hoa := ho a (by simp)
      have hpp := ons_pair s.testBit 32
      rw [hl] at hpp
      have hrise := (List.pairwise_cons.1 hpp).1
      have := ih N (i + 1) (s &&& (2 ^ 32 - 1 - 2 ^ a)) (o + 2 ^ a) r (by omega) (by omega) (Nat.lt_of_le_of_lt Nat.and_le_left hs) g2 (by simpa using hd) (fun x hx => by
        have := hrise x hx
        have h9 : (2 : Nat) ^ (a + 1) ≤ 2 ^ x := Nat.pow_le_pow_right (by decide) this
        rw [Nat.pow_succ] at h9; omega) hn
      simp only [d31_1i, d31_2, lss_int, ob_some, cb_bool, decide_eq_true_eq, h5, if_true, neg_u s hs0 hs, and_u _ _ _ _ s (2 ^ 32 - s) hs (by omega), g1, or_u _ _ _ _ o (2 ^ a) (by omega) hp, or_rise hoa, andNot_u _ _ _ _ s (2 ^ a) hs hp, add_int, wrap_succ (show i < 9223372036854775807 by omega), this]
      rw [List.take_succ_cons]
      simp only [sumB, List.map_cons, List.sum_cons]
      rw [Nat.add_assoc]
def firstPV (s : Nat) (n : Int) : PV := if 0 ≤ n ∧ n ≤ ((ons s.testBit 32).length : Nat) then .tup [U (firstN s n.toNat), Bo true] else .tup [U 0, Bo false]
theorem c31 (hm : 5 ≤ m) (hL : 100 < L) (s : Nat) (hs : s < 2 ^ 32) (n : Int) : callP Try.prog hh L m 31 [U s, I n] = some (firstPV s n) := by
  obtain ⟨k, rfl⟩ : ∃ n, m = n + 1 + 1 := ⟨m - 2, by omega⟩
  refine callP_of (by kernel_rfl) ?_
  rw [r31]
  have hlen := ons_len s.testBit 32
  simp only [d31_0, g31_0, d31_1, lss_int, ob_some, gcase_f, decide_eq_true_eq, callD_clo, List.nil_append, List.append_nil, c18 (L := L) (show 3 ≤ k + 1 by omega) s hs, gtr_int, cb_bool, firstPV]
  by_cases q1 : n < 0
  · have : ¬ (0 ≤ n ∧ n ≤ ((ons s.testBit 32).length : Nat)) := by omega
    simp [q1, this]
  by_cases q2 : ((ons s.testBit 32).length : Int) < n
  · have : ¬ (0 ≤ n ∧ n ≤ ((ons s.testBit 32).length : Nat)) := by omega
    simp [q1, q2, this]
  · have : 0 ≤ n ∧ n ≤ ((ons s.testBit 32).length : Nat) := by omega
    obtain ⟨n', rfl⟩ : ∃ k : Nat, n = k := ⟨n.toNat, by omega⟩
    have hl := l31 (L := L) (kk L (k + 1)) (fun v => d31_3 (kk L (k + 1)) L v) n' n' L 0 s 0 _ (by omega) (by omega) hs rfl (by omega) (fun x _ => Nat.two_pow_pos x) (by omega)
    simp only [q1, q2, if_false, this, and_self, if_true]
    rw [show (PV.sc (Value.int IntKind.i64 0)) = I ((0 : Nat) : Int) from rfl, show (PV.sc (Value.int IntKind.u32 0)) = U 0 from rfl, hl]
    simp [d31_3, firstN]
end
end Go.Lite

namespace Go.Lite
open Go Go.Proofs
set_option linter.unusedVariables false
set_option linter.unusedSimpArgs false
set_option maxRecDepth 100000

/-! # slices.Compact -/
def compT : Int → List Int → List Int
  | _, [] => []
  | p, a :: r => if a = p then compT a r else a :: compT a r
def comp : List Int → List Int
  | [] => []
  | a :: r => a :: compT a r
abbrev is (l : List Int) : List PV := l.map fun n => I n
theorem idxArr_n {n i : Nat} (h : i < n) : idxArr 0 0 n (I i) = some i := by
  simp [idxArr, intPV?]; omega
theorem idxSub_n {a n i : Nat} (h : i < n) : idxSub 0 0 a n (I i) = some (a + i) := by
  simp [idxSub, intPV?]; omega
@[simp] theorem at00 (n : Int) : PV.at_ 0 0 0 (I n) = some (I n) := nonrfl rfl
theorem get_is {l : List Int} {i : Nat} {a : Int} (h : l[i]? = some a) : ((is l)[i]?).bind (fun x => x.at_ 0 0 0) = some (I a) := by
  simp [h]
theorem put0 (v : AV) (n : Int) : putPV 0 0 0 v (I n) = some (I n) := by
  have h : (I n).hasLay 0 = true := rfl
  simp [putPV, h]
theorem set_is {l : List Int} {i : Nat} {a : Int} (h : i < l.length) : ((is l)[i]?).bind (fun y => (putPV 0 0 0 (.pv y) (I a)).map fun z => List.set (is l) i z) = some (is (l.set i a)) := by
  have h2 : l[i]? = some l[i] := List.getElem?_eq_getElem h
  simp [h2, put0, List.map_set]
theorem z58 : zOK Try.prog 2 0 = true := by kernel_rfl
theorem u58 : Try.prog.underlying 58 = some (.slice 2) := by kernel_rfl
theorem clear58 {xs : List PV} {lo n : Nat} (h : lo + n ≤ xs.length) : ∃ z, clearXs Try.prog 58 0 lo n xs = some (zeroed xs lo n z) := by
  have hz := z58
  unfold zOK at hz
  split at hz
  · rename_i z hzz
    exact ⟨z, by simp [clearXs, u58, y2, hzz, hz, h, width]⟩
  · cases hz
abbrev kr30 : Nat → Nat → List PV → List PV → Option (List OV) := fun n0 n1 x2 x3 => some [OV.a 0 (List.take n1 (List.drop n0 x2))]
section
variable {L m : Nat}
theorem f30_5 (C : Kallee) (l : List Int) (k : Nat) (x2 : List PV) (hk : k ≤ l.length) (hl : l.length ≤ 4611686018427387904) :
    d30_5 C L kr30 (I k) (is l) x2 = some [.a 0 (is (l.take k))] := by
  obtain ⟨z, hz⟩ := clear58 (xs := is l) (lo := k) (n := l.length - k) (by simp; omega)
  have h1 : subRange (is l).length (optIntPV 0 (some (I k))) (optIntPV (is l).length none) = some (k, l.length - k) := by
    simp [subRange, optIntPV, intPV?]; omega
  have h2 : subRange (zeroed (is l) k (l.length - k) z).length (optIntPV 0 none) (optIntPV (zeroed (is l) k (l.length - k) z).length (some (I k))) = some (0, k) := by
    rw [zeroed_len (by simp; omega)]
    simp [subRange, optIntPV, intPV?]; omega
  simp only [d30_5, h1, onr, hz, oxs_some, h2, List.drop_zero]
  simp only [kr30, List.drop_zero]
  rw [zeroed_take (by simp; omega), ← List.map_take]
theorem l30b (C : Kallee) (x5 : List PV) (n1 : Nat) : ∀ (r : List Int) (N v3 k : Nat) (l : List Int) (p : Int), r.length < N → l.length ≤ 4611686018427387904 → 1 ≤ v3 → n1 + v3 + r.length = l.length → l.drop (n1 + v3) = r → l[n1 + v3 - 1]? = some p → k + 1 ≤ n1 + v3 →
    d30_3i C L (fun v0 x1 x2 => d30_5 C L kr30 v0 x1 x2) N (I k) n1 (l.length - n1) (I v3) (is l) x5 = some [.a 0 (is (l.take k ++ compT p r))] := by
  intro r
  induction r with
  | nil =>
    intro N v3 k l p hN hl hv hlen hd hp hk
    obtain ⟨N, rfl⟩ : ∃ n, N = n + 1 := ⟨N - 1, by omega⟩
    simp only [List.length_nil, Nat.add_zero] at hlen
    have h2 : ¬ (v3 : Int) < ((l.length - n1 : Nat) : Int) := by omega
    simp only [d30_3i, d30_4, goI, lss_int, ob_some, cb_bool, decide_eq_true_eq, h2, if_false]
    rw [f30_5 C l k x5 (by omega) hl]
    simp [compT]
  | cons a r ih =>
    intro N v3 k l p hN hl hv hlen hd hp hk
    obtain ⟨N, rfl⟩ : ∃ n, N = n + 1 := ⟨N - 1, by omega⟩
    simp only [List.length_cons] at hlen hN
    obtain ⟨g1, g2, g3, g4⟩ := drop_cons' hd
    have h5 : (v3 : Int) < ((l.length - n1 : Nat) : Int) := by omega
    have e1 : IntKind.i64.wrap ((v3 : Int) - 1) = ((v3 - 1 : Nat) : Int) := by rw [wrap64 (by omega) (by omega)]; omega
    have e2 : n1 + (v3 - 1) = n1 + v3 - 1 := by omega
    have w1 : IntKind.i64.wrap ((v3 : Int) + 1) = ((v3 + 1 : Nat) : Int) := wrap_succ (by omega)
    have w2 : IntKind.i64.wrap ((k : Int) + 1) = ((k + 1 : Nat) : Int) := wrap_succ (by omega)
    simp only [d30_3i, d30_4, goI, lss_int, ob_some, cb_bool, decide_eq_true_eq, h5, if_true, idxSub_n (show v3 < l.length - n1 by omega), onat_some, get_is g2, sub_int0, e1, idxSub_n (show v3 - 1 < l.length - n1 by omega), e2, get_is hp, neq_int, ne_eq]
    by_cases q : a = p
    · simp only [q, not_true_eq_false, decide_false, Bool.false_eq_true, if_false, add_int, w1, ob_some]
      subst q
      rw [ih N (v3 + 1) k l a (by omega) hl (by omega) (by omega) (by rw [← Nat.add_assoc]; exact g3) (by rw [show n1 + (v3 + 1) - 1 = n1 + v3 by omega]; exact g2) (by omega)]
      simp [compT]
    · simp only [q, not_false_eq_true, decide_true, if_true, List.length_map, idxArr_n (show k < l.length by omega), onat_some, set_is (show k < l.length by omega), oxs_some, add_int, w1, w2, ob_some]
      have hlen2 : (l.set k a).length = l.length := List.length_set
      have hih := ih N (v3 + 1) (k + 1) (l.set k a) a (by omega) (by omega) (by omega) (by omega) (by
        rw [← Nat.add_assoc, List.drop_set_of_lt (by omega)]; exact g3) (by
        rw [show n1 + (v3 + 1) - 1 = n1 + v3 by omega, List.getElem?_set_ne (by omega)]; exact g2) (by omega)
      rw [hlen2] at hih
      rw [hih]
      have ht : (l.set k a).take (k + 1) = l.take k ++ [a] := by
        rw [List.take_add_one, List.take_set_of_le (Nat.le_refl k)]
        simp [show k < l.length by omega]
      rw [ht]
      simp [compT, q]
theorem compT_mem {x : Int} : ∀ {r : List Int} {p : Int}, (x = p ∨ x ∈ compT p r) ↔ (x = p ∨ x ∈ r)
  | [], p => by simp [compT]
  | a :: r, p => by
    have := compT_mem (x := x) (r := r) (p := a)
    simp only [compT]
    split
    · rename_i h; subst h
      rw [this]; simp
    · simp only [List.mem_cons]
      rw [this]
theorem l30a (C : Kallee) (x2 : List PV) : ∀ (r : List Int) (N : Nat) (A : List Int) (p : Int), (A ++ p :: r).length + r.length < N → (A ++ p :: r).length ≤ 4611686018427387904 → (A ++ p :: r).length < L →
    d30_1i C L (fun x0 x1 => d30_6 C L x0 x1) kr30 N (I ((A.length + 1 : Nat) : Int)) (is (A ++ p :: r)) x2 = some [.a 0 (is (A ++ p :: compT p r))] := by
  intro r
  induction r with
  | nil =>
    intro N A p hN hl hL
    obtain ⟨N, rfl⟩ : ∃ n, N = n + 1 := ⟨N - 1, by omega⟩
    have h2 : ¬ ((A.length + 1 : Nat) : Int) < (((A ++ [p]).length : Nat) : Int) := by simp
    simp only [d30_1i, d30_2, g30_2, goI, List.length_map, lss_int, ob_some, cb_bool, decide_eq_true_eq, h2, if_false, d30_6, compT]
  | cons a r ih =>
    intro N A p hN hl hL
    obtain ⟨N, rfl⟩ : ∃ n, N = n + 1 := ⟨N - 1, by omega⟩
    obtain ⟨l, hle⟩ : ∃ l, l = A ++ p :: a :: r := ⟨_, rfl⟩
    have hlen : l.length = A.length + 1 + (r.length + 1) := by rw [hle]; simp; omega
    rw [← hle] at hN hl hL ⊢
    simp only [List.length_cons] at hN
    have g2 : l[A.length + 1]? = some a := by rw [hle, List.getElem?_append_right (by omega)]; simp
    have g1 : l[A.length]? = some p := by rw [hle, List.getElem?_append_right (by omega)]; simp
    have h5 : ((A.length + 1 : Nat) : Int) < ((l.length : Nat) : Int) := by omega
    have e1 : IntKind.i64.wrap (((A.length + 1 : Nat) : Int) - 1) = (A.length : Int) := by rw [wrap64 (by omega) (by omega)]; omega
    have w1 : IntKind.i64.wrap (((A.length + 1 : Nat) : Int) + 1) = ((A.length + 1 + 1 : Nat) : Int) := wrap_succ (by omega)
    simp only [d30_1i, d30_2, g30_2, goI, List.length_map, lss_int, ob_some, cb_bool, decide_eq_true_eq, h5, if_true, idxArr_n (show A.length + 1 < l.length by omega), onat_some, get_is g2, sub_int0, e1, idxArr_n (show A.length < l.length by omega), get_is g1, eql_int]
    by_cases q : a = p
    · subst q
      have hs : subRange l.length (optIntPV 0 (some (I ((A.length + 1 : Nat) : Int)))) (optIntPV l.length none) = some (A.length + 1, l.length - (A.length + 1)) := by
        simp [subRange, optIntPV, intPV?]; omega
      simp only [decide_true, if_true, hs, onr, d30_3]
      have := l30b (L := L) C x2 (A.length + 1) r L 1 (A.length + 1) l a (by omega) hl (by omega) (by omega) (by rw [hle, show A.length + 1 + 1 = A.length + 2 by omega, List.drop_append]; simp) (by simpa using g2) (by omega)
      rw [show (PV.sc (Value.int IntKind.i64 1)) = I ((1 : Nat) : Int) from rfl, this]
      have ht : l.take (A.length + 1) = A ++ [a] := by
        rw [hle, show A ++ a :: a :: r = (A ++ [a]) ++ (a :: r) by simp]
        exact List.take_left' (by simp)
      rw [ht]
      simp [compT]
    · simp only [q, decide_false, Bool.false_eq_true, if_false, add_int, w1, ob_some]
      have hih := ih N (A ++ [p]) a (by simp at hlen ⊢; omega) (by rw [hle] at hl; simpa using hl) (by rw [hle] at hL; simpa using hL)
      have e : A ++ [p] ++ a :: r = l := by rw [hle]; simp
      rw [e] at hih
      simp only [List.length_append, List.length_cons, List.length_nil, Nat.zero_add] at hih
      rw [hih]
      simp [compT, q]
theorem c30 (hm : 2 ≤ m) (l : List Int) (hl : l.length ≤ 4611686018427387904) (hL : 2 * l.length + 2 < L) : callO Try.prog hh L m 30 [.a 0 (is l)] = some [.a 0 (is (comp l))] := by
  obtain ⟨n, rfl⟩ : ∃ n, m = n + 1 + 1 := ⟨m - 2, by omega⟩
  refine callO_of (sp := ⟨[1], 0, [some 0]⟩) (by kernel_rfl) (by kernel_rfl) ?_
  rw [r30]
  simp only [d30_0, g30_0, goI, List.length_map, lss_int, ob_some, cb_bool, decide_eq_true_eq]
  match l with
  | [] => simp [comp]
  | [a] => simp [comp, compT]
  | a :: b :: r =>
    have h2 : ¬ (((a :: b :: r).length : Nat) : Int) < 2 := by simp; omega
    simp only [h2, if_false, d30_1]
    have := l30a (L := L) (kk L (n + 1)) [] (b :: r) L [] a (by simp at hL ⊢; omega) (by simpa using hl) (by simp at hL ⊢; omega)
    simp only [List.length_nil, Nat.zero_add, List.nil_append] at this
    rw [show (PV.sc (Value.int IntKind.i64 1)) = I ((1 : Nat) : Int) from rfl, this]
    rfl
theorem comp_mem {x : Int} {l : List Int} : x ∈ comp l ↔ x ∈ l := by
  cases l with
  | nil => simp [comp]
  | cons a r => simp only [comp, List.mem_cons]; exact compT_mem
theorem compT_sub : ∀ {r : List Int} {p : Int}, (compT p r).Sublist r
  | [], p => by simp [compT]
  | a :: r, p => by
    simp only [compT]
    split
    · exact (compT_sub (r := r) (p := a)).cons a
    · exact (compT_sub (r := r) (p := a)).cons_cons a
theorem comp_sub {l : List Int} : (comp l).Sublist l := by
  cases l with
  | nil => simp [comp]
  | cons a r => exact compT_sub.cons_cons a
end
end Go.Lite

namespace Go.Lite
open Go Go.Proofs
set_option linter.unusedVariables false
set_option linter.unusedSimpArgs false
set_option maxRecDepth 100000

/-! # the earliest place: the program -/
theorem sl58 : SlTy Try.prog 58 2 0 8 := .of (by kernel_rfl) (by kernel_rfl) (by kernel_rfl) (by kernel_rfl) (by kernel_rfl) (by kernel_rfl)
theorem bs58 (n : Int) : buildSliceAV Try.prog 58 1 [(0, I n)] = some (.list 0 true [I n]) := by kernel_rfl
theorem bx58 (n : Int) : buildXs Try.prog 58 0 1 [(0, I n)] = some [I n] := by kernel_rfl
theorem app58 (l : List Int) (n : Int) (h : l.length ≤ 1000000) : appendTo Try.prog 58 58 0 (is l) (.list 0 true [I n]) = some (is (l ++ [n])) := by
  rw [sl58.appTo sl58 .list (by simp; omega)]; simp
/-- the cuts of the nodes that are asked, from node i on -/
def tn (s : Nat) : Nat → List (List Ct) → List Int
  | _, [] => []
  | i, c :: r => (if s.testBit i then c.map (·.1) else []) ++ tn s (i + 1) r
theorem tn_len (s : Nat) : ∀ (r : List (List Ct)) (i : Nat), (tn s i r).length ≤ cutsN r
  | [], i => by simp [tn]
  | c :: r, i => by
    have := tn_len s r (i + 1)
    have e : cutsN (c :: r) = c.length + cutsN r := by simp [cutsN]
    simp only [tn, List.length_append, e]
    split <;> simp <;> omega
def timesP (p : List (List Ct)) (a : Ask) : List Int := a.fr :: tn a.nodes 0 p ++ a.blocks.map (·.to)
theorem tn_mem {s : Nat} {t : Int} : ∀ {r : List (List Ct)} {k : Nat}, t ∈ tn s k r ↔ ∃ (i : Nat) (c : List Ct), r[i]? = some c ∧ s.testBit (k + i) = true ∧ ∃ x ∈ c, x.1 = t
  | [], k => by simp [tn]
  | c :: r, k => by
    simp only [tn, List.mem_append, tn_mem (r := r)]
    constructor
    · rintro (h | ⟨i, c', h1, h2, h3⟩)
      · split at h
        · rename_i hb
          simp only [List.mem_map] at h
          exact ⟨0, c, rfl, by simpa using hb, h⟩
        · simp at h
      · exact ⟨i + 1, c', by simpa using h1, by rw [show k + (i + 1) = k + 1 + i by omega]; exact h2, h3⟩
    · rintro ⟨i, c', h1, h2, h3⟩
      cases i with
      | zero =>
        simp at h1; subst h1
        left
        rw [if_pos (by simpa using h2)]
        simpa using h3
      | succ i => exact .inr ⟨i, c', by simpa using h1, by rw [show k + 1 + i = k + (i + 1) by omega]; exact h2, h3⟩
theorem times_seen (p : List (List Ct)) (a : Ask) (t : Int) : t ∈ timesP p a ↔ Seen p a t := by
  unfold timesP Seen
  simp only [List.cons_append, List.mem_cons, List.mem_append, List.mem_map, tn_mem, Nat.zero_add]
/-- where it looks, in order -/
def lookP (p : List (List Ct)) (a : Ask) : List Int := comp (isort (timesP p a))
theorem look_mem {p : List (List Ct)} {a : Ask} {t : Int} : t ∈ lookP p a ↔ Seen p a t := by
  rw [lookP, comp_mem, (isort_perm _).mem_iff, times_seen]
theorem look_sorted (p : List (List Ct)) (a : Ask) : (lookP p a).Pairwise (· ≤ ·) := (isort_sorted _).sublist comp_sub
theorem ons_bits (f : Nat → Bool) : ons (bits f 32).testBit 32 = ons f 32 := ons_cong fun i hi => by rw [bits_testBit]; simp [hi]
theorem onsN_ons (f : Nat → Bool) : onsN f = (ons f 32).length := rfl
def fitP (p : List (List Ct)) (a : Ask) : Option Int := (lookP p a).find? (fits p a)
def onP (p : List (List Ct)) (a : Ask) (t : Int) : Nat := firstN (bits (opn p a t) 32) a.count.toNat
def fitPV (p : List (List Ct)) (a : Ask) : PV :=
  if (askB a && rightP p) = true then (match fitP p a with
    | some t => .tup [I t, U (onP p a t), I 0]
    | none => .tup [I 0, U 0, I 120])
  else .tup [I 0, U 0, I 2]
theorem fitP_first (p : List (List Ct)) (a : Ask) : IsFirst (fits p a) (fitP p a) := first_of (fun t h => look_mem.2 h) (by
  have := find_first (f := fits p a) (look_sorted p a)
  exact this)
section
variable {L m : Nat}
theorem askB_in {a : Ask} (h : askB a = true) : 1 ≤ a.count ∧ a.count ≤ 32 ∧ 1 ≤ a.limit ∧ a.limit ≤ 1048576 ∧ 0 ≤ a.fr ∧ a.fr ≤ 1099511627776 ∧ 1 ≤ a.cores ∧ a.cores ≤ 64 ∧ ∀ b ∈ a.blocks, winB b.fr b.to = true := by
  simp only [askB, Bool.and_eq_true, decide_eq_true_eq, List.all_eq_true] at h
  obtain ⟨⟨⟨⟨⟨⟨⟨⟨h1, h2⟩, h3⟩, h4⟩, h5⟩, h6⟩, h7⟩, h8⟩, h9⟩ := h
  exact ⟨h1, h2, h5, h6, h7, h8, h3, h4, h9⟩
theorem l11c {R : Type} (C : Kallee) (ke : PV → PV → PV → PV → PV → List PV → Option R) (v0 v1 v2 v3 v7 : PV) (s : List Ct) (hs : s.length ≤ 3000) :
    ∀ (r : List Ct) (N i : Nat) (l : List Int), s.drop i = r → r.length < N → l.length + r.length ≤ 1000000 → d11_3i C L ke N v0 v1 v2 v3 (cuts false s) (I s.length) (I i) v7 (is l) = ke v0 v1 v2 v3 v7 (is (l ++ r.map (·.1))) := by
  intro r
  induction r with
  | nil =>
    intro N i l h hN hl
    obtain ⟨N, rfl⟩ : ∃ n, N = n + 1 := ⟨N - 1, by omega⟩
    have := drop_nil' h
    have h2 : ¬ (i : Int) < s.length := by omega
    simp [d11_3i, d11_4, h2]
  | cons c r ih =>
    intro N i l h hN hl
    obtain ⟨N, rfl⟩ : ∃ n, N = n + 1 := ⟨N - 1, by omega⟩
    obtain ⟨h1, h2, h3, h4⟩ := drop_cons' h
    have h5 : (i : Int) < s.length := by omega
    simp only [List.length_cons] at hN hl
    simp only [d11_3i, d11_4, lss_int, ob_some, cb_bool, decide_eq_true_eq, h5, if_true, ia52, h2, Option.map_some, ld54, putC, at30, bs58, app58 l c.1 (by omega), oxs_some, add_int, wrap_succ (show i < 9223372036854775807 by omega)]
    rw [ih N (i + 1) (l ++ [c.1]) h3 (by omega) (by simp; omega)]
    simp
theorem l11p {R : Type} (C : Kallee) (ke : PV → PV → List PV → Option R) (a : Ask) (ha : a.nodes < 2 ^ 32) (p : List (List Ct)) (hp : OkP L p) (hp2 : p.length ≤ 32) :
    ∀ (r : List (List Ct)) (N i : Nat) (l : List Int), p.drop i = r → r.length < N → l.length + cutsN r ≤ 1000000 → d11_1i C L ke N (prof p) (prof p) (I p.length) (I i) (apv a) (is l) = ke (prof p) (apv a) (is (l ++ tn a.nodes i r)) := by
  have hL := hp.L
  intro r
  induction r with
  | nil =>
    intro N i l h hN hl
    obtain ⟨N, rfl⟩ : ∃ n, N = n + 1 := ⟨N - 1, by omega⟩
    have := drop_nil' h
    have h2 : ¬ (i : Int) < p.length := by omega
    simp [d11_1i, d11_2, g11_2, h2, tn]
  | cons c r ih =>
    intro N i l h hN hl
    obtain ⟨N, rfl⟩ : ∃ n, N = n + 1 := ⟨N - 1, by omega⟩
    obtain ⟨h1, h2, h3, h4⟩ := drop_cons' h
    have h5 : (i : Int) < p.length := by omega
    have hc := hp.c c h4
    have e : cutsN (c :: r) = c.length + cutsN r := by simp [cutsN]
    simp only [List.length_cons] at hN
    rw [e] at hl
    have hsd : a.nodes / 2 ^ i < 2 ^ 32 := Nat.lt_of_le_of_lt (Nat.div_le_self _ _) ha
    have hbit : (decide (((a.nodes / 2 ^ i % 2 : Nat) : Int) = 0)) = !a.nodes.testBit i := by
      rw [← bit_is]
      have : a.nodes / 2 ^ i % 2 < 2 := Nat.mod_lt _ (by decide)
      by_cases q : ((a.nodes / 2 ^ i % 2 : Nat) : Int) = 0
      · have : ¬ ((a.nodes / 2 ^ i % 2 : Nat) : Int) = 1 := by omega
        simp [q, this]
      · have : ((a.nodes / 2 ^ i % 2 : Nat) : Int) = 1 := by omega
        rw [this]; rfl
    simp only [d11_1i, d11_2, g11_2, lss_int, ob_some, cb_bool, decide_eq_true_eq, h5, if_true, ia22, h2, Option.map_some, ld52, at74, shr_u _ _ _ _ a.nodes i (show i < 32 by omega), and1_u _ _ _ _ hsd, eql_int, hbit, ln52, add_int, wrap_succ (show i < 9223372036854775807 by omega), tn]
    by_cases hb : a.nodes.testBit i = true
    · simp only [hb, Bool.not_true, Bool.false_eq_true, if_false, d11_3, if_true]
      rw [show (PV.sc (Value.int IntKind.i64 0)) = I ((0 : Nat) : Int) from rfl, l11c (L := L) C _ (prof p) (prof p) (I p.length) (I i) (apv a) c hc c L 0 l rfl (by omega) (by omega)]
      simp only [d11_5, add_int, wrap_succ (show i < 9223372036854775807 by omega), ob_some]
      rw [ih N (i + 1) (l ++ c.map (·.1)) h3 (by omega) (by simp; omega)]
      simp
    · simp only [hb, Bool.not_false, if_true, Bool.false_eq_true, if_false, List.nil_append]
      rw [ih N (i + 1) l h3 (by omega) (by omega)]
theorem l11b {R : Type} (C : Kallee) (ke : PV → PV → List PV → Option R) (v0 v4 : PV) (bl : List Blk) (hbl : bl.length ≤ 1000) :
    ∀ (r : List Blk) (N i : Nat) (l : List Int), bl.drop i = r → r.length < N → l.length + r.length ≤ 1000000 → d11_7i C L ke N v0 (blks bl) (I bl.length) (I i) v4 (is l) = ke v0 v4 (is (l ++ r.map (·.to))) := by
  intro r
  induction r with
  | nil =>
    intro N i l h hN hl
    obtain ⟨N, rfl⟩ : ∃ n, N = n + 1 := ⟨N - 1, by omega⟩
    have := drop_nil' h
    have h2 : ¬ (i : Int) < bl.length := by omega
    simp [d11_7i, d11_8, h2]
  | cons b r ih =>
    intro N i l h hN hl
    obtain ⟨N, rfl⟩ : ∃ n, N = n + 1 := ⟨N - 1, by omega⟩
    obtain ⟨h1, h2, h3, h4⟩ := drop_cons' h
    have h5 : (i : Int) < bl.length := by omega
    simp only [List.length_cons] at hN hl
    simp only [d11_7i, d11_8, lss_int, ob_some, cb_bool, decide_eq_true_eq, h5, if_true, ia25, h2, Option.map_some, ld46, putB, at42, bs58, app58 l b.to (by omega), oxs_some, add_int, wrap_succ (show i < 9223372036854775807 by omega)]
    rw [ih N (i + 1) (l ++ [b.to]) h3 (by omega) (by simp; omega)]
    simp
theorem l11f {R : Type} (n : Nat) (hn : 12 ≤ n) (kr : PV → PV → PV → PV → List PV → List PV → Option R) (ke : PV → List PV → List PV → Option R) (p : List (List Ct)) (hp : OkP L p) (hr : rightP p = true) (a : Ask) (ha : OkQ a) (hq : askB a = true) (x4 : List PV) (ts : List Int) (hts : ts.length ≤ 1000000) :
    ∀ (r : List Int) (N i : Nat), ts.drop i = r → r.length < N → d11_14i (kk L n) L kr ke N (prof p) (I ts.length) (I i) (apv a) x4 (is ts) = (match r.find? (fits p a) with | some t => kr (I t) (U (onP p a t)) (I 0) (apv a) x4 (is ts) | none => ke (apv a) x4 (is ts)) := by
  obtain ⟨g1, g2, g3, g4, g5, g6, _, _, _⟩ := askB_in hq
  have hL := hp.L
  intro r
  induction r with
  | nil =>
    intro N i h hN
    obtain ⟨N, rfl⟩ : ∃ n, N = n + 1 := ⟨N - 1, by omega⟩
    have := drop_nil' h
    have h2 : ¬ (i : Int) < ts.length := by omega
    simp [d11_14i, d11_15, h2]
  | cons t r ih =>
    intro N i h hN
    obtain ⟨N, rfl⟩ : ∃ n, N = n + 1 := ⟨N - 1, by omega⟩
    obtain ⟨h1, h2, h3, h4⟩ := drop_cons' h
    have h5 : (i : Int) < ts.length := by omega
    simp only [List.length_cons] at hN
    have hih := ih N (i + 1) h3 (by omega)
    have hw : IntKind.i64.wrap ((i : Int) + 1) = ((i + 1 : Nat) : Int) := wrap_succ (by omega)
    simp only [d11_14i, d11_15, lss_int, ob_some, cb_bool, decide_eq_true_eq, h5, if_true, List.length_map, idxArr_n h1, onat_some, get_is h2, at73, gtr_int, gcase_f, List.find?_cons]
    by_cases q1 : t < a.fr
    · have hf : fits p a t = false := by simp only [fits]; have : ¬ a.fr ≤ t := by omega
                                         simp [this]
      simp only [q1, decide_true, if_true, add_int, hw, ob_some, hf, hih]
    by_cases q2 : (1099511627776 : Int) < t
    · have hf : fits p a t = false := by simp only [fits]; have : ¬ t ≤ 1099511627776 := by omega
                                         simp [this]
      simp only [q1, q2, decide_true, decide_false, Bool.false_eq_true, if_false, if_true, add_int, hw, ob_some, hf, hih]
    have ht : winB t (t + a.limit) = true := by simp only [winB, Bool.and_eq_true, decide_eq_true_eq]; omega
    have hs : bits (opn p a t) 32 < 2 ^ 32 := bits_lt _ 32
    have hfe : fits p a t = decide (a.count ≤ ((ons (opn p a t) 32).length : Nat)) := by
      simp only [fits, good, onsN_ons]
      have e1 : a.fr ≤ t := by omega
      have e2 : t ≤ 1099511627776 := by omega
      simp [e1, e2]
      rfl
    simp only [q1, q2, decide_false, Bool.false_eq_true, if_false, callD_clo, List.nil_append, List.append_nil, c32 (L := L) (show 10 ≤ n by omega) p hp hr a ha t ht, ob_some, at70, c31 (L := L) (show 5 ≤ n by omega) (by omega) _ hs, firstPV, ons_bits]
    by_cases q3 : a.count ≤ ((ons (opn p a t) 32).length : Nat)
    · have q4 : 0 ≤ a.count ∧ a.count ≤ ((ons (opn p a t) 32).length : Nat) := ⟨by omega, q3⟩
      have hf : fits p a t = true := by rw [hfe]; simp [q3]
      simp only [q4, and_self, if_true, extract_tup, List.getElem?_cons_zero, List.getElem?_cons_succ, ob_some, cb_bool, hf, onP]
    · have q4 : ¬ (0 ≤ a.count ∧ a.count ≤ ((ons (opn p a t) 32).length : Nat)) := fun h => q3 h.2
      have hf : fits p a t = false := by rw [hfe]; simp [q3]
      simp only [q4, if_false, extract_tup, List.getElem?_cons_zero, List.getElem?_cons_succ, ob_some, cb_bool, Bool.false_eq_true, add_int, hw, hf, hih]
theorem cutsN_le {p : List (List Ct)} (h1 : p.length ≤ 40) (h2 : ∀ s ∈ p, s.length ≤ 3000) : cutsN p ≤ 120000 := by
  have : ∀ {q : List (List Ct)}, (∀ s ∈ q, s.length ≤ 3000) → cutsN q ≤ 3000 * q.length := by
    intro q
    induction q with
    | nil => intro _; simp [cutsN]
    | cons s r ih =>
      intro h
      have e : cutsN (s :: r) = s.length + cutsN r := by simp [cutsN]
      have := ih (fun x hx => h x (by simp [hx]))
      have := h s (by simp)
      rw [e, List.length_cons]; omega
  have := this h2
  omega
theorem c11 (hm : 14 ≤ m) (p : List (List Ct)) (hp : OkP L p) (a : Ask) (ha : OkQ a) (hL2 : 300000 < L) : callP Try.prog hh L m 11 [prof p, apv a] = some (fitPV p a) := by
  obtain ⟨n, rfl⟩ : ∃ n, m = n + 1 + 1 := ⟨m - 2, by omega⟩
  refine callP_of (by kernel_rfl) ?_
  rw [r11]
  have hL := hp.L
  have hc := cutsN_le hp.n hp.c
  have hb := ha.b
  simp only [d11_0, g11_0, d11_1, hl7a, ck_true, callD_clo, List.nil_append, List.append_nil, c28 (L := L) (show 6 ≤ n + 1 by omega) hL a ha, ob_some, not_bool, gcase_f, c20 (L := L) (show 6 ≤ n + 1 by omega) p hp, cb_bool, at73, bx58, oxs_some, ln22, fitPV]
  cases hq : askB a with
  | false => simp
  | true =>
    cases hr : rightP p with
    | false => simp
    | true =>
      obtain ⟨_, hp2, _⟩ := rightP_in hr
      simp only [Bool.not_true, Bool.false_eq_true, if_false, Bool.and_self, if_true]
      rw [show (PV.sc (Value.int IntKind.i64 0)) = I ((0 : Nat) : Int) from rfl, show [I a.fr] = is [a.fr] from rfl, l11p (L := L) (kk L (n + 1)) _ a ha.n p hp hp2 p L 0 [a.fr] rfl (by omega) (by simp; omega)]
      have ht := tn_len a.nodes p 0
      simp only [d11_6, g11_6, d11_7, at75, ob_some, ln25]
      rw [show (PV.sc (Value.int IntKind.i64 0)) = I ((0 : Nat) : Int) from rfl, l11b (L := L) (kk L (n + 1)) _ (prof p) (apv a) a.blocks (by omega) a.blocks L 0 ([a.fr] ++ tn a.nodes 0 p) rfl (by omega) (by simp; omega)]
      have e : [a.fr] ++ tn a.nodes 0 p ++ a.blocks.map (·.to) = timesP p a := by simp [timesP]
      rw [e]
      have hlen : (timesP p a).length ≤ 130000 := by simp [timesP]; omega
      have hlen2 : (isort (timesP p a)).length = (timesP p a).length := (isort_perm _).length_eq
      have hlen3 : (lookP p a).length ≤ 130000 := by have := (comp_sub (l := isort (timesP p a))).length_le; unfold lookP; omega
      have h29 : callO Try.prog hh L (n + 1) 29 [.a 0 (is (timesP p a))] = some [.a 0 (is (isort (timesP p a)))] := by
        rw [callO_prim (q := sortPO) (by kernel_rfl)]
        exact sortQ_ints _ _ (by omega)
      have h30 : callO Try.prog hh L (n + 1) 30 [.a 0 (is (isort (timesP p a)))] = some [.a 0 (is (lookP p a))] := c30 (by omega) _ (by omega) (by omega)
      simp only [d11_9, g11_9, d11_10, h29, oo_s, oa_s, onil_s, d11_11, g11_11, d11_12, h30, d11_13, g11_13, d11_14, goI, List.length_map]
      rw [show (PV.sc (Value.int IntKind.i64 0)) = I ((0 : Nat) : Int) from rfl, l11f (L := L) (n + 1) (by omega) _ _ p hp hr a ha hq _ (lookP p a) (by omega) (lookP p a) L 0 rfl (by omega), ← fitP]
      cases hfp : fitP p a with
      | none => simp [d11_16]
      | some t => simp
end
end Go.Lite

namespace Go.Lite
open Go Go.Proofs
set_option linter.unusedVariables false
set_option linter.unusedSimpArgs false
set_option maxRecDepth 100000
namespace Cl
def ownT : Tr (List (Nat × Nat)) := (.node 27 [(3, 3)] (.node 12 [(26, 0)] (.node 10 [(3, 4)] (.node 9 [(3, 0)] .nil .nil) (.node 11 [(28, 0)] .nil .nil)) (.node 22 [(4, 0)] (.node 21 [(4, 0)] .nil .nil) (.node 23 [(12, 0)] .nil .nil))) (.node 60 [(5, 0)] (.node 38 [(12, 0)] (.node 34 [(3, 0)] .nil .nil) (.node 53 [(12, 0)] .nil .nil)) (.node 69 [(32, 1000), (32, 0), (14, 3)] (.node 61 [(5, 3)] .nil .nil) .nil)))
def liveT : Tr (List (Nat × List Nat)) := (.node 50 [(2, [0, 1, 5])] (.node 23 [(5, [0, 1, 2, 3, 4, 12, 13])] (.node 11 [(21, [0, 3, 71, 72, 73]), (15, [0, 3, 7, 56, 57, 58]), (9, [0, 3, 7, 29, 30, 31, 42, 43, 44]), (5, [0, 3, 7, 29, 30, 31])] (.node 7 [(3, [0, 3, 4])] (.node 5 [(22, [4, 7, 8, 14, 15, 145, 146, 147]), (9, [0, 2, 4, 7, 8, 9, 10, 11, 69, 70, 71])] (.node 4 [(7, [0, 3, 5, 7])] .nil .nil) (.node 6 [(18, [1, 7, 16, 24, 25]), (15, [1, 7, 16, 24])] .nil .nil)) (.node 10 [(3, [0, 3, 4])] (.node 9 [(3, [0, 3, 4])] .nil .nil) .nil)) (.node 14 [(4, [0, 1, 5])] (.node 13 [(4, [0, 1, 5])] (.node 12 [(17, [0, 3, 7, 11, 12]), (12, [0, 3, 7, 10]), (8, [0, 3, 7, 8, 9]), (5, [0, 3, 7, 8])] .nil .nil) .nil) (.node 22 [(5, [0, 4, 5])] (.node 21 [(5, [4, 17, 18, 19])] .nil .nil) .nil))) (.node 34 [(3, [0, 3, 4])] (.node 31 [(5, [0, 6, 16, 17])] (.node 27 [(3, [0, 3, 4])] (.node 26 [(2, [0, 3])] .nil .nil) (.node 30 [(9, [0, 3, 4, 5]), (4, [0, 3])] .nil .nil)) (.node 33 [(4, [1, 3])] (.node 32 [(3, [3, 4, 5, 7, 13, 14, 15])] .nil .nil) .nil)) (.node 38 [(5, [0, 1, 2, 3, 4, 12, 42, 43])] (.node 37 [(4, [0, 1, 5])] (.node 35 [(3, [2, 4, 7, 9])] .nil .nil) .nil) (.node 46 [(4, [0, 21, 22])] (.node 40 [(3, [1, 2, 7, 10, 11])] .nil .nil) .nil)))) (.node 71 [(4, [0, 1, 2, 6, 7]), (1, [0, 1, 2, 6])] (.node 64 [(4, [2, 8, 21, 22, 23])] (.node 57 [(2, [0, 1, 2, 3, 8, 9])] (.node 53 [(3, [0, 1, 2, 3, 4, 12, 13])] (.node 51 [(3, [0, 4, 5])] .nil .nil) (.node 54 [(4, [0, 3])] .nil .nil)) (.node 62 [(5, [1, 2, 3, 10, 32, 33])] (.node 60 [(3, [0, 1, 5, 6])] .nil .nil) .nil)) (.node 68 [(3, [0, 3, 4])] (.node 67 [(3, [0, 1, 2, 7, 8])] (.node 65 [(2, [0, 1, 7, 8])] .nil .nil) .nil) (.node 70 [(2, [0, 1, 7, 8])] (.node 69 [(17, [0, 1, 2, 3, 10, 14, 15]), (12, [0, 1, 2, 3, 10, 12, 13]), (9, [0, 1, 2, 3, 10, 12]), (5, [0, 1, 2, 3, 10, 11])] .nil .nil) .nil))) (.node 79 [(15, [0, 1, 10, 11]), (13, [0, 1, 10, 11]), (5, [0, 1, 10, 11]), (3, [0, 1, 10, 11])] (.node 75 [(2, [0, 6, 7])] (.node 73 [(5, [0, 1, 6, 7, 8, 9])] (.node 72 [(8, [0, 6, 7, 10]), (4, [0, 6, 7, 8, 9])] .nil .nil) .nil) (.node 78 [(5, [0, 1, 9, 10]), (3, [0, 1, 9, 10])] (.node 76 [(20, [0, 1, 2, 7, 8, 10]), (14, [0, 1, 2, 7, 8, 9]), (5, [0, 1, 2, 7, 8]), (3, [0, 1, 2, 7, 8])] .nil .nil) .nil)) (.node 87 [(1, [0, 2, 3, 8])] (.node 86 [(3, [0, 1, 5, 6])] (.node 83 [(9, [0, 1, 5, 6, 7]), (4, [0, 1, 5])] .nil .nil) .nil) (.node 100 [(1, [0, 2, 3])] (.node 94 [(2, [1, 5, 6])] .nil .nil) .nil)))))
def shutT : Tr (List (Nat × List Nat)) := .nil
def sharedT : Tr Bool := .nil
def methT : Tr (Nat × List Bool) := .nil
def ownFT : Tr OwnSp := .nil
def inlT : Tr Bool := .nil
def joinTab : Tr (List (Nat × Join)) := .nil
def h0 : Hints := { own := fun f t => (ownT.get? f).bind fun l => pairFind l t, live := fun f i => ((liveT.get? f).bind fun l => pairFind l i).getD [], join := fun f i => (joinTab.get? f).bind fun l => pairFind l i, shared := fun f => (sharedT.get? f).getD false, stil := fun f i => ((shutT.get? f).bind fun l => pairFind l i).getD [], meth := fun f => methT.get? f, inl := fun f => (inlT.get? f).getD false, primS := fun f => none, primM := fun g => none, ownF := fun f => ownFT.get? f, primO := fun g => none }
def hh : Hints := { h0 with prim := fun f => bif Nat.beq f 61 then some (cloneQ 3) else none }

/-! ## 61: slices.Clone[[]muster/api.Cut,muster/api.Cut] -/
noncomputable def d61_0 (C : Kallee) (L : Nat)  (v0 : PV) : Option PV := (ob (binPV Try.prog .eql 52 (.tmp 3) (.const (.slice none 0 0)) v0 (.sc (.slice none 0 0))) fun v102 => (cb v102 (some (.sc (.slice none 0 0))) (oxs (buildXs Try.prog 52 3 0 []) fun x103 => (oxs (appendTo Try.prog 52 52 3 x103 v0) fun x104 => (some (.list 3 false x104))))))
theorem e61_0 (C : Kallee) (L : Nat) (v0 : PV) : execR Try.prog C h0 L 61 (cAt (bodyOf Try.f61) []) (Env.ofArgs [(.pv v0)] 0 .nil) [] (endP Try.prog Try.f61) = d61_0 C L v0 := by kernel_rfl
theorem r61 (C : Kallee) (L : Nat) (v0 : PV) : bodyPR Try.prog C h0 L 61 [v0] = d61_0 C L v0 := Eq.trans (bodyPR_eq (c := cAt (bodyOf Try.f61) []) [v0] Try.func61 (by kernel_rfl) (by kernel_rfl)) (e61_0 C L v0)

end Cl
noncomputable abbrev kz : Kallee := ⟨callP Try.prog Cl.h0 1 1, callS Try.prog Cl.h0 1 1, callM Try.prog Cl.h0 1 1, callO Try.prog Cl.h0 1 1, Cl.h0.calmB, Cl.h0.primS⟩
theorem kz_ok : KOK Try.prog kz := call_sound tidyTry (fun g q h => by simp [Cl.h0] at h) (fun g q h => by simp [Cl.h0] at h) (fun g q h => by simp [Cl.h0] at h) (fun g q sp h => by simp [Cl.h0] at h) 1
theorem kz_is : KIs Try.prog Cl.h0 1 kz := kis Try.prog Cl.h0 1 0
theorem nil52 : buildXs Try.prog 52 3 0 [] = some [] := by kernel_rfl
theorem eqn52 (x y : Operand) (c : Bool) (a : PV) (xs : List PV) : binPV Try.prog .eql 52 x y (.list 3 c (a :: xs)) (.sc (.slice none 0 0)) = some (.sc (.bool false)) := sl52.eqNil
theorem clone61 : PureOK Try.prog fun g args => if g = 61 then cloneQ 3 args else none := by
  refine clone_ok (C := kz) (h := Cl.h0) (L := 1) tidyTry kz_ok (fun c x xs hl => ?_) ?_ fun a c => ?_
  · refine bodyPR_imp kz_is ?_
    rw [Cl.r61]
    have h := sl52.appTo sl52 (d := .list 3 c (x :: xs)) (xs := []) (ys := x :: xs) .list (by simp at hl ⊢; omega)
    simp only [Cl.d61_0, eqn52, ob_some, cb_bool, Bool.false_eq_true, if_false, nil52, oxs_some, h, List.nil_append]
  · refine bodyPR_imp kz_is ?_
    rw [Cl.r61]; kernel_rfl
  · refine bodyPR_imp kz_is ?_
    rw [Cl.r61]; kernel_rfl
theorem prims_hh : PrimsOK Try.prog hh.prim := by
  intro g q h
  simp only [hh] at h
  cases hg : Nat.beq g 61 with
  | false => rw [hg] at h; simp at h
  | true =>
    rw [hg] at h
    simp only [cond_true, Option.some.injEq] at h
    subst h
    have : g = 61 := Nat.eq_of_beq_eq_true hg
    subst this
    exact clone61
theorem primsS_hh : PrimsSOK Try.prog hh.primS := fun g q h => by simp [hh, h0] at h
theorem primsM_hh : PrimsMOK Try.prog hh.primM := fun g q h => by simp [hh, h0] at h
theorem primsO_hh : PrimsOOK Try.prog hh.ownF hh.primO := primsO_ok

/-! # what is handed in -/
abbrev ctC : CT := .list 3 16 [.int .i64, .int .i64]
abbrev ctP : CT := .list 0 24 [ctC]
abbrev ctB : CT := .list 4 24 [.int .u32, .int .i64, .int .i64]
theorem len1 {α : Type} {l : List α} (h : l.length = 1) : ∃ a, l = [a] := by
  cases l with
  | nil => simp at h
  | cons a r =>
    have : r = [] := by
      have : r.length = 0 := by simpa using h
      exact List.length_eq_zero_iff.1 this
    exact ⟨a, by rw [this]⟩
theorem len2 {α : Type} {l : List α} (h : l.length = 2) : ∃ a b, l = [a, b] := by
  cases l with
  | nil => simp at h
  | cons a r => obtain ⟨b, rfl⟩ := len1 (l := r) (by simpa using h); exact ⟨a, b, rfl⟩
theorem len3 {α : Type} {l : List α} (h : l.length = 3) : ∃ a b c, l = [a, b, c] := by
  cases l with
  | nil => simp at h
  | cons a r => obtain ⟨b, c, rfl⟩ := len2 (l := r) (by simpa using h); exact ⟨a, b, c, rfl⟩
theorem int_inv {k : IntKind} {x : PV} (h : Typed (.int k) x) : ∃ n, x = .sc (.int k n) ∧ (Lit.int k n).wf = true := by
  cases h with
  | int hw => exact ⟨_, rfl, hw⟩
theorem map_inv {α : Type} {f : α → PV} {rows : List (List PV)} {lay : Nat} (h : ∀ r ∈ rows, ∃ a, rowPV lay r = f a) : ∃ l : List α, rows.map (rowPV lay) = l.map f := by
  induction rows with
  | nil => exact ⟨[], rfl⟩
  | cons r rows ih =>
    obtain ⟨l, hl⟩ := ih fun x hx => h x (by simp [hx])
    obtain ⟨a, ha⟩ := h r (by simp)
    exact ⟨a :: l, by simp [hl, ha]⟩
theorem cuts_inv {x : PV} (h : Typed ctC x) : ∃ s : List Ct, x = cuts false s := by
  cases h with
  | list rows _ _ hl hx =>
    obtain ⟨l, hl⟩ := map_inv (f := cpv) (lay := 3) (rows := rows) fun r hr => by
      obtain ⟨a, b, rfl⟩ := len2 (hl r hr)
      obtain ⟨n, rfl, _⟩ := int_inv (hx _ hr 0 _ _ rfl rfl)
      obtain ⟨k, rfl, _⟩ := int_inv (hx _ hr 1 _ _ rfl rfl)
      exact ⟨(n, k), rfl⟩
    exact ⟨l, by rw [hl]⟩
theorem prof_inv {x : PV} (h : Typed ctP x) : ∃ p : List (List Ct), x = prof p := by
  cases h with
  | list rows _ _ hl hx =>
    obtain ⟨l, hl⟩ := map_inv (f := cuts false) (lay := 0) (rows := rows) fun r hr => by
      obtain ⟨a, rfl⟩ := len1 (hl r hr)
      obtain ⟨s, rfl⟩ := cuts_inv (hx _ hr 0 _ _ rfl rfl)
      exact ⟨s, rfl⟩
    exact ⟨l, by rw [hl]⟩
theorem wfU {n : Int} (h : (Lit.int .u32 n).wf = true) : ∃ k : Nat, n = k ∧ k < 2 ^ 32 := by
  have e1 : IntKind.u32.min = 0 := by rfl
  have e2 : IntKind.u32.max = 4294967295 := by rfl
  simp only [Lit.wf, e1, e2, Bool.and_eq_true, decide_eq_true_eq] at h
  exact ⟨n.toNat, by omega, by omega⟩
theorem cnt_cuts : ∀ (s : List Ct), PV.cntS (s.map cpv) = s.length
  | [] => rfl
  | c :: r => by simp only [List.map_cons, PV.cntS, cnt_cuts r, cpv, PV.cnt, PV.cntA, List.length_cons]; omega
theorem cnt_prof : ∀ (p : List (List Ct)), PV.cntS (p.map (cuts false)) = cutsN p + p.length
  | [] => rfl
  | s :: r => by
    have e : cutsN (s :: r) = s.length + cutsN r := by simp [cutsN]
    simp only [List.map_cons, PV.cntS, cnt_prof r, PV.cnt, cnt_cuts, List.length_cons, e]; omega
theorem awake8 {L m : Nat} (hL : 200 ≤ L) (hm : 40 ≤ m) : callP Try.prog hh L m 8 [] = some (Bo true) := callP_mono hL hm t_awake
end Go.Lite

namespace Go.Lite
open Go Go.Proofs
set_option linter.unusedVariables false
set_option linter.unusedSimpArgs false
set_option maxRecDepth 100000
theorem blks_inv {x : PV} (h : Typed ctB x) : ∃ l : List Blk, x = blks l ∧ ∀ b ∈ l, b.nodes < 2 ^ 32 := by
  cases h with
  | list rows hm hb hl hx =>
    have key : ∀ r ∈ rows, ∃ b : Blk, rowPV 4 r = bpv b ∧ b.nodes < 2 ^ 32 := fun r hr => by
      obtain ⟨a, b, c, rfl⟩ := len3 (hl r hr)
      obtain ⟨n, rfl, hw⟩ := int_inv (hx _ hr 0 _ _ rfl rfl)
      obtain ⟨k, rfl, _⟩ := int_inv (hx _ hr 1 _ _ rfl rfl)
      obtain ⟨j, rfl, _⟩ := int_inv (hx _ hr 2 _ _ rfl rfl)
      obtain ⟨u, rfl, hu⟩ := wfU hw
      exact ⟨⟨u, k, j⟩, rfl, hu⟩
    clear hm hb hl hx
    induction rows with
    | nil => exact ⟨[], rfl, by simp⟩
    | cons r rows ih =>
      obtain ⟨l, h1, h2⟩ := ih fun x hx => key x (by simp [hx])
      obtain ⟨b, h3, h4⟩ := key r (by simp)
      simp only [blks, PV.list.injEq, true_and] at h1
      exact ⟨b :: l, by simp [blks, h1, h3], fun y hy => by
        rcases List.mem_cons.1 hy with rfl | hy
        · exact h4
        · exact h2 y hy⟩
abbrev ctA : List CT := [.int .i64, .int .i64, .int .i64, .int .i64, .int .u32, ctB]
theorem ask_inv {x : PV} (h : TypedA (7, ctA) x) : ∃ a : Ask, x = apv a ∧ a.nodes < 2 ^ 32 ∧ ∀ b ∈ a.blocks, b.nodes < 2 ^ 32 := by
  obtain ⟨xs, rfl, hl, hx⟩ := h
  have g0 : xs.length = 6 := hl
  obtain ⟨x0, r0, rfl, g1⟩ := consL g0
  obtain ⟨x1, r1, rfl, g2⟩ := consL g1
  obtain ⟨x2, r2, rfl, g3⟩ := consL g2
  obtain ⟨x3, r3, rfl, g4⟩ := consL g3
  obtain ⟨x4, r4, rfl, g5⟩ := consL g4
  obtain ⟨x5, r5, rfl, g6⟩ := consL g5
  obtain rfl := nilL g6
  obtain ⟨n0, rfl, _⟩ := int_inv (hx 0 _ _ rfl rfl)
  obtain ⟨n1, rfl, _⟩ := int_inv (hx 1 _ _ rfl rfl)
  obtain ⟨n2, rfl, _⟩ := int_inv (hx 2 _ _ rfl rfl)
  obtain ⟨n3, rfl, _⟩ := int_inv (hx 3 _ _ rfl rfl)
  obtain ⟨n4, rfl, hw⟩ := int_inv (hx 4 _ _ rfl rfl)
  obtain ⟨l, rfl, hb⟩ := blks_inv (hx 5 _ _ rfl rfl)
  obtain ⟨u, rfl, hu⟩ := wfU hw
  exact ⟨⟨n0, n1, n2, u, n3, l⟩, rfl, hu, hb⟩
end Go.Lite

namespace Go.Lite
set_option linter.unusedVariables false
set_option linter.unusedSimpArgs false

/-! # adding over a window: plain -/
/-- the last cut up to t -/
def lastC (c : Ct) : List Ct → Int → Ct
  | [], _ => c
  | d :: r, t => if d.1 ≤ t then lastC d r t else c
theorem lastC_le : ∀ {r : List Ct} {c : Ct} {t : Int}, c.1 ≤ t → (lastC c r t).1 ≤ t
  | [], c, t, h => h
  | d :: r, c, t, h => by
    simp only [lastC]; split
    · rename_i hd; exact lastC_le hd
    · exact h
theorem lastC_mem : ∀ {r : List Ct} {c : Ct} {t : Int}, lastC c r t ∈ c :: r
  | [], c, t => by simp [lastC]
  | d :: r, c, t => by
    simp only [lastC]; split
    · exact List.mem_cons_of_mem _ lastC_mem
    · simp
theorem lastC_max : ∀ {r : List Ct} {c : Ct} {t : Int}, Rising c r → ∀ x ∈ c :: r, x.1 ≤ t → x.1 ≤ (lastC c r t).1
  | [], c, t, _, x, hx, _ => by simp at hx; subst hx; exact Int.le_refl _
  | d :: r, c, t, h, x, hx, hxt => by
    simp only [lastC]
    split
    · rename_i hd
      rcases List.mem_cons.1 hx with rfl | hx
      · have h1 := h.lt (d := d) (by simp)
        have h2 := lastC_max h.tail d (by simp) hd
        omega
      · exact lastC_max h.tail x hx hxt
    · rename_i hd
      rcases List.mem_cons.1 hx with rfl | hx
      · exact Int.le_refl _
      · rcases List.mem_cons.1 hx with rfl | hx'
        · omega
        · have := h.tail.lt hx'; omega
theorem lastC_self {c : Ct} {r : List Ct} {t : Int} (h : ∀ x ∈ r, t < x.1) : lastC c r t = c := by
  cases r with
  | nil => rfl
  | cons d r => simp only [lastC]; rw [if_neg]; have := h d (by simp); omega
theorem lastC_at : ∀ {r : List Ct} {c : Ct}, Rising c r → ∀ x ∈ c :: r, lastC c r x.1 = x
  | [], c, _, x, hx => by simp at hx; subst hx; rfl
  | d :: r, c, h, x, hx => by
    rcases List.mem_cons.1 hx with rfl | hx
    · exact lastC_self fun y hy => h.lt hy
    · have hd : d.1 ≤ x.1 := by
        rcases List.mem_cons.1 hx with rfl | hx'
        · omega
        · have := h.tail.lt hx'; omega
      simp only [lastC, if_pos hd]
      exact lastC_at h.tail x hx
theorem val_cons : ∀ {r : List Ct} {c : Ct} {t v : Int}, Rising c r → c.1 ≤ t → (c :: r).foldl (fun v c => if c.1 ≤ t then c.2 else v) v = (lastC c r t).2
  | [], c, t, v, _, h => by simp [lastC, h]
  | d :: r, c, t, v, hr, h => by
    rw [List.foldl_cons, if_pos h]
    simp only [lastC]
    split
    · rename_i hd; exact val_cons hr.tail hd
    · rename_i hd
      exact foldl_val_gt fun x hx => by
        rcases List.mem_cons.1 hx with rfl | hx
        · omega
        · have := hr.tail.lt hx; omega
theorem val_last {c : Ct} {r : List Ct} {t : Int} (hr : Rising c r) (h : c.1 ≤ t) : val (c :: r) t = (lastC c r t).2 := val_cons hr h

/-- a cut at t -/
def insC (c : Ct) : List Ct → Int → List Ct
  | [], t => if c.1 = t then [] else [(t, c.2)]
  | d :: r, t => if d.1 ≤ t then d :: insC d r t else if c.1 = t then d :: r else (t, c.2) :: d :: r
def splitS : List Ct → Int → List Ct
  | [], _ => []
  | c :: r, t => c :: insC c r t
theorem insC_gt : ∀ {r : List Ct} {c : Ct} {t : Int}, Rising c r → c.1 ≤ t → ∀ x ∈ insC c r t, c.1 < x.1
  | [], c, t, _, h, x, hx => by
    simp only [insC] at hx; split at hx
    · simp at hx
    · simp at hx; subst hx; simp; omega
  | d :: r, c, t, hr, h, x, hx => by
    have hcd := hr.lt (d := d) (by simp)
    simp only [insC] at hx
    split at hx
    · rename_i hd
      rcases List.mem_cons.1 hx with rfl | hx
      · exact hcd
      · have := insC_gt hr.tail hd x hx; omega
    · split at hx
      · exact hr.lt hx
      · rcases List.mem_cons.1 hx with rfl | hx
        · simp; omega
        · exact hr.lt hx
theorem insC_rising : ∀ {r : List Ct} {c : Ct} {t : Int}, Rising c r → c.1 ≤ t → Rising c (insC c r t)
  | [], c, t, hr, h => by
    simp only [insC]; split
    · exact hr
    · simp [Rising]; omega
  | d :: r, c, t, hr, h => by
    have hcd := hr.lt (d := d) (by simp)
    simp only [insC]
    split
    · rename_i hd
      have := insC_rising hr.tail hd
      unfold Rising at this ⊢
      refine List.pairwise_cons.2 ⟨fun x hx => ?_, this⟩
      rcases List.mem_cons.1 hx with rfl | hx
      · exact hcd
      · have := insC_gt hr.tail hd x hx; omega
    · rename_i hd
      split
      · exact hr
      · have ht := hr.tail
        unfold Rising at hr ht ⊢
        refine List.pairwise_cons.2 ⟨fun x hx => ?_, List.pairwise_cons.2 ⟨fun x hx => ?_, ht⟩⟩
        · rcases List.mem_cons.1 hx with rfl | hx
          · simp; omega
          · exact (List.pairwise_cons.1 hr).1 x hx
        · simp only
          rcases List.mem_cons.1 hx with rfl | hx
          · omega
          · have := (List.pairwise_cons.1 ht).1 x hx; omega
theorem insC_val : ∀ {r : List Ct} {c : Ct} {t u : Int}, Rising c r → c.1 ≤ t → (lastC c (insC c r t) u).2 = (lastC c r u).2
  | [], c, t, u, hr, h => by
    simp only [insC]; split
    · rfl
    · simp only [lastC]; split <;> rfl
  | d :: r, c, t, u, hr, h => by
    simp only [insC]
    split
    · rename_i hd
      simp only [lastC]
      split
      · exact insC_val hr.tail hd
      · rfl
    · rename_i hd
      split
      · rfl
      · simp only [lastC]
        by_cases q1 : t ≤ u
        · by_cases q2 : d.1 ≤ u
          · simp only [if_pos q1, if_pos q2]
          · simp only [if_pos q1, if_neg q2]
        · have q2 : ¬ d.1 ≤ u := by omega
          simp only [if_neg q1, if_neg q2]
theorem insC_has : ∀ {r : List Ct} {c : Ct} {t : Int}, Rising c r → c.1 ≤ t → ∃ x ∈ c :: insC c r t, x.1 = t
  | [], c, t, _, h => by
    simp only [insC]; split
    · rename_i e; exact ⟨c, by simp, e⟩
    · exact ⟨(t, c.2), by simp, rfl⟩
  | d :: r, c, t, hr, h => by
    simp only [insC]
    split
    · rename_i hd
      obtain ⟨x, hx, e⟩ := insC_has hr.tail hd
      exact ⟨x, List.mem_cons_of_mem _ hx, e⟩
    · split
      · rename_i e; exact ⟨c, by simp, e⟩
      · exact ⟨(t, c.2), by simp, rfl⟩
theorem insC_keeps : ∀ {r : List Ct} {c : Ct} {t : Int}, ∀ x ∈ r, x ∈ insC c r t
  | d :: r, c, t, x, hx => by
    simp only [insC]
    split
    · rcases List.mem_cons.1 hx with rfl | hx
      · simp
      · exact List.mem_cons_of_mem _ (insC_keeps x hx)
    · split
      · exact hx
      · exact List.mem_cons_of_mem _ hx
theorem insC_times : ∀ {r : List Ct} {c : Ct} {t : Int}, ∀ x ∈ insC c r t, x ∈ r ∨ x.1 = t
  | [], c, t, x, hx => by
    simp only [insC] at hx; split at hx
    · simp at hx
    · simp at hx; subst hx; exact .inr rfl
  | d :: r, c, t, x, hx => by
    simp only [insC] at hx
    split at hx
    · rcases List.mem_cons.1 hx with rfl | hx
      · exact .inl (by simp)
      · exact (insC_times x hx).imp (List.mem_cons_of_mem _) id
    · split at hx
      · exact .inl hx
      · rcases List.mem_cons.1 hx with rfl | hx
        · exact .inr rfl
        · exact .inl hx
theorem insC_len : ∀ {r : List Ct} {c : Ct} {t : Int}, (insC c r t).length ≤ r.length + 1
  | [], c, t => by simp only [insC]; split <;> simp
  | d :: r, c, t => by
    simp only [insC]
    split
    · have := insC_len (r := r) (c := d) (t := t); simp; omega
    · split <;> simp
/-- as the program does it -/
theorem splitS_up : ∀ {r : List Ct} {c : Ct} {t : Int}, Rising c r → c.1 ≤ t → ∃ x, (c :: r)[up (c :: r) t - 1]? = some x ∧ x = lastC c r t ∧
    splitS (c :: r) t = if x.1 = t then c :: r else (c :: r).take (up (c :: r) t) ++ ((t, x.2) :: (c :: r).drop (up (c :: r) t))
  | [], c, t, hr, h => by
    refine ⟨c, by simp [up, h], rfl, ?_⟩
    simp only [splitS, insC, up, List.takeWhile_cons, h, decide_true, if_true]
    split <;> simp
  | d :: r, c, t, hr, h => by
    by_cases hd : d.1 ≤ t
    · obtain ⟨x, h1, h2, h3⟩ := splitS_up hr.tail hd
      have hu := up_cons (r := d :: r) h
      have hu2 := up_cons (r := r) hd
      refine ⟨x, ?_, ?_, ?_⟩
      · rw [hu, hu2]; rw [hu2] at h1; simpa using h1
      · simp only [lastC, if_pos hd]; exact h2
      · have e : splitS (c :: d :: r) t = c :: splitS (d :: r) t := by simp only [splitS, insC, if_pos hd]
        rw [e, h3, hu]
        split
        · rfl
        · simp
    · have hu := up_cons (r := d :: r) h
      rw [up_none hd] at hu
      refine ⟨c, by rw [hu]; simp, by simp only [lastC, if_neg hd], ?_⟩
      simp only [splitS, insC, if_neg hd, hu]
      split <;> simp

/-- n more in a window -/
def plusC (fr to n : Int) (c : Ct) : Ct := if fr ≤ c.1 ∧ c.1 < to then (c.1, c.2 + n) else c
theorem plusC_fst (fr to n : Int) (c : Ct) : (plusC fr to n c).1 = c.1 := by unfold plusC; split <;> rfl
theorem lastC_map {fr to n : Int} : ∀ {r : List Ct} {c : Ct} {u : Int}, lastC (plusC fr to n c) (r.map (plusC fr to n)) u = plusC fr to n (lastC c r u)
  | [], c, u => rfl
  | d :: r, c, u => by
    simp only [List.map_cons, lastC, plusC_fst]
    split
    · exact lastC_map
    · rfl
theorem rising_map {fr to n : Int} {c : Ct} {r : List Ct} (h : Rising c r) : Rising (plusC fr to n c) (r.map (plusC fr to n)) := by
  unfold Rising at h ⊢
  rw [← List.map_cons (f := plusC fr to n), List.pairwise_map]
  exact h.imp fun hab => by rw [plusC_fst, plusC_fst]; exact hab
theorem plus_val {fr to n : Int} {c : Ct} {r : List Ct} {u : Int} (h : Rising c r) (hcu : c.1 ≤ u) (hfr : ∃ x ∈ c :: r, x.1 = fr) (hto : ∃ x ∈ c :: r, x.1 = to) :
    (lastC (plusC fr to n c) (r.map (plusC fr to n)) u).2 = (lastC c r u).2 + (if fr ≤ u ∧ u < to then n else 0) := by
  rw [lastC_map]
  have h1 := lastC_le (r := r) hcu
  obtain ⟨x, hx, rfl⟩ := hfr
  obtain ⟨y, hy, rfl⟩ := hto
  have e : (x.1 ≤ (lastC c r u).1 ∧ (lastC c r u).1 < y.1) ↔ (x.1 ≤ u ∧ u < y.1) := by
    constructor
    · rintro ⟨h2, h3⟩
      refine ⟨by omega, ?_⟩
      by_cases q : y.1 ≤ u
      · have := lastC_max h y hy q; omega
      · omega
    · rintro ⟨h2, h3⟩
      exact ⟨lastC_max h x hx h2, by omega⟩
  unfold plusC
  by_cases q : x.1 ≤ u ∧ u < y.1
  · rw [if_pos (e.2 q), if_pos q]
  · rw [if_neg (fun h => q (e.1 h)), if_neg q]; simp

/-- neighbours alike are one -/
def cpT : Ct → List Ct → List Ct
  | _, [] => []
  | p, a :: r => if a.2 = p.2 then cpT a r else a :: cpT a r
def cpC : List Ct → List Ct
  | [] => []
  | a :: r => a :: cpT a r
theorem cpT_sub : ∀ {r : List Ct} {p : Ct}, (cpT p r).Sublist r
  | [], p => by simp [cpT]
  | a :: r, p => by
    simp only [cpT]; split
    · exact (cpT_sub (r := r) (p := a)).cons a
    · exact (cpT_sub (r := r) (p := a)).cons_cons a
theorem cpT_val : ∀ {r : List Ct} {c p : Ct} {u : Int}, c.2 = p.2 → Rising p r → (lastC c (cpT p r) u).2 = (lastC p r u).2
  | [], c, p, u, h, _ => by simpa [cpT, lastC] using h
  | d :: r, c, p, u, h, hr => by
    simp only [cpT]
    split
    · rename_i hd
      rw [cpT_val (c := c) (p := d) (by omega) hr.tail]
      simp only [lastC]
      split
      · rfl
      · rename_i hu
        rw [lastC_self (fun x hx => by have := hr.tail.lt hx; omega)]; exact hd
    · rename_i hd
      simp only [lastC]
      split
      · exact cpT_val rfl hr.tail
      · exact h
theorem cpT_tail : ∀ {r : List Ct} {c p : Ct}, c.2 = p.2 → c.1 ≤ p.1 → Rising p r → (∀ x ∈ r, okC x = true) → tailOK c (cpT p r) = true
  | [], c, p, _, _, _, _ => by simp [cpT, tailOK]
  | d :: r, c, p, h, hle, hr, hok => by
    have hpd := hr.lt (d := d) (by simp)
    simp only [cpT]
    split
    · rename_i hd
      exact cpT_tail (by omega) (by omega) hr.tail fun x hx => hok x (by simp [hx])
    · rename_i hd
      simp only [tailOK, Bool.and_eq_true, decide_eq_true_eq, Bool.not_eq_true', decide_eq_false_iff_not]
      exact ⟨⟨hok d (by simp), by omega, by omega⟩, cpT_tail rfl (Int.le_refl _) hr.tail fun x hx => hok x (by simp [hx])⟩
/-- right ones of the same values are the same -/
theorem same_vals : ∀ {r r' : List Ct} {c c' : Ct}, tailOK c r = true → tailOK c' r' = true → c.1 = c'.1 → (∀ u, c.1 ≤ u → (lastC c r u).2 = (lastC c' r' u).2) → c :: r = c' :: r'
  | r, r', c, c', h, h', e, hv => by
    have hr := tailOK_rising h
    have hr' := tailOK_rising h'
    have e2 : c.2 = c'.2 := by
      have := hv c.1 (Int.le_refl _)
      rw [lastC_self (fun x hx => hr.lt hx), lastC_self (fun x hx => by have := hr'.lt hx; omega)] at this
      exact this
    have ec : c = c' := Prod.ext e e2
    subst ec
    cases r with
    | nil =>
      cases r' with
      | nil => rfl
      | cons d' s' =>
        simp only [tailOK, Bool.and_eq_true, decide_eq_true_eq, Bool.not_eq_true', decide_eq_false_iff_not] at h'
        have := hv d'.1 (by omega)
        rw [lastC_at hr' d' (by simp)] at this
        simp only [lastC] at this
        exact absurd this (by omega)
    | cons d s =>
      simp only [tailOK, Bool.and_eq_true, decide_eq_true_eq, Bool.not_eq_true', decide_eq_false_iff_not] at h
      cases r' with
      | nil =>
        have := hv d.1 (by omega)
        rw [lastC_at hr d (by simp)] at this
        simp only [lastC] at this
        exact absurd this (by omega)
      | cons d' s' =>
        simp only [tailOK, Bool.and_eq_true, decide_eq_true_eq, Bool.not_eq_true', decide_eq_false_iff_not] at h'
        have hdd : d.1 = d'.1 := by
          rcases Int.lt_trichotomy d.1 d'.1 with q | q | q
          · have := hv d.1 (by omega)
            rw [lastC_at hr d (by simp), lastC_self (fun x hx => by
              rcases List.mem_cons.1 hx with rfl | hx
              · omega
              · have := hr'.tail.lt hx; omega)] at this
            exact absurd this (by omega)
          · exact q
          · have := hv d'.1 (by omega)
            rw [lastC_at hr' d' (by simp), lastC_self (fun x hx => by
              rcases List.mem_cons.1 hx with rfl | hx
              · omega
              · have := hr.tail.lt hx; omega)] at this
            exact absurd this (by omega)
        have := same_vals (r := s) (r' := s') h.2 h'.2 hdd fun u hu => by
          have := hv u (by omega)
          simp only [lastC] at this
          rw [if_pos hu, if_pos (by omega)] at this
          exact this
        rw [this]

/-! ## the whole -/
def badC (c : Ct) : Bool := decide (c.2 < 0) || decide (1073741824 < c.2)
def cutS (s : List Ct) (fr to : Int) : List Ct := splitS (splitS s fr) to
def addL (s : List Ct) (fr to n : Int) : List Ct := (cutS s fr to).map (plusC fr to n)
/-- what a right one becomes -/
structure Adds (s : List Ct) (fr to n : Int) (c : Ct) (r : List Ct) : Prop where
  e : cutS s fr to = c :: r
  c0 : c.1 = 0
  up : Rising c r
  val : ∀ u, 0 ≤ u → (lastC c r u).2 = val s u
  fr : ∃ x ∈ c :: r, x.1 = fr
  to : ∃ x ∈ c :: r, x.1 = to
  vals : ∀ x ∈ c :: r, x.2 = Go.Lite.val s x.1 ∧ 0 ≤ x.1 ∧ x.1 ≤ 2199023255552
  len : (c :: r).length ≤ s.length + 2
theorem adds {s : List Ct} {fr to n : Int} (h : rightS s = true) (h0 : 0 ≤ fr) (h1 : fr < to) (h2 : to ≤ 2199023255552) : ∃ c r, Adds s fr to n c r := by
  obtain ⟨c, r, rfl, hc, hr, hok, hlen⟩ := rightS_cons h
  have hr1 := insC_rising hr (t := fr) (by omega)
  have hr2 := insC_rising hr1 (t := to) (by omega)
  have hv : ∀ u, 0 ≤ u → (lastC c (insC c (insC c r fr) to) u).2 = val (c :: r) u := fun u hu => by
    rw [insC_val hr1 (by omega), insC_val hr (by omega), val_last hr (by omega)]
  have hti : ∀ x ∈ c :: insC c (insC c r fr) to, 0 ≤ x.1 ∧ x.1 ≤ 2199023255552 := by
    intro x hx
    have hge : 0 ≤ x.1 := by
      rcases List.mem_cons.1 hx with rfl | hx
      · omega
      · have := hr2.lt hx; omega
    refine ⟨hge, ?_⟩
    have inS : ∀ y ∈ c :: r, y.1 ≤ 2199023255552 := fun y hy => by
      have := hok y hy
      simp only [okC, Bool.and_eq_true, decide_eq_true_eq] at this
      exact this.1.1
    rcases List.mem_cons.1 hx with rfl | hx
    · exact inS _ (by simp)
    · rcases insC_times x hx with hx | hx
      · rcases insC_times x hx with hx | hx
        · exact inS _ (by simp [hx])
        · omega
      · omega
  refine ⟨c, insC c (insC c r fr) to, rfl, hc, hr2, hv, ?_, insC_has hr1 (by omega), fun x hx => ⟨?_, hti x hx⟩, ?_⟩
  · obtain ⟨x, hx, e⟩ := insC_has hr (t := fr) (by omega)
    refine ⟨x, ?_, e⟩
    rcases List.mem_cons.1 hx with rfl | hx
    · simp
    · exact List.mem_cons_of_mem _ (insC_keeps x hx)
  · rw [← hv x.1 (hti x hx).1, lastC_at hr2 x hx]
  · have h3 := insC_len (r := insC c r fr) (c := c) (t := to)
    have h4 := insC_len (r := r) (c := c) (t := fr)
    simp only [List.length_cons]; omega
theorem val_in {s : List Ct} (h : rightS s = true) {u : Int} (hu : 0 ≤ u) : 0 ≤ val s u ∧ val s u ≤ 1073741824 := by
  obtain ⟨c, r, rfl, hc, hr, hok, hlen⟩ := rightS_cons h
  rw [val_last hr (by omega)]
  have := hok _ (lastC_mem (c := c) (r := r) (t := u))
  simp only [okC, Bool.and_eq_true, decide_eq_true_eq] at this
  omega
/-- a least value is below all values -/
theorem least_val {s : List Ct} (h : rightS s = true) {n fr to u : Int} (h0 : 0 ≤ fr) (hl : n ≤ leastR s fr to) (h1 : fr ≤ u) (h2 : u < to) : n ≤ val s u := by
  obtain ⟨c, r, rfl, hc, hr, hok, hlen⟩ := rightS_cons h
  rw [le_leastR] at hl
  rw [val_last hr (by omega)]
  have hle := lastC_le (r := r) (c := c) (t := u) (by omega)
  by_cases q : fr < (lastC c r u).1
  · exact hl.2 _ lastC_mem q (by omega)
  · have : val (c :: r) fr = val (c :: r) u := val_same h1 fun x hx hh => by
      have := lastC_max hr x hx hh.2; omega
    have h5 := hl.1
    rw [this, val_last hr (by omega)] at h5; exact h5
/-- what comes out is right -/
theorem add_right {s : List Ct} {fr to n : Int} {c : Ct} {r : List Ct} (A : Adds s fr to n c r) (hb : (addL s fr to n).any badC = false) (hl : (cpC (addL s fr to n)).length ≤ 4096) :
    rightS (cpC (addL s fr to n)) = true ∧ ∀ u, 0 ≤ u → val (cpC (addL s fr to n)) u = val s u + (if fr ≤ u ∧ u < to then n else 0) := by
  have e : addL s fr to n = plusC fr to n c :: r.map (plusC fr to n) := by unfold addL; rw [A.e]; rfl
  rw [e] at hb hl ⊢
  have hup := rising_map (fr := fr) (to := to) (n := n) A.up
  have hok : ∀ x ∈ plusC fr to n c :: r.map (plusC fr to n), okC x = true := by
    intro x hx
    have hbx : badC x = false := by
      rw [List.any_eq_false] at hb
      simpa using hb x hx
    have : ∃ y ∈ c :: r, x = plusC fr to n y := by
      rcases List.mem_cons.1 hx with rfl | hx
      · exact ⟨c, by simp, rfl⟩
      · obtain ⟨y, hy, rfl⟩ := List.mem_map.1 hx; exact ⟨y, by simp [hy], rfl⟩
    obtain ⟨y, hy, rfl⟩ := this
    have := A.vals y hy
    simp only [badC, Bool.or_eq_false_iff, decide_eq_false_iff_not] at hbx
    simp only [okC, plusC_fst, Bool.and_eq_true, decide_eq_true_eq]
    omega
  have ht := cpT_tail (c := plusC fr to n c) rfl (Int.le_refl _) hup fun x hx => hok x (by simp [hx])
  refine ⟨?_, fun u hu => ?_⟩
  · simp only [cpC, rightS, Bool.and_eq_true, decide_eq_true_eq]
    exact ⟨⟨⟨by simpa [cpC] using hl, by rw [plusC_fst]; exact A.c0⟩, hok _ (by simp)⟩, ht⟩
  · have hc0 := A.c0
    simp only [cpC]
    rw [val_last (tailOK_rising ht) (by rw [plusC_fst]; omega), cpT_val rfl hup, plus_val A.up (by omega) A.fr A.to, A.val u hu]
/-- a given, b taken: the same again -/
theorem right_same {s z : List Ct} (hs : rightS s = true) (hz : rightS z = true) (hv : ∀ u, 0 ≤ u → val z u = val s u) : z = s := by
  obtain ⟨c, r, rfl, hc, hr, _, _⟩ := rightS_cons hs
  obtain ⟨d, q, rfl, hd, hq, _, _⟩ := rightS_cons hz
  simp only [rightS, Bool.and_eq_true] at hs hz
  exact same_vals hz.2 hs.2 (by omega) fun u hu => by
    have := hv u (by omega)
    rw [val_last hr (by omega), val_last hq (by omega)] at this
    exact this
end Go.Lite

namespace Go.Lite
open Go Go.Proofs
set_option linter.unusedVariables false
set_option linter.unusedSimpArgs false
set_option maxRecDepth 100000

/-! # steps.Add: its parts -/
abbrev cs (l : List Ct) : List PV := l.map cpv
theorem idxArr3 {n i : Nat} (h : i < n) : idxArr 3 3 n (I i) = some i := by
  simp [idxArr, intPV?]; omega
theorem idxSub3 {a n i : Nat} (h : i < n) : idxSub 3 3 a n (I i) = some (a + i) := by
  simp [idxSub, intPV?]; omega
@[simp] theorem at303 (c : Ct) : PV.at_ 3 0 3 (cpv c) = some (cpv c) := nonrfl rfl
theorem get_c {l : List Ct} {i : Nat} {a : Ct} (h : l[i]? = some a) : ((cs l)[i]?).bind (fun x => x.at_ 3 0 3) = some (cpv a) := by simp [h]
theorem get_c0 {l : List Ct} {i : Nat} {a : Ct} (h : l[i]? = some a) : ((cs l)[i]?).bind (fun x => x.at_ 3 0 0) = some (I a.1) := by simp [h]
theorem get_c1 {l : List Ct} {i : Nat} {a : Ct} (h : l[i]? = some a) : ((cs l)[i]?).bind (fun x => x.at_ 3 1 0) = some (I a.2) := by simp [h]
theorem set_c {l : List Ct} {i : Nat} {a : Ct} (h : i < l.length) : ((cs l)[i]?).bind (fun y => (putPV 3 0 3 (.pv y) (cpv a)).map fun z => List.set (cs l) i z) = some (cs (l.set i a)) := by
  have h2 : l[i]? = some l[i] := List.getElem?_eq_getElem h
  simp [h2, putC, List.map_set]
theorem put31 (c : Ct) (n : Int) : putPV 3 1 0 (.pv (cpv c)) (I n) = some (cpv (c.1, n)) := nonrfl rfl
theorem set_c1 {l : List Ct} {i : Nat} {c : Ct} {n : Int} (h : l[i]? = some c) : ((cs l)[i]?).bind (fun y => (putPV 3 1 0 (.pv y) (I n)).map fun z => List.set (cs l) i z) = some (cs (l.set i (c.1, n))) := by
  simp [h, put31, List.map_set]
theorem z52 : zOK Try.prog 54 3 = true := by kernel_rfl
theorem u52 : Try.prog.underlying 52 = some (.slice 54) := by kernel_rfl
theorem clear52 {xs : List PV} {lo n : Nat} (h : lo + n ≤ xs.length) : ∃ z, clearXs Try.prog 52 3 lo n xs = some (zeroed xs lo n z) := by
  have hz := z52
  unfold zOK at hz
  split at hz
  · rename_i z hzz
    exact ⟨z, by simp [clearXs, u52, y54, hzz, hz, h, width]⟩
  · cases hz
theorem bp54 (t f : Int) : buildPV Try.prog 54 [(0, I t), (1, I f)] = some (cpv (t, f)) := by kernel_rfl
theorem callD2 (cp : FuncId → List PV → Option PV) (g : FuncId) (a b xs : List PV) (n : Int) (h : cp g (a ++ xs ++ b) = some (I n)) : callD cp (.clo g a b) xs 2 = some (I n) := by
  simp only [callD, h]; rfl
abbrev kr83 : Nat → Nat → List PV → List PV → Option (List OV) := fun n0 n1 x2 x3 => some [OV.a 3 (List.take n1 (List.drop n0 x2))]
section
variable {L m : Nat}
theorem c61p (hm : 1 ≤ m) (b : Bool) (s : List Ct) (h : s.length ≤ 1000000) : callP Try.prog hh L m 61 [cuts b s] = some (cuts false s) := by
  obtain ⟨n, rfl⟩ : ∃ n, m = n + 1 := ⟨m - 1, by omega⟩
  have : hh.prim 61 = some (cloneQ 3) := by kernel_rfl
  rw [callP, this]
  have h2 : s.length ≤ 1099511627776 := by omega
  simp [cloneQ, h2]
theorem c61 (hm : 2 ≤ m) (b : Bool) (s : List Ct) (h : s.length ≤ 1000000) (hne : s ≠ []) : callO Try.prog hh L m 61 [.p (cuts b s)] = some [.a 3 (cs s)] := by
  obtain ⟨n, rfl⟩ : ∃ n, m = n + 1 + 1 := ⟨m - 2, by omega⟩
  refine callO_of (sp := ⟨[0], 0, [some 3]⟩) (by kernel_rfl) (by kernel_rfl) ?_
  refine Eq.trans (b := bodyOR Try.prog (kk L (n + 1)) h0 L 61 ⟨[0], 0, [some 3]⟩ [.p (cuts b s)]) (by kernel_rfl) ?_
  rw [r61]
  cases s with
  | nil => exact absurd rfl hne
  | cons c r =>
    have e := sl52.appTo sl52 (d := cuts b (c :: r)) (xs := []) (ys := (c :: r).map cpv) .list (by simp at h ⊢; omega)
    have e2 : ∀ x y, binPV Try.prog .eql 52 x y (cuts b (c :: r)) (.sc (.slice none 0 0)) = some (.sc (.bool false)) := fun x y => eqn52 x y b (cpv c) (r.map cpv)
    simp only [d61_0, e2, ob_some, cb_bool, Bool.false_eq_true, if_false, nil52, oxs_some, e, List.nil_append]
theorem c82 (hm : 5 ≤ m) (c : Ct) (r : List Ct) (t : Int) (hr : Rising c r) (hct : c.1 ≤ t) (hl : (c :: r).length ≤ 100000) (hL : (c :: r).length < L) : callO Try.prog hh L m 82 [.a 3 (cs (c :: r)), .p (I t)] = some [.a 3 (cs (splitS (c :: r) t))] := by
  obtain ⟨n, rfl⟩ : ∃ n, m = n + 1 + 1 := ⟨m - 2, by omega⟩
  refine callO_of (sp := ⟨[1, 0], 0, [some 3]⟩) (by kernel_rfl) (by kernel_rfl) ?_
  rw [r82]
  have h85 := c85 (L := L) (m := n + 1) (by omega) false (c :: r) t hr (by omega) hL
  have hup : 1 ≤ up (c :: r) t := by rw [up_cons hct]; omega
  have hule := (up_spec (t := t) hr).1
  obtain ⟨x, hx, _, hs⟩ := splitS_up hr hct
  have e1 : ((up (c :: r) t : Int) - 1) = ((up (c :: r) t - 1 : Nat) : Int) := by omega
  rw [e1] at h85
  have hlen : (cs (c :: r)).length = (c :: r).length := List.length_map ..
  have e2 : IntKind.i64.wrap (((up (c :: r) t - 1 : Nat) : Int) + 1) = ((up (c :: r) t : Nat) : Int) := by rw [wrap64 (by omega) (by omega)]; omega
  have h93 : ∀ d : Ct, callO Try.prog hh L (n + 1) 93 [.a 3 (cs (c :: r)), .p (I (up (c :: r) t)), .p (.list 3 true [cpv d])] = some [.a 3 (cs ((c :: r).take (up (c :: r) t) ++ (d :: (c :: r).drop (up (c :: r) t))))] := by
    intro d
    rw [callO_prim (q := insertPO 3 16) (by kernel_rfl)]
    have q1 : decide ((0 : Int) ≤ (up (c :: r) t : Nat)) = true := by simp
    have q2 : decide (((up (c :: r) t : Nat) : Int) ≤ (cs (c :: r)).length) = true := by rw [hlen]; simp only [decide_eq_true_eq]; omega
    have q3 : decide (((cs (c :: r)).length + [cpv d].length) * 16 ≤ 140737488355328) = true := by rw [hlen]; simp; simp at hl; omega
    simp only [insertPO, insertQ, insertList, Nat.beq_refl, cond_true, q1, q2, q3, Bool.and_self, Int.toNat_natCast]
    simp [cs, List.map_take, List.map_drop]
  simp only [d82_0]
  rw [callD2 _ _ _ _ _ _ h85]
  simp only [ob_some, hlen, idxArr3 (show up (c :: r) t - 1 < (c :: r).length by omega), onat_some, get_c0 hx, eql_int, cb_bool, decide_eq_true_eq, hs]
  by_cases q : x.1 = t
  · simp only [q, if_true]
  · simp only [q, if_false, add_int, e2, ob_some, get_c1 hx, bp54, bs52, h93, oo_s, oa_s, onil_s]
theorem c84 (hm : 2 ≤ m) (a b : Ct) : callP Try.prog hh L m 84 [cpv a, cpv b] = some (Bo (decide (a.2 = b.2))) := by
  obtain ⟨n, rfl⟩ : ∃ n, m = n + 1 + 1 := ⟨m - 2, by omega⟩
  refine callP_of (by kernel_rfl) ?_
  rw [r84]
  have hl : ∀ c : Ct, PV.hasLay 3 (cpv c) = true := fun c => rfl
  simp only [d84_0, hl, ck_true, at31, ob_some, eql_int]
theorem f83_5 (C : Kallee) (l : List Ct) (k : Nat) (x2 : List PV) (hk : k ≤ l.length) (hl : l.length ≤ 4611686018427387904) :
    d83_5 C L kr83 (I k) (cs l) x2 = some [.a 3 (cs (l.take k))] := by
  obtain ⟨z, hz⟩ := clear52 (xs := cs l) (lo := k) (n := l.length - k) (by simp; omega)
  have h1 : subRange (cs l).length (optIntPV 0 (some (I k))) (optIntPV (cs l).length none) = some (k, l.length - k) := by
    simp [subRange, optIntPV, intPV?]; omega
  have h2 : subRange (zeroed (cs l) k (l.length - k) z).length (optIntPV 0 none) (optIntPV (zeroed (cs l) k (l.length - k) z).length (some (I k))) = some (0, k) := by
    rw [zeroed_len (by simp; omega)]
    simp [subRange, optIntPV, intPV?]; omega
  simp only [d83_5, h1, onr, hz, oxs_some, h2, List.drop_zero]
  simp only [kr83, List.drop_zero]
  rw [zeroed_take (by simp; omega), ← List.map_take]
theorem l83b (C : Kallee) (hC : ∀ a b : Ct, C.pure 84 [cpv a, cpv b] = some (Bo (decide (a.2 = b.2)))) (x5 : List PV) (n1 : Nat) : ∀ (r : List Ct) (N v3 k : Nat) (l : List Ct) (p : Ct), r.length < N → l.length ≤ 4611686018427387904 → 1 ≤ v3 → n1 + v3 + r.length = l.length → l.drop (n1 + v3) = r → l[n1 + v3 - 1]? = some p → k + 1 ≤ n1 + v3 →
    d83_3i C L (fun v0 x1 x2 => d83_5 C L kr83 v0 x1 x2) N (.clo 84 [] []) (I k) n1 (l.length - n1) (I v3) (cs l) x5 = some [.a 3 (cs (l.take k ++ cpT p r))] := by
  intro r
  induction r with
  | nil =>
    intro N v3 k l p hN hl hv hlen hd hp hk
    obtain ⟨N, rfl⟩ : ∃ n, N = n + 1 := ⟨N - 1, by omega⟩
    simp only [List.length_nil, Nat.add_zero] at hlen
    have h2 : ¬ (v3 : Int) < ((l.length - n1 : Nat) : Int) := by omega
    simp only [d83_3i, d83_4, goI, lss_int, ob_some, cb_bool, decide_eq_true_eq, h2, if_false]
    rw [f83_5 C l k x5 (by omega) hl]
    simp [cpT]
  | cons a r ih =>
    intro N v3 k l p hN hl hv hlen hd hp hk
    obtain ⟨N, rfl⟩ : ∃ n, N = n + 1 := ⟨N - 1, by omega⟩
    simp only [List.length_cons] at hlen hN
    obtain ⟨g1, g2, g3, g4⟩ := drop_cons' hd
    have h5 : (v3 : Int) < ((l.length - n1 : Nat) : Int) := by omega
    have e1 : IntKind.i64.wrap ((v3 : Int) - 1) = ((v3 - 1 : Nat) : Int) := by rw [wrap64 (by omega) (by omega)]; omega
    have e2 : n1 + (v3 - 1) = n1 + v3 - 1 := by omega
    have w1 : IntKind.i64.wrap ((v3 : Int) + 1) = ((v3 + 1 : Nat) : Int) := wrap_succ (by omega)
    have w2 : IntKind.i64.wrap ((k : Int) + 1) = ((k + 1 : Nat) : Int) := wrap_succ (by omega)
    simp only [d83_3i, d83_4, goI, lss_int, ob_some, cb_bool, decide_eq_true_eq, h5, if_true, idxSub3 (show v3 < l.length - n1 by omega), onat_some, get_c g2, sub_int0, e1, idxSub3 (show v3 - 1 < l.length - n1 by omega), e2, get_c hp, callD_clo, List.nil_append, List.append_nil, hC, not_bool]
    by_cases q : a.2 = p.2
    · simp only [q, decide_true, Bool.not_true, Bool.false_eq_true, if_false, add_int, w1, ob_some]
      rw [ih N (v3 + 1) k l a (by omega) hl (by omega) (by omega) (by rw [← Nat.add_assoc]; exact g3) (by rw [show n1 + (v3 + 1) - 1 = n1 + v3 by omega]; exact g2) (by omega)]
      simp [cpT, q]
    · simp only [q, decide_false, Bool.not_false, if_true, List.length_map, idxArr3 (show k < l.length by omega), onat_some, set_c (show k < l.length by omega), oxs_some, add_int, w1, w2, ob_some]
      have hlen2 : (l.set k a).length = l.length := List.length_set
      have hih := ih N (v3 + 1) (k + 1) (l.set k a) a (by omega) (by omega) (by omega) (by omega) (by
        rw [← Nat.add_assoc, List.drop_set_of_lt (by omega)]; exact g3) (by
        rw [show n1 + (v3 + 1) - 1 = n1 + v3 by omega, List.getElem?_set_ne (by omega)]; exact g2) (by omega)
      rw [hlen2] at hih
      rw [hih]
      have ht : (l.set k a).take (k + 1) = l.take k ++ [a] := by
        rw [List.take_add_one, List.take_set_of_le (Nat.le_refl k)]
        simp [show k < l.length by omega]
      rw [ht]
      simp [cpT, q]
theorem l83a (C : Kallee) (hC : ∀ a b : Ct, C.pure 84 [cpv a, cpv b] = some (Bo (decide (a.2 = b.2)))) (x2 : List PV) : ∀ (r : List Ct) (N : Nat) (A : List Ct) (p : Ct), (A ++ p :: r).length + r.length < N → (A ++ p :: r).length ≤ 4611686018427387904 → (A ++ p :: r).length < L →
    d83_1i C L (fun x0 x1 => d83_6 C L x0 x1) kr83 N (.clo 84 [] []) (I ((A.length + 1 : Nat) : Int)) (cs (A ++ p :: r)) x2 = some [.a 3 (cs (A ++ p :: cpT p r))] := by
  intro r
  induction r with
  | nil =>
    intro N A p hN hl hL
    obtain ⟨N, rfl⟩ : ∃ n, N = n + 1 := ⟨N - 1, by omega⟩
    have h2 : ¬ ((A.length + 1 : Nat) : Int) < (((A ++ [p]).length : Nat) : Int) := by simp
    simp only [d83_1i, d83_2, g83_2, goI, List.length_map, lss_int, ob_some, cb_bool, decide_eq_true_eq, h2, if_false, d83_6, cpT]
  | cons a r ih =>
    intro N A p hN hl hL
    obtain ⟨N, rfl⟩ : ∃ n, N = n + 1 := ⟨N - 1, by omega⟩
    obtain ⟨l, hle⟩ : ∃ l, l = A ++ p :: a :: r := ⟨_, rfl⟩
    have hlen : l.length = A.length + 1 + (r.length + 1) := by rw [hle]; simp; omega
    rw [← hle] at hN hl hL ⊢
    simp only [List.length_cons] at hN
    have g2 : l[A.length + 1]? = some a := by rw [hle, List.getElem?_append_right (by omega)]; simp
    have g1 : l[A.length]? = some p := by rw [hle, List.getElem?_append_right (by omega)]; simp
    have h5 : ((A.length + 1 : Nat) : Int) < ((l.length : Nat) : Int) := by omega
    have e1 : IntKind.i64.wrap (((A.length + 1 : Nat) : Int) - 1) = (A.length : Int) := by rw [wrap64 (by omega) (by omega)]; omega
    have w1 : IntKind.i64.wrap (((A.length + 1 : Nat) : Int) + 1) = ((A.length + 1 + 1 : Nat) : Int) := wrap_succ (by omega)
    simp only [d83_1i, d83_2, g83_2, goI, List.length_map, lss_int, ob_some, cb_bool, decide_eq_true_eq, h5, if_true, idxArr3 (show A.length + 1 < l.length by omega), onat_some, get_c g2, sub_int0, e1, idxArr3 (show A.length < l.length by omega), get_c g1, callD_clo, List.nil_append, List.append_nil, hC]
    by_cases q : a.2 = p.2
    · have hs : subRange l.length (optIntPV 0 (some (I ((A.length + 1 : Nat) : Int)))) (optIntPV l.length none) = some (A.length + 1, l.length - (A.length + 1)) := by
        simp [subRange, optIntPV, intPV?]; omega
      simp only [q, if_true, hs, onr, d83_3]
      have := l83b (L := L) C hC x2 (A.length + 1) r L 1 (A.length + 1) l a (by omega) hl (by omega) (by omega) (by rw [hle, show A.length + 1 + 1 = A.length + 2 by omega, List.drop_append]; simp) (by simpa using g2) (by omega)
      rw [show (PV.sc (Value.int IntKind.i64 1)) = I ((1 : Nat) : Int) from rfl, this]
      have ht : l.take (A.length + 1) = A ++ [p] := by
        rw [hle, show A ++ p :: a :: r = (A ++ [p]) ++ (a :: r) by simp]
        exact List.take_left' (by simp)
      rw [ht]
      simp [cpT, q]
    · simp only [q, if_false, add_int, w1, ob_some]
      have hih := ih N (A ++ [p]) a (by simp at hlen ⊢; omega) (by rw [hle] at hl; simpa using hl) (by rw [hle] at hL; simpa using hL)
      have e : A ++ [p] ++ a :: r = l := by rw [hle]; simp
      rw [e] at hih
      simp only [List.length_append, List.length_cons, List.length_nil, Nat.zero_add] at hih
      rw [hih]
      simp [cpT, q]
theorem c83 (hm : 4 ≤ m) (l : List Ct) (hl : l.length ≤ 4611686018427387904) (hL : 2 * l.length + 2 < L) : callO Try.prog hh L m 83 [.a 3 (cs l), .p (.clo 84 [] [])] = some [.a 3 (cs (cpC l))] := by
  obtain ⟨n, rfl⟩ : ∃ n, m = n + 1 + 1 := ⟨m - 2, by omega⟩
  refine callO_of (sp := ⟨[1, 0], 0, [some 3]⟩) (by kernel_rfl) (by kernel_rfl) ?_
  rw [r83]
  simp only [d83_0, g83_0, goI, List.length_map, lss_int, ob_some, cb_bool, decide_eq_true_eq]
  match l with
  | [] => simp [cpC]
  | [a] => simp [cpC, cpT]
  | a :: b :: r =>
    have h2 : ¬ (((a :: b :: r).length : Nat) : Int) < 2 := by simp; omega
    simp only [h2, if_false, d83_1]
    have := l83a (L := L) (kk L (n + 1)) (fun a b => c84 (by omega) a b) [] (b :: r) L [] a (by simp at hL ⊢; omega) (by simpa using hl) (by simp at hL ⊢; omega)
    simp only [List.length_nil, Nat.zero_add, List.nil_append] at this
    rw [show (PV.sc (Value.int IntKind.i64 1)) = I ((1 : Nat) : Int) from rfl, this]
    rfl
end
end Go.Lite

namespace Go.Lite
open Go Go.Proofs
set_option linter.unusedVariables false
set_option linter.unusedSimpArgs false
set_option maxRecDepth 100000

/-! # steps.Add, profile.Take, Give, Free -/
abbrev nilP : PV := .sc (.slice none 0 0)
def addE (s : List Ct) (fr to n : Int) : Int :=
  if (winB fr to && rightS s) = false ∨ n < -1073741824 ∨ 1073741824 < n then 2
  else if (addL s fr to n).any badC = true then 120 else if (4096 : Int) < (cpC (addL s fr to n)).length then 5 else 0
def addZ (s : List Ct) (fr to n : Int) : List Ct := cpC (addL s fr to n)
def addPV (s : List Ct) (fr to n : Int) : PV := .tup [if addE s fr to n = 0 then cuts false (addZ s fr to n) else nilP, I (addE s fr to n)]
section
variable {L m : Nat}
theorem l62 (C : Kallee) (ke : List PV → List PV → List PV → Option PV) (fr to n : Int) (hn : -1073741824 ≤ n) (hn' : n ≤ 1073741824) (x5 x6 : List PV) (T : Nat) (hT : T ≤ 100000) :
    ∀ (r : List Ct) (N : Nat) (A : List Ct), r.length < N → A.length + r.length = T → (∀ x ∈ r, 0 ≤ x.2 ∧ x.2 ≤ 1073741824) →
      d62_1i C L ke (fun v0 v1 x2 x3 x4 => some (.tup [v0, v1])) N (I fr) (I to) (I n) (I T) (I A.length) x5 x6 (cs (A ++ r)) =
        if (r.map (plusC fr to n)).any badC = true then some (.tup [nilP, I 120]) else ke x5 x6 (cs (A ++ r.map (plusC fr to n))) := by
  intro r
  induction r with
  | nil =>
    intro N A hN hA hr
    obtain ⟨N, rfl⟩ : ∃ n, N = n + 1 := ⟨N - 1, by omega⟩
    simp only [List.length_nil, Nat.add_zero] at hA
    have h2 : ¬ (A.length : Int) < T := by omega
    simp only [d62_1i, d62_2, g62_2, lss_int, ob_some, cb_bool, decide_eq_true_eq, h2, if_false, List.map_nil, List.any_nil, Bool.false_eq_true]
  | cons c r ih =>
    intro N A hN hA hr
    obtain ⟨N, rfl⟩ : ∃ n, N = n + 1 := ⟨N - 1, by omega⟩
    simp only [List.length_cons] at hN hA
    have hc := hr c (by simp)
    have h5 : (A.length : Int) < T := by omega
    have hl : (cs (A ++ c :: r)).length = T := by simp; omega
    have hg : (A ++ c :: r)[A.length]? = some c := by rw [List.getElem?_append_right (Nat.le_refl _)]; simp
    have w1 : IntKind.i64.wrap ((A.length : Int) + 1) = ((A.length + 1 : Nat) : Int) := wrap_succ (by omega)
    have hs : ∀ x : Ct, (A ++ c :: r).set A.length x = A ++ x :: r := fun x => by
      rw [List.set_append_right _ _ (Nat.le_refl _)]; simp
    -- the cut then
    have step : ∀ (y : Ct), y = plusC fr to n c → (A ++ y :: r)[A.length]? = some y →
        d62_6 C L (fun v0 v1 x2 x3 x4 => some (.tup [v0, v1])) (fun v0 v1 v2 v3 v4 x5 x6 x7 => d62_1i C L ke (fun v0 v1 x2 x3 x4 => some (.tup [v0, v1])) N v0 v1 v2 v3 v4 x5 x6 x7) (I fr) (I to) (I n) (I A.length) (I T) (I A.length) x5 x6 (cs (A ++ y :: r)) =
        if ((c :: r).map (plusC fr to n)).any badC = true then some (.tup [nilP, I 120]) else ke x5 x6 (cs (A ++ (c :: r).map (plusC fr to n))) := by
      intro y hy hgy
      have hly : (cs (A ++ y :: r)).length = T := by simp; omega
      have hih := ih N (A ++ [y]) (by omega) (by simp; omega) (fun x hx => hr x (by simp [hx]))
      have e1 : A ++ [y] ++ r = A ++ y :: r := by simp
      have e2 : (A ++ [y]).length = A.length + 1 := by simp
      rw [e1, e2] at hih
      simp only [d62_6, hly, idxArr3 (show A.length < T by omega), onat_some, get_c1 hgy, ob_some, lss_int, gtr_int, gcase_f, decide_eq_true_eq, cb_bool, add_int, w1, hih, List.map_cons, List.any_cons, ← hy, badC]
      by_cases q1 : y.2 < 0
      · simp [q1]
      · by_cases q2 : 1073741824 < y.2
        · simp [q1, q2]
        · simp only [q1, q2, if_false, decide_false, Bool.or_self, Bool.false_or]
          simp
    simp only [d62_1i, d62_2, g62_2, d62_3, d62_4, g62_4, d62_5, lss_int, ob_some, cb_bool, decide_eq_true_eq, h5, if_true, hl, idxArr3 (show A.length < T by omega), onat_some, get_c0 hg, geq_int, gcase_t]
    by_cases q1 : fr ≤ c.1
    · by_cases q2 : c.1 < to
      · have e : IntKind.i64.wrap (c.2 + n) = c.2 + n := wrap64 (by omega) (by omega)
        simp only [q1, q2, if_true, get_c1 hg, ob_some, add_int, e, set_c1 hg, oxs_some, hs]
        exact step _ (by simp [plusC, q1, q2]) (by rw [List.getElem?_append_right (Nat.le_refl _)]; simp)
      · simp only [q1, q2, if_true, if_false]
        exact step c (by simp [plusC, q2]) hg
    · simp only [q1, if_false, cb_bool, Bool.false_eq_true]
      exact step c (by simp [plusC, q1]) hg
theorem c62 (hm : 8 ≤ m) (b : Bool) (s : List Ct) (hs : s.length ≤ 4096) (hL : 10000 < L) (fr to n : Int) : callP Try.prog hh L m 62 [cuts b s, I fr, I to, I n] = some (addPV s fr to n) := by
  obtain ⟨k, rfl⟩ : ∃ n, m = n + 1 + 1 := ⟨m - 2, by omega⟩
  refine callP_of (by kernel_rfl) ?_
  rw [r62]
  simp only [d62_0, g62_0, callD_clo, List.nil_append, List.append_nil, c63 (L := L) (show 3 ≤ k + 1 by omega) b s (by omega) (by omega) fr to, ob_some, not_bool, gcase_f, lss_int, gtr_int, cb_bool, decide_eq_true_eq]
  rcases Bool.eq_false_or_eq_true (winB fr to && rightS s) with hw | hw
  case inr =>
    have e : addE s fr to n = 2 := by unfold addE; rw [if_pos (.inl hw)]
    simp [hw, addPV, e]
  · by_cases q1 : n < -1073741824
    · have e : addE s fr to n = 2 := by unfold addE; rw [if_pos (.inr (.inl q1))]
      simp [hw, q1, addPV, e]
    by_cases q2 : 1073741824 < n
    · have e : addE s fr to n = 2 := by unfold addE; rw [if_pos (.inr (.inr q2))]
      simp [hw, q1, q2, addPV, e]
    have hne : ¬ ((winB fr to && rightS s) = false ∨ n < -1073741824 ∨ 1073741824 < n) := fun h => by
      rcases h with h | h | h
      · rw [hw] at h; cases h
      · exact q1 h
      · exact q2 h
    have hw' := hw
    simp only [winB, Bool.and_eq_true, decide_eq_true_eq] at hw'
    obtain ⟨⟨⟨g0, g1⟩, g2⟩, hr⟩ := hw'
    obtain ⟨c, r, A⟩ := adds (n := n) hr g0 g1 g2
    obtain ⟨c0, r0, rfl, hc0, hup0, _, hlen0⟩ := rightS_cons hr
    have h61 := c61 (L := L) (m := k + 1) (by omega) b (c0 :: r0) (by omega) (by simp)
    have h82a := c82 (L := L) (m := k + 1) (by omega) c0 r0 fr hup0 (by omega) (by omega) (by omega)
    have hup1 := insC_rising hup0 (t := fr) (by omega)
    have hl1 := insC_len (r := r0) (c := c0) (t := fr)
    have h82b := c82 (L := L) (m := k + 1) (by omega) c0 (insC c0 r0 fr) to hup1 (by omega) (by simp at hlen0 ⊢; omega) (by simp at hlen0 ⊢; omega)
    have e1 : splitS (c0 :: insC c0 r0 fr) to = cutS (c0 :: r0) fr to := rfl
    have e0 : splitS (c0 :: r0) fr = c0 :: insC c0 r0 fr := rfl
    rw [e0] at h82a
    rw [e1, A.e] at h82b
    have hlen := A.len
    have hvals : ∀ x ∈ c :: r, 0 ≤ x.2 ∧ x.2 ≤ 1073741824 := fun x hx => by
      obtain ⟨v1, v2, _⟩ := A.vals x hx
      rw [v1]; exact val_in hr v2
    have hadd : addL (c0 :: r0) fr to n = (c :: r).map (plusC fr to n) := by unfold addL; rw [A.e]
    have hloop := l62 (L := L) (kk L (k + 1)) (fun x0 x1 x2 => d62_7 (kk L (k + 1)) L x0 x1 x2) fr to n (by omega) (by omega) (cs (c0 :: r0) ++ [.sc (.bool false)]) (cs (c0 :: insC c0 r0 fr) ++ [.sc (.bool false)]) (c :: r).length (by omega) (c :: r) L [] (by omega) (by simp) hvals
    simp only [List.nil_append, List.length_nil, ← hadd] at hloop
    have hla : (addL (c0 :: r0) fr to n).length = (c :: r).length := by rw [hadd, List.length_map]
    have h83 := c83 (L := L) (m := k + 1) (by omega) (addL (c0 :: r0) fr to n) (by omega) (by omega)
    simp only [hw, Bool.not_true, Bool.false_eq_true, if_false, q1, q2, h61, h82a, h82b, oo_s, oa_s, onil_s, d62_1, goI, List.length_map]
    rw [show (PV.sc (Value.int IntKind.i64 0)) = I ((0 : Nat) : Int) from rfl, hloop]
    by_cases q3 : (addL (c0 :: r0) fr to n).any badC = true
    · have e : addE (c0 :: r0) fr to n = 120 := by unfold addE; rw [if_neg hne, if_pos q3]
      rw [if_pos q3]
      simp [addPV, e]
    · rw [if_neg q3]
      simp only [d62_7, h83, oo_s, oa_s, onil_s, goI, List.length_map, gtr_int, ob_some, cb_bool, decide_eq_true_eq]
      by_cases q4 : (4096 : Int) < (cpC (addL (c0 :: r0) fr to n)).length
      · have e : addE (c0 :: r0) fr to n = 5 := by unfold addE; rw [if_neg hne, if_neg q3, if_pos q4]
        rw [if_pos q4]
        simp [addPV, e]
      · have e : addE (c0 :: r0) fr to n = 0 := by unfold addE; rw [if_neg hne, if_neg q3, if_neg q4]
        rw [if_neg q4]
        simp [addPV, e, addZ]
/-! ## on some nodes -/
def goA (on : Nat) (fr to n : Int) : Nat → List (List Ct) → List (List Ct) → Int × List (List Ct)
  | _, [], o => (0, o)
  | i, s :: r, o => if on.testBit i = true then (if addE s fr to n = 0 then goA on fr to n (i + 1) r (o ++ [addZ s fr to n]) else (addE s fr to n, [])) else goA on fr to n (i + 1) r (o ++ [s])
def resA (x : Int × List (List Ct)) : PV := .tup [if x.1 = 0 then prof x.2 else nilP, I x.1]
def addOK (p : List (List Ct)) (on : Nat) (n fr to : Int) : Bool := winB fr to && decide (-1073741824 ≤ n) && decide (n ≤ 1073741824) && rightP p && decide (on / 2 ^ p.length = 0)
def takePV (p : List (List Ct)) (on : Nat) (n fr to : Int) : PV := if addOK p on n fr to = true then resA (goA on fr to n 0 p []) else .tup [nilP, I 2]
theorem l38 (k : Nat) (hk : 8 ≤ k) (hL : 10000 < L) (on : Nat) (ho : on < 2 ^ 32) (fr to n : Int) (p : List (List Ct)) (hp : ∀ s ∈ p, s.length ≤ 4096) (hp2 : p.length ≤ 32) :
    ∀ (r : List (List Ct)) (N i : Nat) (o : List (List Ct)), p.drop i = r → r.length < N → o.length ≤ i →
      d38_1i (kk L k) L (fun x0 => d38_5 (kk L k) L x0) (fun v0 v1 x2 => some (.tup [v0, v1])) N (prof p) (U on) (I n) (I fr) (I to) (I p.length) (I i) (o.map (cuts false)) = some (resA (goA on fr to n i r o)) := by
  intro r
  induction r with
  | nil =>
    intro N i o h hN ho'
    obtain ⟨N, rfl⟩ : ∃ n, N = n + 1 := ⟨N - 1, by omega⟩
    have := drop_nil' h
    have h2 : ¬ (i : Int) < p.length := by omega
    simp [d38_1i, d38_2, g38_2, h2, goA, d38_5, resA]
  | cons s r ih =>
    intro N i o h hN ho'
    obtain ⟨N, rfl⟩ : ∃ n, N = n + 1 := ⟨N - 1, by omega⟩
    obtain ⟨h1, h2, h3, h4⟩ := drop_cons' h
    have h5 : (i : Int) < p.length := by omega
    have hs := hp s h4
    simp only [List.length_cons] at hN
    have hsd : on / 2 ^ i < 2 ^ 32 := Nat.lt_of_le_of_lt (Nat.div_le_self _ _) ho
    have w1 : IntKind.i64.wrap ((i : Int) + 1) = ((i + 1 : Nat) : Int) := wrap_succ (by omega)
    simp only [d38_1i, d38_2, g38_2, d38_3, d38_4, lss_int, ob_some, cb_bool, decide_eq_true_eq, h5, if_true, ia22, h2, Option.map_some, ld52, callD_clo, List.nil_append, List.append_nil, c61p (L := L) (show 1 ≤ k by omega) false s (by omega), shr_u _ _ _ _ on i (show i < 32 by omega), and1_u _ _ _ _ hsd, eql_int, bit_is,
      c62 (L := L) (show 8 ≤ k by omega) false s hs hL, addPV, extract_tup, List.getElem?_cons_zero, List.getElem?_cons_succ, neq_int, ne_eq, goA]
    by_cases q : on.testBit i = true
    · by_cases q2 : addE s fr to n = 0
      · simp only [q, q2, if_true, not_true_eq_false, if_false, bs22, ob_some, app22 o (addZ s fr to n) (by omega), oxs_some, add_int, w1]
        exact ih N (i + 1) _ h3 (by omega) (by simp; omega)
      · simp [q, q2, resA]
    · simp only [q, if_false, not_true_eq_false, bs22, ob_some, app22 o s (by omega), oxs_some, add_int, w1, Bool.false_eq_true]
      exact ih N (i + 1) _ h3 (by omega) (by simp; omega)
theorem conv2485 (n : Int) : convPV Try.prog 24 85 (.sc (.int .u32 n)) = some (.sc (.int .u64 (IntKind.u64.wrap n))) := by kernel_rfl
theorem shrL (t : TypeId) (x y : Operand) (a i : Nat) (h : i ≤ 40) : binPV Try.prog .shr t x y (.sc (.int .u64 (a : Int))) (I i) = some (.sc (.int .u64 ((a / 2 ^ i : Nat) : Int))) := by
  have h1 : pureRun Try.prog (Op.shift .shr .u64 (a : Int) .i64 (i : Int)) = some (.int .u64 ((a : Int).fdiv (2 ^ (min (i : Int).toNat 64)))) := by
    have : ¬ (i : Int) < 0 := by omega
    simp only [Op.shift, this, if_false]; rfl
  have h3 : (a : Int).fdiv (2 ^ (min (i : Int).toNat 64)) = ((a / 2 ^ i : Nat) : Int) := by
    have : min (i : Int).toNat 64 = i := by omega
    rw [this, Int.fdiv_eq_ediv_of_nonneg _ (by exact Int.pow_nonneg (by decide))]
    simp
  rw [h3] at h1
  simp [binPV, PV.plain?, eqGuard, binOp]
  rfl
theorem c38 (hm : 10 ≤ m) (hL : 10000 < L) (p : List (List Ct)) (hpn : p.length ≤ 40) (hpc : ∀ s ∈ p, s.length ≤ 4096) (on : Nat) (ho : on < 2 ^ 32) (n fr to : Int) : callP Try.prog hh L m 38 [prof p, U on, I n, I fr, I to] = some (takePV p on n fr to) := by
  obtain ⟨k, rfl⟩ : ∃ n, m = n + 1 + 1 := ⟨m - 2, by omega⟩
  refine callP_of (by kernel_rfl) ?_
  rw [r38]
  have e1 : IntKind.u64.wrap (on : Int) = (on : Int) := wrapu64 (by omega) (by omega)
  simp only [d38_0, g38_0, callD_clo, List.nil_append, List.append_nil, c39 (L := L) (show 2 ≤ k + 1 by omega), ob_some, not_bool, gcase_f, lss_int, gtr_int, cb_bool, decide_eq_true_eq, c20' (L := L) (show 6 ≤ k + 1 by omega) p hpn hpc (by omega), conv2485, e1, ln22, shrL _ _ _ on p.length (by omega), neq_int]
  rcases Bool.eq_false_or_eq_true (winB fr to) with hw | hw
  case inr =>
    have e : addOK p on n fr to = false := by unfold addOK; rw [hw]; rfl
    simp [hw, takePV, e]
  ·
    by_cases q1 : n < -1073741824
    · have e : addOK p on n fr to = false := by unfold addOK; have : ¬ -1073741824 ≤ n := by omega
                                                simp [this]
      simp [hw, q1, takePV, e]
    by_cases q2 : 1073741824 < n
    · have e : addOK p on n fr to = false := by unfold addOK; have : ¬ n ≤ 1073741824 := by omega
                                                simp [this]
      simp [hw, q1, q2, takePV, e]
    rcases Bool.eq_false_or_eq_true (rightP p) with hr | hr
    case inr =>
      have e : addOK p on n fr to = false := by unfold addOK; simp [hr]
      simp [hw, q1, q2, hr, takePV, e]
    obtain ⟨_, hp2, _⟩ := rightP_in hr
    by_cases q3 : on / 2 ^ p.length = 0
    · have e : addOK p on n fr to = true := by
        unfold addOK
        have g1 : -1073741824 ≤ n := by omega
        have g2 : n ≤ 1073741824 := by omega
        simp only [hw, hr, g1, g2, q3, decide_true, Bool.and_self]
      have q3' : ((on / 2 ^ p.length : Nat) : Int) = 0 := by omega
      have := l38 (L := L) (k + 1) (by omega) hL on ho fr to n p hpc hp2 p L 0 [] rfl (by omega) (by simp)
      simp only [hw, hr, q1, q2, q3', Bool.not_true, Bool.false_eq_true, if_false, ne_eq, not_true_eq_false, d38_1, takePV, e, if_true]
      exact this
    · have e : addOK p on n fr to = false := by unfold addOK; simp only [q3, decide_false, Bool.and_false]
      have q3' : ¬ ((on / 2 ^ p.length : Nat) : Int) = 0 := by omega
      simp only [hw, hr, q1, q2, q3', Bool.not_true, Bool.false_eq_true, if_false, ne_eq, not_false_eq_true, if_true, takePV, e]
def takeC (p : List (List Ct)) (on : Nat) (c fr to : Int) : PV := if c < 0 then .tup [nilP, I 2] else takePV p on (-c) fr to
def giveC (p : List (List Ct)) (on : Nat) (c fr to : Int) : PV := if c < 0 then .tup [nilP, I 2] else takePV p on c fr to
theorem takePV_tup (p : List (List Ct)) (on : Nat) (n fr to : Int) : ∃ a b, takePV p on n fr to = .tup [a, b] := by
  unfold takePV
  split
  · exact ⟨_, _, rfl⟩
  · exact ⟨_, _, rfl⟩
theorem neg_i (n : Int) : unPV Try.prog .neg (I n) = some (.sc (.int .i64 (IntKind.i64.wrap (0 - n)))) := by kernel_rfl
theorem c15 (hm : 12 ≤ m) (hL : 10000 < L) (p : List (List Ct)) (hpn : p.length ≤ 40) (hpc : ∀ s ∈ p, s.length ≤ 4096) (on : Nat) (ho : on < 2 ^ 32) (c fr to : Int) (hc : c ≤ 9223372036854775807) : callP Try.prog hh L m 15 [prof p, U on, I c, I fr, I to] = some (takeC p on c fr to) := by
  obtain ⟨k, rfl⟩ : ∃ n, m = n + 1 + 1 := ⟨m - 2, by omega⟩
  refine callP_of (by kernel_rfl) ?_
  rw [r15]
  simp only [d15_0, lss_int, ob_some, cb_bool, decide_eq_true_eq, takeC]
  by_cases q : c < 0
  · simp [q]
  · have e : IntKind.i64.wrap (0 - c) = -c := by rw [wrap64 (by omega) (by omega)]; omega
    obtain ⟨a, b, ht⟩ := takePV_tup p on (-c) fr to
    simp only [q, if_false, neg_i, e, ob_some, callD_clo, List.nil_append, List.append_nil, c38 (L := L) (show 10 ≤ k + 1 by omega) hL p hpn hpc on ho, ht, extract_tup, List.getElem?_cons_zero, List.getElem?_cons_succ]
theorem c16 (hm : 12 ≤ m) (hL : 10000 < L) (p : List (List Ct)) (hpn : p.length ≤ 40) (hpc : ∀ s ∈ p, s.length ≤ 4096) (on : Nat) (ho : on < 2 ^ 32) (c fr to : Int) : callP Try.prog hh L m 16 [prof p, U on, I c, I fr, I to] = some (giveC p on c fr to) := by
  obtain ⟨k, rfl⟩ : ∃ n, m = n + 1 + 1 := ⟨m - 2, by omega⟩
  refine callP_of (by kernel_rfl) ?_
  rw [r16]
  simp only [d16_0, lss_int, ob_some, cb_bool, decide_eq_true_eq, giveC]
  by_cases q : c < 0
  · simp [q]
  · obtain ⟨a, b, ht⟩ := takePV_tup p on c fr to
    simp only [q, if_false, callD_clo, List.nil_append, List.append_nil, c38 (L := L) (show 10 ≤ k + 1 by omega) hL p hpn hpc on ho, ht, ob_some, extract_tup, List.getElem?_cons_zero, List.getElem?_cons_succ]
/-! ## what is free -/
theorem c41 (hm : 7 ≤ m) (p : List (List Ct)) (hp : OkP L p) (c fr to : Int) (i : Nat) (s : List Ct) (hi : p[i]? = some s) (ht : winB fr to = true) (hr : rightS s = true) :
    callP Try.prog hh L m 41 [I i, .ro 0 (prof p), .ro 0 (I fr), .ro 0 (I to), .ro 0 (I c)] = some (Bo (decide (c ≤ leastR s fr to))) := by
  obtain ⟨n, rfl⟩ : ∃ n, m = n + 1 + 1 := ⟨m - 2, by omega⟩
  refine callP_of (by kernel_rfl) ?_
  rw [r41]
  have hs := hp.c s (List.mem_of_getElem? hi)
  have hL := hp.L
  have h42 := c42 (L := L) (show 6 ≤ n + 1 by omega) false s fr to (by omega) (by omega)
  rw [ht, hr] at h42
  simp only [d41_0, ld22, ob_some, ia22, hi, Option.map_some, ld52, ld2, callD_clo, List.nil_append, List.append_nil, h42, Bool.and_self, if_true, extract_tup, List.getElem?_cons_zero, List.getElem?_cons_succ, ld3, geq_int]
theorem c17 (hm : 10 ≤ m) (p : List (List Ct)) (hp : OkP L p) (s : Nat) (hs : s < 2 ^ 32) (fr to c : Int) : callP Try.prog hh L m 17 [prof p, U s, I fr, I to, I c] = some (freePV p s fr to c) := by
  obtain ⟨n, rfl⟩ : ∃ n, m = n + 1 + 1 := ⟨m - 2, by omega⟩
  refine callP_of (by kernel_rfl) ?_
  rw [r17]
  have hL := hp.L
  simp only [d17_0, hl0p, hl0I, ck_true, callD_clo, List.nil_append, List.append_nil, c39 (L := L) (show 2 ≤ n + 1 by omega), ob_some, not_bool, gcase_f, c20 (L := L) (show 6 ≤ n + 1 by omega) p hp, cb_bool, freePV]
  cases hw : winB fr to with
  | false => simp
  | true =>
    cases hr : rightP p with
    | false => simp
    | true =>
      obtain ⟨_, hp2, hrs⟩ := rightP_in hr
      have h40 := c40 (L := L) (m := n + 1) (by omega) (by omega) (.clo 41 [] [.ro 0 (prof p), .ro 0 (I fr), .ro 0 (I to), .ro 0 (I c)]) s hs (fun i => match p[i]? with | some s => decide (c ≤ leastR s fr to) | none => false) p hp2 (fun k hk i hi _ => by
        have hg : p[i]? = some p[i] := List.getElem?_eq_getElem hi
        rw [callD_clo]
        simp only [hg, List.nil_append, List.cons_append]
        exact c41 (by omega) p hp c fr to i p[i] hg hw (hrs _ (List.getElem_mem hi)))
      simp only [Bool.not_true, Bool.false_eq_true, if_false, Bool.and_self, if_true]
      rw [callD1u _ _ _ _ _ _ h40]
      simp only [ob_some]
      have : bits (fun j => s.testBit j && (match p[j]? with | some s => decide (c ≤ leastR s fr to) | none => false)) p.length = bits (freeB p s fr to c) p.length := bits_cong fun i hi => by
        unfold freeB
        rw [List.getElem?_eq_getElem hi]
      rw [this]
theorem c19 (hm : 2 ≤ m) (a b : Nat) (ha : a < 2 ^ 32) (hb : b < 2 ^ 32) : callP Try.prog hh L m 19 [U a, U b] = some (Bo (within a b)) := by
  obtain ⟨n, rfl⟩ : ∃ n, m = n + 1 + 1 := ⟨m - 2, by omega⟩
  refine callP_of (by kernel_rfl) ?_
  rw [r19]
  have e3 : (((a &&& (2 ^ 32 - 1 - b) : Nat) : Int) = 0) = (a &&& (2 ^ 32 - 1 - b) = 0) := by apply propext; omega
  simp only [d19_0, andNot_u _ _ _ _ a b ha hb, ob_some, eql_int, within, e3]
end
end Go.Lite

namespace Go.Lite
open Go Go.Proofs
set_option linter.unusedVariables false
set_option linter.unusedSimpArgs false
set_option maxRecDepth 100000

/-! # taking and giving back: plain -/
theorem add_vals {s : List Ct} {fr to n : Int} {c : Ct} {r : List Ct} (A : Adds s fr to n c r) (hb : (addL s fr to n).any badC = false) :
    ∃ d q, cpC (addL s fr to n) = d :: q ∧ d.1 = 0 ∧ okC d = true ∧ tailOK d q = true ∧ ∀ u, 0 ≤ u → (lastC d q u).2 = val s u + (if fr ≤ u ∧ u < to then n else 0) := by
  have e : addL s fr to n = plusC fr to n c :: r.map (plusC fr to n) := by unfold addL; rw [A.e]; rfl
  rw [e] at hb ⊢
  have hup := rising_map (fr := fr) (to := to) (n := n) A.up
  have hok : ∀ x ∈ plusC fr to n c :: r.map (plusC fr to n), okC x = true := by
    intro x hx
    have hbx : badC x = false := by
      rw [List.any_eq_false] at hb
      simpa using hb x hx
    have : ∃ y ∈ c :: r, x = plusC fr to n y := by
      rcases List.mem_cons.1 hx with rfl | hx
      · exact ⟨c, by simp, rfl⟩
      · obtain ⟨y, hy, rfl⟩ := List.mem_map.1 hx; exact ⟨y, by simp [hy], rfl⟩
    obtain ⟨y, hy, rfl⟩ := this
    have := A.vals y hy
    simp only [badC, Bool.or_eq_false_iff, decide_eq_false_iff_not] at hbx
    simp only [okC, plusC_fst, Bool.and_eq_true, decide_eq_true_eq]
    omega
  have ht := cpT_tail (c := plusC fr to n c) rfl (Int.le_refl _) hup fun x hx => hok x (by simp [hx])
  have hc0 := A.c0
  refine ⟨_, _, rfl, by rw [plusC_fst]; exact hc0, hok _ (by simp), ht, fun u hu => ?_⟩
  rw [cpT_val rfl hup, plus_val A.up (by omega) A.fr A.to, A.val u hu]
theorem not_bad {s : List Ct} {fr to n : Int} {c : Ct} {r : List Ct} (A : Adds s fr to n c r) (h : ∀ u, 0 ≤ u → 0 ≤ val s u + (if fr ≤ u ∧ u < to then n else 0) ∧ val s u + (if fr ≤ u ∧ u < to then n else 0) ≤ 1073741824) : (addL s fr to n).any badC = false := by
  rw [List.any_eq_false]
  intro x hx
  unfold addL at hx
  rw [A.e] at hx
  obtain ⟨y, hy, rfl⟩ := List.mem_map.1 hx
  obtain ⟨v1, v2, _⟩ := A.vals y hy
  have := h y.1 v2
  simp only [badC, Bool.not_eq_true, Bool.or_eq_false_iff, decide_eq_false_iff_not]
  unfold plusC
  split
  · rename_i hc
    rw [if_pos hc] at this
    simp only; omega
  · rename_i hc
    rw [if_neg hc] at this
    omega
theorem addE_zero {s : List Ct} {fr to n : Int} (h : addE s fr to n = 0) : (winB fr to && rightS s) = true ∧ -1073741824 ≤ n ∧ n ≤ 1073741824 ∧ (addL s fr to n).any badC = false ∧ (cpC (addL s fr to n)).length ≤ 4096 := by
  unfold addE at h
  split at h
  · cases h
  · rename_i h1
    split at h
    · cases h
    · rename_i h2
      split at h
      · cases h
      · rename_i h3
        have g1 : (winB fr to && rightS s) = true := by
          rcases Bool.eq_false_or_eq_true (winB fr to && rightS s) with q | q
          · exact q
          · exact absurd (.inl q) h1
        have g2 : ¬ n < -1073741824 := fun q => h1 (.inr (.inl q))
        have g3 : ¬ 1073741824 < n := fun q => h1 (.inr (.inr q))
        exact ⟨g1, by omega, by omega, Bool.eq_false_iff.2 h2, by omega⟩
theorem zero_addE {s : List Ct} {fr to n : Int} (h1 : (winB fr to && rightS s) = true) (h2 : -1073741824 ≤ n) (h3 : n ≤ 1073741824) (h4 : (addL s fr to n).any badC = false) : addE s fr to n = if (4096 : Int) < (cpC (addL s fr to n)).length then 5 else 0 := by
  unfold addE
  rw [if_neg (fun q => by
    rcases q with q | q | q
    · rw [h1] at q; cases q
    · omega
    · omega), if_neg (by rw [h4]; decide)]
theorem win_in {fr to : Int} (h : winB fr to = true) : 0 ≤ fr ∧ fr < to ∧ to ≤ 2199023255552 := by
  simp only [winB, Bool.and_eq_true, decide_eq_true_eq] at h; omega
theorem addZ_right {s : List Ct} {fr to n : Int} (h : addE s fr to n = 0) : rightS (addZ s fr to n) = true := by
  obtain ⟨h1, h2, h3, h4, h5⟩ := addE_zero h
  simp only [Bool.and_eq_true] at h1
  obtain ⟨g0, g1, g2⟩ := win_in h1.1
  obtain ⟨c, r, A⟩ := adds (n := n) h1.2 g0 g1 g2
  exact (add_right A h4 h5).1
/-- given back: as before -/
theorem give_back {s : List Ct} {fr to n : Int} (h : addE s fr to (-n) = 0) : addE (addZ s fr to (-n)) fr to n = 0 ∧ addZ (addZ s fr to (-n)) fr to n = s := by
  have hz := addZ_right h
  obtain ⟨h1, h2, h3, h4, h5⟩ := addE_zero h
  simp only [Bool.and_eq_true] at h1
  obtain ⟨g0, g1, g2⟩ := win_in h1.1
  obtain ⟨c, r, A⟩ := adds (n := -n) h1.2 g0 g1 g2
  have hv := (add_right A h4 h5).2
  obtain ⟨c', r', A'⟩ := adds (n := n) hz g0 g1 g2
  have hb : (addL (addZ s fr to (-n)) fr to n).any badC = false := not_bad A' fun u hu => by
    have h6 := val_in h1.2 hu
    have h7 := hv u hu
    unfold addZ
    rw [h7]
    split <;> omega
  obtain ⟨d, q, e, d0, dok, dt, dv⟩ := add_vals A' hb
  obtain ⟨c0, r0, rfl, hc0, hr0, hok0, hlen0⟩ := rightS_cons h1.2
  have hs := h1.2
  simp only [rightS, Bool.and_eq_true] at hs
  have same : d :: q = c0 :: r0 := same_vals dt hs.2 (by omega) fun u hu => by
    have hu0 : 0 ≤ u := by omega
    rw [dv u hu0, ← val_last hr0 (by omega)]
    have h7 := hv u hu0
    unfold addZ
    rw [h7]
    split <;> omega
  have e2 : cpC (addL (addZ (c0 :: r0) fr to (-n)) fr to n) = c0 :: r0 := e.trans same
  refine ⟨?_, e2⟩
  rw [zero_addE (by rw [h1.1, hz]; rfl) (by omega) (by omega) hb, e2, if_neg (by omega)]
theorem goA_spec {on : Nat} {fr to n : Int} : ∀ (r : List (List Ct)) (i : Nat) (o : List (List Ct)),
    (∃ zs, goA on fr to n i r o = (0, o ++ zs) ∧ zs.length = r.length ∧ ∀ (j : Nat) (s : List Ct), r[j]? = some s → zs[j]? = some (if on.testBit (i + j) = true then addZ s fr to n else s) ∧ (on.testBit (i + j) = true → addE s fr to n = 0)) ∨
    (∃ (j : Nat) (s : List Ct), r[j]? = some s ∧ on.testBit (i + j) = true ∧ addE s fr to n ≠ 0 ∧ goA on fr to n i r o = (addE s fr to n, []))
  | [], i, o => .inl ⟨[], by simp [goA], rfl, by simp⟩
  | s :: r, i, o => by
    simp only [goA]
    by_cases q : on.testBit i = true
    · by_cases q2 : addE s fr to n = 0
      · simp only [q, q2, if_true]
        rcases goA_spec r (i + 1) (o ++ [addZ s fr to n]) with ⟨zs, h1, h2, h3⟩ | ⟨j, x, h1, h2, h3, h4⟩
        · refine .inl ⟨addZ s fr to n :: zs, by rw [h1]; simp, by simp [h2], fun j x hx => ?_⟩
          cases j with
          | zero => simp at hx; subst hx; simp [q, q2]
          | succ j =>
            have := h3 j x (by simpa using hx)
            rw [show i + 1 + j = i + (j + 1) by omega] at this
            simpa using this
        · exact .inr ⟨j + 1, x, by simpa using h1, by rw [show i + (j + 1) = i + 1 + j by omega]; exact h2, h3, h4⟩
      · simp only [q, q2, if_true, if_false]
        exact .inr ⟨0, s, rfl, by simpa using q, q2, rfl⟩
    · simp only [q, if_false, Bool.false_eq_true]
      rcases goA_spec r (i + 1) (o ++ [s]) with ⟨zs, h1, h2, h3⟩ | ⟨j, x, h1, h2, h3, h4⟩
      · refine .inl ⟨s :: zs, by rw [h1]; simp, by simp [h2], fun j x hx => ?_⟩
        cases j with
        | zero => simp at hx; subst hx; simp [q]
        | succ j =>
          have := h3 j x (by simpa using hx)
          rw [show i + 1 + j = i + (j + 1) by omega] at this
          simpa using this
      · exact .inr ⟨j + 1, x, by simpa using h1, by rw [show i + (j + 1) = i + 1 + j by omega]; exact h2, h3, h4⟩
theorem list_eq {α : Type} {l l' : List α} (h : ∀ (i : Nat) (a : α), l[i]? = some a → l'[i]? = some a) (hl : l'.length = l.length) : l' = l := by
  apply List.ext_getElem? 
  intro i
  rcases Nat.lt_or_ge i l.length with hi | hi
  · have := h i l[i] (List.getElem?_eq_getElem hi)
    rw [this, List.getElem?_eq_getElem hi]
  · rw [List.getElem?_eq_none hi, List.getElem?_eq_none (by omega)]
/-- what was taken -/
structure Taken (p q : List (List Ct)) (on : Nat) (fr to n : Int) : Prop where
  len : q.length = p.length
  at_ : ∀ (j : Nat) (s : List Ct), p[j]? = some s → q[j]? = some (if on.testBit j = true then addZ s fr to n else s) ∧ (on.testBit j = true → addE s fr to n = 0)
theorem taken_right {p q : List (List Ct)} {on : Nat} {fr to n : Int} (h : Taken p q on fr to n) (hp : rightP p = true) : rightP q = true := by
  obtain ⟨h1, h2, h3⟩ := rightP_in hp
  have h4 := h.len
  simp only [rightP, Bool.and_eq_true, decide_eq_true_eq, List.all_eq_true]
  refine ⟨⟨by omega, by omega⟩, fun z hz => ?_⟩
  obtain ⟨j, hj, rfl⟩ := List.getElem_of_mem hz
  have hj' : j < p.length := by omega
  have hg : p[j]? = some p[j] := List.getElem?_eq_getElem hj'
  obtain ⟨g1, g2⟩ := h.at_ j _ hg
  rw [List.getElem?_eq_getElem hj] at g1
  simp only [Option.some.injEq] at g1
  rw [g1]
  split
  · rename_i hb; exact addZ_right (g2 hb)
  · exact h3 _ (List.getElem_mem hj')
theorem take_form (p : List (List Ct)) (on : Nat) (n fr to : Int) : (∃ q, goA on fr to n 0 p [] = (0, q) ∧ Taken p q on fr to n) ∨ (∃ (j : Nat) (s : List Ct), p[j]? = some s ∧ on.testBit j = true ∧ addE s fr to n ≠ 0 ∧ goA on fr to n 0 p [] = (addE s fr to n, [])) := by
  rcases goA_spec (on := on) (fr := fr) (to := to) (n := n) p 0 [] with ⟨zs, h1, h2, h3⟩ | ⟨j, s, h1, h2, h3, h4⟩
  · exact .inl ⟨zs, by simpa using h1, h2, fun j s hs => by simpa using h3 j s hs⟩
  · exact .inr ⟨j, s, h1, by simpa using h2, h3, h4⟩
theorem give_all {p q : List (List Ct)} {on : Nat} {fr to n : Int} (h : Taken p q on fr to (-n)) : goA on fr to n 0 q [] = (0, p) := by
  rcases take_form q on n fr to with ⟨z, h1, h2⟩ | ⟨j, s, h1, h2, h3, _⟩
  · have hz : z = p := list_eq (fun j s hs => by
      obtain ⟨g1, g2⟩ := h.at_ j s hs
      have := (h2.at_ j _ g1).1
      rw [this]
      by_cases hb : on.testBit j = true
      · simp only [hb, if_true]; rw [(give_back (g2 hb)).2]
      · simp only [hb, if_false, Bool.false_eq_true]) (by rw [h2.len, h.len])
    rw [h1, hz]
  · have hj : j < q.length := by
      rcases Nat.lt_or_ge j q.length with h' | h'
      · exact h'
      · rw [List.getElem?_eq_none h'] at h1; cases h1
    have hj' : j < p.length := by have := h.len; omega
    obtain ⟨g1, g2⟩ := h.at_ j _ (List.getElem?_eq_getElem hj')
    rw [h1] at g1
    simp only [h2, if_true, Option.some.injEq] at g1
    subst g1
    exact absurd (give_back (g2 h2)).1 h3
/-- Take, then Give -/
theorem take_give {p : List (List Ct)} {on : Nat} {c fr to : Int} : (∃ e, e ≠ 0 ∧ takeC p on c fr to = .tup [nilP, I e]) ∨ ∃ q, takeC p on c fr to = .tup [prof q, I 0] ∧ Taken p q on fr to (-c) ∧ giveC q on c fr to = .tup [prof p, I 0] ∧ rightP p = true ∧ rightP q = true := by
  unfold takeC giveC
  by_cases q0 : c < 0
  · exact .inl ⟨2, by decide, by simp [q0]⟩
  simp only [q0, if_false]
  by_cases q1 : addOK p on (-c) fr to = true
  · have q1' := q1
    simp only [addOK, Bool.and_eq_true, decide_eq_true_eq] at q1'
    obtain ⟨⟨⟨⟨g1, g2⟩, g3⟩, g4⟩, g5⟩ := q1'
    rcases take_form p on (-c) fr to with ⟨q, h1, h2⟩ | ⟨j, s, h1, h2, h3, h4⟩
    · have hq := taken_right h2 g4
      have q2 : addOK q on c fr to = true := by
        simp only [addOK, Bool.and_eq_true, decide_eq_true_eq]
        exact ⟨⟨⟨⟨g1, by omega⟩, by omega⟩, hq⟩, by rw [h2.len]; exact g5⟩
      exact .inr ⟨q, by unfold takePV; rw [if_pos q1, h1]; simp [resA], h2, by unfold takePV; rw [if_pos q2, give_all h2]; simp [resA], g4, hq⟩
    · exact .inl ⟨_, h3, by unfold takePV; rw [if_pos q1, h4]; simp [resA, h3]⟩
  · exact .inl ⟨2, by decide, by unfold takePV; rw [if_neg q1]⟩
end Go.Lite

namespace Go.Lite
open Go Go.Proofs
set_option linter.unusedVariables false
set_option linter.unusedSimpArgs false
set_option maxRecDepth 100000

/-! # ProfileFits -/
theorem sumB_bit : ∀ (l : List Nat), l.Pairwise (· < ·) → ∀ i, (sumB l).testBit i = decide (i ∈ l) := by
  intro l
  induction hn : l.length generalizing l with
  | zero =>
    intro _ i
    have : l = [] := List.eq_nil_of_length_eq_zero hn
    subst this
    simp [sumB]
  | succ n ih =>
    intro hp i
    have hne : l ≠ [] := fun h => by subst h; simp at hn
    obtain ⟨r, a, rfl⟩ : ∃ r a, l = r ++ [a] := ⟨l.dropLast, l.getLast hne, (List.dropLast_concat_getLast hne).symm⟩
    obtain ⟨h1, _, h3⟩ := List.pairwise_append.1 hp
    have hr := ih r (by simpa using hn) h1 i
    have hlt : sumB r < 2 ^ a := by
      have := sumB_lt (l := r) (k := a) (b := 0) h1 (fun x _ => Nat.zero_le x) (fun x hx => h3 x hx a (by simp)) (Nat.zero_le a)
      omega
    have e : sumB (r ++ [a]) = sumB r ||| 2 ^ a := by rw [or_rise hlt]; simp [sumB]
    rw [e, Nat.testBit_or, hr, Nat.testBit_two_pow]
    simp only [List.mem_append, List.mem_singleton]
    by_cases q : i = a
    · subst q; simp
    · have : ¬ a = i := fun h => q h.symm
      simp [q, this]
theorem filter_take {l : List Nat} (hp : l.Pairwise (· < ·)) (n : Nat) : l.filter (fun i => decide (i ∈ l.take n)) = l.take n := by
  have e : l = l.take n ++ l.drop n := (List.take_append_drop n l).symm
  have hp2 := hp
  rw [e] at hp2
  obtain ⟨_, _, h3⟩ := List.pairwise_append.1 hp2
  have h1 : (l.take n).filter (fun i => decide (i ∈ l.take n)) = l.take n := List.filter_eq_self.2 fun x hx => by simp [hx]
  have h2 : (l.drop n).filter (fun i => decide (i ∈ l.take n)) = [] := List.filter_eq_nil_iff.2 fun x hx => by
    simp only [decide_eq_true_eq]
    intro hx'
    have := h3 x hx' x hx
    omega
  have : (l.take n ++ l.drop n).filter (fun i => decide (i ∈ l.take n)) = l.take n := by rw [List.filter_append, h1, h2, List.append_nil]
  rw [List.take_append_drop] at this
  exact this
section
variable {p : List (List Ct)} {a : Ask} {t : Int}
theorem onP_bit (i : Nat) : (onP p a t).testBit i = true → i < 32 ∧ opn p a t i = true := by
  intro h
  unfold onP firstN at h
  rw [ons_bits, sumB_bit _ ((ons_pair _ _).sublist (List.take_sublist _ _))] at h
  have := (List.take_sublist _ _).subset (of_decide_eq_true h)
  exact ons_mem.1 this
theorem opn_in {i : Nat} (h : opn p a t i = true) : ∃ s, p[i]? = some s ∧ a.nodes.testBit i = true ∧ a.cores ≤ leastR s t (t + a.limit) ∧ ∀ b ∈ a.blocks, hits b a t = true → b.nodes.testBit i = false := by
  unfold opn at h
  cases hp : p[i]? with
  | none => rw [hp] at h; cases h
  | some s =>
    rw [hp] at h
    simp only [Bool.and_eq_true, decide_eq_true_eq, List.all_eq_true, Bool.not_eq_true'] at h
    exact ⟨s, rfl, h.1.1, h.1.2, fun b hb hh => by
      have := h.2 b hb
      rw [hh] at this
      simpa using this⟩
theorem onP_lt (hp : p.length ≤ 32) : onP p a t < 2 ^ p.length := by
  unfold onP firstN
  rw [ons_bits]
  have := sumB_lt (l := (ons (opn p a t) 32).take a.count.toNat) (k := p.length) (b := 0) ((ons_pair _ _).sublist (List.take_sublist _ _)) (fun x _ => Nat.zero_le x) (fun x hx => by
    have := (List.take_sublist _ _).subset hx
    obtain ⟨_, h2⟩ := ons_mem.1 this
    obtain ⟨s, h3, _⟩ := opn_in h2
    rcases Nat.lt_or_ge x p.length with h' | h'
    · exact h'
    · rw [List.getElem?_eq_none h'] at h3; cases h3) (Nat.zero_le _)
  omega
theorem onP_count (hc : 0 ≤ a.count) (hg : a.count ≤ ((ons (opn p a t) 32).length : Nat)) : (((ons (onP p a t).testBit 32).length : Nat) : Int) = a.count := by
  have e : ons (onP p a t).testBit 32 = (ons (opn p a t) 32).take a.count.toNat := by
    have h1 : ons (onP p a t).testBit 32 = ons (fun i => opn p a t i && decide (i ∈ (ons (opn p a t) 32).take a.count.toNat)) 32 := ons_cong fun i hi => by
      unfold onP firstN
      rw [ons_bits, sumB_bit _ ((ons_pair _ _).sublist (List.take_sublist _ _))]
      cases ho : opn p a t i with
      | true => simp
      | false =>
        simp only [Bool.false_and, decide_eq_false_iff_not]
        intro hx
        have := (ons_mem.1 ((List.take_sublist _ _).subset hx)).2
        rw [ho] at this; cases this
    rw [h1]
    have h2 : ons (fun i => opn p a t i && decide (i ∈ (ons (opn p a t) 32).take a.count.toNat)) 32 = (ons (opn p a t) 32).filter fun i => decide (i ∈ (ons (opn p a t) 32).take a.count.toNat) := by
      unfold ons
      rw [List.filter_filter]
      congr 1
      funext i
      rw [Bool.and_comm]
    rw [h2, filter_take (ons_pair _ _)]
  rw [e, List.length_take]
  omega
theorem take_fit (hr : rightP p = true) (hq : askB a = true) (ht : winB t (t + a.limit) = true) :
    (∃ q, takeC p (onP p a t) a.cores t (t + a.limit) = .tup [prof q, I 0] ∧ rightP q = true) ∨ takeC p (onP p a t) a.cores t (t + a.limit) = .tup [nilP, I 5] := by
  obtain ⟨_, hp2, hrs⟩ := rightP_in hr
  obtain ⟨_, _, _, _, _, _, g7, g8, _⟩ := askB_in hq
  obtain ⟨w0, w1, w2⟩ := win_in ht
  have hlt := onP_lt (p := p) (a := a) (t := t) hp2
  have hok : addOK p (onP p a t) (-a.cores) t (t + a.limit) = true := by
    simp only [addOK, Bool.and_eq_true, decide_eq_true_eq]
    exact ⟨⟨⟨⟨ht, by omega⟩, by omega⟩, hr⟩, Nat.div_eq_of_lt hlt⟩
  have q0 : ¬ a.cores < 0 := by omega
  unfold takeC takePV
  rw [if_neg q0, if_pos hok]
  rcases take_form p (onP p a t) (-a.cores) t (t + a.limit) with ⟨q, h1, h2⟩ | ⟨j, s, h1, h2, h3, h4⟩
  · exact .inl ⟨q, by rw [h1]; simp [resA], taken_right h2 hr⟩
  · refine .inr ?_
    have hs := hrs s (List.mem_of_getElem? h1)
    obtain ⟨_, hop⟩ := onP_bit j h2
    obtain ⟨s', h5, _, h6, _⟩ := opn_in hop
    rw [h1] at h5; simp only [Option.some.injEq] at h5; subst h5
    obtain ⟨c, r, A⟩ := adds (n := -a.cores) hs w0 w1 w2
    have hb := not_bad A fun u hu => by
      have h7 := val_in hs hu
      split
      · rename_i hc
        have := least_val hs w0 h6 hc.1 hc.2
        omega
      · omega
    have he := zero_addE (s := s) (by rw [ht, hs]; rfl) (by omega) (by omega) hb
    have : addE s t (t + a.limit) (-a.cores) = 5 := by
      rw [he] at h3 ⊢
      split
      · rfl
      · rename_i h; rw [if_neg h] at h3; exact absurd rfl h3
    rw [h4, this]
    simp [resA]
theorem lessB_opn (hr : rightP p = true) (ha : OkQ a) : lessB (bits (freeB p a.nodes t (t + a.limit) a.cores) p.length) a t a.blocks = bits (opn p a t) 32 := by
  obtain ⟨_, hp2, _⟩ := rightP_in hr
  have hlt : bits (freeB p a.nodes t (t + a.limit) a.cores) p.length < 2 ^ 32 := Nat.lt_of_lt_of_le (bits_lt _ _) (Nat.pow_le_pow_right (by decide) hp2)
  apply Nat.eq_of_testBit_eq
  intro i
  rw [bits_testBit, lessB_bit hlt ha.bn, bits_testBit]
  unfold opn freeB
  by_cases hi : i < p.length
  · have hg : p[i]? = some p[i] := List.getElem?_eq_getElem hi
    have hi2 : i < 32 := by omega
    simp only [hi, hi2, hg, decide_true, Bool.true_and]
  · have hg : p[i]? = none := List.getElem?_eq_none (by omega)
    simp [hi, hg]
end
section
variable {L m : Nat}
theorem l5b {R : Type} (C : Kallee) (ke : PV → PV → PV → PV → PV → PV → PV → Option R) (v0 v2 v3 v4 v6 : PV) (a : Ask) (t : Int) (ht : winB t (t + a.limit) = true) (l : List Blk) (hl : l.length ≤ 1000) (hb : ∀ b ∈ l, b.nodes < 2 ^ 32) :
    ∀ (r : List Blk) (N i s : Nat), l.drop i = r → r.length < N → s < 2 ^ 32 → d5_4i C L ke N v0 (I t) v2 v3 v4 (U s) v6 (blks l) (I l.length) (I i) (apv a) = ke v0 v2 v3 v4 (U (lessB s a t r)) v6 (apv a) := by
  obtain ⟨w0, w1, w2⟩ := win_in ht
  intro r
  induction r with
  | nil =>
    intro N i s h hN hs
    obtain ⟨N, rfl⟩ : ∃ n, N = n + 1 := ⟨N - 1, by omega⟩
    have := drop_nil' h
    have h2 : ¬ (i : Int) < l.length := by omega
    simp [d5_4i, d5_5, g5_5, h2, lessB]
  | cons b r ih =>
    intro N i s h hN hs
    obtain ⟨N, rfl⟩ : ∃ n, N = n + 1 := ⟨N - 1, by omega⟩
    obtain ⟨h1, h2, h3, h4⟩ := drop_cons' h
    have h5 : (i : Int) < l.length := by omega
    simp only [List.length_cons] at hN
    simp only [d5_4i, d5_5, g5_5, d5_6, d5_7, lss_int, gtr_int, ob_some, cb_bool, decide_eq_true_eq, h5, if_true, ia25, h2, Option.map_some, ld46, putB, at40, at41, at42, at72, add_ok _ _ _ t a.limit (by omega) (by omega), gcase_t, andNot_u _ _ _ _ s b.nodes hs (hb b h4), add_int, wrap_succ (show i < 9223372036854775807 by omega), lessB, hits]
    have hlt : s &&& (2 ^ 32 - 1 - b.nodes) < 2 ^ 32 := Nat.lt_of_le_of_lt Nat.and_le_left hs
    by_cases q1 : b.fr < t + a.limit
    · by_cases q2 : t < b.to
      · simp only [q1, q2, decide_true, if_true, Bool.and_self]
        exact ih N (i + 1) _ h3 (by omega) hlt
      · simp only [q1, q2, decide_true, decide_false, if_true, Bool.and_false, Bool.false_eq_true, if_false]
        exact ih N (i + 1) _ h3 (by omega) hs
    · simp only [q1, decide_false, Bool.false_eq_true, if_false, Bool.false_and, cb_bool]
      exact ih N (i + 1) _ h3 (by omega) hs
theorem and_zero {x y : Nat} (h : ∀ i, x.testBit i = true → y.testBit i = false) : x &&& y = 0 := by
  apply Nat.eq_of_testBit_eq
  intro i
  rw [Nat.testBit_and, Nat.zero_testBit]
  cases hx : x.testBit i with
  | false => rfl
  | true => rw [h i hx]; rfl
/-- no block is met -/
def NoHit (a : Ask) (t : Int) (on : Nat) : Prop := ∀ b ∈ a.blocks, hits b a t = true → b.nodes &&& on = 0
theorem l5_10 {R : Type} (C : Kallee) (kr : PV → PV → Option R) (ke : PV → PV → PV → Option R) (v2 v3 : PV) (a : Ask) (ha : OkQ a) (t : Int) (ht : winB t (t + a.limit) = true) (on : Nat) (ho : on < 2 ^ 32) (hno : NoHit a t on) :
    ∀ (r : List Blk) (N i : Nat), a.blocks.drop i = r → r.length < N → d5_10i C L kr ke N (I t) (U on) v2 v3 (blks a.blocks) (I a.blocks.length) (I i) (apv a) = ke v2 v3 (apv a) := by
  obtain ⟨w0, w1, w2⟩ := win_in ht
  have hbl := ha.b
  intro r
  induction r with
  | nil =>
    intro N i h hN
    obtain ⟨N, rfl⟩ : ∃ n, N = n + 1 := ⟨N - 1, by omega⟩
    have := drop_nil' h
    have h2 : ¬ (i : Int) < a.blocks.length := by omega
    simp [d5_10i, d5_11, h2]
  | cons b r ih =>
    intro N i h hN
    obtain ⟨N, rfl⟩ : ∃ n, N = n + 1 := ⟨N - 1, by omega⟩
    obtain ⟨h1, h2, h3, h4⟩ := drop_cons' h
    have h5 : (i : Int) < a.blocks.length := by omega
    simp only [List.length_cons] at hN
    have hih := ih N (i + 1) h3 (by omega)
    have hbn := ha.bn b h4
    simp only [d5_10i, d5_11, lss_int, gtr_int, ob_some, cb_bool, decide_eq_true_eq, h5, if_true, ia25, h2, Option.map_some, ld46, putB, at40, at41, at42, at72, add_ok _ _ _ t a.limit (by omega) (by omega), gcase_t, and_u _ _ _ _ b.nodes on hbn ho, neq_int, add_int, wrap_succ (show i < 9223372036854775807 by omega), hih]
    by_cases q1 : b.fr < t + a.limit
    · by_cases q2 : t < b.to
      · have hz := hno b h4 (by simp [hits, q1, q2])
        simp [q1, q2, hz]
      · simp [q1, q2]
    · simp [q1]
theorem l5_12 {R : Type} (C : Kallee) (kr : PV → PV → Option R) (ke : PV → PV → PV → Option R) (v2 v3 : PV) (a : Ask) (ha : OkQ a) (t : Int) (ht : winB t (t + a.limit) = true) (on : Nat) (ho : on < 2 ^ 32) (hno : NoHit a t on) :
    ∀ (r : List Blk) (N i : Nat), a.blocks.drop i = r → r.length < N → d5_12i C L kr ke N (I t) (U on) v2 v3 (blks a.blocks) (I a.blocks.length) (I i) (apv a) = ke v2 v3 (apv a) := by
  obtain ⟨w0, w1, w2⟩ := win_in ht
  have hbl := ha.b
  intro r
  induction r with
  | nil =>
    intro N i h hN
    obtain ⟨N, rfl⟩ : ∃ n, N = n + 1 := ⟨N - 1, by omega⟩
    have := drop_nil' h
    have h2 : ¬ (i : Int) < a.blocks.length := by omega
    simp [d5_12i, d5_13, h2]
  | cons b r ih =>
    intro N i h hN
    obtain ⟨N, rfl⟩ : ∃ n, N = n + 1 := ⟨N - 1, by omega⟩
    obtain ⟨h1, h2, h3, h4⟩ := drop_cons' h
    have h5 : (i : Int) < a.blocks.length := by omega
    simp only [List.length_cons] at hN
    have hih := ih N (i + 1) h3 (by omega)
    have hbn := ha.bn b h4
    simp only [d5_12i, d5_13, lss_int, gtr_int, ob_some, cb_bool, decide_eq_true_eq, h5, if_true, ia25, h2, Option.map_some, ld46, putB, at40, at41, at42, at72, add_ok _ _ _ t a.limit (by omega) (by omega), gcase_t, and_u _ _ _ _ b.nodes on hbn ho, neq_int, add_int, wrap_succ (show i < 9223372036854775807 by omega), hih]
    by_cases q1 : b.fr < t + a.limit
    · by_cases q2 : t < b.to
      · have hz := hno b h4 (by simp [hits, q1, q2])
        simp [q1, q2, hz]
      · simp [q1, q2]
    · simp [q1]
end
end Go.Lite

namespace Go.Lite
open Go Go.Proofs
set_option linter.unusedVariables false
set_option linter.unusedSimpArgs false
set_option maxRecDepth 100000
section
variable {L m : Nat}
/-- is an earlier time looked at? -/
def earlyB (a : Ask) (early t e : Int) : Bool := decide (a.fr ≤ early) && decide (early ≤ 1099511627776) && (decide (e ≠ 0) || decide (early < t))
theorem f5_1 (C : Kallee) (kn : PV → PV → PV → PV → PV → PV → PV → Option PV) (v0 v3 : PV) (a : Ask) (early t e : Int) :
    d5_1 C L kn v0 (I early) (I t) v3 (I e) (apv a) = kn v0 (I early) (I t) v3 (I e) (Bo (earlyB a early t e)) (apv a) := by
  simp only [d5_1, at73, ob_some, geq_int, leq_int, neq_int, lss_int, gcase_t, gcase_f, earlyB]
  by_cases q1 : a.fr ≤ early
  · by_cases q2 : early ≤ 1099511627776
    · by_cases q3 : e = 0
      · simp [q1, q2, q3]
      · simp [q1, q2, q3]
    · simp [q1, q2]
  · simp [q1]
theorem f5_3 (n : Nat) (hn : 12 ≤ n) (kn : PV → PV → PV → PV → PV → Option PV) (kr : PV → PV → Option PV) (p : List (List Ct)) (hp : OkP L p) (hr : rightP p = true) (a : Ask) (ha : OkQ a) (hq : askB a = true) (early t e : Int) (on : Nat)
    (hf : earlyB a early t e = true → fits p a early = false) :
    d5_3 (kk L n) L kn kr (prof p) (I early) (I t) (U on) (I e) (Bo (earlyB a early t e)) (apv a) = kn (prof p) (I t) (U on) (I e) (apv a) := by
  rcases Bool.eq_false_or_eq_true (earlyB a early t e) with h | h
  case inr => rw [h]; simp [d5_3, g5_3]
  have hL := hp.L
  have hb := ha.b
  have hne := hf h
  have h' := h
  simp only [earlyB, Bool.and_eq_true, decide_eq_true_eq] at h'
  obtain ⟨⟨g1, g2⟩, _⟩ := h'
  obtain ⟨_, _, g3, g4, g5, _, _, _, _⟩ := askB_in hq
  have ht : winB early (early + a.limit) = true := by simp only [winB, Bool.and_eq_true, decide_eq_true_eq]; omega
  obtain ⟨_, hp2, _⟩ := rightP_in hr
  have hlt : bits (freeB p a.nodes early (early + a.limit) a.cores) p.length < 2 ^ 32 := Nat.lt_of_lt_of_le (bits_lt _ _) (Nat.pow_le_pow_right (by decide) hp2)
  have h17 := c17 (L := L) (m := n) (by omega) p hp a.nodes ha.n early (early + a.limit) a.cores
  rw [freePV, hr, ht] at h17
  have hl := l5b (L := L) (kk L n) (fun v0 v1 v2 v3 v4 v5 v6 => d5_8 (kk L n) L kr kn v0 v1 v2 v3 v4 v5 v6) (prof p) (I t) (U on) (I e) (I 0) a early ht a.blocks (by omega) ha.bn a.blocks L 0 _ rfl (by omega) hlt
  rw [lessB_opn hr ha] at hl
  have hs : bits (opn p a early) 32 < 2 ^ 32 := bits_lt _ 32
  have h18 := c18 (L := L) (m := n) (by omega) _ hs
  rw [ons_bits] at h18
  have hc : ¬ a.count ≤ ((ons (opn p a early) 32).length : Nat) := by
    intro hc
    have : fits p a early = true := by
      simp only [fits, good, onsN_ons, Bool.and_eq_true, decide_eq_true_eq]
      exact ⟨⟨g1, g2⟩, decide_eq_true hc⟩
    rw [hne] at this; cases this
  rw [h]
  simp only [d5_3, g5_3, cb_bool, if_true, at71, at72, at74, at75, ob_some, add_ok _ _ _ early a.limit (by omega) (by omega), callD_clo, List.nil_append, List.append_nil, h17, Bool.and_self, extract_tup, List.getElem?_cons_zero, List.getElem?_cons_succ, ln25, d5_4]
  rw [show (PV.sc (Value.int IntKind.i64 0)) = I ((0 : Nat) : Int) from rfl]
  rw [show I ((0 : Nat) : Int) = I 0 from rfl] at hl ⊢
  rw [hl]
  simp only [d5_8, neq_int, ne_eq, not_true_eq_false, decide_false, ob_some, gcase_f, Bool.false_eq_true, if_false, callD_clo, List.nil_append, List.append_nil, h18, at70, geq_int, hc, cb_bool]
theorem f5_9 (n : Nat) (hn : 14 ≤ n) (p : List (List Ct)) (hp : OkP L p) (hL2 : 300000 < L) (hr : rightP p = true) (a : Ask) (ha : OkQ a) (hq : askB a = true) (t : Int) (hf : fitP p a = some t) (h8 : callP Try.prog hh L n 8 [] = some (Bo true)) :
    d5_9 (kk L n) L (prof p) (I t) (U (onP p a t)) (I 0) (apv a) = some (Bo true) := by
  obtain ⟨_, hp2, _⟩ := rightP_in hr
  obtain ⟨g1, g2, g3, g4, g5, g6, g7, g8, _⟩ := askB_in hq
  have hb := ha.b
  have hfit := (fitP_first p a)
  rw [hf] at hfit
  have hft := hfit.1
  simp only [fits, good, Bool.and_eq_true, decide_eq_true_eq, onsN_ons] at hft
  have hcnt := of_decide_eq_true hft.2
  have ht : winB t (t + a.limit) = true := by simp only [winB, Bool.and_eq_true, decide_eq_true_eq]; omega
  have hon : onP p a t < 2 ^ 32 := Nat.lt_of_lt_of_le (onP_lt hp2) (Nat.pow_le_pow_right (by decide) hp2)
  have hcount := onP_count (p := p) (a := a) (t := t) (by omega) hcnt
  have h18 := c18 (L := L) (m := n) (by omega) _ hon
  rw [hcount] at h18
  have hwi : within (onP p a t) a.nodes = true := by
    unfold within
    rw [decide_eq_true_eq, within_bits _ _ hon ha.n]
    intro i _ hi
    obtain ⟨_, ho⟩ := onP_bit i hi
    obtain ⟨_, _, h2, _⟩ := opn_in ho
    exact h2
  have h19 := c19 (L := L) (m := n) (by omega) _ _ hon ha.n
  rw [hwi] at h19
  have hno : NoHit a t (onP p a t) := by
    intro b hb hh
    rw [Nat.and_comm]
    apply and_zero
    intro i hi
    obtain ⟨_, ho⟩ := onP_bit i hi
    obtain ⟨_, _, _, _, h4⟩ := opn_in ho
    exact h4 b hb hh
  have h15 := c15 (L := L) (m := n) (by omega) (by omega) p hp.n (fun s hs => by have := hp.c s hs; omega) _ hon a.cores t (t + a.limit) (by omega)
  have q7 : ¬ t < a.fr := by omega
  rcases take_fit (p := p) (a := a) (t := t) hr hq ht with ⟨q, hk, hrq⟩ | hk
  · rw [hk] at h15
    obtain ⟨_, hq2, hqs⟩ := rightP_in hrq
    have h20 := c20' (L := L) (m := n) (by omega) q (by omega) (fun s hs => (rightS_cons (hqs s hs)).choose_spec.choose_spec.2.2.2.2) (by omega)
    rw [hrq] at h20
    have hl := l5_12 (L := L) (kk L n) (fun v0 v1 => some v0) (fun v0 v1 v2 => d5_15 (kk L n) L v0 v1 v2) (prof q) (I 0) a ha t ht _ hon hno a.blocks L 0 rfl (by omega)
    simp only [d5_9, g5_9, neq_int, ne_eq, not_true_eq_false, decide_false, ob_some, cb_bool, Bool.false_eq_true, if_false, at70, at71, at72, at73, at74, at75, add_ok _ _ _ t a.limit (by omega) (by omega), callD_clo, List.nil_append, List.append_nil, h15, extract_tup, List.getElem?_cons_zero, List.getElem?_cons_succ, gcase_t, gcase_f, h18, h19, not_bool, Bool.not_true, lss_int, q7, decide_eq_true_eq, ln25, d5_12]
    rw [show (PV.sc (Value.int IntKind.i64 0)) = I ((0 : Nat) : Int) from rfl]
    rw [show I ((0 : Nat) : Int) = I 0 from rfl] at hl ⊢
    rw [hl]
    simp only [d5_15, neq_int, ne_eq, not_true_eq_false, decide_false, ob_some, gcase_f, gcase_t, Bool.false_eq_true, if_false, if_true, callD_clo, List.nil_append, List.append_nil, h20, h8]
  · rw [hk] at h15
    have hl := l5_10 (L := L) (kk L n) (fun v0 v1 => some v0) (fun v0 v1 v2 => d5_14 (kk L n) L v0 v1 v2) nilP (I 5) a ha t ht _ hon hno a.blocks L 0 rfl (by omega)
    have q5 : ¬ (5 : Int) = 0 := by decide
    simp only [d5_9, g5_9, neq_int, ne_eq, not_true_eq_false, decide_false, ob_some, cb_bool, Bool.false_eq_true, if_false, at70, at71, at72, at73, at74, at75, add_ok _ _ _ t a.limit (by omega) (by omega), callD_clo, List.nil_append, List.append_nil, h15, extract_tup, List.getElem?_cons_zero, List.getElem?_cons_succ, gcase_t, gcase_f, q5, not_false_eq_true, decide_true, if_true, h18, h19, not_bool, Bool.not_true, lss_int, q7, decide_eq_true_eq, ln25, d5_10]
    rw [show (PV.sc (Value.int IntKind.i64 0)) = I ((0 : Nat) : Int) from rfl]
    rw [show I ((0 : Nat) : Int) = I 0 from rfl] at hl ⊢
    rw [hl]
    simp only [d5_14, neq_int, ne_eq, q5, not_false_eq_true, decide_true, ob_some, gcase_f, if_true, callD_clo, List.nil_append, List.append_nil, h8]
theorem c5 (hm : 18 ≤ m) (p : List (List Ct)) (hn : cutsN p + p.length ≤ 4611686018427387904) (hLp : p.length < L) (hL2 : 300000 < L) (a : Ask) (han : a.nodes < 2 ^ 32) (hbn : ∀ b ∈ a.blocks, b.nodes < 2 ^ 32) (early : Int)
    (h8 : ∀ k, m ≤ k + 1 → callP Try.prog hh L k 8 [] = some (Bo true)) : callP Try.prog hh L m 5 [prof p, apv a, I early] = some (Bo true) := by
  obtain ⟨n, rfl⟩ : ∃ n, m = n + 1 + 1 := ⟨m - 2, by omega⟩
  refine callP_of (by kernel_rfl) ?_
  rw [r5]
  have h8' := h8 (n + 1) (by omega)
  simp only [d5_0, g5_0, hl7a, ck_true, callD_clo, List.nil_append, List.append_nil, c7 (L := L) (show 2 ≤ n + 1 by omega) p hn hLp, ob_some, gcase_f]
  by_cases hbig : bigB p = true
  · simp only [hbig, if_true, h8', ob_some]
  simp only [hbig, Bool.false_eq_true, if_false, at75, ob_some, ln25, gtr_int, cb_bool, decide_eq_true_eq]
  by_cases hb : (100 : Int) < a.blocks.length
  · simp only [hb, if_true, h8', ob_some]
  have hbg : cutsN p ≤ 3000 ∧ p.length ≤ 40 := by
    have : bigB p = false := Bool.eq_false_iff.2 hbig
    simp only [bigB, Bool.or_eq_false_iff, decide_eq_false_iff_not] at this
    omega
  have hp : OkP L p := ⟨hbg.2, fun s hs => by have := cutsN_mem hs; omega, by omega⟩
  have ha : OkQ a := ⟨by omega, han, hbn⟩
  have h11 := c11 (L := L) (m := n + 1) (by omega) p hp a ha hL2
  unfold fitPV at h11
  rcases Bool.eq_false_or_eq_true (askB a && rightP p) with hqr | hqr
  case inr =>
    rw [hqr] at h11
    simp only [Bool.false_eq_true, if_false] at h11
    simp only [hb, if_false, h11, ob_some, extract_tup, List.getElem?_cons_zero, List.getElem?_cons_succ, eql_int, decide_true, cb_bool, if_true, h8']
  · rw [hqr] at h11
    simp only [if_true] at h11
    simp only [Bool.and_eq_true] at hqr
    obtain ⟨hq, hr⟩ := hqr
    have hfirst := fitP_first p a
    cases hf : fitP p a with
    | none =>
      rw [hf] at h11 hfirst
      have q1 : ¬ (120 : Int) = 2 := by decide
      have q2 : ¬ (120 : Int) = 0 := by decide
      simp only [hb, if_false, h11, ob_some, extract_tup, List.getElem?_cons_zero, List.getElem?_cons_succ, eql_int, q1, decide_false, cb_bool, Bool.false_eq_true, f5_1, d5_2, g5_2]
      rw [f5_3 (L := L) (n + 1) (by omega) _ _ p hp hr a ha hq early 0 120 0 (fun _ => hfirst early)]
      simp only [d5_9, g5_9, neq_int, ne_eq, q2, not_false_eq_true, decide_true, ob_some, cb_bool, if_true, callD_clo, List.nil_append, List.append_nil, h8']
    | some t =>
      rw [hf] at h11 hfirst
      have q1 : ¬ (0 : Int) = 2 := by decide
      simp only [hb, if_false, h11, ob_some, extract_tup, List.getElem?_cons_zero, List.getElem?_cons_succ, eql_int, q1, decide_false, cb_bool, Bool.false_eq_true, f5_1, d5_2, g5_2]
      rw [f5_3 (L := L) (n + 1) (by omega) _ _ p hp hr a ha hq early t 0 (onP p a t) (fun he => by
        simp only [earlyB, Bool.and_eq_true, decide_eq_true_eq, Bool.or_eq_true, ne_eq, not_true_eq_false, false_or] at he
        cases hfe : fits p a early with
        | false => rfl
        | true => have := hfirst.2 early hfe; omega)]
      exact f5_9 (L := L) (n + 1) (by omega) p hp hL2 hr a ha hq t hf h8'
end
theorem main5 (a b c : PV) (ha : TypedA (0, [ctP]) a) (hb : TypedA (7, ctA) b) (hc : TypedA (0, [.int .i64]) c) (hs : PV.cntA [a, b, c] ≤ 1048576) : ∃ L n, callP Try.prog hh L n 5 [a, b, c] = some (Bo true) := by
  obtain ⟨p, rfl⟩ := prof_inv ha.cell
  obtain ⟨k, rfl, h1, h2⟩ := ask_inv hb
  obtain ⟨e, rfl, _⟩ := int_inv hc.cell
  have hc : cutsN p + p.length ≤ 1048576 := by
    simp only [PV.cntA, PV.cnt, cnt_prof] at hs; omega
  exact ⟨2000000, 60, c5 (by omega) p (by omega) (by omega) (by omega) k h1 h2 e fun q hq => awake8 (by omega) (by omega)⟩
end Go.Lite
