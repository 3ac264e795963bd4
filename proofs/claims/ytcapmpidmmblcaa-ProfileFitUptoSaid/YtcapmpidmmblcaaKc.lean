import Derived.Test.YtcapmpidmmblcaaKb
import Derived.Deep.CondSized
set_option linter.unusedVariables false
set_option linter.unusedSimpArgs false

namespace Go.Lite
open Go Go.Proofs
set_option linter.unusedVariables false
set_option linter.unusedSimpArgs false
set_option maxRecDepth 100000

/-! values of structs, compared -/
theorem pr_bind {α β : Type} (Q : Program) (x : Sem α) (f : α → Sem β) : pureRun Q (x >>= f) = (pureRun Q x).bind fun a => pureRun Q (f a) := by
  show pureRun Q (Sem.bind x f) = _
  induction x <;> simp [Sem.bind, pureRun, *]
theorem pr_underlying {Q : Program} {t : TypeId} {d : TypeDesc} (h : Q.underlying t = some d) : pureRun Q (underlying t) = some d := by
  have : underlying t = Sem.program fun P => (match P.underlying t with | some d => pure d | none => stuck "no such type") := rfl
  rw [this, pureRun, h]; rfl
def eqF (Q : Program) (d : Nat) (xs ys : Array Value) : List Field → Option Bool
  | [] => some true
  | f :: fs =>
    if f.name ≠ "_" then (pureRun Q (part f.type xs f.offset)).bind fun a => (pureRun Q (part f.type ys f.offset)).bind fun b => (pureRun Q (Op.equalIn d f.type a b)).bind fun r => if (!r) = true then some false else eqF Q d xs ys fs
    else eqF Q d xs ys fs
theorem pr_struct {Q : Program} (d : Nat) (t : TypeId) (xs ys : Array Value) (ht : Q.underlying t = some (.struct (Q.fieldsOf t))) (hp : Q.stoodInHeld t = false) :
    pureRun Q (Op.equalIn (d + 1) t (.agg xs) (.agg ys)) = eqF Q d xs ys (Q.fieldsOf t).toList := by
  have hprog : ∀ (β : Type) (k : Program → Sem β), pureRun Q (program >>= k) = pureRun Q (k Q) := fun β k => rfl
  simp only [Op.equalIn, pr_bind, pr_underlying ht, Option.bind_some]
  rw [show pureRun Q program = some Q from rfl]
  simp only [Option.bind_some, hp, Bool.false_eq_true, if_false, pr_bind]
  rw [← Array.forIn_toList]
  generalize (Q.fieldsOf t).toList = fs
  clear ht
  induction fs with
  | nil => simp [eqF, pureRun]; rfl
  | cons f fs ih =>
    simp only [List.forIn_cons, eqF, pr_bind]
    split
    · simp only [pr_bind]
      cases pureRun Q (part f.type xs f.offset) with
      | none => rfl
      | some a =>
        simp only [Option.bind_some]
        cases pureRun Q (part f.type ys f.offset) with
        | none => rfl
        | some b =>
          simp only [Option.bind_some]
          cases pureRun Q (Op.equalIn d f.type a b) with
          | none => rfl
          | some r =>
            cases r
            · rfl
            · simp only [Option.bind_some, Bool.not_true, Bool.false_eq_true, if_false]
              exact ih
    · exact ih
theorem pr_int {Q : Program} (d : Nat) (t : TypeId) (k : IntKind) (a : Int) (h : Q.underlying t = some (.int k)) : pureRun Q (Op.equalIn (d + 1) t (.int k a) (.int k a)) = some true := by
  simp [Op.equalIn, pr_bind, pr_underlying h, pureRun]
  rfl
theorem neq_agg {Q : Program} (t : TypeId) (x y : Operand) (xs : List Value) (cs : List PV) (hcs : cs.mapM PV.scalar? = some xs) (hm : Q.eqGuardType Q.depth t = false) (h : pureRun Q (Op.equalIn (9998 + 2) t (.agg xs.toArray) (.agg xs.toArray)) = some true) :
    binPV Q .neq t x y (.agg cs) (.agg cs) = some (Bo false) := by
  have e1 : (PV.agg cs).plain? = some (.agg xs.toArray) := by simp [PV.plain?, hcs]
  have e2 : pureRun Q (eqGuard .neq t x y (.agg xs.toArray) (.agg xs.toArray)) = some () := by
    have hpr : pureRun Q program = some Q := rfl
    simp only [eqGuard, Bool.not_true, Bool.false_eq_true, if_false, pr_bind, hpr, Option.bind_some, hm, Bool.not_false, if_true]
    rfl
  have e3 : pureRun Q (binOp .neq t (.agg xs.toArray) (.agg xs.toArray)) = some (.bool false) := by
    simp only [binOp, Op.equal, Op.maxDepth, pr_bind]
    rw [show (10000 : Nat) = 9998 + 2 from rfl, h]
    rfl
  simp only [binPV, e1, pr_bind, e2, Option.bind_some, e3, Option.map_some]
theorem u2 : Try.prog.underlying 2 = some (.int .i64) := by kernel_rfl
theorem u3 : Try.prog.underlying 3 = some (.int .i64) := by kernel_rfl
theorem u24 : Try.prog.underlying 24 = some (.int .u32) := by kernel_rfl
theorem eqf54 (d : Nat) (a b : Int) : eqF Try.prog d #[.int .i64 a, .int .i64 b] #[.int .i64 a, .int .i64 b] (Try.prog.fieldsOf 54).toList =
    (pureRun Try.prog (Op.equalIn d 2 (.int .i64 a) (.int .i64 a))).bind fun r => if (!r) = true then some false else
      (pureRun Try.prog (Op.equalIn d 3 (.int .i64 b) (.int .i64 b))).bind fun r => if (!r) = true then some false else some true := by kernel_rfl
theorem eqf46 (d : Nat) (a b c : Int) : eqF Try.prog d #[.int .u32 a, .int .i64 b, .int .i64 c] #[.int .u32 a, .int .i64 b, .int .i64 c] (Try.prog.fieldsOf 46).toList =
    (pureRun Try.prog (Op.equalIn d 24 (.int .u32 a) (.int .u32 a))).bind fun r => if (!r) = true then some false else (pureRun Try.prog (Op.equalIn d 2 (.int .i64 b) (.int .i64 b))).bind fun r => if (!r) = true then some false else
      (pureRun Try.prog (Op.equalIn d 2 (.int .i64 c) (.int .i64 c))).bind fun r => if (!r) = true then some false else some true := by kernel_rfl
theorem neq54 (x y : Operand) (a : Ct) : binPV Try.prog .neq 54 x y (cpv a) (cpv a) = some (Bo false) := by
  refine neq_agg 54 x y [.int .i64 a.1, .int .i64 a.2] [I a.1, I a.2] rfl (by kernel_rfl) ?_
  rw [show (9998 + 2 : Nat) = 9998 + 1 + 1 from rfl, pr_struct _ _ _ _ (by kernel_rfl) (by kernel_rfl)]
  refine (eqf54 _ _ _).trans ?_
  rw [pr_int _ _ _ _ u2, pr_int _ _ _ _ u3]; rfl
theorem neq46 (x y : Operand) (a : Blk) : binPV Try.prog .neq 46 x y (bpv a) (bpv a) = some (Bo false) := by
  refine neq_agg 46 x y [.int .u32 a.nodes, .int .i64 a.fr, .int .i64 a.to] [U a.nodes, I a.fr, I a.to] rfl (by kernel_rfl) ?_
  rw [show (9998 + 2 : Nat) = 9998 + 1 + 1 from rfl, pr_struct _ _ _ _ (by kernel_rfl) (by kernel_rfl)]
  refine (eqf46 _ _ _ _).trans ?_
  rw [pr_int _ _ _ _ u24, pr_int _ _ _ _ u2, pr_int _ _ _ _ u2]; rfl
theorem bs52 (c : Ct) : buildSliceAV Try.prog 52 1 [(0, cpv c)] = some (.list 3 true [cpv c]) := by kernel_rfl
theorem bs22 (s : List Ct) : buildSliceAV Try.prog 22 1 [(0, cuts false s)] = some (.list 0 true [cuts false s]) := by kernel_rfl
theorem bs25 (b : Blk) : buildSliceAV Try.prog 25 1 [(0, bpv b)] = some (.list 4 true [bpv b]) := by kernel_rfl
theorem app52 (l : List Ct) (c : Ct) (h : l.length ≤ 1000000) : appendTo Try.prog 52 52 3 (l.map cpv) (.list 3 true [cpv c]) = some ((l ++ [c]).map cpv) := by
  rw [sl52.appTo sl52 .list (by simp; omega)]; simp
theorem app22 (l : List (List Ct)) (c : List Ct) (h : l.length ≤ 1000000) : appendTo Try.prog 22 22 0 (l.map (cuts false)) (.list 0 true [cuts false c]) = some ((l ++ [c]).map (cuts false)) := by
  rw [sl22.appTo sl22 .list (by simp; omega)]; simp
theorem app25 (l : List Blk) (c : Blk) (h : l.length ≤ 1000000) : appendTo Try.prog 25 25 4 (l.map bpv) (.list 4 true [bpv c]) = some ((l ++ [c]).map bpv) := by
  rw [sl25.appTo sl25 .list (by simp; omega)]; simp
section
variable {L m : Nat}
theorem l27 {R : Type} (C : Kallee) (ke : List PV → Option R) (l : List Ct) (hl : l.length ≤ 100000)  :
    ∀ (r : List Ct) (N i : Nat) (o : List Ct), l.drop i = r → r.length < N → o.length + r.length ≤ 1000000 → d27_1i C L ke N (cuts false l) (I i) (o.map (cpv)) = ke ((o ++ r).map (cpv)) := by
  intro r
  induction r with
  | nil =>
    intro N i o h hN ho
    obtain ⟨N, rfl⟩ : ∃ n, N = n + 1 := ⟨N - 1, by omega⟩
    have := drop_nil' h
    have h2 : ¬ (i : Int) < l.length := by omega
    simp only [d27_1i, d27_2, ln52, ob_some, lss_int, cb_bool, decide_eq_true_eq, h2, if_false, List.append_nil]
  | cons a r ih =>
    intro N i o h hN ho
    obtain ⟨N, rfl⟩ : ∃ n, N = n + 1 := ⟨N - 1, by omega⟩
    obtain ⟨h1, h2, h3, h4⟩ := drop_cons' h
    have h5 : (i : Int) < l.length := by omega
    simp only [List.length_cons] at hN ho
    simp only [d27_1i, d27_2, ln52, ob_some, lss_int, cb_bool, decide_eq_true_eq, h5, if_true, ia52, h2, Option.map_some, ld54, bs52, app52 o a (by omega), oxs_some, add_int, wrap_succ (show i < 9223372036854775807 by omega)]
    rw [ih N (i + 1) (o ++ [a]) h3 (by omega) (by simp; omega)]
    simp
theorem c27 (hm : 2 ≤ m) (l : List Ct) (hl : l.length ≤ 100000)  (hL : l.length < L) : callP Try.prog hh L m 27 [cuts false l] = some (cuts false l) := by
  obtain ⟨n, rfl⟩ : ∃ n, m = n + 1 + 1 := ⟨m - 2, by omega⟩
  refine callP_of (by kernel_rfl) ?_
  rw [r27]
  have := l27 (L := L) (kk L (n + 1)) (fun x => d27_3 (kk L (n + 1)) L x) l hl  l L 0 [] rfl hL (by simp; omega)
  simp only [d27_0, g27_0, d27_1]
  rw [show (PV.sc (Value.int IntKind.i64 0)) = I ((0 : Nat) : Int) from rfl, show ([] : List PV) = ([] : List Ct).map (cpv) from rfl, this]
  simp [d27_3]
theorem l9 {R : Type} (C : Kallee) (ke : List PV → Option R) (l : List (List Ct)) (hl : l.length ≤ 100000) (hc : ∀ s ∈ l, C.pure 27 [cuts false s] = some (cuts false s)) :
    ∀ (r : List (List Ct)) (N i : Nat) (o : List (List Ct)), l.drop i = r → r.length < N → o.length + r.length ≤ 1000000 → d9_1i C L ke N (prof l) (I i) (o.map (cuts false)) = ke ((o ++ r).map (cuts false)) := by
  intro r
  induction r with
  | nil =>
    intro N i o h hN ho
    obtain ⟨N, rfl⟩ : ∃ n, N = n + 1 := ⟨N - 1, by omega⟩
    have := drop_nil' h
    have h2 : ¬ (i : Int) < l.length := by omega
    simp only [d9_1i, d9_2, ln22, ob_some, lss_int, cb_bool, decide_eq_true_eq, h2, if_false, List.append_nil]
  | cons a r ih =>
    intro N i o h hN ho
    obtain ⟨N, rfl⟩ : ∃ n, N = n + 1 := ⟨N - 1, by omega⟩
    obtain ⟨h1, h2, h3, h4⟩ := drop_cons' h
    have h5 : (i : Int) < l.length := by omega
    simp only [List.length_cons] at hN ho
    simp only [d9_1i, d9_2, ln22, ob_some, lss_int, cb_bool, decide_eq_true_eq, h5, if_true, ia22, h2, Option.map_some, ld52, callD_clo, List.nil_append, List.append_nil, hc a h4, bs22, app22 o a (by omega), oxs_some, add_int, wrap_succ (show i < 9223372036854775807 by omega)]
    rw [ih N (i + 1) (o ++ [a]) h3 (by omega) (by simp; omega)]
    simp
theorem c9 (hm : 3 ≤ m) (l : List (List Ct)) (hl : l.length ≤ 100000) (hs : ∀ s ∈ l, s.length ≤ 3000) (hL5 : 5000 < L) (hL : l.length < L) : callP Try.prog hh L m 9 [prof l] = some (prof l) := by
  obtain ⟨n, rfl⟩ : ∃ n, m = n + 1 + 1 := ⟨m - 2, by omega⟩
  refine callP_of (by kernel_rfl) ?_
  rw [r9]
  have := l9 (L := L) (kk L (n + 1)) (fun x => d9_3 (kk L (n + 1)) L x) l hl (fun s h => c27 (show 2 ≤ n + 1 by omega) s (by have := hs s h; omega) (by have := hs s h; omega)) l L 0 [] rfl hL (by simp; omega)
  simp only [d9_0, g9_0, d9_1]
  rw [show (PV.sc (Value.int IntKind.i64 0)) = I ((0 : Nat) : Int) from rfl, show ([] : List PV) = ([] : List (List Ct)).map (cuts false) from rfl, this]
  simp [d9_3]
theorem l10 {R : Type} (C : Kallee) (ke : List PV → Option R) (l : List Blk) (hl : l.length ≤ 100000)  :
    ∀ (r : List Blk) (N i : Nat) (o : List Blk), l.drop i = r → r.length < N → o.length + r.length ≤ 1000000 → d10_1i C L ke N (blks l) (I i) (o.map (bpv)) = ke ((o ++ r).map (bpv)) := by
  intro r
  induction r with
  | nil =>
    intro N i o h hN ho
    obtain ⟨N, rfl⟩ : ∃ n, N = n + 1 := ⟨N - 1, by omega⟩
    have := drop_nil' h
    have h2 : ¬ (i : Int) < l.length := by omega
    simp only [d10_1i, d10_2, ln25, ob_some, lss_int, cb_bool, decide_eq_true_eq, h2, if_false, List.append_nil]
  | cons a r ih =>
    intro N i o h hN ho
    obtain ⟨N, rfl⟩ : ∃ n, N = n + 1 := ⟨N - 1, by omega⟩
    obtain ⟨h1, h2, h3, h4⟩ := drop_cons' h
    have h5 : (i : Int) < l.length := by omega
    simp only [List.length_cons] at hN ho
    simp only [d10_1i, d10_2, ln25, ob_some, lss_int, cb_bool, decide_eq_true_eq, h5, if_true, ia25, h2, Option.map_some, ld46, bs25, app25 o a (by omega), oxs_some, add_int, wrap_succ (show i < 9223372036854775807 by omega)]
    rw [ih N (i + 1) (o ++ [a]) h3 (by omega) (by simp; omega)]
    simp
theorem c10 (hm : 2 ≤ m) (l : List Blk) (hl : l.length ≤ 100000)  (hL : l.length < L) : callP Try.prog hh L m 10 [blks l] = some (blks l) := by
  obtain ⟨n, rfl⟩ : ∃ n, m = n + 1 + 1 := ⟨m - 2, by omega⟩
  refine callP_of (by kernel_rfl) ?_
  rw [r10]
  have := l10 (L := L) (kk L (n + 1)) (fun x => d10_3 (kk L (n + 1)) L x) l hl  l L 0 [] rfl hL (by simp; omega)
  simp only [d10_0, g10_0, d10_1]
  rw [show (PV.sc (Value.int IntKind.i64 0)) = I ((0 : Nat) : Int) from rfl, show ([] : List PV) = ([] : List Blk).map (bpv) from rfl, this]
  simp [d10_3]
theorem l37 {R : Type} (C : Kallee) (kr : PV → Option R) (ke : Option R) (l : List Ct) (hl : l.length ≤ 100000)  :
    ∀ (r : List Ct) (N i : Nat), l.drop i = r → r.length < N → d37_1i C L kr ke N (cuts false l) (cuts false l) (I i) = ke := by
  intro r
  induction r with
  | nil =>
    intro N i h hN
    obtain ⟨N, rfl⟩ : ∃ n, N = n + 1 := ⟨N - 1, by omega⟩
    have := drop_nil' h
    have h2 : ¬ (i : Int) < l.length := by omega
    simp only [d37_1i, d37_2, ln52, ob_some, lss_int, cb_bool, decide_eq_true_eq, h2, if_false]
  | cons a r ih =>
    intro N i h hN
    obtain ⟨N, rfl⟩ : ∃ n, N = n + 1 := ⟨N - 1, by omega⟩
    obtain ⟨h1, h2, h3, h4⟩ := drop_cons' h
    have h5 : (i : Int) < l.length := by omega
    simp only [List.length_cons] at hN
    simp only [d37_1i, d37_2, ln52, ob_some, lss_int, cb_bool, decide_eq_true_eq, h5, if_true, ia52, h2, Option.map_some, ld54, neq54, not_bool, Bool.not_true, Bool.false_eq_true, if_false, add_int, wrap_succ (show i < 9223372036854775807 by omega)]
    exact ih N (i + 1) h3 (by omega)
theorem c37 (hm : 2 ≤ m) (l : List Ct) (hl : l.length ≤ 100000)  (hL : l.length < L) : callP Try.prog hh L m 37 [cuts false l, cuts false l] = some (Bo true) := by
  obtain ⟨n, rfl⟩ : ∃ n, m = n + 1 + 1 := ⟨m - 2, by omega⟩
  refine callP_of (by kernel_rfl) ?_
  rw [r37]
  have := l37 (L := L) (kk L (n + 1)) (fun v => some v) (d37_3 (kk L (n + 1)) L) l hl  l L 0 rfl hL
  simp only [d37_0, g37_0, d37_1, ln52, ob_some, neq_int, ne_eq, not_true_eq_false, decide_false, cb_bool, Bool.false_eq_true, if_false]
  rw [show (PV.sc (Value.int IntKind.i64 0)) = I ((0 : Nat) : Int) from rfl, this]
  rfl
theorem l13 {R : Type} (C : Kallee) (kr : PV → Option R) (ke : Option R) (l : List (List Ct)) (hl : l.length ≤ 100000) (hc : ∀ s ∈ l, C.pure 37 [cuts false s, cuts false s] = some (Bo true)) :
    ∀ (r : List (List Ct)) (N i : Nat), l.drop i = r → r.length < N → d13_1i C L kr ke N (prof l) (prof l) (I i) = ke := by
  intro r
  induction r with
  | nil =>
    intro N i h hN
    obtain ⟨N, rfl⟩ : ∃ n, N = n + 1 := ⟨N - 1, by omega⟩
    have := drop_nil' h
    have h2 : ¬ (i : Int) < l.length := by omega
    simp only [d13_1i, d13_2, ln22, ob_some, lss_int, cb_bool, decide_eq_true_eq, h2, if_false]
  | cons a r ih =>
    intro N i h hN
    obtain ⟨N, rfl⟩ : ∃ n, N = n + 1 := ⟨N - 1, by omega⟩
    obtain ⟨h1, h2, h3, h4⟩ := drop_cons' h
    have h5 : (i : Int) < l.length := by omega
    simp only [List.length_cons] at hN
    simp only [d13_1i, d13_2, ln22, ob_some, lss_int, cb_bool, decide_eq_true_eq, h5, if_true, ia22, h2, Option.map_some, ld52, callD_clo, List.nil_append, List.append_nil, hc a h4, not_bool, Bool.not_true, Bool.false_eq_true, if_false, add_int, wrap_succ (show i < 9223372036854775807 by omega)]
    exact ih N (i + 1) h3 (by omega)
theorem c13 (hm : 3 ≤ m) (l : List (List Ct)) (hl : l.length ≤ 100000) (hs : ∀ s ∈ l, s.length ≤ 3000) (hL5 : 5000 < L) (hL : l.length < L) : callP Try.prog hh L m 13 [prof l, prof l] = some (Bo true) := by
  obtain ⟨n, rfl⟩ : ∃ n, m = n + 1 + 1 := ⟨m - 2, by omega⟩
  refine callP_of (by kernel_rfl) ?_
  rw [r13]
  have := l13 (L := L) (kk L (n + 1)) (fun v => some v) (d13_3 (kk L (n + 1)) L) l hl (fun s h => c37 (show 2 ≤ n + 1 by omega) s (by have := hs s h; omega) (by have := hs s h; omega)) l L 0 rfl hL
  simp only [d13_0, g13_0, d13_1, ln22, ob_some, neq_int, ne_eq, not_true_eq_false, decide_false, cb_bool, Bool.false_eq_true, if_false]
  rw [show (PV.sc (Value.int IntKind.i64 0)) = I ((0 : Nat) : Int) from rfl, this]
  rfl
theorem l14 {R : Type} (C : Kallee) (kr : PV → Option R) (ke : Option R) (l : List Blk) (hl : l.length ≤ 100000)  :
    ∀ (r : List Blk) (N i : Nat), l.drop i = r → r.length < N → d14_1i C L kr ke N (blks l) (blks l) (I i) = ke := by
  intro r
  induction r with
  | nil =>
    intro N i h hN
    obtain ⟨N, rfl⟩ : ∃ n, N = n + 1 := ⟨N - 1, by omega⟩
    have := drop_nil' h
    have h2 : ¬ (i : Int) < l.length := by omega
    simp only [d14_1i, d14_2, ln25, ob_some, lss_int, cb_bool, decide_eq_true_eq, h2, if_false]
  | cons a r ih =>
    intro N i h hN
    obtain ⟨N, rfl⟩ : ∃ n, N = n + 1 := ⟨N - 1, by omega⟩
    obtain ⟨h1, h2, h3, h4⟩ := drop_cons' h
    have h5 : (i : Int) < l.length := by omega
    simp only [List.length_cons] at hN
    simp only [d14_1i, d14_2, ln25, ob_some, lss_int, cb_bool, decide_eq_true_eq, h5, if_true, ia25, h2, Option.map_some, ld46, neq46, not_bool, Bool.not_true, Bool.false_eq_true, if_false, add_int, wrap_succ (show i < 9223372036854775807 by omega)]
    exact ih N (i + 1) h3 (by omega)
theorem c14 (hm : 2 ≤ m) (l : List Blk) (hl : l.length ≤ 100000)  (hL : l.length < L) : callP Try.prog hh L m 14 [blks l, blks l] = some (Bo true) := by
  obtain ⟨n, rfl⟩ : ∃ n, m = n + 1 + 1 := ⟨m - 2, by omega⟩
  refine callP_of (by kernel_rfl) ?_
  rw [r14]
  have := l14 (L := L) (kk L (n + 1)) (fun v => some v) (d14_3 (kk L (n + 1)) L) l hl  l L 0 rfl hL
  simp only [d14_0, g14_0, d14_1, ln25, ob_some, neq_int, ne_eq, not_true_eq_false, decide_false, cb_bool, Bool.false_eq_true, if_false]
  rw [show (PV.sc (Value.int IntKind.i64 0)) = I ((0 : Nat) : Int) from rfl, this]
  rfl
end
end Go.Lite

namespace Go.Lite
open Go Go.Proofs
set_option linter.unusedVariables false
set_option linter.unusedSimpArgs false
set_option maxRecDepth 100000

/-! # the document's answer -/
section
variable {L m : Nat}
theorem l54 {R : Type} (C : Kallee) (kr : PV → Option R) (ke : Option R) (b : Bool) (s : List Ct) (hs : s.length ≤ 9223372036854775807) :
    ∀ (r : List Ct) (N i : Nat) (p : Option Ct), s.drop i = r → r.length < N → (match p with | none => i = 0 | some p => 0 < i ∧ s[i - 1]? = some p) → d54_1i C L kr ke N (cuts b s) (I i) = if tailO p r = true then ke else kr (Bo false) := by
  intro r
  induction r with
  | nil =>
    intro N i p h hN hp
    obtain ⟨N, rfl⟩ : ∃ n, N = n + 1 := ⟨N - 1, by omega⟩
    have := drop_nil' h
    have h2 : ¬ (i : Int) < s.length := by omega
    have : tailO p [] = true := by cases p <;> rfl
    simp only [d54_1i, d54_2, ln52, ob_some, lss_int, cb_bool, decide_eq_true_eq, h2, if_false, this, if_true]
  | cons c r ih =>
    intro N i p h hN hp
    obtain ⟨N, rfl⟩ : ∃ n, N = n + 1 := ⟨N - 1, by omega⟩
    obtain ⟨h1, h2, h3, h4⟩ := drop_cons' h
    have h5 : (i : Int) < s.length := by omega
    simp only [List.length_cons] at hN
    have hrec := ih N (i + 1) (some c) h3 (by omega) ⟨by omega, by simpa using h2⟩
    simp only [d54_1i, d54_2, ln52, lss_int, ob_some, cb_bool, decide_eq_true_eq, h5, if_true, ia52, h2, Option.map_some, fa54a, fa54b, ld2, ld3, gtr_int, gcase_f, gcase_t]
    have hadd : binPV Try.prog .add 3 = binPV Try.prog .add 3 := rfl
    have hok : okC c = (!decide (2199023255552 < c.1) && !decide (c.2 < 0) && !decide (1073741824 < c.2)) := by
      simp only [okC, ← decide_not]
      congr 1; congr 1 <;> (rw [decide_eq_decide]; omega)
      rw [decide_eq_decide]; omega
    by_cases q1 : (2199023255552 : Int) < c.1
    · cases p <;> simp [q1, tailO, tailOK, hok]
    by_cases q2 : c.2 < 0
    · cases p <;> simp [q1, q2, tailO, tailOK, hok]
    by_cases q3 : 1073741824 < c.2
    · cases p <;> simp [q1, q2, q3, tailO, tailOK, hok]
    cases p with
    | none =>
      subst hp
      simp only [q1, q2, q3, if_false, Int.natCast_zero, Int.lt_irrefl, decide_false, Bool.false_eq_true, add_int, ob_some, Int.zero_add]
      rw [show IntKind.i64.wrap 1 = ((0 + 1 : Nat) : Int) from rfl, hrec]
      simp [tailO, hok, q1, q2, q3]
      rfl
    | some p =>
      obtain ⟨hi, hpi⟩ := hp
      have hi' : (0 : Int) < i := by omega
      have hpred : IntKind.i64.wrap ((i : Int) - 1) = ((i - 1 : Nat) : Int) := by rcases idxPred hi with h | h <;> omega
      simp only [q1, q2, q3, if_false, hi', decide_true, decide_false, Bool.false_eq_true, if_true, sub_int0, hpred, ob_some, ia52, hpi, Option.map_some, fa54a, fa54b, ld2, ld3, leq_int, eql_int, add_int, wrap_succ (show i < 9223372036854775807 by omega), hrec]
      by_cases q4 : c.1 ≤ p.1
      · have : ¬ p.1 < c.1 := by omega
        simp [q4, tailO, tailOK, this]
      · have : p.1 < c.1 := by omega
        by_cases q5 : c.2 = p.2
        · simp [q4, q5, tailO, tailOK]
        · have : ¬ p.2 = c.2 := fun h => q5 h.symm
          simp [q4, q5, tailO, tailOK, hok, q1, q2, q3, this, *]
          rfl
theorem c54 (hm : 2 ≤ m) (b : Bool) (s : List Ct) (hs : s.length ≤ 9223372036854775807) (hL : s.length < L) : callP Try.prog hh L m 54 [cuts b s] = some (Bo (rightS s)) := by
  obtain ⟨n, rfl⟩ : ∃ n, m = n + 1 + 1 := ⟨m - 2, by omega⟩
  refine callP_of (by kernel_rfl) ?_
  rw [r54]
  have := l54 (L := L) (kk L (n + 1)) (fun v => some v) (d54_3 (kk L (n + 1)) L) b s hs s L 0 none rfl hL rfl
  cases s with
  | nil =>
    simp only [d54_0, g54_0, ln52, ob_some, lss_int, List.length_nil, gcase_f, rightS]
    rfl
  | cons c r =>
    have h0 : ¬ (((c :: r).length : Nat) : Int) < 1 := by simp; omega
    simp only [d54_0, g54_0, d54_1, ln52, ob_some, lss_int, decide_eq_true_eq, h0, decide_false, gcase_f, Bool.false_eq_true, if_false, gtr_int, ia52z, List.getElem?_cons_zero, Option.map_some, fa54a, ld2, neq_int, cb_bool]
    rw [show (PV.sc (Value.int IntKind.i64 0)) = I ((0 : Nat) : Int) from rfl, this]
    by_cases q1 : (4096 : Int) < ((c :: r).length : Nat)
    · have : ¬ (c :: r).length ≤ 4096 := by omega
      simp only [q1, decide_true, if_true, rightS, this, decide_false, Bool.false_and]
    · have q1' : (c :: r).length ≤ 4096 := by omega
      by_cases q2 : c.1 = 0
      · simp only [q1, decide_false, Bool.false_eq_true, if_false, q2, ne_eq, not_true_eq_false, rightS, q1', decide_true, Bool.true_and, d54_3]
        have e : (okC c && tailOK c r) = tailO none (c :: r) := rfl
        rw [e]
        by_cases hq : tailO none (c :: r) = true
        · rw [if_pos hq, hq]
        · rw [if_neg hq, Bool.eq_false_iff.2 hq]
      · simp only [q1, decide_false, Bool.false_eq_true, if_false, q2, ne_eq, not_false_eq_true, decide_true, if_true, rightS, q1', Bool.true_and, Bool.false_and]
theorem l26 {R : Type} (C : Kallee) (kr : PV → Option R) (ke : PV → Option R) (p : List (List Ct)) (hp : p.length ≤ 100000) (hc : ∀ s ∈ p, C.pure 54 [cuts false s] = some (Bo (rightS s))) :
    ∀ (r : List (List Ct)) (N i : Nat), p.drop i = r → r.length < N → d26_1i C L kr ke N (prof p) (I i) = if r.all rightS = true then ke (prof p) else kr (Bo false) := by
  intro r
  induction r with
  | nil =>
    intro N i h hN
    obtain ⟨N, rfl⟩ : ∃ n, N = n + 1 := ⟨N - 1, by omega⟩
    have := drop_nil' h
    have h2 : ¬ (i : Int) < p.length := by omega
    simp only [d26_1i, d26_2, ln22, ob_some, lss_int, cb_bool, decide_eq_true_eq, h2, if_false, List.all_nil, if_true]
  | cons a r ih =>
    intro N i h hN
    obtain ⟨N, rfl⟩ : ∃ n, N = n + 1 := ⟨N - 1, by omega⟩
    obtain ⟨h1, h2, h3, h4⟩ := drop_cons' h
    have h5 : (i : Int) < p.length := by omega
    simp only [List.length_cons] at hN
    simp only [d26_1i, d26_2, ln22, ob_some, lss_int, cb_bool, decide_eq_true_eq, h5, if_true, ia22, h2, Option.map_some, ld52, callD_clo, List.nil_append, List.append_nil, hc a h4, not_bool, add_int, wrap_succ (show i < 9223372036854775807 by omega), ih N (i + 1) h3 (by omega), List.all_cons]
    by_cases q : rightS a = true <;> simp [q]
theorem c26 (hm : 3 ≤ m) (p : List (List Ct)) (hp : OkP L p) : callP Try.prog hh L m 26 [prof p] = some (Bo (rightP p)) := by
  obtain ⟨n, rfl⟩ : ∃ n, m = n + 1 + 1 := ⟨m - 2, by omega⟩
  refine callP_of (by kernel_rfl) ?_
  rw [r26]
  obtain ⟨h1, h2, h3⟩ := hp
  have := l26 (L := L) (kk L (n + 1)) (fun v => some v) (fun v => d26_3 (kk L (n + 1)) L v) p (by omega) (fun s hs => c54 (show 2 ≤ n + 1 by omega) false s (by have := h2 s hs; omega) (by have := h2 s hs; omega)) p L 0 rfl (by omega)
  simp only [d26_0, g26_0, d26_1]
  rw [show (PV.sc (Value.int IntKind.i64 0)) = I ((0 : Nat) : Int) from rfl, this]
  simp only [d26_3, ln22, ob_some, geq_int, leq_int, gcase_t, rightP]
  have e1 : decide ((1 : Int) ≤ p.length) = decide (1 ≤ p.length) := by rw [decide_eq_decide]; omega
  have e2 : decide ((p.length : Int) ≤ 32) = decide (p.length ≤ 32) := by rw [decide_eq_decide]; omega
  rw [e1, e2]
  by_cases q : p.all rightS = true
  · rw [if_pos q, q]
    by_cases q1 : 1 ≤ p.length <;> by_cases q2 : p.length ≤ 32 <;> simp [q1, q2]
  · rw [if_neg q, Bool.eq_false_iff.2 q, Bool.and_false]
theorem c66 (hm : 3 ≤ m) (b : Bool) (s : List Ct) (hs : s.length ≤ 9223372036854775807) (hL : s.length < L) (fr to : Int) : callP Try.prog hh L m 66 [cuts b s, I fr, I to] = some (Bo (winB fr to && rightS s)) := by
  obtain ⟨n, rfl⟩ : ∃ n, m = n + 1 + 1 := ⟨m - 2, by omega⟩
  refine callP_of (by kernel_rfl) ?_
  rw [r66]
  simp only [d66_0, geq_int, lss_int, leq_int, ob_some, gcase_t, winB, callD_clo, List.nil_append, List.append_nil, c54 (L := L) (show 2 ≤ n + 1 by omega) b s hs hL]
  cases rightS s <;> by_cases q1 : 0 ≤ fr <;> by_cases q2 : fr < to <;> by_cases q3 : to ≤ 2199023255552 <;> simp [q1, q2, q3]
theorem l86 {R : Type} (C : Kallee) (ke : PV → Option R) (b : Bool) (s : List Ct) (hs : s.length ≤ 100000) (t : Int) :
    ∀ (r : List Ct) (N i : Nat) (v : Int), s.drop i = r → r.length < N → d86_1i C L ke N (cuts b s) (I t) (I v) (I i) = ke (I (r.foldl (fun v c => if c.1 ≤ t then c.2 else v) v)) := by
  intro r
  induction r with
  | nil =>
    intro N i v h hN
    obtain ⟨N, rfl⟩ : ∃ n, N = n + 1 := ⟨N - 1, by omega⟩
    have := drop_nil' h
    have h2 : ¬ (i : Int) < s.length := by omega
    simp only [d86_1i, d86_2, ln52, ob_some, lss_int, cb_bool, decide_eq_true_eq, h2, if_false, List.foldl_nil]
  | cons c r ih =>
    intro N i v h hN
    obtain ⟨N, rfl⟩ : ∃ n, N = n + 1 := ⟨N - 1, by omega⟩
    obtain ⟨h1, h2, h3, h4⟩ := drop_cons' h
    have h5 : (i : Int) < s.length := by omega
    simp only [List.length_cons] at hN
    simp only [d86_1i, d86_2, ln52, ob_some, lss_int, cb_bool, decide_eq_true_eq, h5, if_true, ia52, h2, Option.map_some, fa54a, fa54b, ld2, ld3, leq_int, add_int, wrap_succ (show i < 9223372036854775807 by omega), List.foldl_cons]
    by_cases q : c.1 ≤ t
    · simp only [q, if_true]; exact ih N (i + 1) _ h3 (by omega)
    · simp only [q, if_false]; exact ih N (i + 1) _ h3 (by omega)
theorem c86 (hm : 2 ≤ m) (b : Bool) (s : List Ct) (hs : s.length ≤ 100000) (hL : s.length < L) (t : Int) : callP Try.prog hh L m 86 [cuts b s, I t] = some (I (val s t)) := by
  obtain ⟨n, rfl⟩ : ∃ n, m = n + 1 + 1 := ⟨m - 2, by omega⟩
  refine callP_of (by kernel_rfl) ?_
  rw [r86]
  have := l86 (L := L) (kk L (n + 1)) (fun v => d86_3 (kk L (n + 1)) L v) b s hs t s L 0 0 rfl hL
  simp only [d86_0, g86_0, d86_1]
  rw [show (PV.sc (Value.int IntKind.i64 0)) = I 0 from rfl]
  rw [show I 0 = I ((0 : Nat) : Int) from rfl] at this ⊢
  rw [this]
  rfl
theorem l67 {R : Type} (C : Kallee) (ke : PV → Option R) (b : Bool) (s : List Ct) (hs : s.length ≤ 100000) (fr to : Int) :
    ∀ (r : List Ct) (N i : Nat) (v : Int), s.drop i = r → r.length < N → d67_1i C L ke N (cuts b s) (I fr) (I to) (I v) (I i) = ke (I (r.foldl (fun v c => if fr < c.1 ∧ c.1 < to ∧ c.2 < v then c.2 else v) v)) := by
  intro r
  induction r with
  | nil =>
    intro N i v h hN
    obtain ⟨N, rfl⟩ : ∃ n, N = n + 1 := ⟨N - 1, by omega⟩
    have := drop_nil' h
    have h2 : ¬ (i : Int) < s.length := by omega
    simp only [d67_1i, d67_2, g67_2, ln52, ob_some, lss_int, cb_bool, decide_eq_true_eq, h2, if_false, List.foldl_nil]
  | cons c r ih =>
    intro N i v h hN
    obtain ⟨N, rfl⟩ : ∃ n, N = n + 1 := ⟨N - 1, by omega⟩
    obtain ⟨h1, h2, h3, h4⟩ := drop_cons' h
    have h5 : (i : Int) < s.length := by omega
    simp only [List.length_cons] at hN
    simp only [d67_1i, d67_2, g67_2, d67_3, d67_4, ln52, ob_some, lss_int, gtr_int, cb_bool, decide_eq_true_eq, h5, if_true, ia52, h2, Option.map_some, fa54a, fa54b, ld2, ld3, gcase_t, add_int, wrap_succ (show i < 9223372036854775807 by omega), List.foldl_cons]
    by_cases q1 : fr < c.1
    · by_cases q2 : c.1 < to
      · by_cases q3 : c.2 < v
        · simp only [q1, q2, q3, if_true, and_self]; exact ih N (i + 1) _ h3 (by omega)
        · simp only [q1, q2, q3, if_true, if_false, and_false]; exact ih N (i + 1) _ h3 (by omega)
      · simp only [q1, q2, if_true, if_false, false_and, and_false, cb_bool, Bool.false_eq_true]; exact ih N (i + 1) _ h3 (by omega)
    · simp only [q1, if_false, false_and, cb_bool, Bool.false_eq_true]; exact ih N (i + 1) _ h3 (by omega)
theorem c67 (hm : 3 ≤ m) (b : Bool) (s : List Ct) (hs : s.length ≤ 100000) (hL : s.length < L) (fr to : Int) : callP Try.prog hh L m 67 [cuts b s, I fr, I to] = some (I (leastR s fr to)) := by
  obtain ⟨n, rfl⟩ : ∃ n, m = n + 1 + 1 := ⟨m - 2, by omega⟩
  refine callP_of (by kernel_rfl) ?_
  rw [r67]
  have := l67 (L := L) (kk L (n + 1)) (fun v => d67_5 (kk L (n + 1)) L v) b s hs fr to s L 0 (val s fr) rfl hL
  simp only [d67_0, g67_0, d67_1, callD_clo, List.nil_append, List.append_nil, c86 (L := L) (show 2 ≤ n + 1 by omega) b s hs hL, ob_some]
  rw [show (PV.sc (Value.int IntKind.i64 0)) = I ((0 : Nat) : Int) from rfl, this]
  rfl
theorem c49 (hm : 4 ≤ m) (b : Bool) (s : List Ct) (fr to : Int) (hs : s.length ≤ 100000) (hL : s.length < L) : callP Try.prog hh L m 49 [cuts b s, I fr, I to] = some (if (winB fr to && rightS s) = true then .tup [I (leastR s fr to), I 0] else .tup [I 0, I 2]) := by
  obtain ⟨n, rfl⟩ : ∃ n, m = n + 1 + 1 := ⟨m - 2, by omega⟩
  refine callP_of (by kernel_rfl) ?_
  rw [r49]
  simp only [d49_0, callD_clo, List.nil_append, List.append_nil, c66 (L := L) (show 3 ≤ n + 1 by omega) b s (by omega) hL fr to, ob_some, not_bool, cb_bool]
  cases hw : (winB fr to && rightS s) with
  | false => simp
  | true => simp only [Bool.not_true, Bool.false_eq_true, if_false, if_true, c67 (L := L) (show 3 ≤ n + 1 by omega) b s hs hL fr to, ob_some]
/-- free nodes -/
def freeB (p : List (List Ct)) (s : Nat) (fr to c : Int) (i : Nat) : Bool := match p[i]? with | some x => s.testBit i && decide (c ≤ leastR x fr to) | none => false
theorem l23 {R : Type} (n : Nat) (hn : 4 ≤ n) (ke : List PV → Option R) (p : List (List Ct)) (hp : OkP L p) (hp2 : p.length ≤ 32) (hr : ∀ s ∈ p, rightS s = true) (s : Nat) (hs : s < 2 ^ 32) (fr to c : Int) (hw : winB fr to = true) :
    ∀ (r : List (List Ct)) (N i : Nat), p.drop i = r → r.length < N → d23_1i (kk L n) L ke N (prof p) (U s) (I fr) (I to) (I c) (I i) ((ons (freeB p s fr to c) i).map fun i => I (i : Nat)) = ke ((ons (freeB p s fr to c) p.length).map fun i => I (i : Nat)) := by
  have hL := hp.L
  intro r
  induction r with
  | nil =>
    intro N i h hN
    obtain ⟨N, rfl⟩ : ∃ n, N = n + 1 := ⟨N - 1, by omega⟩
    have h1 := drop_nil' h
    have h2 : ¬ (i : Int) < p.length := by omega
    have : ons (freeB p s fr to c) i = ons (freeB p s fr to c) p.length := by
      have : ∀ d, ons (freeB p s fr to c) (p.length + d) = ons (freeB p s fr to c) p.length := by
        intro d
        induction d with
        | zero => rfl
        | succ d ih =>
          rw [← Nat.add_assoc, ons_succ]
          have : freeB p s fr to c (p.length + d) = false := by unfold freeB; rw [List.getElem?_eq_none (by omega)]
          rw [this]; simpa using ih
      rw [show i = p.length + (i - p.length) by omega, this]
    simp only [d23_1i, d23_2, g23_2, ln22, ob_some, lss_int, cb_bool, decide_eq_true_eq, h2, if_false, this]
  | cons x r ih =>
    intro N i h hN
    obtain ⟨N, rfl⟩ : ∃ n, N = n + 1 := ⟨N - 1, by omega⟩
    obtain ⟨h1, h2, h3, h4⟩ := drop_cons' h
    have h5 : (i : Int) < p.length := by omega
    have hx := hp.c x h4
    simp only [List.length_cons] at hN
    have hih := ih N (i + 1) h3 (by omega)
    rw [ons_succ] at hih
    have hlen := ons_len (freeB p s fr to c) i
    have happ := app50 ((ons (freeB p s fr to c) i).map fun i => I (i : Nat)) [I (i : Nat)] true (by simp [appendRoom]; omega)
    have h49 := c49 (L := L) hn false x fr to (by omega) (by omega)
    rw [hw, hr x h4] at h49
    have hf : freeB p s fr to c i = (s.testBit i && decide (c ≤ leastR x fr to)) := by unfold freeB; rw [h2]
    simp only [d23_1i, d23_2, g23_2, d23_3, d23_4, ln22, ob_some, lss_int, cb_bool, decide_eq_true_eq, h5, if_true, ia22, h2, Option.map_some, ld52, callD_clo, List.nil_append, List.append_nil, h49, Bool.and_self, extract_tup, List.getElem?_cons_zero, List.getElem?_cons_succ, c50 (L := L) (show 2 ≤ n by omega) (by omega) s i hs (by omega), geq_int, gcase_t, bs50, happ, oxs_some, add_int, wrap_succ (show i < 9223372036854775807 by omega)]
    by_cases q1 : s.testBit i = true
    · by_cases q2 : c ≤ leastR x fr to
      · simp only [hf, q1, q2, decide_true, Bool.and_self, if_true] at hih ⊢
        rw [← hih]; simp
      · simp only [hf, q1, q2, decide_false, Bool.and_false, Bool.false_eq_true, if_true, if_false] at hih ⊢
        exact hih
    · simp only [hf, q1, Bool.false_and, Bool.false_eq_true, if_false, cb_bool] at hih ⊢
      exact hih
def freePV (p : List (List Ct)) (s : Nat) (fr to c : Int) : PV := if (rightP p && winB fr to) = true then .tup [U (bits (freeB p s fr to c) p.length), I 0] else .tup [U 0, I 2]
theorem c23 (hm : 6 ≤ m) (p : List (List Ct)) (hp : OkP L p) (s : Nat) (hs : s < 2 ^ 32) (fr to c : Int) : callP Try.prog hh L m 23 [prof p, U s, I fr, I to, I c] = some (freePV p s fr to c) := by
  obtain ⟨n, rfl⟩ : ∃ n, m = n + 1 + 1 := ⟨m - 2, by omega⟩
  refine callP_of (by kernel_rfl) ?_
  rw [r23]
  have hL := hp.L
  simp only [d23_0, g23_0, callD_clo, List.nil_append, List.append_nil, c26 (L := L) (show 3 ≤ n + 1 by omega) p hp, ob_some, not_bool, gcase_f, lss_int, geq_int, gtr_int, cb_bool, freePV]
  cases hr : rightP p with
  | false => simp
  | true =>
    obtain ⟨_, hp2, hrs⟩ := rightP_in hr
    simp only [Bool.not_true, Bool.false_eq_true, if_false, Bool.true_and, decide_eq_true_eq]
    by_cases q1 : fr < 0
    · have : winB fr to = false := by simp only [winB]; have : ¬ 0 ≤ fr := by omega
                                      simp [this]
      simp [q1, this]
    by_cases q2 : to ≤ fr
    · have : winB fr to = false := by simp only [winB]; have : ¬ fr < to := by omega
                                      simp [this]
      simp [q1, q2, this]
    by_cases q3 : 2199023255552 < to
    · have : winB fr to = false := by simp only [winB]; have : ¬ to ≤ 2199023255552 := by omega
                                      simp [this]
      simp [q1, q2, q3, this]
    have hw : winB fr to = true := by simp only [winB, Bool.and_eq_true, decide_eq_true_eq]; omega
    simp only [q1, q2, q3, if_false, hw, if_true, d23_1]
    have := l23 (L := L) (n + 1) (by omega) (fun x0 => d23_5 (kk L (n + 1)) L x0) p hp hp2 hrs s hs fr to c hw p L 0 rfl (by omega)
    rw [show (PV.sc (Value.int IntKind.i64 0)) = I ((0 : Nat) : Int) from rfl]
    rw [show ((ons (freeB p s fr to c) 0).map fun i => I (i : Nat)) = ([] : List PV) from rfl] at this
    rw [this]
    simp only [d23_5, callD_clo, List.nil_append, List.append_nil, c51 (L := L) (show 3 ≤ n + 1 by omega) (by omega) false (freeB p s fr to c) p.length hp2, ob_some, extract_tup, List.getElem?_cons_zero, List.getElem?_cons_succ]
/-! ## the ask -/
theorem l33 {R : Type} (C : Kallee) (kr : PV → PV → Option R) (ke : PV → Option R) (a : Ask) (hb : a.blocks.length ≤ 1000) :
    ∀ (r : List Blk) (N i : Nat), a.blocks.drop i = r → r.length < N → d33_1i C L kr ke N (I i) (apv a) = if (r.all fun b => winB b.fr b.to) = true then ke (apv a) else kr (Bo false) (apv a) := by
  intro r
  induction r with
  | nil =>
    intro N i h hN
    obtain ⟨N, rfl⟩ : ∃ n, N = n + 1 := ⟨N - 1, by omega⟩
    have := drop_nil' h
    have h2 : ¬ (i : Int) < a.blocks.length := by omega
    simp only [d33_1i, d33_2, at75, ln25, ob_some, lss_int, cb_bool, decide_eq_true_eq, h2, if_false, List.all_nil, if_true]
  | cons b r ih =>
    intro N i h hN
    obtain ⟨N, rfl⟩ : ∃ n, N = n + 1 := ⟨N - 1, by omega⟩
    obtain ⟨h1, h2, h3, h4⟩ := drop_cons' h
    have h5 : (i : Int) < a.blocks.length := by omega
    simp only [List.length_cons] at hN
    simp only [d33_1i, d33_2, at75, ln25, ob_some, lss_int, cb_bool, decide_eq_true_eq, h5, if_true, ia25, h2, Option.map_some, ld46, putB, at41, at42, geq_int, gtr_int, gcase_f, add_int, wrap_succ (show i < 9223372036854775807 by omega), ih N (i + 1) h3 (by omega), List.all_cons]
    by_cases q1 : b.fr < 0
    · have : winB b.fr b.to = false := by simp only [winB]; have : ¬ 0 ≤ b.fr := by omega
                                          simp [this]
      simp [q1, this]
    by_cases q2 : b.to ≤ b.fr
    · have : winB b.fr b.to = false := by simp only [winB]; have : ¬ b.fr < b.to := by omega
                                          simp [this]
      simp [q1, q2, this]
    by_cases q3 : 2199023255552 < b.to
    · have : winB b.fr b.to = false := by simp only [winB]; have : ¬ b.to ≤ 2199023255552 := by omega
                                          simp [this]
      simp [q1, q2, q3, this]
    have hw : winB b.fr b.to = true := by simp only [winB, Bool.and_eq_true, decide_eq_true_eq]; omega
    simp [q1, q2, q3, hw]
theorem c33 (hm : 2 ≤ m) (hL : 5000 < L) (a : Ask) (ha : OkQ a) : callP Try.prog hh L m 33 [apv a] = some (Bo (askB a)) := by
  obtain ⟨n, rfl⟩ : ∃ n, m = n + 1 + 1 := ⟨m - 2, by omega⟩
  refine callP_of (by kernel_rfl) ?_
  rw [r33]
  have hb := ha.b
  have := l33 (L := L) (kk L (n + 1)) (fun v0 v1 => some v0) (fun v0 => d33_3 (kk L (n + 1)) L v0) a (by omega) a.blocks L 0 rfl (by omega)
  have hb' : ¬ (4096 : Int) < a.blocks.length := by omega
  simp only [d33_0, g33_0, d33_1, hl7a, ck_true, at70, at71, at72, at73, at75, ln25, ob_some, lss_int, gtr_int, gcase_f, askB, cb_bool, hb', decide_false, Bool.false_eq_true, if_false]
  by_cases q1 : a.count < 1
  · have : ¬ 1 ≤ a.count := by omega
    simp [q1, this]
  by_cases q2 : 32 < a.count
  · have : ¬ a.count ≤ 32 := by omega
    simp [q1, q2, this]
  by_cases q3 : a.cores < 1
  · have : ¬ 1 ≤ a.cores := by omega
    simp [q1, q2, q3, this]
  by_cases q4 : 64 < a.cores
  · have : ¬ a.cores ≤ 64 := by omega
    simp [q1, q2, q3, q4, this]
  by_cases q5 : a.limit < 1
  · have : ¬ 1 ≤ a.limit := by omega
    simp [q1, q2, q3, q4, q5, this]
  by_cases q6 : 1048576 < a.limit
  · have : ¬ a.limit ≤ 1048576 := by omega
    simp [q1, q2, q3, q4, q5, q6, this]
  by_cases q7 : a.fr < 0
  · have : ¬ 0 ≤ a.fr := by omega
    simp [q1, q2, q3, q4, q5, q6, q7, this]
  by_cases q8 : 1099511627776 < a.fr
  · have : ¬ a.fr ≤ 1099511627776 := by omega
    simp [q1, q2, q3, q4, q5, q6, q7, q8, this]
  have g1 : 1 ≤ a.count := by omega
  have g2 : a.count ≤ 32 := by omega
  have g3 : 1 ≤ a.cores := by omega
  have g4 : a.cores ≤ 64 := by omega
  have g5 : 1 ≤ a.limit := by omega
  have g6 : a.limit ≤ 1048576 := by omega
  have g7 : 0 ≤ a.fr := by omega
  have g8 : a.fr ≤ 1099511627776 := by omega
  simp only [q1, q2, q3, q4, q5, q6, q7, q8, g1, g2, g3, g4, g5, g6, g7, g8, decide_true, decide_false, Bool.false_eq_true, if_false, Bool.true_and]
  rw [show (PV.sc (Value.int IntKind.i64 0)) = I ((0 : Nat) : Int) from rfl, this]
  by_cases q : (a.blocks.all fun b => winB b.fr b.to) = true
  · rw [if_pos q, q]; rfl
  · rw [if_neg q, Bool.eq_false_iff.2 q]
/-! ## sets -/
theorem l60 {R : Type} (n : Nat) (hn : 2 ≤ n) (hL : 40 < L) (ke : List PV → Option R) (a b : Nat) (ha : a < 2 ^ 32) (hb : b < 2 ^ 32) :
    ∀ (d N i : Nat), i + d = 32 → d < N → d60_1i (kk L n) L ke N (U a) (U b) (I i) ((ons (fun i => a.testBit i && !b.testBit i) i).map fun i => I (i : Nat)) = ke ((ons (fun i => a.testBit i && !b.testBit i) 32).map fun i => I (i : Nat)) := by
  intro d
  induction d with
  | zero =>
    intro N i h hN
    obtain ⟨N, rfl⟩ : ∃ n, N = n + 1 := ⟨N - 1, by omega⟩
    have : i = 32 := by omega
    subst this
    simp [d60_1i, d60_2, g60_2]
  | succ d ih =>
    intro N i h hN
    obtain ⟨N, rfl⟩ : ∃ n, N = n + 1 := ⟨N - 1, by omega⟩
    have h5 : (i : Int) < 32 := by omega
    have := ih N (i + 1) (by omega) (by omega)
    rw [ons_succ] at this
    have hlen := ons_len (fun i => a.testBit i && !b.testBit i) i
    have happ := app50 ((ons (fun i => a.testBit i && !b.testBit i) i).map fun i => I (i : Nat)) [I (i : Nat)] true (by simp [appendRoom]; omega)
    simp only [d60_1i, d60_2, g60_2, d60_3, d60_4, lss_int, ob_some, cb_bool, decide_eq_true_eq, h5, if_true, callD_clo, List.nil_append, List.append_nil, c50 (L := L) hn hL a i ha (by omega), c50 (L := L) hn hL b i hb (by omega), gcase_t, not_bool, bs50, happ, oxs_some, add_int, wrap_succ (show i < 9223372036854775807 by omega)]
    by_cases q1 : a.testBit i = true
    · by_cases q2 : b.testBit i = true
      · simp only [q1, q2, Bool.not_true, Bool.and_false, Bool.false_eq_true, if_true, if_false] at this ⊢
        exact this
      · simp only [q1, q2, Bool.not_false, Bool.and_self, if_true] at this ⊢
        rw [← this]; simp
    · simp only [q1, Bool.false_and, Bool.false_eq_true, if_false, cb_bool] at this ⊢
      exact this
theorem c60 (hm : 4 ≤ m) (hL : 40 < L) (a b : Nat) (ha : a < 2 ^ 32) (hb : b < 2 ^ 32) : callP Try.prog hh L m 60 [U a, U b] = some (U (bits (fun i => a.testBit i && !b.testBit i) 32)) := by
  obtain ⟨n, rfl⟩ : ∃ n, m = n + 1 + 1 := ⟨m - 2, by omega⟩
  refine callP_of (by kernel_rfl) ?_
  rw [r60]
  have := l60 (L := L) (n + 1) (by omega) hL (fun x0 => d60_5 (kk L (n + 1)) L x0) a b ha hb 32 L 0 (by omega) (by omega)
  simp only [d60_0, g60_0, d60_1]
  rw [show (PV.sc (Value.int IntKind.i64 0)) = I ((0 : Nat) : Int) from rfl]
  rw [show ((ons (fun i => a.testBit i && !b.testBit i) 0).map fun i => I (i : Nat)) = ([] : List PV) from rfl] at this
  rw [this]
  simp only [d60_5, callD_clo, List.nil_append, List.append_nil, c51 (L := L) (show 3 ≤ n + 1 by omega) hL false _ 32 (Nat.le_refl _), ob_some, extract_tup, List.getElem?_cons_zero, List.getElem?_cons_succ]
def lessR (s : Nat) (a : Ask) (t : Int) : List Blk → Nat
  | [] => s
  | b :: r => lessR (if hits b a t then bits (fun i => s.testBit i && !b.nodes.testBit i) 32 else s) a t r
theorem lessR_lt {a : Ask} {t : Int} : ∀ {l : List Blk} {s : Nat}, s < 2 ^ 32 → lessR s a t l < 2 ^ 32
  | [], s, h => h
  | b :: r, s, h => by
    simp only [lessR]
    apply lessR_lt
    split
    · exact bits_lt _ 32
    · exact h
theorem lessR_bit {a : Ask} {t : Int} : ∀ {l : List Blk} {s : Nat}, s < 2 ^ 32 → ∀ i, (lessR s a t l).testBit i = (s.testBit i && l.all fun b => !(hits b a t && b.nodes.testBit i))
  | [], s, _, i => by simp [lessR]
  | b :: r, s, h, i => by
    simp only [lessR]
    have hlt : (if hits b a t then bits (fun i => s.testBit i && !b.nodes.testBit i) 32 else s) < 2 ^ 32 := by split; exact bits_lt _ 32; exact h
    rw [lessR_bit hlt]
    simp only [List.all_cons]
    cases hh' : hits b a t with
    | false => simp
    | true =>
      simp only [if_true, bits_testBit, Bool.true_and]
      by_cases hi : i < 32
      · simp [hi, Bool.and_assoc]
      · have : s < 2 ^ i := Nat.lt_of_lt_of_le h (Nat.pow_le_pow_right (by decide) (by omega))
        rw [Nat.testBit_lt_two_pow this]; simp
theorem l35 {R : Type} (n : Nat) (hn : 4 ≤ n) (hL : 40 < L) (ke : PV → PV → Option R) (a : Ask) (ha : OkQ a) (t : Int) (ht : winB t (t + a.limit) = true) :
    ∀ (r : List Blk) (N i s : Nat), a.blocks.drop i = r → r.length < N → s < 2 ^ 32 → d35_1i (kk L n) L ke N (I t) (U s) (I i) (apv a) = ke (U (lessR s a t r)) (apv a) := by
  have hw := ht
  simp only [winB, Bool.and_eq_true, decide_eq_true_eq] at hw
  have hbl := ha.b
  intro r
  induction r with
  | nil =>
    intro N i s h hN hs
    obtain ⟨N, rfl⟩ : ∃ n, N = n + 1 := ⟨N - 1, by omega⟩
    have := drop_nil' h
    have h2 : ¬ (i : Int) < a.blocks.length := by omega
    simp only [d35_1i, d35_2, g35_2, at75, ln25, ob_some, lss_int, cb_bool, decide_eq_true_eq, h2, if_false, lessR]
  | cons b r ih =>
    intro N i s h hN hs
    obtain ⟨N, rfl⟩ : ∃ n, N = n + 1 := ⟨N - 1, by omega⟩
    obtain ⟨h1, h2, h3, h4⟩ := drop_cons' h
    have h5 : (i : Int) < a.blocks.length := by omega
    simp only [List.length_cons] at hN
    simp only [d35_1i, d35_2, g35_2, d35_3, d35_4, at75, ln25, ob_some, lss_int, gtr_int, cb_bool, decide_eq_true_eq, h5, if_true, ia25, h2, Option.map_some, ld46, putB, at40, at41, at42, at72, add_ok _ _ _ t a.limit (by omega) (by omega), gcase_t, callD_clo, List.nil_append, List.append_nil, c60 (L := L) hn hL s b.nodes hs (ha.bn b h4), add_int, wrap_succ (show i < 9223372036854775807 by omega), lessR, hits]
    by_cases q1 : b.fr < t + a.limit
    · by_cases q2 : t < b.to
      · simp only [q1, q2, decide_true, if_true, Bool.and_self]
        exact ih N (i + 1) _ h3 (by omega) (bits_lt _ 32)
      · simp only [q1, q2, decide_true, decide_false, if_true, Bool.and_false, Bool.false_eq_true, if_false]
        exact ih N (i + 1) _ h3 (by omega) hs
    · simp only [q1, decide_false, Bool.false_eq_true, if_false, Bool.false_and, cb_bool]
      exact ih N (i + 1) _ h3 (by omega) hs
theorem c35 (hm : 8 ≤ m) (p : List (List Ct)) (hp : OkP L p) (hr : rightP p = true) (a : Ask) (ha : OkQ a) (t : Int) (ht : winB t (t + a.limit) = true) :
    callP Try.prog hh L m 35 [prof p, apv a, I t] = some (U (bits (opn p a t) 32)) := by
  obtain ⟨n, rfl⟩ : ∃ n, m = n + 1 + 1 := ⟨m - 2, by omega⟩
  refine callP_of (by kernel_rfl) ?_
  rw [r35]
  obtain ⟨q1, q2, q3⟩ := rightP_in hr
  have hL := hp.L
  have hb := ha.b
  have hw := ht
  simp only [winB, Bool.and_eq_true, decide_eq_true_eq] at hw
  have hlt : bits (freeB p a.nodes t (t + a.limit) a.cores) p.length < 2 ^ 32 := Nat.lt_of_lt_of_le (bits_lt _ _) (Nat.pow_le_pow_right (by decide) q2)
  have := l35 (L := L) (n + 1) (by omega) (by omega) (fun v0 v1 => d35_5 (kk L (n + 1)) L v0 v1) a ha t ht a.blocks L 0 _ rfl (by omega) hlt
  have h23 := c23 (L := L) (show 6 ≤ n + 1 by omega) p hp a.nodes ha.n t (t + a.limit) a.cores
  rw [freePV, hr, ht] at h23
  simp only [d35_0, g35_0, d35_1, hl7a, ck_true, at71, at72, at74, ob_some, add_ok _ _ _ t a.limit (by omega) (by omega), callD_clo, List.nil_append, List.append_nil, h23, Bool.and_self, if_true, extract_tup, List.getElem?_cons_zero, List.getElem?_cons_succ]
  rw [show (PV.sc (Value.int IntKind.i64 0)) = I ((0 : Nat) : Int) from rfl, this]
  simp only [d35_5, Option.some.injEq, PV.sc.injEq, Value.int.injEq, true_and, Int.natCast_inj]
  apply Nat.eq_of_testBit_eq
  intro i
  rw [bits_testBit, lessR_bit hlt, bits_testBit]
  unfold opn freeB
  by_cases hi : i < p.length
  · have hg : p[i]? = some p[i] := List.getElem?_eq_getElem hi
    have hi2 : i < 32 := by omega
    simp only [hi, hi2, hg, decide_true, Bool.true_and]
  · have hg : p[i]? = none := List.getElem?_eq_none (by omega)
    simp [hi, hg]
end
end Go.Lite

namespace Go.Lite
open Go Go.Proofs
set_option linter.unusedVariables false
set_option linter.unusedSimpArgs false
set_option maxRecDepth 100000

/-! # the earliest place: the document -/
def timesR (p : List (List Ct)) (a : Ask) : List Int := a.fr :: p.flatMap (fun s => s.map (·.1)) ++ a.blocks.map (·.to)
theorem timesR_seen {p : List (List Ct)} {a : Ask} {t : Int} (h : Seen p a t) : t ∈ timesR p a := by
  unfold timesR
  simp only [List.cons_append, List.mem_cons, List.mem_append, List.mem_map, List.mem_flatMap]
  rcases h with h | ⟨i, s, h1, _, c, h3, h4⟩ | ⟨b, h1, h2⟩
  · exact .inl h
  · exact .inr (.inl ⟨s, List.mem_of_getElem? h1, c, h3, h4⟩)
  · exact .inr (.inr ⟨b, h1, h2⟩)
def bestR (p : List (List Ct)) (a : Ask) : Int := best (fits p a) (-1) (timesR p a)
theorem best_fit {p : List (List Ct)} {a : Ask} (hq : askB a = true) : (0 ≤ bestR p a → fitP p a = some (bestR p a)) ∧ (bestR p a < 0 → fitP p a = none) := by
  obtain ⟨_, _, _, _, g5, _⟩ := askB_in hq
  have hb := best_first (f := fits p a) (fun t ht => by
    simp only [fits, Bool.and_eq_true, decide_eq_true_eq] at ht; omega) (l := timesR p a) (b := -1) (seen := []) (fun h => by omega) (fun _ u hu => by simp at hu)
  simp only [List.nil_append] at hb
  constructor
  · intro h
    obtain ⟨h1, h2⟩ := hb.1 h
    exact (fitP_first p a).eq (o' := some (bestR p a)) (first_of (l := timesR p a) (fun t ht => timesR_seen ht) ⟨h1, h2⟩)
  · intro h
    exact (fitP_first p a).eq (o' := none) (first_of (l := timesR p a) (fun t ht => timesR_seen ht) (hb.2 h))
@[simp] theorem fa46 (b : Blk) : fieldAddrPV Try.prog 46 (.ro 4 (bpv b)) 2 = some (.ro 0 (I b.to)) := by kernel_rfl
theorem ln50i (c : Bool) (l : List Nat) : (lenPV Try.prog 50 (ints c l)).map (fun n => I n) = some (I l.length) := by
  have := ln50 c (l.map fun i => I (i : Nat))
  simpa using this
section
variable {L m : Nat}
theorem l12c {R : Type} (C : Kallee) (ke : PV → PV → PV → List PV → Option R) (v3 : PV) (p : List (List Ct)) (hp : OkP L p) (k : Nat) (s : List Ct) (hk : p[k]? = some s) :
    ∀ (r : List Ct) (N i : Nat) (l : List Int), s.drop i = r → r.length < N → l.length + r.length ≤ 1000000 → d12_3i C L ke N (prof p) (I k) (I i) v3 (is l) = ke (prof p) (I k) v3 (is (l ++ r.map (·.1))) := by
  have hs := hp.c s (List.mem_of_getElem? hk)
  intro r
  induction r with
  | nil =>
    intro N i l h hN hl
    obtain ⟨N, rfl⟩ : ∃ n, N = n + 1 := ⟨N - 1, by omega⟩
    have := drop_nil' h
    have h2 : ¬ (i : Int) < s.length := by omega
    simp only [d12_3i, d12_4, ia22, hk, Option.map_some, ob_some, ld52, ln52, lss_int, cb_bool, decide_eq_true_eq, h2, if_false, List.map_nil, List.append_nil]
  | cons c r ih =>
    intro N i l h hN hl
    obtain ⟨N, rfl⟩ : ∃ n, N = n + 1 := ⟨N - 1, by omega⟩
    obtain ⟨h1, h2, h3, h4⟩ := drop_cons' h
    have h5 : (i : Int) < s.length := by omega
    simp only [List.length_cons] at hN hl
    simp only [d12_3i, d12_4, ia22, hk, Option.map_some, ob_some, ld52, ln52, lss_int, cb_bool, decide_eq_true_eq, h5, if_true, ia52, h2, fa54a, ld2, bs58, app58 l c.1 (by omega), oxs_some, add_int, wrap_succ (show i < 9223372036854775807 by omega)]
    rw [ih N (i + 1) (l ++ [c.1]) h3 (by omega) (by simp; omega)]
    simp
theorem l12p {R : Type} (C : Kallee) (ke : PV → PV → List PV → Option R) (v2 : PV) (p : List (List Ct)) (hp : OkP L p) :
    ∀ (r : List (List Ct)) (N i : Nat) (l : List Int), p.drop i = r → r.length < N → l.length + cutsN r ≤ 1000000 → d12_1i C L ke N (prof p) (I i) v2 (is l) = ke (prof p) v2 (is (l ++ r.flatMap (fun s => s.map (·.1)))) := by
  have hL := hp.L
  have hpn := hp.n
  intro r
  induction r with
  | nil =>
    intro N i l h hN hl
    obtain ⟨N, rfl⟩ : ∃ n, N = n + 1 := ⟨N - 1, by omega⟩
    have := drop_nil' h
    have h2 : ¬ (i : Int) < p.length := by omega
    simp only [d12_1i, d12_2, g12_2, ln22, ob_some, lss_int, cb_bool, decide_eq_true_eq, h2, if_false, List.flatMap_nil, List.append_nil]
  | cons c r ih =>
    intro N i l h hN hl
    obtain ⟨N, rfl⟩ : ∃ n, N = n + 1 := ⟨N - 1, by omega⟩
    obtain ⟨h1, h2, h3, h4⟩ := drop_cons' h
    have h5 : (i : Int) < p.length := by omega
    have hc := hp.c c h4
    have e : cutsN (c :: r) = c.length + cutsN r := by simp [cutsN]
    simp only [List.length_cons] at hN
    rw [e] at hl
    simp only [d12_1i, d12_2, g12_2, ln22, ob_some, lss_int, cb_bool, decide_eq_true_eq, h5, if_true, d12_3]
    rw [show (PV.sc (Value.int IntKind.i64 0)) = I ((0 : Nat) : Int) from rfl, l12c (L := L) C _ v2 p hp i c h2 c L 0 l rfl (by omega) (by omega)]
    simp only [d12_5, add_int, wrap_succ (show i < 9223372036854775807 by omega), ob_some]
    rw [ih N (i + 1) (l ++ c.map (·.1)) h3 (by omega) (by simp; omega)]
    simp
theorem l12b {R : Type} (C : Kallee) (ke : PV → PV → List PV → Option R) (v0 : PV) (a : Ask) (hb : a.blocks.length ≤ 1000) :
    ∀ (r : List Blk) (N i : Nat) (l : List Int), a.blocks.drop i = r → r.length < N → l.length + r.length ≤ 1000000 → d12_7i C L ke N v0 (I i) (apv a) (is l) = ke v0 (apv a) (is (l ++ r.map (·.to))) := by
  intro r
  induction r with
  | nil =>
    intro N i l h hN hl
    obtain ⟨N, rfl⟩ : ∃ n, N = n + 1 := ⟨N - 1, by omega⟩
    have := drop_nil' h
    have h2 : ¬ (i : Int) < a.blocks.length := by omega
    simp only [d12_7i, d12_8, at75, ln25, ob_some, lss_int, cb_bool, decide_eq_true_eq, h2, if_false, List.map_nil, List.append_nil]
  | cons b r ih =>
    intro N i l h hN hl
    obtain ⟨N, rfl⟩ : ∃ n, N = n + 1 := ⟨N - 1, by omega⟩
    obtain ⟨h1, h2, h3, h4⟩ := drop_cons' h
    have h5 : (i : Int) < a.blocks.length := by omega
    simp only [List.length_cons] at hN hl
    simp only [d12_7i, d12_8, at75, ln25, ob_some, lss_int, cb_bool, decide_eq_true_eq, h5, if_true, ia25, h2, Option.map_some, fa46, ld2, bs58, app58 l b.to (by omega), oxs_some, add_int, wrap_succ (show i < 9223372036854775807 by omega)]
    rw [ih N (i + 1) (l ++ [b.to]) h3 (by omega) (by simp; omega)]
    simp
theorem l12f {R : Type} (n : Nat) (hn : 12 ≤ n) (ke : PV → PV → PV → List PV → Option R) (p : List (List Ct)) (hp : OkP L p) (hr : rightP p = true) (a : Ask) (ha : OkQ a) (hq : askB a = true) (ts : List Int) (hts : ts.length ≤ 1000000) :
    ∀ (r : List Int) (N i : Nat) (b : Int), ts.drop i = r → r.length < N → d12_10i (kk L n) L ke N (prof p) (I b) (I i) (apv a) (is ts) = ke (prof p) (I (best (fits p a) b r)) (apv a) (is ts) := by
  obtain ⟨g1, g2, g3, g4, g5, g6, _, _, _⟩ := askB_in hq
  have hL := hp.L
  intro r
  induction r with
  | nil =>
    intro N i b h hN
    obtain ⟨N, rfl⟩ : ∃ n, N = n + 1 := ⟨N - 1, by omega⟩
    have := drop_nil' h
    have h2 : ¬ (i : Int) < ts.length := by omega
    simp only [d12_10i, d12_11, goI, List.length_map, lss_int, ob_some, cb_bool, decide_eq_true_eq, h2, if_false, best, List.foldl_nil]
  | cons t r ih =>
    intro N i b h hN
    obtain ⟨N, rfl⟩ : ∃ n, N = n + 1 := ⟨N - 1, by omega⟩
    obtain ⟨h1, h2, h3, h4⟩ := drop_cons' h
    have h5 : (i : Int) < ts.length := by omega
    simp only [List.length_cons] at hN
    have hih := fun b => ih N (i + 1) b h3 (by omega)
    have hw : IntKind.i64.wrap ((i : Int) + 1) = ((i + 1 : Nat) : Int) := wrap_succ (by omega)
    have e : best (fits p a) b (t :: r) = best (fits p a) (if fits p a t = true ∧ ¬ (0 ≤ b ∧ b ≤ t) then t else b) r := rfl
    rw [e]
    simp only [d12_10i, d12_11, goI, lss_int, ob_some, cb_bool, decide_eq_true_eq, List.length_map, h5, if_true, idxArr_n h1, onat_some, get_is h2, at73, gtr_int, geq_int, gcase_f, gcase_t]
    by_cases q1 : t < a.fr
    · have hf : fits p a t = false := by simp only [fits]; have : ¬ a.fr ≤ t := by omega
                                         simp [this]
      simp only [q1, if_true, add_int, hw, ob_some, hf, Bool.false_eq_true, false_and, if_false, hih]
    by_cases q2 : (1099511627776 : Int) < t
    · have hf : fits p a t = false := by simp only [fits]; have : ¬ t ≤ 1099511627776 := by omega
                                         simp [this]
      simp only [q1, q2, if_false, if_true, add_int, hw, ob_some, hf, Bool.false_eq_true, false_and, hih]
    have ht : winB t (t + a.limit) = true := by simp only [winB, Bool.and_eq_true, decide_eq_true_eq]; omega
    have hs : bits (opn p a t) 32 < 2 ^ 32 := bits_lt _ 32
    have hlen := ons_len (opn p a t) 32
    have hfe : fits p a t = decide (a.count ≤ ((ons (opn p a t) 32).length : Nat)) := by
      simp only [fits, good, onsN_ons]
      have e1 : a.fr ≤ t := by omega
      have e2 : t ≤ 1099511627776 := by omega
      simp [e1, e2]
      rfl
    have h35 := c35 (L := L) (show 8 ≤ n by omega) p hp hr a ha t ht
    have h34 := c34 (L := L) (m := n) (by omega) (by omega) _ hs
    rw [ons_bits] at h34
    by_cases q3 : 0 ≤ b
    · by_cases q4 : b ≤ t
      · simp only [q1, q2, q3, q4, if_false, if_true, add_int, hw, ob_some, and_self, not_true_eq_false, and_false, hih]
      · simp only [q1, q2, q3, q4, if_false, if_true, callD_clo, List.nil_append, List.append_nil, h35, h34, ob_some, at70, ln50i, geq_int, cb_bool, add_int, hw, and_false, not_false_eq_true, and_true, hih, hfe, decide_eq_true_eq]
        by_cases q5 : a.count ≤ ((ons (opn p a t) 32).length : Nat)
        · simp only [q5, if_true]
        · simp only [q5, if_false]
    · simp only [q1, q2, q3, if_false, callD_clo, List.nil_append, List.append_nil, h35, h34, ob_some, at70, ln50i, geq_int, cb_bool, add_int, hw, false_and, not_false_eq_true, and_true, hih, hfe, decide_eq_true_eq]
      by_cases q5 : a.count ≤ ((ons (opn p a t) 32).length : Nat)
      · simp only [q5, if_true]
      · simp only [q5, if_false]
theorem c12 (hm : 14 ≤ m) (p : List (List Ct)) (hp : OkP L p) (a : Ask) (ha : OkQ a) (hL2 : 300000 < L) : callP Try.prog hh L m 12 [prof p, apv a] = some (fitPV p a) := by
  obtain ⟨n, rfl⟩ : ∃ n, m = n + 1 + 1 := ⟨m - 2, by omega⟩
  refine callP_of (by kernel_rfl) ?_
  rw [r12]
  have hL := hp.L
  have hpn := hp.n
  have hc := cutsN_le hp.n hp.c
  have hb := ha.b
  simp only [d12_0, g12_0, d12_1, hl7a, ck_true, callD_clo, List.nil_append, List.append_nil, c33 (L := L) (show 2 ≤ n + 1 by omega) hL a ha, ob_some, not_bool, gcase_f, c26 (L := L) (show 3 ≤ n + 1 by omega) p hp, cb_bool, at73, bx58, oxs_some, fitPV]
  cases hr : rightP p with
  | false => simp
  | true =>
    cases hq : askB a with
    | false => simp
    | true =>
      obtain ⟨g1, g2, g3, g4, g5, g6, _, _, _⟩ := askB_in hq
      simp only [Bool.not_true, Bool.false_eq_true, if_false, Bool.and_self, if_true]
      rw [show (PV.sc (Value.int IntKind.i64 0)) = I ((0 : Nat) : Int) from rfl, show [I a.fr] = is [a.fr] from rfl, l12p (L := L) (kk L (n + 1)) _ (apv a) p hp p L 0 [a.fr] rfl (by omega) (by simp; omega)]
      have hfl : ∀ q : List (List Ct), (q.flatMap (fun s => s.map (·.1))).length = cutsN q := by
        intro q
        induction q with
        | nil => rfl
        | cons s r ih =>
          have e : cutsN (s :: r) = s.length + cutsN r := by simp [cutsN]
          rw [List.flatMap_cons, List.length_append, ih, e]; simp
      have hflp := hfl p
      simp only [d12_6, g12_6, d12_7]
      rw [show (PV.sc (Value.int IntKind.i64 0)) = I ((0 : Nat) : Int) from rfl, l12b (L := L) (kk L (n + 1)) _ (prof p) a (by omega) a.blocks L 0 ([a.fr] ++ p.flatMap (fun s => s.map (·.1))) rfl (by omega) (by rw [List.length_append, hflp]; simp; omega)]
      have e : [a.fr] ++ p.flatMap (fun s => s.map (·.1)) ++ a.blocks.map (·.to) = timesR p a := by simp [timesR]
      rw [e]
      have hlen : (timesR p a).length ≤ 130000 := by
        unfold timesR
        rw [List.length_append, List.length_cons, hflp]; simp; omega
      simp only [d12_9, g12_9, d12_10]
      rw [show (PV.sc (Value.int IntKind.i64 0)) = I ((0 : Nat) : Int) from rfl, show (PV.sc (Value.int IntKind.i64 (-1))) = I (-1) from rfl, l12f (L := L) (n + 1) (by omega) _ p hp hr a ha hq (timesR p a) (by omega) (timesR p a) L 0 (-1) rfl (by omega)]
      obtain ⟨b1, b2⟩ := best_fit (p := p) hq
      rw [← bestR]
      simp only [d12_12, lss_int, ob_some, cb_bool, decide_eq_true_eq]
      by_cases hbz : bestR p a < 0
      · rw [if_pos hbz, b2 hbz]; rfl
      · rw [if_neg hbz, b1 (by omega)]
        have hf := fitP_first p a
        rw [b1 (by omega)] at hf
        have hft := hf.1
        simp only [fits, good, Bool.and_eq_true, decide_eq_true_eq, onsN_ons] at hft
        have ht : winB (bestR p a) (bestR p a + a.limit) = true := by simp only [winB, Bool.and_eq_true, decide_eq_true_eq]; omega
        have hs : bits (opn p a (bestR p a)) 32 < 2 ^ 32 := bits_lt _ 32
        have q4 : 0 ≤ a.count ∧ a.count ≤ ((ons (opn p a (bestR p a)) 32).length : Nat) := ⟨by omega, of_decide_eq_true hft.2⟩
        simp only [callD_clo, List.nil_append, List.append_nil, c35 (L := L) (show 8 ≤ n + 1 by omega) p hp hr a ha _ ht, ob_some, at70, c36 (L := L) (show 5 ≤ n + 1 by omega) (by omega) _ hs, firstPV, ons_bits, q4, and_self, if_true, extract_tup, List.getElem?_cons_zero, List.getElem?_cons_succ, onP]
/-! # the statement's function -/
theorem put70 (v : AV) (a : Ask) : putPV 7 0 7 v (apv a) = some (apv a) := by
  have h : (apv a).hasLay 7 = true := rfl
  simp [putPV, h]
theorem put75 (a : Ask) : putPV 7 5 0 (.pv (apv a)) (blks a.blocks) = some (apv a) := nonrfl rfl
theorem cutsN_mem : ∀ {p : List (List Ct)} {s : List Ct}, s ∈ p → s.length ≤ cutsN p
  | x :: r, s, h => by
    have e : cutsN (x :: r) = x.length + cutsN r := by simp [cutsN]
    rw [e]
    rcases List.mem_cons.1 h with rfl | h
    · omega
    · have := cutsN_mem h; omega
theorem fitPV_form (p : List (List Ct)) (a : Ask) : ∃ (t : Int) (s : Nat) (e : Int), fitPV p a = .tup [I t, U s, I e] := by
  unfold fitPV
  split
  · cases fitP p a with
    | none => exact ⟨0, 0, 120, rfl⟩
    | some t => exact ⟨t, _, 0, rfl⟩
  · exact ⟨0, 0, 2, rfl⟩
theorem c3 (hm : 16 ≤ m) (p : List (List Ct)) (hn : cutsN p + p.length ≤ 4611686018427387904) (hLp : p.length < L) (hL2 : 300000 < L) (a : Ask) (han : a.nodes < 2 ^ 32) (hbn : ∀ b ∈ a.blocks, b.nodes < 2 ^ 32)
    (h8 : ∀ k, m ≤ k + 1 → callP Try.prog hh L k 8 [] = some (Bo true)) : callP Try.prog hh L m 3 [prof p, apv a] = some (Bo true) := by
  obtain ⟨n, rfl⟩ : ∃ n, m = n + 1 + 1 := ⟨m - 2, by omega⟩
  refine callP_of (by kernel_rfl) ?_
  rw [rq3]
  have h8' := h8 (n + 1) (by omega)
  simp only [d3_0, hl7a, ck_true, callD_clo, List.nil_append, List.append_nil, c7 (L := L) (show 2 ≤ n + 1 by omega) p hn hLp, ob_some, gcase_f]
  by_cases hbig : bigB p = true
  · simp only [hbig, if_true, h8', ob_some]
  · simp only [hbig, Bool.false_eq_true, if_false, at75, ob_some, ln25, gtr_int, cb_bool, decide_eq_true_eq]
    by_cases hb : (100 : Int) < a.blocks.length
    · simp only [hb, if_true, h8', ob_some]
    · have hbg : cutsN p ≤ 3000 ∧ p.length ≤ 40 := by
        have : bigB p = false := Bool.eq_false_iff.2 hbig
        simp only [bigB, Bool.or_eq_false_iff, decide_eq_false_iff_not] at this
        omega
      have hle : ∀ s ∈ p, s.length ≤ cutsN p := by
        intro s hs
        exact cutsN_mem hs
      have hp : OkP L p := ⟨hbg.2, fun s hs => by have := hle s hs; omega, by omega⟩
      have ha : OkQ a := ⟨by omega, han, hbn⟩
      obtain ⟨t, s, e, hf⟩ := fitPV_form p a
      have h11 := c11 (L := L) (m := n + 1) (by omega) p hp a ha hL2
      have h12 := c12 (L := L) (m := n + 1) (by omega) p hp a ha hL2
      rw [hf] at h11 h12
      have h9 := c9 (L := L) (m := n + 1) (by omega) p (by omega) hp.c hp.L (by omega)
      have h10 := c10 (L := L) (m := n + 1) (by omega) a.blocks (by omega) (by omega)
      have h13 := c13 (L := L) (m := n + 1) (by omega) p (by omega) hp.c hp.L (by omega)
      have h14 := c14 (L := L) (m := n + 1) (by omega) a.blocks (by omega) (by omega)
      simp only [hb, if_false, h9, h10, ob_some, put70, put75, h11, h12, extract_tup, List.getElem?_cons_zero, List.getElem?_cons_succ, eql_int, decide_true, gcase_t, if_true, h13, h14, h8']
end
end Go.Lite

namespace Go.Lite
open Go
open Go.RowKit (Below)
set_option linter.unusedVariables false

/-! # rows where what is handed in is small -/
mutual
/-- how many elements there are, in all -/
def PV.cnt : PV → Nat
  | .list _ _ xs => PV.cntS xs
  | .agg cs => PV.cntA cs
  | _ => 0
def PV.cntS : List PV → Nat
  | [] => 0
  | y :: r => y.cnt + 1 + PV.cntS r
def PV.cntA : List PV → Nat
  | [] => 0
  | y :: r => y.cnt + PV.cntA r
end
theorem PV.cntA_append : ∀ (a b : List PV), PV.cntA (a ++ b) = PV.cntA a + PV.cntA b
  | [], b => by simp [PV.cntA]
  | x :: a, b => by simp only [List.cons_append, PV.cntA, PV.cntA_append a b]; omega
theorem PV.cntS_len : ∀ (a : List PV), a.length ≤ PV.cntS a
  | [] => by simp [PV.cntS]
  | x :: a => by have := PV.cntS_len a; simp only [PV.cntS, List.length_cons]; omega
structure BulkOK {H : Type} (bk : DataW H → Nat) (bkA : List (DataW H) → Nat) : Prop where
  one : ∀ d, 1 ≤ bk d
  slice : ∀ e s, bk (.slice e s) = bkA e + bkA s + 1
  agg : ∀ ps, bk (.agg ps) = bkA ps + 1
  nil : bkA [] = 0
  cons : ∀ d r, bkA (d :: r) = bk d + bkA r
theorem rowPV_cnt {lay : Nat} {xs : List PV} (h : xs.length = width lay) : (rowPV lay xs).cnt = PV.cntA xs := by
  unfold rowPV
  by_cases h0 : lay = 0
  · subst h0
    simp only [width, if_true] at h
    cases xs with
    | nil => simp at h
    | cons x r =>
      have : r = [] := by
        have : r.length = 0 := by simp at h; exact List.length_eq_zero_iff.2 h
        simpa using this
      subst this
      simp [PV.cntA]
  · simp [h0, PV.cnt]
section
variable {H : Type} {enc : TypeId × Value → H} {P : Program} {w : World} {sp : Nat → Bool} {bk : DataW H → Nat} {bkA : List (DataW H) → Nat} {base : Nat}
theorem cntS_le (hB : BulkOK bk bkA) : ∀ (l : List (DataW H)) (ys : List PV), ys.length = l.length → (∀ (i : Nat) y d, ys[i]? = some y → l[i]? = some d → y.cnt + 1 ≤ bk d) → PV.cntS ys ≤ bkA l
  | [], [], _, _ => by simp [PV.cntS]
  | d :: l, y :: ys, h, hh => by
    have h1 := cntS_le hB l ys (by simpa using h) fun i y d a b => hh (i + 1) y d (by simpa using a) (by simpa using b)
    have h2 := hh 0 y d rfl rfl
    rw [hB.cons]
    simp only [PV.cntS]
    omega
  | [], _ :: _, h, _ => by simp at h
  | _ :: _, [], h, _ => by simp at h
theorem fields_typedB (hB : BulkOK bk bkA) {X : Nat} {K : Keep} {fuel n : Nat} {cs : List Value}
    (ih : ∀ (t : TypeId) (cs : List Value) (d : DataW H) (ps : List MemPlace) (cts : List CT), DataW.trod enc P w 0 sp true fuel t cs = some (d, ps) → (DataW.weights P t d).all (· ≤ reachBytes) = true → ctsOf P n t = some cts → ∃ xs, RowT X w K cts cs xs ∧ PV.cntA xs + 1 ≤ bk d) :
    ∀ (fs : List Field) (ctss : List (List CT)) (o : Nat) (xs : List (DataW H × List MemPlace)), fs.mapM (fun f => ctsOf P n f.type) = some ctss → fitsF P fs ctss o = true →
      fs.mapM (fun f => DataW.trod enc P w 0 sp true fuel f.type ((cs.drop f.offset).take (P.cellsOf f.type))) = some xs → (DataW.weightsEach P (fs.map (·.type)) (xs.map (·.1))).all (· ≤ reachBytes) = true → ∃ ys, RowT X w K ctss.flatten ((cs.drop o).take ctss.flatten.length) ys ∧ PV.cntA ys ≤ bkA (xs.map (·.1)) := by
  intro fs
  induction fs with
  | nil =>
    intro ctss o xs h1 h2 h3 _
    simp at h1; subst h1
    exact ⟨[], by simpa using RowT.nil X w K, by simp [PV.cntA]⟩
  | cons f fs ihf =>
    intro ctss o xs h1 h2 h3 hwt
    simp only [List.mapM_cons, Option.pure_def, Option.bind_eq_bind, Option.bind_eq_some_iff, Option.some.injEq] at h1 h3
    obtain ⟨c, hc, css, hcss, rfl⟩ := h1
    obtain ⟨⟨d, ps⟩, hd, ds, hds, rfl⟩ := h3
    simp only [fitsF, Bool.and_eq_true, beq_iff_eq] at h2
    obtain ⟨⟨hoff, hsz⟩, hrest⟩ := h2
    simp only [List.map_cons, DataW.weightsEach, List.all_append, Bool.and_eq_true] at hwt
    obtain ⟨y1, hy1, hc1⟩ := ih f.type _ d ps c hd hwt.1 hc
    obtain ⟨y2, hy2, hc2⟩ := ihf css (o + c.length) ds hcss hrest hds hwt.2
    refine ⟨y1 ++ y2, ?_, by rw [PV.cntA_append, List.map_cons, hB.cons]; simp only; omega⟩
    rw [hoff, hsz] at hy1
    have := hy1.append hy2
    simp only [List.flatten_cons, List.length_append]
    rw [List.take_add, List.drop_drop]
    exact this

theorem trod_typedB (hB : BulkOK bk bkA) {X : Nat} : ∀ (fuel n : Nat) (t : TypeId) (cs : List Value) (d : DataW H) (ps : List MemPlace) (cts : List CT), (∀ b, sp b = true) →
    DataW.trod enc P w 0 sp true fuel t cs = some (d, ps) → (DataW.weights P t d).all (· ≤ reachBytes) = true → ctsOf P n t = some cts → ∃ xs, RowT X w (allK w) cts cs xs ∧ PV.cntA xs + 1 ≤ bk d := by
  intro fuel
  induction fuel with
  | zero => intro n t cs d ps cts _ h; simp [DataW.trod] at h
  | succ fuel ih =>
    intro n t cs d ps cts hsp h hwt hc
    cases n with
    | zero => simp [ctsOf] at hc
    | succ n =>
      unfold ctsOf at hc
      unfold DataW.trod at h
      split at hc
      · -- bool
        rename_i hu
        simp only [Option.some.injEq] at hc; subst hc
        rw [hu] at h
        split at h <;> (try (exfalso; clear ih; simp_all; done)) <;> (try (exfalso; clear ih; simp at h; done))
        exact ⟨_, RowT.one (.bool _) (.sc _) rfl, by have := hB.one d; simp [PV.cntA, PV.cnt]; exact this⟩
      · rename_i k hu
        simp only [Option.some.injEq] at hc; subst hc
        rw [hu] at h
        split at h <;> (try (exfalso; clear ih; simp_all; done)) <;> (try (exfalso; clear ih; simp at h; done))
        rename_i h1
        simp only [Option.some.injEq, TypeDesc.int.injEq] at h1; subst h1
        split at h
        · rename_i hk
          obtain ⟨rfl, hwf⟩ := hk
          exact ⟨_, RowT.one (.int hwf) (.sc _) rfl, by have := hB.one d; simp [PV.cntA, PV.cnt]; exact this⟩
        · simp at h
      · rename_i hu
        simp only [Option.some.injEq] at hc; subst hc
        rw [hu] at h
        split at h <;> (try (exfalso; clear ih; simp_all; done)) <;> (try (exfalso; clear ih; simp at h; done))
        split at h
        · rename_i hk
          simp only [Option.some.injEq, Prod.mk.injEq] at h
          obtain ⟨rfl, _⟩ := h
          simp only [DataW.weights, List.all_cons, Bool.and_eq_true, decide_eq_true_eq] at hwt
          exact ⟨_, RowT.one (.str (by have := hwt.1; simpa using this)) (.sc _) rfl, by simp [PV.cntA, PV.cnt]; exact hB.one _⟩
        · simp at h
      · -- slice
        rename_i e hu
        split at hc
        case h_2 => simp at hc
        rename_i lay cte hlay hcte
        split at hc
        case isFalse => simp at hc
        rename_i hcond
        obtain ⟨hw1, hw2, hw3⟩ := hcond
        simp only [Option.some.injEq] at hc; subst hc
        rw [hu] at h
        split at h <;> (try (exfalso; clear ih; simp_all; done)) <;> (try (exfalso; clear ih; simp at h; done))
        · exact ⟨_, RowT.one (x := .list lay false ([].map (rowPV lay))) (.list [] (by simp) (by simp) (by simp) (by simp)) .empty rfl, by simp [PV.cntA, PV.cnt, PV.cntS]; exact hB.one _⟩
        · rename_i a len cap h1
          simp only [Option.some.injEq, TypeDesc.slice.injEq] at h1; subst h1
          split at h
          case isFalse => simp at h
          rename_i hb
          obtain ⟨_, hlc, hmax⟩ := hb
          simp only [hsp, if_true, Option.bind_eq_some_iff, Option.map_eq_some_iff] at h
          obtain ⟨elems, he, rest, hr, hdd⟩ := h
          simp only [Prod.mk.injEq] at hdd
          obtain ⟨rfl, _⟩ := hdd
          simp only [DataW.weights, hu, List.all_cons, List.all_append, Bool.and_eq_true, decide_eq_true_eq, List.length_map] at hwt
          obtain ⟨hwl, hwe, hwr⟩ := hwt
          have wAll : ∀ (l : List (DataW H)), (DataW.weightsAll P e l).all (· ≤ reachBytes) = true → ∀ x ∈ l, (DataW.weights P e x).all (· ≤ reachBytes) = true := by
            intro l
            induction l with
            | nil => intro _ x hx; simp at hx
            | cons y l ihl =>
              intro hy x hx
              simp only [DataW.weightsAll, List.all_append, Bool.and_eq_true] at hy
              rcases List.mem_cons.1 hx with rfl | hx
              · exact hy.1
              · exact ihl hy.2 x hx
          obtain ⟨e1, e2⟩ := mapM_range he
          obtain ⟨r1, r2⟩ := mapM_range hr
          rw [hw2] at e2 r2
          have row : ∀ (i : Nat) (y : DataW H × List MemPlace), ((w.cells? 0 (a.add (i * width lay)) (width lay)).bind (DataW.trod enc P w 0 sp true fuel e)) = some y → (y ∈ elems ∨ y ∈ rest) →
              ∃ vs xs, w.cells? 0 (a.add (i * width lay)) (width lay) = some vs ∧ RowT X w (allK w) cte vs xs ∧ PV.cntA xs + 1 ≤ bk y.1 := by
            intro i y hy hmem
            simp only [Option.bind_eq_some_iff] at hy
            obtain ⟨vs, hvs, hy⟩ := hy
            obtain ⟨d', ps'⟩ := y
            have hw' : (DataW.weights P e d').all (· ≤ reachBytes) = true := by
              rcases hmem with hmem | hmem
              · exact wAll _ hwe d' (List.mem_map.2 ⟨_, hmem, rfl⟩)
              · exact wAll _ hwr d' (List.mem_map.2 ⟨_, hmem, rfl⟩)
            obtain ⟨xs, hxs, hcx⟩ := ih n e vs d' ps' cte hsp hy hw' hcte
            exact ⟨vs, xs, hvs, hxs, hcx⟩
          by_cases hcap : cap = 0
          · have hlen : len = 0 := by omega
            subst hlen; subst hcap
            exact ⟨_, RowT.one (x := .list lay false ([].map (rowPV lay))) (.list [] (by simp) (by simp) (by simp) (by simp)) .empty rfl, by simp [PV.cntA, PV.cnt, PV.cntS]; exact hB.one _⟩
          · have hspot : a = ⟨a.block, a.off, none⟩ := by
              have : ∃ y, ((w.cells? 0 (a.add (0 * width lay)) (width lay)).bind (DataW.trod enc P w 0 sp true fuel e)) = some y ∧ (y ∈ elems ∨ y ∈ rest) := by
                by_cases hl : len = 0
                · subst hl
                  obtain ⟨y, hy, hm⟩ := r2 0 (by omega)
                  exact ⟨y, by simpa using hy, .inr (List.mem_of_getElem? hm)⟩
                · obtain ⟨y, hy, hm⟩ := e2 0 (by omega)
                  exact ⟨y, hy, .inl (List.mem_of_getElem? hm)⟩
              obtain ⟨y, hy, hm⟩ := this
              obtain ⟨vs, xs, hvs, hxs, _⟩ := row 0 y hy hm
              obtain ⟨c1, c2⟩ := cells?_some hvs
              have := c2 0 (vs[0]'(by omega)) (List.getElem?_eq_getElem (by omega))
              simp only [Nat.zero_mul, Addr.add, if_true] at this
              exact spot_of_cell this
            generalize a.block = b at hspot
            generalize a.off = off at hspot
            subst hspot
            -- the rows
            have rows : ∀ i, i < len → ∃ vs xs, w.cells? 0 (Addr.add ⟨b, off, none⟩ (i * width lay)) (width lay) = some vs ∧ RowT X w (allK w) cte vs xs ∧ ∀ y, elems[i]? = some y → PV.cntA xs + 1 ≤ bk y.1 := fun i hi => by
              obtain ⟨y, hy, hm⟩ := e2 i hi
              obtain ⟨vs, xs, q1, q2, q3⟩ := row i y hy (.inl (List.mem_of_getElem? hm))
              exact ⟨vs, xs, q1, q2, fun y' hy' => by rw [hm] at hy'; simp only [Option.some.injEq] at hy'; subst hy'; exact q3⟩
            obtain ⟨F, hF⟩ : ∃ F : Nat → List Value × List PV, ∀ i, i < len → w.cells? 0 (Addr.add ⟨b, off, none⟩ (i * width lay)) (width lay) = some (F i).1 ∧ RowT X w (allK w) cte (F i).1 (F i).2 ∧ ∀ y, elems[i]? = some y → PV.cntA (F i).2 + 1 ≤ bk y.1 := by
              refine ⟨fun i => if hi : i < len then (Classical.choose (rows i hi), Classical.choose (Classical.choose_spec (rows i hi))) else ([], []), fun i hi => ?_⟩
              simp only [hi, dif_pos]
              exact Classical.choose_spec (Classical.choose_spec (rows i hi))
            have hcnt : PV.cntA [.list lay false (((List.range len).map fun i => (F i).2).map (rowPV lay))] + 1 ≤ bk (.slice (elems.map (·.1)) (rest.map (·.1))) := by
              have := cntS_le hB (elems.map (·.1)) (((List.range len).map fun i => (F i).2).map (rowPV lay)) (by simp [e1]) fun i y d hy hd => by
                simp only [List.map_map, List.getElem?_map, Option.map_eq_some_iff] at hy hd
                obtain ⟨i1, hi1, rfl⟩ := hy
                obtain ⟨z, hz, rfl⟩ := hd
                have hi : i < len ∧ i1 = i := by
                  rcases Nat.lt_or_ge i len with h' | h'
                  · rw [List.getElem?_range h'] at hi1; exact ⟨h', by simpa using hi1.symm⟩
                  · rw [List.getElem?_eq_none (by simpa using h')] at hi1; cases hi1
                obtain ⟨hi, rfl⟩ := hi
                have h3 := (hF i1 hi).2.2 z hz
                have h4 := (hF i1 hi).2.1.len
                simp only [Function.comp_apply]
                rw [rowPV_cnt (by rw [h4, hw1])]; exact h3
              rw [hB.slice]
              simp only [PV.cntA, PV.cnt, Nat.add_zero]
              omega
            refine ⟨[.list lay false (((List.range len).map fun i => (F i).2).map (rowPV lay))], RowT.one (.list _ ?_ ?_ ?_ ?_) (.list ((List.range len).map fun i => rowV lay (F i).1) ?_ hlc (by simp) ?_ ?_ ?_) rfl, hcnt⟩
            · simp; exact Nat.le_trans hlc hmax
            · simp only [List.length_map, List.length_range]
              rw [e1] at hwl
              exact Nat.le_trans (Nat.mul_le_mul_right _ (Nat.le_add_right _ _)) hwl
            · intro xs hx
              simp only [List.mem_map, List.mem_range] at hx
              obtain ⟨i, hi, rfl⟩ := hx
              exact (hF i hi).2.1.len
            · intro xs hx
              simp only [List.mem_map, List.mem_range] at hx
              obtain ⟨i, hi, rfl⟩ := hx
              exact (hF i hi).2.1.typed
            · simp
            · simp
            · intro i x cv hx hcv
              simp only [List.map_map, List.getElem?_map, Option.map_eq_some_iff] at hx hcv
              obtain ⟨i1, hi1, rfl⟩ := hx
              obtain ⟨i2, hi2, rfl⟩ := hcv
              rw [hi1] at hi2; simp only [Option.some.injEq] at hi2; subst hi2
              have hi : i1 < len := by
                have := List.mem_of_getElem? hi1
                simpa using this
              exact (hF i1 hi).2.1.pvr hw1
            · intro i cv hcv
              simp only [List.getElem?_map, Option.map_eq_some_iff] at hcv
              obtain ⟨i1, hi1, rfl⟩ := hcv
              have hi : i < len ∧ i1 = i := by
                rcases Nat.lt_or_ge i len with h' | h'
                · rw [List.getElem?_range h'] at hi1; exact ⟨h', by simpa using hi1.symm⟩
                · rw [List.getElem?_eq_none (by simpa using h')] at hi1; cases hi1
              obtain ⟨hi, rfl⟩ := hi
              obtain ⟨l1, l2⟩ := (hF i1 hi).2.1.lay hw1
              refine ⟨l1, fun j v hj => ?_⟩
              obtain ⟨c1, c2⟩ := cells?_some (hF i1 hi).1
              have hj' : (F i1).1[j]? = some v := by rw [← l2]; simpa using hj
              have := c2 j v hj'
              rw [add_none, add_none] at this
              exact ⟨lt_of_cell this, this⟩
      · -- struct
        rename_i fs hu
        split at hc
        case h_2 => simp at hc
        rename_i ctss hctss
        split at hc
        case isFalse => simp at hc
        rename_i hcond
        simp only [Option.some.injEq] at hc; subst hc
        rw [hu] at h
        split at h <;> (try (exfalso; clear ih; simp_all; done)) <;> (try (exfalso; clear ih; simp at h; done))
        rename_i h1
        simp only [Option.some.injEq, TypeDesc.struct.injEq] at h1; subst h1
        split at h
        case isFalse => simp at h
        rename_i hlen
        simp only [Option.map_eq_some_iff] at h
        obtain ⟨xs, hxs, hdd⟩ := h
        simp only [Prod.mk.injEq] at hdd
        obtain ⟨rfl, _⟩ := hdd
        simp only [DataW.weights, hu] at hwt
        obtain ⟨ys, hys, hcy⟩ := fields_typedB (X := X) hB (K := allK w) (fun t cs d ps cts h1 h2 h3 => ih n t cs d ps cts hsp h1 h2 h3) fs.toList ctss 0 xs hctss hcond.1 hxs hwt
        rw [List.drop_zero, List.take_of_length_le (by omega)] at hys
        exact ⟨ys, hys, by rw [hB.agg]; omega⟩
      · simp at hc
theorem args_typedB (hB : BulkOK bk bkA) {X n : Nat} : ∀ (ts : List TypeId) (vs : List Value) (ds : List (DataW H)) (p : List MemPlace) (ats : List (Nat × List CT)), DataW.TrodAll enc P w 0 (fun _ => true) true ts vs ds p → (DataW.weightsEach P ts ds).all (· ≤ reachBytes) = true →
    (∀ (j : Nat) t v, ts[j]? = some t → vs[j]? = some v → Value.okWide P w .any base t v) → ts.mapM (argT P n) = some ats →
    ∃ args : List PV, args.length = vs.length ∧ args.length = ats.length ∧ (∀ (i : Nat) a d, ats[i]? = some a → args[i]? = some d → TypedA a d) ∧ (∀ (i : Nat) d v, args[i]? = some d → vs[i]? = some v → PVR X w (allK w) d v) ∧ PV.cntA args ≤ bkA ds := by
  intro ts
  induction ts with
  | nil =>
    intro vs ds p ats h _ _ ha
    obtain ⟨rfl, rfl, rfl⟩ := Go.ChangeShapes.trodAll_nil h
    simp at ha; subst ha
    exact ⟨[], rfl, rfl, by simp, by simp, by simp [PV.cntA]⟩
  | cons t ts ih =>
    intro vs ds p ats h hwt hok ha
    simp only [List.mapM_cons, Option.pure_def, Option.bind_eq_bind, Option.bind_eq_some_iff, Option.some.injEq] at ha
    obtain ⟨a, hat, rest, hrest, rfl⟩ := ha
    cases vs with
    | nil => simp [DataW.TrodAll] at h
    | cons v vs =>
      cases ds with
      | nil => simp [DataW.TrodAll] at h
      | cons d ds =>
        simp only [DataW.TrodAll] at h
        obtain ⟨p1, q1, ⟨fuel, ht⟩, hall, rfl⟩ := h
        simp only [DataW.weightsEach, List.all_append, Bool.and_eq_true] at hwt
        unfold argT at hat
        split at hat
        case h_2 => simp at hat
        rename_i lay cts hlay hcts
        split at hat
        case isFalse => simp at hat
        rename_i hw
        simp only [Option.some.injEq] at hat; subst hat
        obtain ⟨xs, hxs, hcx⟩ := trod_typedB (X := X) hB fuel n t _ d p1 cts (fun _ => rfl) ht hwt.1 hcts
        obtain ⟨args, e1, e2, e3, e4, e5⟩ := ih vs ds q1 rest hall hwt.2 (fun j t' v' h1 h2 => hok (j + 1) t' v' (by simpa using h1) (by simpa using h2)) hrest
        have hv : v = rowV lay v.cells.toList := value_row hlay (hok 0 t v rfl rfl) fun h0 => by
          subst h0; rw [hxs.lenV, hw]; rfl
        refine ⟨rowPV lay xs :: args, by simp [e1], by simp [e2], fun i a d h1 h2 => ?_, fun i d v' h1 h2 => ?_, by rw [hB.cons]; simp only [PV.cntA]; rw [rowPV_cnt (by rw [hxs.len, hw])]; omega⟩
        · cases i with
          | zero => simp at h1 h2; subst h1; subst h2; exact ⟨xs, rfl, hxs.len, hxs.typed⟩
          | succ i => exact e3 i a d (by simpa using h1) (by simpa using h2)
        · cases i with
          | zero =>
            simp only [List.getElem?_cons_zero, Option.some.injEq] at h1 h2; subst h1; subst h2
            have := hxs.pvr hw
            rw [← hv] at this
            exact this
          | succ i => exact e4 i d v' (by simpa using h1) (by simpa using h2)

theorem liftedC (hB : BulkOK bk bkA) {B : Nat} {h : Hints} {C : Checked} {f : FuncId} {fn : Func} {s : ChangeSpec} {apart fresh handsOn : Bool} {bt : TypeId} {ats : List (Nat × List CT)} {depth : Nat}
    (hT : TidyF C.prog) (hp : PrimsOK C.prog h.prim) (hps : PrimsSOK C.prog h.primS) (hpm : PrimsMOK C.prog h.primM) (hpo : PrimsOOK C.prog h.ownF h.primO) (hpf : h.prim f = none) (hvars : s.vars = [])
    (hs : ∀ ds : List (DataW H), ds.length = fn.params.size → s.fn H ds = { results := [.lit (.bool true)], args := ds })
    (hres : fn.resultTypes = #[bt]) (hbt : C.prog.underlying bt = some .bool) (hlaid : laidOutB C.prog = true) (hpar : fn.params.toList.mapM (argT C.prog depth) = some ats)
    (hread : ∀ t ∈ fn.params.toList, C.prog.readableRec t = true ∧ t < C.prog.types.size)
    (hmain : ∀ args : List PV, args.length = ats.length → (∀ (i : Nat) a d, ats[i]? = some a → args[i]? = some d → TypedA a d) → PV.cntA args ≤ B → ∃ L n, callP C.prog h L n f args = some (.sc (.bool true)))
    (W : World) (base : Nat) (args : Array Value) (ds gs : List (DataW H)) (before : List MemPlace) (hval0 : ∀ (j : Nat) t v, fn.params[j]? = some t → args[j]? = some v → Value.okWide C.prog W .any base t v)
    (hW : DataW.Whole enc C.prog fn.params.toList s.vars apart W args.toList ds gs before) (hsmall : bkA (ds ++ gs) ≤ B) (hwt : (DataW.weightsEach C.prog (fn.params.toList ++ s.plain.varTypes C.prog) (ds ++ gs)).all (· ≤ reachBytes) = true) :
    Calls C.prog f args W fun e W' => ∃ v, e = .returned v ∧ s.post enc C.prog fn apart fresh handsOn false W args v W' := by
  have hlt := hW.lt
  obtain ⟨p, q, hA, hV, rfl, hfz, hnd⟩ := id hW
  obtain ⟨rfl, rfl⟩ : gs = [] ∧ q = [] := by rw [hvars] at hV; exact Go.ChangeShapes.trodVars_none hV
  have hval' : ∀ (j : Nat) t v, fn.params.toList[j]? = some t → args.toList[j]? = some v → Value.okWide C.prog W .any base t v := fun j t v h1 h2 => hval0 j t v (by simpa using h1) (by simpa using h2)
  obtain ⟨l1, l2⟩ := trodAll_length hA
  rw [weights_front C.prog _ _ _ (by first | exact l2.symm | omega)] at hwt
  obtain ⟨avs, e1, e2, e3, e4, e5⟩ := args_typedB hB (X := W.heap.size) fn.params.toList args.toList ds p ats hA hwt hval' hpar
  obtain ⟨L, n, hr⟩ := hmain avs e2 e3 (by rw [List.append_nil] at hsmall; omega)
  refine (callP_calls (L := L) hT hp hps hpm hpo hpf hr (K := allK W) (vs := args) (Nat.le_refl _) (fun b o hb => hb) (by simpa using e1.symm) fun i c v h1 h2 => e4 i c v h1 (by simpa using h2)).mono fun e W' ⟨v, he, hx, hv⟩ => ⟨v, he, ?_⟩
  have hb := hx.below
  cases hv
  have hss := hs ds (by simpa using l2)
  have hargs := trodAll_below hlaid hb _ _ _ _ hread hA fun x hx => hlt x (by simp [hx])
  refine ⟨ds, [], p ++ [], [], p, [], hW, ?_, ?_, ?_, ?_, fun h => by cases h⟩
  · rw [List.append_nil, hss, hres]
    refine ⟨[], [], ⟨1, ?_⟩, rfl, rfl⟩
    simp [DataW.trod, hbt, Value.cells]
  · rw [List.append_nil, hss]; exact hargs
  · rw [hvars]; simp only [List.append_nil, hss]; exact rfl
  · exact Below.frame hb _
end
end Go.Lite

namespace Go.Lite
open Go Go.Proofs
set_option linter.unusedVariables false
set_option linter.unusedSimpArgs false
set_option maxRecDepth 100000
namespace Cl
def ownT : Tr (List (Nat × Nat)) := (.node 27 [(3, 3)] (.node 12 [(26, 0)] (.node 10 [(3, 4)] (.node 9 [(3, 0)] .nil .nil) (.node 11 [(28, 0)] .nil .nil)) (.node 22 [(4, 0)] (.node 21 [(4, 0)] .nil .nil) (.node 23 [(12, 0)] .nil .nil))) (.node 60 [(5, 0)] (.node 38 [(12, 0)] (.node 34 [(3, 0)] .nil .nil) (.node 53 [(12, 0)] .nil .nil)) (.node 69 [(32, 1000), (32, 0), (14, 3)] (.node 61 [(5, 3)] .nil .nil) .nil)))
def liveT : Tr (List (Nat × List Nat)) := (.node 50 [(2, [0, 1, 5])] (.node 23 [(5, [0, 1, 2, 3, 4, 12, 13])] (.node 11 [(21, [0, 3, 71, 72, 73]), (15, [0, 3, 7, 56, 57, 58]), (9, [0, 3, 7, 29, 30, 31, 42, 43, 44]), (5, [0, 3, 7, 29, 30, 31])] (.node 7 [(3, [0, 3, 4])] (.node 5 [(22, [4, 7, 8, 14, 15, 145, 146, 147]), (9, [0, 2, 4, 7, 8, 9, 10, 11, 69, 70, 71])] (.node 4 [(7, [0, 3, 5, 7])] .nil .nil) (.node 6 [(18, [1, 7, 16, 24, 25]), (15, [1, 7, 16, 24])] .nil .nil)) (.node 10 [(3, [0, 3, 4])] (.node 9 [(3, [0, 3, 4])] .nil .nil) .nil)) (.node 14 [(4, [0, 1, 5])] (.node 13 [(4, [0, 1, 5])] (.node 12 [(17, [0, 3, 7, 11, 12]), (12, [0, 3, 7, 10]), (8, [0, 3, 7, 8, 9]), (5, [0, 3, 7, 8])] .nil .nil) .nil) (.node 22 [(5, [0, 4, 5])] (.node 21 [(5, [4, 17, 18, 19])] .nil .nil) .nil))) (.node 34 [(3, [0, 3, 4])] (.node 31 [(5, [0, 6, 16, 17])] (.node 27 [(3, [0, 3, 4])] (.node 26 [(2, [0, 3])] .nil .nil) (.node 30 [(9, [0, 3, 4, 5]), (4, [0, 3])] .nil .nil)) (.node 33 [(4, [1, 3])] (.node 32 [(3, [3, 4, 5, 7, 13, 14, 15])] .nil .nil) .nil)) (.node 38 [(5, [0, 1, 2, 3, 4, 12, 42, 43])] (.node 37 [(4, [0, 1, 5])] (.node 35 [(3, [2, 4, 7, 9])] .nil .nil) .nil) (.node 46 [(4, [0, 21, 22])] (.node 40 [(3, [1, 2, 7, 10, 11])] .nil .nil) .nil)))) (.node 71 [(4, [0, 1, 2, 6, 7]), (1, [0, 1, 2, 6])] (.node 64 [(4, [2, 8, 21, 22, 23])] (.node 57 [(2, [0, 1, 2, 3, 8, 9])] (.node 53 [(3, [0, 1, 2, 3, 4, 12, 13])] (.node 51 [(3, [0, 4, 5])] .nil .nil) (.node 54 [(4, [0, 3])] .nil .nil)) (.node 62 [(5, [1, 2, 3, 10, 32, 33])] (.node 60 [(3, [0, 1, 5, 6])] .nil .nil) .nil)) (.node 68 [(3, [0, 3, 4])] (.node 67 [(3, [0, 1, 2, 7, 8])] (.node 65 [(2, [0, 1, 7, 8])] .nil .nil) .nil) (.node 70 [(2, [0, 1, 7, 8])] (.node 69 [(17, [0, 1, 2, 3, 10, 14, 15]), (12, [0, 1, 2, 3, 10, 12, 13]), (9, [0, 1, 2, 3, 10, 12]), (5, [0, 1, 2, 3, 10, 11])] .nil .nil) .nil))) (.node 79 [(15, [0, 1, 10, 11]), (13, [0, 1, 10, 11]), (5, [0, 1, 10, 11]), (3, [0, 1, 10, 11])] (.node 75 [(2, [0, 6, 7])] (.node 73 [(5, [0, 1, 6, 7, 8, 9])] (.node 72 [(8, [0, 6, 7, 10]), (4, [0, 6, 7, 8, 9])] .nil .nil) .nil) (.node 78 [(5, [0, 1, 9, 10]), (3, [0, 1, 9, 10])] (.node 76 [(20, [0, 1, 2, 7, 8, 10]), (14, [0, 1, 2, 7, 8, 9]), (5, [0, 1, 2, 7, 8]), (3, [0, 1, 2, 7, 8])] .nil .nil) .nil)) (.node 87 [(1, [0, 2, 3, 8])] (.node 86 [(3, [0, 1, 5, 6])] (.node 83 [(9, [0, 1, 5, 6, 7]), (4, [0, 1, 5])] .nil .nil) .nil) (.node 100 [(1, [0, 2, 3])] (.node 94 [(2, [1, 5, 6])] .nil .nil) .nil)))))
def shutT : Tr (List (Nat × List Nat)) := .nil
def sharedT : Tr Bool := .nil
def methT : Tr (Nat × List Bool) := .nil
def ownFT : Tr OwnSp := .nil
def inlT : Tr Bool := .nil
def joinTab : Tr (List (Nat × Join)) := .nil
def h0 : Hints := { own := fun f t => (ownT.get? f).bind fun l => pairFind l t, live := fun f i => ((liveT.get? f).bind fun l => pairFind l i).getD [], join := fun f i => (joinTab.get? f).bind fun l => pairFind l i, shared := fun f => (sharedT.get? f).getD false, stil := fun f i => ((shutT.get? f).bind fun l => pairFind l i).getD [], meth := fun f => methT.get? f, inl := fun f => (inlT.get? f).getD false, primS := fun f => none, primM := fun g => none, ownF := fun f => ownFT.get? f, primO := fun g => none }
def hh : Hints := { h0 with prim := fun f => bif Nat.beq f 61 then some (cloneQ 3) else none }

/-! ## 61: slices.Clone[[]muster/api.Cut,muster/api.Cut] -/
noncomputable def d61_0 (C : Kallee) (L : Nat)  (v0 : PV) : Option PV := (ob (binPV Try.prog .eql 52 (.tmp 3) (.const (.slice none 0 0)) v0 (.sc (.slice none 0 0))) fun v102 => (cb v102 (some (.sc (.slice none 0 0))) (oxs (buildXs Try.prog 52 3 0 []) fun x103 => (oxs (appendTo Try.prog 52 52 3 x103 v0) fun x104 => (some (.list 3 false x104))))))
theorem e61_0 (C : Kallee) (L : Nat) (v0 : PV) : execR Try.prog C h0 L 61 (cAt (bodyOf Try.f61) []) (Env.ofArgs [(.pv v0)] 0 .nil) [] (endP Try.prog Try.f61) = d61_0 C L v0 := by kernel_rfl
theorem r61 (C : Kallee) (L : Nat) (v0 : PV) : bodyPR Try.prog C h0 L 61 [v0] = d61_0 C L v0 := Eq.trans (bodyPR_eq (c := cAt (bodyOf Try.f61) []) [v0] Try.func61 (by kernel_rfl) (by kernel_rfl)) (e61_0 C L v0)

end Cl
noncomputable abbrev kz : Kallee := ⟨callP Try.prog Cl.h0 1 1, callS Try.prog Cl.h0 1 1, callM Try.prog Cl.h0 1 1, callO Try.prog Cl.h0 1 1, Cl.h0.calmB, Cl.h0.primS⟩
theorem kz_ok : KOK Try.prog kz := call_sound tidyTry (fun g q h => by simp [Cl.h0] at h) (fun g q h => by simp [Cl.h0] at h) (fun g q h => by simp [Cl.h0] at h) (fun g q sp h => by simp [Cl.h0] at h) 1
theorem kz_is : KIs Try.prog Cl.h0 1 kz := kis Try.prog Cl.h0 1 0
theorem nil52 : buildXs Try.prog 52 3 0 [] = some [] := by kernel_rfl
theorem eqn52 (x y : Operand) (c : Bool) (a : PV) (xs : List PV) : binPV Try.prog .eql 52 x y (.list 3 c (a :: xs)) (.sc (.slice none 0 0)) = some (.sc (.bool false)) := sl52.eqNil
theorem clone61 : PureOK Try.prog fun g args => if g = 61 then cloneQ 3 args else none := by
  refine clone_ok (C := kz) (h := Cl.h0) (L := 1) tidyTry kz_ok (fun c x xs hl => ?_) ?_ fun a c => ?_
  · refine bodyPR_imp kz_is ?_
    rw [Cl.r61]
    have h := sl52.appTo sl52 (d := .list 3 c (x :: xs)) (xs := []) (ys := x :: xs) .list (by simp at hl ⊢; omega)
    simp only [Cl.d61_0, eqn52, ob_some, cb_bool, Bool.false_eq_true, if_false, nil52, oxs_some, h, List.nil_append]
  · refine bodyPR_imp kz_is ?_
    rw [Cl.r61]; kernel_rfl
  · refine bodyPR_imp kz_is ?_
    rw [Cl.r61]; kernel_rfl
theorem prims_hh : PrimsOK Try.prog hh.prim := by
  intro g q h
  simp only [hh] at h
  cases hg : Nat.beq g 61 with
  | false => rw [hg] at h; simp at h
  | true =>
    rw [hg] at h
    simp only [cond_true, Option.some.injEq] at h
    subst h
    have : g = 61 := Nat.eq_of_beq_eq_true hg
    subst this
    exact clone61
theorem primsS_hh : PrimsSOK Try.prog hh.primS := fun g q h => by simp [hh, h0] at h
theorem primsM_hh : PrimsMOK Try.prog hh.primM := fun g q h => by simp [hh, h0] at h
theorem primsO_hh : PrimsOOK Try.prog hh.ownF hh.primO := primsO_ok

/-! # what is handed in -/
abbrev ctC : CT := .list 3 16 [.int .i64, .int .i64]
abbrev ctP : CT := .list 0 24 [ctC]
abbrev ctB : CT := .list 4 24 [.int .u32, .int .i64, .int .i64]
theorem len1 {α : Type} {l : List α} (h : l.length = 1) : ∃ a, l = [a] := by
  cases l with
  | nil => simp at h
  | cons a r =>
    have : r = [] := by
      have : r.length = 0 := by simpa using h
      exact List.length_eq_zero_iff.1 this
    exact ⟨a, by rw [this]⟩
theorem len2 {α : Type} {l : List α} (h : l.length = 2) : ∃ a b, l = [a, b] := by
  cases l with
  | nil => simp at h
  | cons a r => obtain ⟨b, rfl⟩ := len1 (l := r) (by simpa using h); exact ⟨a, b, rfl⟩
theorem len3 {α : Type} {l : List α} (h : l.length = 3) : ∃ a b c, l = [a, b, c] := by
  cases l with
  | nil => simp at h
  | cons a r => obtain ⟨b, c, rfl⟩ := len2 (l := r) (by simpa using h); exact ⟨a, b, c, rfl⟩
theorem int_inv {k : IntKind} {x : PV} (h : Typed (.int k) x) : ∃ n, x = .sc (.int k n) ∧ (Lit.int k n).wf = true := by
  cases h with
  | int hw => exact ⟨_, rfl, hw⟩
theorem map_inv {α : Type} {f : α → PV} {rows : List (List PV)} {lay : Nat} (h : ∀ r ∈ rows, ∃ a, rowPV lay r = f a) : ∃ l : List α, rows.map (rowPV lay) = l.map f := by
  induction rows with
  | nil => exact ⟨[], rfl⟩
  | cons r rows ih =>
    obtain ⟨l, hl⟩ := ih fun x hx => h x (by simp [hx])
    obtain ⟨a, ha⟩ := h r (by simp)
    exact ⟨a :: l, by simp [hl, ha]⟩
theorem cuts_inv {x : PV} (h : Typed ctC x) : ∃ s : List Ct, x = cuts false s := by
  cases h with
  | list rows _ _ hl hx =>
    obtain ⟨l, hl⟩ := map_inv (f := cpv) (lay := 3) (rows := rows) fun r hr => by
      obtain ⟨a, b, rfl⟩ := len2 (hl r hr)
      obtain ⟨n, rfl, _⟩ := int_inv (hx _ hr 0 _ _ rfl rfl)
      obtain ⟨k, rfl, _⟩ := int_inv (hx _ hr 1 _ _ rfl rfl)
      exact ⟨(n, k), rfl⟩
    exact ⟨l, by rw [hl]⟩
theorem prof_inv {x : PV} (h : Typed ctP x) : ∃ p : List (List Ct), x = prof p := by
  cases h with
  | list rows _ _ hl hx =>
    obtain ⟨l, hl⟩ := map_inv (f := cuts false) (lay := 0) (rows := rows) fun r hr => by
      obtain ⟨a, rfl⟩ := len1 (hl r hr)
      obtain ⟨s, rfl⟩ := cuts_inv (hx _ hr 0 _ _ rfl rfl)
      exact ⟨s, rfl⟩
    exact ⟨l, by rw [hl]⟩
theorem wfU {n : Int} (h : (Lit.int .u32 n).wf = true) : ∃ k : Nat, n = k ∧ k < 2 ^ 32 := by
  have e1 : IntKind.u32.min = 0 := by rfl
  have e2 : IntKind.u32.max = 4294967295 := by rfl
  simp only [Lit.wf, e1, e2, Bool.and_eq_true, decide_eq_true_eq] at h
  exact ⟨n.toNat, by omega, by omega⟩
theorem blks_inv {x : PV} (h : Typed ctB x) : ∃ l : List Blk, x = blks l ∧ ∀ b ∈ l, b.nodes < 2 ^ 32 := by
  cases h with
  | list rows hm hb hl hx =>
    have key : ∀ r ∈ rows, ∃ b : Blk, rowPV 4 r = bpv b ∧ b.nodes < 2 ^ 32 := fun r hr => by
      obtain ⟨a, b, c, rfl⟩ := len3 (hl r hr)
      obtain ⟨n, rfl, hw⟩ := int_inv (hx _ hr 0 _ _ rfl rfl)
      obtain ⟨k, rfl, _⟩ := int_inv (hx _ hr 1 _ _ rfl rfl)
      obtain ⟨j, rfl, _⟩ := int_inv (hx _ hr 2 _ _ rfl rfl)
      obtain ⟨u, rfl, hu⟩ := wfU hw
      exact ⟨⟨u, k, j⟩, rfl, hu⟩
    clear hm hb hl hx
    induction rows with
    | nil => exact ⟨[], rfl, by simp⟩
    | cons r rows ih =>
      obtain ⟨l, h1, h2⟩ := ih fun x hx => key x (by simp [hx])
      obtain ⟨b, h3, h4⟩ := key r (by simp)
      simp only [blks, PV.list.injEq, true_and] at h1
      exact ⟨b :: l, by simp [blks, h1, h3], fun y hy => by
        rcases List.mem_cons.1 hy with rfl | hy
        · exact h4
        · exact h2 y hy⟩
abbrev ctA : List CT := [.int .i64, .int .i64, .int .i64, .int .i64, .int .u32, ctB]
theorem ask_inv {x : PV} (h : TypedA (7, ctA) x) : ∃ a : Ask, x = apv a ∧ a.nodes < 2 ^ 32 ∧ ∀ b ∈ a.blocks, b.nodes < 2 ^ 32 := by
  obtain ⟨xs, rfl, hl, hx⟩ := h
  have g0 : xs.length = 6 := hl
  obtain ⟨x0, r0, rfl, g1⟩ := consL g0
  obtain ⟨x1, r1, rfl, g2⟩ := consL g1
  obtain ⟨x2, r2, rfl, g3⟩ := consL g2
  obtain ⟨x3, r3, rfl, g4⟩ := consL g3
  obtain ⟨x4, r4, rfl, g5⟩ := consL g4
  obtain ⟨x5, r5, rfl, g6⟩ := consL g5
  obtain rfl := nilL g6
  obtain ⟨n0, rfl, _⟩ := int_inv (hx 0 _ _ rfl rfl)
  obtain ⟨n1, rfl, _⟩ := int_inv (hx 1 _ _ rfl rfl)
  obtain ⟨n2, rfl, _⟩ := int_inv (hx 2 _ _ rfl rfl)
  obtain ⟨n3, rfl, _⟩ := int_inv (hx 3 _ _ rfl rfl)
  obtain ⟨n4, rfl, hw⟩ := int_inv (hx 4 _ _ rfl rfl)
  obtain ⟨l, rfl, hb⟩ := blks_inv (hx 5 _ _ rfl rfl)
  obtain ⟨u, rfl, hu⟩ := wfU hw
  exact ⟨⟨n0, n1, n2, u, n3, l⟩, rfl, hu, hb⟩
theorem cnt_cuts : ∀ (s : List Ct), PV.cntS (s.map cpv) = s.length
  | [] => rfl
  | c :: r => by simp only [List.map_cons, PV.cntS, cnt_cuts r, cpv, PV.cnt, PV.cntA, List.length_cons]; omega
theorem cnt_prof : ∀ (p : List (List Ct)), PV.cntS (p.map (cuts false)) = cutsN p + p.length
  | [] => rfl
  | s :: r => by
    have e : cutsN (s :: r) = s.length + cutsN r := by simp [cutsN]
    simp only [List.map_cons, PV.cntS, cnt_prof r, PV.cnt, cnt_cuts, List.length_cons, e]; omega
theorem awake8 {L m : Nat} (hL : 200 ≤ L) (hm : 40 ≤ m) : callP Try.prog hh L m 8 [] = some (Bo true) := callP_mono hL hm t_awake
theorem main3 (a b : PV) (ha : TypedA (0, [ctP]) a) (hb : TypedA (7, ctA) b) (hs : PV.cntA [a, b] ≤ 1048576) : ∃ L n, callP Try.prog hh L n 3 [a, b] = some (Bo true) := by
  obtain ⟨p, rfl⟩ := prof_inv ha.cell
  obtain ⟨k, rfl, h1, h2⟩ := ask_inv hb
  have hc : cutsN p + p.length ≤ 1048576 := by
    simp only [PV.cntA, PV.cnt, cnt_prof] at hs; omega
  exact ⟨2000000, 60, c3 (by omega) p (by omega) (by omega) (by omega) k h1 h2 fun q hq => awake8 (by omega) (by omega)⟩
end Go.Lite
