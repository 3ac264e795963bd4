import Derived.Test.YtdeoaagjfpjfaaaKa
set_option linter.unusedVariables false
set_option linter.unusedSimpArgs false

namespace Go.Lite.Pq
open Go Go.Proofs Go.Lite
set_option linter.unusedVariables false
set_option linter.unusedSimpArgs false
set_option maxRecDepth 100000
/-! # facts on types -/
theorem u24 : Try.prog.underlying 24 = some (.slice 89) := by kernel_rfl
theorem u32 : Try.prog.underlying 45 = some (.slice 9) := by kernel_rfl
theorem u9 : Try.prog.underlying 9 = some .string := by kernel_rfl
theorem y45 : layOf Try.prog 89 = some 4 := by kernel_rfl
theorem y9 : layOf Try.prog 9 = some 0 := by kernel_rfl
theorem y32 : layOf Try.prog 45 = some 0 := by kernel_rfl
theorem hhprim (f : FuncId) : hh.prim f = none := rfl

structure Acc where
  name : ByteArray
  parent : ByteArray
  limit : Int
def Acc.pv (a : Acc) : PV := .agg [Sr a.name, Sr a.parent, I a.limit]
abbrev accs (l : List Acc) : PV := .list 4 false (l.map Acc.pv)

@[simp] theorem ia24 (c : Bool) (xs : List PV) (i : Nat) : indexAddrPV Try.prog 24 (.list 4 c xs) (I i) = (xs[i]?).map (.ro 4) := indexAddr_list u24 y45 c xs i
@[simp] theorem ia32 (c : Bool) (xs : List PV) (i : Nat) : indexAddrPV Try.prog 45 (.list 0 c xs) (I i) = (xs[i]?).map (.ro 0) := indexAddr_list u32 y9 c xs i
@[simp] theorem ld45 (d : PV) : loadPV Try.prog 89 (.ro 4 d) = some d := load_ro y45 d
@[simp] theorem ld9 (d : PV) : loadPV Try.prog 9 (.ro 0 d) = some d := load_ro y9 d
@[simp] theorem ld32 (d : PV) : loadPV Try.prog 45 (.ro 0 d) = some d := load_ro y32 d
theorem ln24 (c : Bool) (xs : List PV) : (lenPV Try.prog 24 (.list 4 c xs)).map (fun n => PV.sc (goInt n)) = some (I xs.length) := len_list u24 c xs
@[simp] theorem ln24i (c : Bool) (xs : List PV) : (lenPV Try.prog 24 (.list 4 c xs)).map (fun n => I n) = some (I xs.length) := len_list u24 c xs
theorem ln32 (c : Bool) (xs : List PV) : (lenPV Try.prog 45 (.list 0 c xs)).map (fun n => PV.sc (goInt n)) = some (I xs.length) := len_list u32 c xs
@[simp] theorem ln32i (c : Bool) (xs : List PV) : (lenPV Try.prog 45 (.list 0 c xs)).map (fun n => I n) = some (I xs.length) := len_list u32 c xs
theorem ln32n : (lenPV Try.prog 45 (.sc (.slice none 0 0))).map (fun n => PV.sc (goInt n)) = some (I 0) := len_nil u32
@[simp] theorem ln32ni : (lenPV Try.prog 45 (.sc (.slice none 0 0))).map (fun n => I n) = some (I 0) := len_nil u32
theorem ln9 (s : ByteArray) : (lenPV Try.prog 9 (Sr s)).map (fun n => PV.sc (goInt n)) = some (I s.size) := len_str u9 s
@[simp] theorem ln9i (s : ByteArray) : (lenPV Try.prog 9 (Sr s)).map (fun n => I n) = some (I s.size) := len_str u9 s
@[simp] theorem acc0 (a : Acc) : PV.at_ 4 0 0 a.pv = some (Sr a.name) := rfl
@[simp] theorem acc1 (a : Acc) : PV.at_ 4 1 0 a.pv = some (Sr a.parent) := rfl
@[simp] theorem acc2 (a : Acc) : PV.at_ 4 2 0 a.pv = some (I a.limit) := rfl
@[simp] theorem accl (a : Acc) : PV.hasLay 4 a.pv = true := rfl
@[simp] theorem fa45_0 (a : Acc) : fieldAddrPV Try.prog 89 (.ro 4 a.pv) 0 = some (.ro 0 (Sr a.name)) := by kernel_rfl
@[simp] theorem fa45_1 (a : Acc) : fieldAddrPV Try.prog 89 (.ro 4 a.pv) 1 = some (.ro 0 (Sr a.parent)) := by kernel_rfl

/-! # the functions -/
section
variable {L m : Nat}
theorem c74 (hm : 2 ≤ m) (a : Acc) (s : ByteArray) : callP Try.prog hh L m 37 [a.pv, .ro 0 (Sr s)] = some (Bo (decide (a.name = s))) := by
  obtain ⟨n, rfl⟩ : ∃ n, m = n + 1 := ⟨m - 1, by omega⟩
  refine callP_of' (by omega) (by kernel_rfl) ?_
  rw [r37]; simp [d37_0]

theorem l91 {R : Type} (C : Kallee) (kr : PV → Option R) (ke : Option R) (clo : PV) (p : Acc → Bool) (l : List Acc) (hl : l.length < 1000000) (hcl : ∀ a ∈ l, callD C.pure clo [a.pv] 0 = some (Bo (p a))) :
    ∀ (r : List Acc) (N i : Nat), l.drop i = r → r.length < N → d64_1i C L kr ke N (accs l) clo (I l.length) (I i) = (match ffrom p i r with | some j => kr (I j) | none => ke) := by
  intro r
  induction r with
  | nil =>
    intro N i h hN
    obtain ⟨N, rfl⟩ : ∃ n, N = n + 1 := ⟨N - 1, by omega⟩
    have := drop_nil' h
    have h2 : ¬ (i : Int) < l.length := by omega
    simp [d64_1i, d64_2, h2, ffrom]
  | cons a r ih =>
    intro N i h hN
    obtain ⟨N, rfl⟩ : ∃ n, N = n + 1 := ⟨N - 1, by omega⟩
    obtain ⟨h1, h2, h3, h4⟩ := drop_cons' h
    have h5 : (i : Int) < l.length := by omega
    simp only [List.length_cons] at hN
    have := ih N (i + 1) h3 (by omega)
    simp only [d64_1i, d64_2, lss_int, ob_some, cb_bool, decide_eq_true_eq, h5, if_true, ia24, List.getElem?_map, h2, Option.map_some, ld45, hcl a h4, add_int, wrap_succ (show i < 9223372036854775807 by omega), this, ffrom]
    cases p a <;> simp
theorem c91 (hm : 2 ≤ m) (clo : PV) (p : Acc → Bool) (l : List Acc) (hl : l.length < 1000000) (hL : l.length < L) (hcl : ∀ k, m ≤ k + 1 → ∀ a ∈ l, callD (callP Try.prog hh L k) clo [a.pv] 0 = some (Bo (p a))) :
    callP Try.prog hh L m 64 [accs l, clo] = some (I (match ffrom p 0 l with | some j => (j : Int) | none => -1)) := by
  obtain ⟨n, rfl⟩ : ∃ n, m = n + 1 := ⟨m - 1, by omega⟩
  refine callP_of' (by omega) (by kernel_rfl) ?_
  rw [r64]
  have := l91 (L := L) (kk L n) (fun v => some v) (d64_3 (kk L n) L) clo p l hl (hcl n (by omega)) l L 0 rfl hL
  simp only [d64_0, g64_0, d64_1, ln24, ob_some, List.length_map]
  rw [show (PV.sc (Value.int IntKind.i64 0)) = I ((0 : Nat) : Int) from rfl, this]
  cases ffrom p 0 l <;> rfl
end
theorem width_pos (s : ByteArray) (i : Nat) : 1 ≤ (Utf8.decode s i).2 := by
  unfold Utf8.decode
  simp only
  repeat' split
  all_goals simp

def rfrom (p : Int → Bool) (s : ByteArray) : Nat → Nat → Option Nat
  | 0, _ => none
  | F + 1, pos => if pos < s.size then (if p (Utf8.decode s pos).1 then some pos else rfrom p s F (pos + (Utf8.decode s pos).2)) else none
abbrev Rn (n : Int) : PV := .sc (.int .i32 n)
def badRune (r : Int) : Bool := r != 45 && r != 95 && (decide (r < 48) || decide (57 < r)) && (decide (r < 97) || decide (122 < r))
def nm (s : ByteArray) : Bool :=
  !decide (s = ⟨#[]⟩) && decide (s.size ≤ 16) && (match s.data[0]? with | some b => decide (97 ≤ (b.toNat : Int)) && decide ((b.toNat : Int) ≤ 122) | none => false) && (rfrom badRune s (s.size + 1) 0).isNone

section
variable {L m : Nat}
theorem c65 (hm : 2 ≤ m) (r : Int) : callP Try.prog hh L m 35 [Rn r] = some (Bo (badRune r)) := by
  obtain ⟨n, rfl⟩ : ∃ n, m = n + 1 := ⟨m - 1, by omega⟩
  refine callP_of' (by omega) (by kernel_rfl) ?_
  rw [r35]
  simp only [d35_0, neq_int, lss_int, gtr_int, ob_some, gcase_t, gcase_f, badRune]
  by_cases h1 : r = 45 <;> by_cases h2 : r = 95 <;> by_cases h3 : r < 48 <;> by_cases h4 : 57 < r <;> by_cases h5 : r < 97 <;> by_cases h6 : 122 < r <;> simp [h1, h2, h3, h4, h5, h6]

theorem l94 {R : Type} (C : Kallee) (kr : PV → ByteArray → Nat → Option R) (ke : ByteArray → Nat → Option R) (clo : PV) (p : Int → Bool) (s : ByteArray) (hcl : ∀ r : Nat, callD C.pure clo [Rn r] 0 = some (Bo (p r))) (r0 : Option R) (v0 : Nat → Option R)
    (hkr : ∀ (i n : Nat), kr (I (i : Int)) s n = v0 i) (hke : ∀ n, ke s n = r0) :
    ∀ (F N pos : Nat), s.size < pos + F → F < N → d90_1i C L kr ke N clo (Bo true) s pos = (match rfrom p s F pos with | some j => v0 j | none => r0) := by
  intro F
  induction F with
  | zero =>
    intro N pos h hN
    obtain ⟨N, rfl⟩ : ∃ n, N = n + 1 := ⟨N - 1, by omega⟩
    have h2 : ¬ pos < s.size := by omega
    simp [d90_1i, d90_2, nextV, nextPos, h2, rfrom, hke]
  | succ F ih =>
    intro N pos h hN
    obtain ⟨N, rfl⟩ : ∃ n, N = n + 1 := ⟨N - 1, by omega⟩
    by_cases h2 : pos < s.size
    · have hw := width_pos s pos
      have := ih N (pos + (Utf8.decode s pos).2) (by omega) (by omega)
      have hc := hcl (Utf8.decode s pos).1
      have heq : ∀ (b c : Bool), binPV Try.prog .eql 4 (.tmp 17) (.tmp 18) (.sc (.bool b)) (.sc (.bool c)) = some (.sc (.bool (b == c))) := by
        intro b c; cases b <;> cases c <;> kernel_rfl
      simp only [d90_1i, d90_2, nextV, nextPos, h2, if_true, extract_tup, List.getElem?_cons_zero, List.getElem?_cons_succ, ob_some, cb_bool, hc, heq, rfrom, goInt, hkr, this]
      cases p (Utf8.decode s pos).1 <;> simp
    · simp [d90_1i, d90_2, nextV, nextPos, h2, rfrom, hke]

theorem c94 (hm : 2 ≤ m) (clo : PV) (p : Int → Bool) (s : ByteArray) (hL : s.size + 1 < L) (hcl : ∀ k, m ≤ k + 1 → ∀ r : Nat, callD (callP Try.prog hh L k) clo [Rn r] 0 = some (Bo (p r))) :
    callP Try.prog hh L m 90 [Sr s, clo, Bo true] = some (I (match rfrom p s (s.size + 1) 0 with | some j => (j : Int) | none => -1)) := by
  obtain ⟨n, rfl⟩ : ∃ n, m = n + 1 := ⟨m - 1, by omega⟩
  refine callP_of' (by omega) (by kernel_rfl) ?_
  rw [r90]
  simp only [d90_0, g90_0, strPV?, obs_some, d90_1]
  rw [l94 (L := L) (kk L n) _ _ clo p s (hcl n (by omega)) (d90_3 (kk L n) L s 0) (fun i => some (I i)) (fun i n => rfl) (fun n => rfl) (s.size + 1) L 0 (by omega) hL]
  cases rfrom p s (s.size + 1) 0 <;> rfl

theorem c85 (hm : 3 ≤ m) (clo : PV) (p : Int → Bool) (s : ByteArray) (hL : s.size + 1 < L) (hcl : ∀ k, m ≤ k + 2 → ∀ r : Nat, callD (callP Try.prog hh L k) clo [Rn r] 0 = some (Bo (p r))) :
    callP Try.prog hh L m 63 [Sr s, clo] = some (I (match rfrom p s (s.size + 1) 0 with | some j => (j : Int) | none => -1)) := by
  obtain ⟨n, rfl⟩ : ∃ n, m = n + 1 := ⟨m - 1, by omega⟩
  refine callP_of' (by omega) (by kernel_rfl) ?_
  rw [r63]
  simp only [d63_0, callD_clo, List.nil_append, List.append_nil, c94 (show 2 ≤ n by omega) clo p s hL (fun k hk => hcl k (by omega)), ob_some]
theorem c64 (hm : 4 ≤ m) (clo : PV) (p : Int → Bool) (s : ByteArray) (hL : s.size + 1 < L) (hcl : ∀ k, m ≤ k + 3 → ∀ r : Nat, callD (callP Try.prog hh L k) clo [Rn r] 0 = some (Bo (p r))) :
    callP Try.prog hh L m 34 [Sr s, clo] = some (Bo (rfrom p s (s.size + 1) 0).isSome) := by
  obtain ⟨n, rfl⟩ : ∃ n, m = n + 1 := ⟨m - 1, by omega⟩
  refine callP_of' (by omega) (by kernel_rfl) ?_
  rw [r34]
  simp only [d34_0, callD_clo, List.nil_append, List.append_nil, c85 (show 3 ≤ n by omega) clo p s hL (fun k hk => hcl k (by omega)), ob_some, geq_int]
  cases rfrom p s (s.size + 1) 0 <;> simp

theorem index_str (s : ByteArray) (h : 0 < s.size) : indexPV Try.prog 9 (Sr s) (.sc (.int .i64 0)) = some (.sc (.int .u8 (s.data[0]'h).toNat)) := by
  have hb : s[(0 : Int).toNat]? = some (s.data[0]'h) := by
    show s[0]? = _
    rw [getElem?_pos s 0 h]; rfl
  have hu : ∀ (α : Type) (k : TypeDesc → Sem α), pureRun Try.prog (underlying 9 >>= k) = pureRun Try.prog (k .string) := by
    intro α k
    have : underlying 9 >>= k = Sem.program fun P => (match P.underlying 9 with | some d => pure d | none => stuck "no such type") >>= k := rfl
    rw [this, pureRun, u9]; rfl
  have : pureRun Try.prog (Instr.index 9 (.string s) (.int .i64 0)) = some (.int .u8 (s.data[0]'h).toNat) := by
    unfold Instr.index
    show pureRun Try.prog (underlying 9 >>= fun d => _) = _
    rw [hu]
    simp only [Int.le_refl, if_true, hb]
    rfl
  simp [indexPV, this]
theorem c30 (hm : 6 ≤ m) (s : ByteArray) (hL : s.size + 1 < L) : callP Try.prog hh L m 11 [Sr s] = some (Bo (nm s)) := by
  obtain ⟨n, rfl⟩ : ∃ n, m = n + 1 := ⟨m - 1, by omega⟩
  refine callP_of' (by omega) (by kernel_rfl) ?_
  rw [r11]
  have h64 := c64 (L := L) (m := n) (by omega) (.clo 35 [] []) badRune s hL (fun k hk r => by
    rw [callD_clo]; simp only [List.nil_append, List.append_nil]; exact c65 (by omega) r)
  by_cases h0 : s = ⟨#[]⟩
  · subst h0
    simp [d11_0, nm]
  · have hs : 0 < s.size := by
      rcases Nat.eq_zero_or_pos s.size with h | h
      · exact absurd (by obtain ⟨⟨l⟩⟩ := s; cases l with | nil => rfl | cons a l => simp [ByteArray.size] at h) h0
      · exact h
    have hb : s.data[0]? = some (s.data[0]'hs) := Array.getElem?_eq_getElem hs
    simp only [d11_0, eql_str, ob_some, gcase_f, h0, decide_false, Bool.false_eq_true, if_false, ln9, gtr_int, index_str s hs, lss_int, cb_bool, callD_clo, List.nil_append, List.append_nil, h64, not_bool, nm, hb]
    by_cases h1 : s.size ≤ 16
    · have h1' : ¬ (16 : Int) < s.size := by omega
      by_cases h2 : (97 : Int) ≤ (s.data[0]'hs).toNat
      · have h2' : ¬ ((s.data[0]'hs).toNat : Int) < 97 := by omega
        by_cases h3 : ((s.data[0]'hs).toNat : Int) ≤ 122
        · have h3' : ¬ (122 : Int) < (s.data[0]'hs).toNat := by omega
          simp [h1, h1', h2, h2', h3, h3']
        · have h3' : (122 : Int) < (s.data[0]'hs).toNat := by omega
          simp [h1, h1', h2, h2', h3, h3']
      · have h2' : ((s.data[0]'hs).toNat : Int) < 97 := by omega
        simp [h1, h1', h2, h2']
    · have h1' : (16 : Int) < s.size := by omega
      simp [h1, h1']
end
/-! # lists of texts -/
abbrev strs (c : Bool) (l : List ByteArray) : PV := .list 0 c (l.map Sr)
theorem strs_get (l : List ByteArray) (i : Nat) : (l.map Sr)[i]? = (l[i]?).map Sr := by simp
def ix {α : Type} (p : α → Bool) (l : List α) : Int := match ffrom p 0 l with | some j => (j : Int) | none => -1
theorem ix_nonneg {α : Type} (p : α → Bool) (l : List α) : decide (0 ≤ ix p l) = l.any p := by
  have : ∀ (l : List α) (i : Nat), (ffrom p i l).isSome = l.any p := by
    intro l
    induction l with
    | nil => intro i; rfl
    | cons a r ih => intro i; simp only [ffrom, List.any_cons]; cases p a <;> simp [ih]
  unfold ix
  rw [← this l 0]
  cases ffrom p 0 l <;> simp

section
variable {L m : Nat}
theorem l79 {R : Type} (C : Kallee) (kr : PV → Option R) (ke : Option R) (clo : PV) (p : ByteArray → Bool) (c : Bool) (l : List ByteArray) (hl : l.length ≤ 9223372036854775807) (hcl : ∀ a ∈ l, callD C.pure clo [Sr a] 0 = some (Bo (p a))) :
    ∀ (r : List ByteArray) (N i : Nat), l.drop i = r → r.length < N → d71_1i C L kr ke N (strs c l) clo (I l.length) (I i) = (match ffrom p i r with | some j => kr (I j) | none => ke) := by
  intro r
  induction r with
  | nil =>
    intro N i h hN
    obtain ⟨N, rfl⟩ : ∃ n, N = n + 1 := ⟨N - 1, by omega⟩
    have := drop_nil' h
    have h2 : ¬ (i : Int) < l.length := by omega
    simp [d71_1i, d71_2, h2, ffrom]
  | cons a r ih =>
    intro N i h hN
    obtain ⟨N, rfl⟩ : ∃ n, N = n + 1 := ⟨N - 1, by omega⟩
    obtain ⟨h1, h2, h3, h4⟩ := drop_cons' h
    have h5 : (i : Int) < l.length := by omega
    simp only [List.length_cons] at hN
    have := ih N (i + 1) h3 (by omega)
    simp only [d71_1i, d71_2, lss_int, ob_some, cb_bool, decide_eq_true_eq, h5, if_true, ia32, List.getElem?_map, h2, Option.map_some, ld9, hcl a h4, add_int, wrap_succ (show i < 9223372036854775807 by omega), this, ffrom]
    cases p a <;> simp
theorem c79 (hm : 2 ≤ m) (clo : PV) (p : ByteArray → Bool) (c : Bool) (l : List ByteArray) (hl : l.length ≤ 9223372036854775807) (hL : l.length < L) (hcl : ∀ k, m ≤ k + 1 → ∀ a ∈ l, callD (callP Try.prog hh L k) clo [Sr a] 0 = some (Bo (p a))) :
    callP Try.prog hh L m 71 [strs c l, clo] = some (I (ix p l)) := by
  obtain ⟨n, rfl⟩ : ∃ n, m = n + 1 := ⟨m - 1, by omega⟩
  refine callP_of' (by omega) (by kernel_rfl) ?_
  rw [r71]
  have := l79 (L := L) (kk L n) (fun v => some v) (d71_3 (kk L n) L) clo p c l hl (hcl n (by omega)) l L 0 rfl hL
  simp only [d71_0, g71_0, d71_1, ln32, ob_some, List.length_map]
  rw [show (PV.sc (Value.int IntKind.i64 0)) = I ((0 : Nat) : Int) from rfl, this, ix]
  cases ffrom p 0 l <;> rfl
theorem l80 {R : Type} (C : Kallee) (kr : PV → Option R) (ke : Option R) (x : ByteArray) (c : Bool) (l : List ByteArray) (hl : l.length ≤ 9223372036854775807) :
    ∀ (r : List ByteArray) (N i : Nat), l.drop i = r → r.length < N → d72_1i C L kr ke N (strs c l) (Sr x) (I l.length) (I i) = (match ffrom (fun a => decide (x = a)) i r with | some j => kr (I j) | none => ke) := by
  intro r
  induction r with
  | nil =>
    intro N i h hN
    obtain ⟨N, rfl⟩ : ∃ n, N = n + 1 := ⟨N - 1, by omega⟩
    have := drop_nil' h
    have h2 : ¬ (i : Int) < l.length := by omega
    simp [d72_1i, d72_2, h2, ffrom]
  | cons a r ih =>
    intro N i h hN
    obtain ⟨N, rfl⟩ : ∃ n, N = n + 1 := ⟨N - 1, by omega⟩
    obtain ⟨h1, h2, h3, h4⟩ := drop_cons' h
    have h5 : (i : Int) < l.length := by omega
    simp only [List.length_cons] at hN
    have := ih N (i + 1) h3 (by omega)
    simp only [d72_1i, d72_2, lss_int, ob_some, cb_bool, decide_eq_true_eq, h5, if_true, ia32, List.getElem?_map, h2, Option.map_some, ld9, eql_str, add_int, wrap_succ (show i < 9223372036854775807 by omega), this, ffrom]
    by_cases hx : x = a <;> simp [hx]
theorem c80 (hm : 2 ≤ m) (x : ByteArray) (c : Bool) (l : List ByteArray) (hl : l.length ≤ 9223372036854775807) (hL : l.length < L) :
    callP Try.prog hh L m 72 [strs c l, Sr x] = some (I (ix (fun a => decide (x = a)) l)) := by
  obtain ⟨n, rfl⟩ : ∃ n, m = n + 1 := ⟨m - 1, by omega⟩
  refine callP_of' (by omega) (by kernel_rfl) ?_
  rw [r72]
  have := l80 (L := L) (kk L n) (fun v => some v) (d72_3 (kk L n) L) x c l hl l L 0 rfl hL
  simp only [d72_0, g72_0, d72_1, ln32, ob_some, List.length_map]
  rw [show (PV.sc (Value.int IntKind.i64 0)) = I ((0 : Nat) : Int) from rfl, this, ix]
  cases ffrom (fun a => decide (x = a)) 0 l <;> rfl
theorem c51 (hm : 3 ≤ m) (x : ByteArray) (c : Bool) (l : List ByteArray) (hl : l.length ≤ 9223372036854775807) (hL : l.length < L) :
    callP Try.prog hh L m 45 [strs c l, Sr x] = some (Bo (l.any fun a => decide (x = a))) := by
  obtain ⟨n, rfl⟩ : ∃ n, m = n + 1 := ⟨m - 1, by omega⟩
  refine callP_of' (by omega) (by kernel_rfl) ?_
  rw [r45]
  simp only [d45_0, callD_clo, List.nil_append, List.append_nil, c80 (show 2 ≤ n by omega) x c l hl hL, ob_some, geq_int, ix_nonneg]
theorem c50 (hm : 4 ≤ m) (x : ByteArray) (c : Bool) (l : List ByteArray) (hl : l.length ≤ 9223372036854775807) (hL : l.length < L) :
    callP Try.prog hh L m 44 [Sr x, .ro 0 (strs c l)] = some (Bo (l.any fun a => decide (x = a))) := by
  obtain ⟨n, rfl⟩ : ∃ n, m = n + 1 := ⟨m - 1, by omega⟩
  refine callP_of' (by omega) (by kernel_rfl) ?_
  rw [r44]
  simp only [d44_0, ld32, ob_some, callD_clo, List.nil_append, List.append_nil, c51 (show 3 ≤ n by omega) x c l hl hL]
theorem c49 (hm : 3 ≤ m) (clo : PV) (p : ByteArray → Bool) (c : Bool) (l : List ByteArray) (hl : l.length ≤ 9223372036854775807) (hL : l.length < L) (hcl : ∀ k, m ≤ k + 2 → ∀ a ∈ l, callD (callP Try.prog hh L k) clo [Sr a] 0 = some (Bo (p a))) :
    callP Try.prog hh L m 43 [strs c l, clo] = some (Bo (l.any p)) := by
  obtain ⟨n, rfl⟩ : ∃ n, m = n + 1 := ⟨m - 1, by omega⟩
  refine callP_of' (by omega) (by kernel_rfl) ?_
  rw [r43]
  simp only [d43_0, callD_clo, List.nil_append, List.append_nil, c79 (show 2 ≤ n by omega) clo p c l hl hL (fun k hk => hcl k (by omega)), ob_some, geq_int, ix_nonneg]

/-! # accounts -/
def afind (l : List Acc) (s : ByteArray) : Option Nat := ffrom (fun a => decide (a.name = s)) 0 l
def aix (l : List Acc) (s : ByteArray) : Nat := (afind l s).getD 0
theorem c73 (hm : 3 ≤ m) (clo : PV) (p : Acc → Bool) (l : List Acc) (hl : l.length < 1000000) (hL : l.length < L) (hcl : ∀ k, m ≤ k + 2 → ∀ a ∈ l, callD (callP Try.prog hh L k) clo [a.pv] 0 = some (Bo (p a))) :
    callP Try.prog hh L m 36 [accs l, clo] = some (.tup [I ((ffrom p 0 l).getD 0 : Nat), Bo (ffrom p 0 l).isSome]) := by
  obtain ⟨n, rfl⟩ : ∃ n, m = n + 1 := ⟨m - 1, by omega⟩
  refine callP_of' (by omega) (by kernel_rfl) ?_
  rw [r36]
  simp only [d36_0, callD_clo, List.nil_append, List.append_nil, c91 (show 2 ≤ n by omega) clo p l hl hL (fun k hk => hcl k (by omega)), ob_some, geq_int, max_int]
  cases ffrom p 0 l with
  | none => simp; rfl
  | some j =>
    have : max (j : Int) 0 = j := by omega
    simp [this]
theorem c40 (hm : 5 ≤ m) (l : List Acc) (s : ByteArray) (hl : l.length < 1000000) (hL : l.length < L) :
    callP Try.prog hh L m 12 [accs l, Sr s] = some (.tup [I (aix l s : Nat), Bo (afind l s).isSome]) := by
  obtain ⟨n, rfl⟩ : ∃ n, m = n + 1 := ⟨m - 1, by omega⟩
  refine callP_of' (by omega) (by kernel_rfl) ?_
  rw [r12]
  have h73 := c73 (L := L) (m := n) (by omega) (.clo 37 [] [.ro 0 (Sr s)]) (fun a => decide (a.name = s)) l hl hL (fun k hk a ha => by
    rw [callD_clo]; exact c74 (by omega) a s)
  have hk : PV.hasLay 0 (Sr s) = true := rfl
  rw [d12_0, hk, ck_true]
  rw [show (kk L n).pure = callP Try.prog hh L n from rfl]
  rw [callD_t (by simpa using h73) rfl]
  simp [aix, afind]
end
def arow (l : List Acc) (i : Nat) (a : Acc) : Bool :=
  (afind (l.take i) a.name).isSome || !nm a.name || (!(afind (l.take i) a.parent).isSome && !decide (a.parent = ⟨#[]⟩)) || decide (a.limit < -1) || decide (1073741824 < a.limit)
def arightFrom (l : List Acc) : Nat → List Acc → Bool
  | _, [] => true
  | i, a :: r => !arow l i a && arightFrom l (i + 1) r
def aright (l : List Acc) : Bool := arightFrom l 0 l && decide (1 ≤ l.length) && decide (l.length ≤ 16)

structure OkA (L : Nat) (l : List Acc) : Prop where
  len : l.length < 1000000
  lenL : l.length < L
  name : ∀ a ∈ l, a.name.size + 1 < L
  nameB : ∀ a ∈ l, a.name.size ≤ 9223372036854775807

section
variable {L m : Nat}
theorem put4 (c : AV) (a : Acc) : putPV 4 0 4 c a.pv = some a.pv := by simp [putPV]
theorem slice24 (l : List Acc) (i : Nat) (h : i ≤ l.length) : slicePVd Try.prog 24 (accs l) none (some (I i)) none = some (accs (l.take i)) := by
  rw [slice_to u24 y45 _ _ (by simpa using h), ← List.map_take]

theorem l17 {R : Type} (n : Nat) (hn : 7 ≤ n) (kr : PV → Option R) (ke : PV → Option R) (l : List Acc) (hl : OkA L l) :
    ∀ (r : List Acc) (N i : Nat), l.drop i = r → r.length < N → d62_1i (kk L n) L kr ke N (accs l) (accs l) (I l.length) (I i) = if arightFrom l i r then ke (accs l) else kr (Bo false) := by
  intro r
  induction r with
  | nil =>
    intro N i h hN
    obtain ⟨N, rfl⟩ : ∃ n, N = n + 1 := ⟨N - 1, by omega⟩
    have := drop_nil' h
    have h2 : ¬ (i : Int) < l.length := by omega
    simp [d62_1i, d62_2, h2, arightFrom]
  | cons a r ih =>
    intro N i h hN
    obtain ⟨N, rfl⟩ : ∃ n, N = n + 1 := ⟨N - 1, by omega⟩
    obtain ⟨h1, h2, h3, h4⟩ := drop_cons' h
    have h5 : (i : Int) < l.length := by omega
    simp only [List.length_cons] at hN
    have := ih N (i + 1) h3 (by omega)
    have hle := hl.len
    have ht : (l.take i).length < 1000000 := by simp; omega
    have htL : (l.take i).length < L := by have := hl.lenL; simp; omega
    simp only [d62_1i, d62_2, lss_int, ob_some, cb_bool, decide_eq_true_eq, h5, if_true, ia24, List.getElem?_map, h2, Option.map_some, ld45, put4, slice24 l i (by omega), acc0, acc1, acc2,
      callD_clo, List.nil_append, List.append_nil, c40 (show 5 ≤ n by omega) (l.take i) _ ht htL, extract_tup, List.getElem?_cons_zero, List.getElem?_cons_succ, gcase_f, gcase_t, c30 (show 6 ≤ n by omega) a.name (hl.name a h4),
      not_bool, neq_str, gtr_int, add_int, wrap_succ (show i < 9223372036854775807 by omega), this, arightFrom, arow]
    by_cases q4 : (afind (l.take i) a.name).isSome = true <;> by_cases q5 : nm a.name = true <;> by_cases q6 : (afind (l.take i) a.parent).isSome = true <;> by_cases q1 : a.parent = ⟨#[]⟩ <;> by_cases q2 : a.limit < -1 <;> by_cases q3 : 1073741824 < a.limit <;> simp [q1, q2, q3, q4, q5, q6]
theorem c17 (hm : 8 ≤ m) (l : List Acc) (hl : OkA L l) : callP Try.prog hh L m 62 [accs l] = some (Bo (aright l)) := by
  obtain ⟨n, rfl⟩ : ∃ n, m = n + 1 := ⟨m - 1, by omega⟩
  refine callP_of' (by omega) (by kernel_rfl) ?_
  rw [r62]
  have := l17 (L := L) n (by omega) (fun v => some v) (fun v => d62_3 (kk L n) L v) l hl l L 0 rfl hl.lenL
  simp only [d62_0, g62_0, d62_1, ln24, ob_some, List.length_map]
  rw [show (PV.sc (Value.int IntKind.i64 0)) = I ((0 : Nat) : Int) from rfl, this]
  simp only [d62_3, ln24, ob_some, geq_int, gcase_t, leq_int, List.length_map, aright]
  have e1 : (1 : Int) ≤ l.length ↔ 1 ≤ l.length := by omega
  have e2 : (l.length : Int) ≤ 16 ↔ l.length ≤ 16 := by omega
  simp only [e1, e2]
  by_cases q2 : arightFrom l 0 l = true <;> by_cases q1 : 1 ≤ l.length <;> simp [q1, q2]
theorem c58 (hm : 9 ≤ m) (l : List Acc) (s : ByteArray) (hl : OkA L l) : callP Try.prog hh L m 69 [accs l, Sr s] =
    some (if aright l then (match afind l s with | some i => .tup [I (i : Nat), I 0] | none => .tup [I 0, I 141]) else .tup [I 0, I 2]) := by
  obtain ⟨n, rfl⟩ : ∃ n, m = n + 1 := ⟨m - 1, by omega⟩
  refine callP_of' (by omega) (by kernel_rfl) ?_
  rw [r69]
  simp only [d69_0, callD_clo, List.nil_append, List.append_nil, c17 (show 8 ≤ n by omega) l hl, c40 (show 5 ≤ n by omega) l s hl.len hl.lenL, ob_some, not_bool, cb_bool, extract_tup, List.getElem?_cons_zero, List.getElem?_cons_succ, aix]
  by_cases q1 : aright l = true <;> cases afind l s <;> simp [q1]
end
theorem inf9 : (Try.prog.info? 9).map (·.bytes) = some 16 := by kernel_rfl
theorem zero9 : zeroPV Try.prog 9 = some (Sr ⟨#[]⟩) := by kernel_rfl
theorem app32 (xs ys : List PV) (c : Bool) (h : (xs.length + ys.length) * 16 ≤ appendRoom) : appendTo Try.prog 45 45 0 xs (.list 0 c ys) = some (xs ++ ys) := by
  have := inf9
  cases hi : Try.prog.info? 9 with
  | none => rw [hi] at this; simp at this
  | some i =>
    rw [hi] at this
    simp only [Option.map_some, Option.some.injEq] at this
    have hz : PV.hasLay 0 (Sr ⟨#[]⟩) = true := rfl
    simp [appendTo, u32, y9, hi, zero9, this, hz, width, layPV, elemsPV?, h]
theorem bs32 (s : ByteArray) : buildSliceAV Try.prog 45 1 [(0, Sr s)] = some (.list 0 true [Sr s]) := by
  simp [buildSliceAV, u32, y9, zero9, width, PV.hasLay, PV.isCell, setAll]
theorem bx32 (s : ByteArray) : buildXs Try.prog 45 0 1 [(0, Sr s)] = some [Sr s] := by
  simp [buildXs, u32, y9, zero9, width, PV.hasLay, PV.isCell, setAll]

/-! # trees -/
theorem ffrom_some {α : Type} {p : α → Bool} : ∀ {l : List α} {i j : Nat}, ffrom p i l = some j → i ≤ j ∧ ∃ a, l[j - i]? = some a ∧ p a = true := by
  intro l
  induction l with
  | nil => intro i j h; simp [ffrom] at h
  | cons a r ih =>
    intro i j h
    simp only [ffrom] at h
    split at h
    · simp only [Option.some.injEq] at h; subst h
      exact ⟨Nat.le_refl _, a, by simp, by assumption⟩
    · obtain ⟨h1, b, h2, h3⟩ := ih h
      refine ⟨by omega, b, ?_, h3⟩
      rw [show j - i = (j - (i + 1)) + 1 by omega]
      simpa using h2
theorem ffrom_none {α : Type} {p : α → Bool} : ∀ {l : List α} {i : Nat}, ffrom p i l = none → ∀ a ∈ l, p a = false := by
  intro l
  induction l with
  | nil => intro i _ a h; simp at h
  | cons a r ih =>
    intro i h b hb
    simp only [ffrom] at h
    split at h
    · simp at h
    · rename_i hp
      rcases List.mem_cons.1 hb with rfl | hb
      · simpa using hp
      · exact ih h b hb
theorem ffrom_append {α : Type} {p : α → Bool} (l2 : List α) : ∀ {l : List α} {i : Nat}, ffrom p i (l ++ l2) = (match ffrom p i l with | some j => some j | none => ffrom p (i + l.length) l2) := by
  intro l
  induction l with
  | nil => intro i; simp [ffrom]
  | cons a r ih =>
    intro i
    simp only [List.cons_append, ffrom]
    split
    · rfl
    · rw [ih]; simp only [List.length_cons]; rw [show i + (r.length + 1) = i + 1 + r.length by omega]
theorem afind_take {l : List Acc} {i j : Nat} {s : ByteArray} (h : afind (l.take i) s = some j) : afind l s = some j ∧ j < i := by
  unfold afind at h ⊢
  obtain ⟨_, a, h2, _⟩ := ffrom_some h
  refine ⟨?_, ?_⟩
  · have := ffrom_append (p := fun a : Acc => decide (a.name = s)) (l.drop i) (l := l.take i) (i := 0)
    rw [List.take_append_drop, h] at this
    exact this
  · have : j - 0 < (l.take i).length := by
      rcases Nat.lt_or_ge (j - 0) (l.take i).length with h' | h'
      · exact h'
      · rw [List.getElem?_eq_none h'] at h2; simp at h2
    simp at this; omega
theorem afind_some {l : List Acc} {j : Nat} {s : ByteArray} (h : afind l s = some j) : ∃ a, l[j]? = some a ∧ a.name = s := by
  obtain ⟨_, a, h2, h3⟩ := ffrom_some h
  exact ⟨a, by simpa using h2, by simpa using h3⟩
structure IsTree (l : List Acc) : Prop where
  once : ∀ (i : Nat) a, l[i]? = some a → afind (l.take i) a.name = none
  up : ∀ (i : Nat) a, l[i]? = some a → a.parent ≠ ⟨#[]⟩ → ∃ j, afind (l.take i) a.parent = some j
  len : l.length ≤ 16
theorem arightFrom_row {l : List Acc} : ∀ {r : List Acc} {i : Nat}, l.drop i = r → arightFrom l i r = true → ∀ (k : Nat) a, i ≤ k → l[k]? = some a → arow l k a = false := by
  intro r
  induction r with
  | nil =>
    intro i h _ k a hk ha
    have := drop_nil' h
    rw [List.getElem?_eq_none (by omega)] at ha; simp at ha
  | cons b r ih =>
    intro i h hr k a hk ha
    obtain ⟨h1, h2, h3, h4⟩ := drop_cons' h
    simp only [arightFrom, Bool.and_eq_true, Bool.not_eq_true'] at hr
    by_cases hik : i = k
    · subst hik; rw [h2] at ha; simp only [Option.some.injEq] at ha; subst ha; exact hr.1
    · exact ih h3 hr.2 k a (by omega) ha
theorem aright_tree {l : List Acc} (h : aright l = true) : IsTree l := by
  simp only [aright, Bool.and_eq_true, decide_eq_true_eq] at h
  have hrow := fun k a ha => arightFrom_row (l := l) (r := l) (i := 0) rfl h.1.1 k a (by omega) ha
  refine ⟨fun i a ha => ?_, fun i a ha hp => ?_, h.2⟩
  · have := hrow i a ha
    simp only [arow, Bool.or_eq_false_iff] at this
    have h1 := this.1.1.1.1
    cases hq : afind (l.take i) a.name with
    | none => rfl
    | some j => rw [hq] at h1; simp at h1
  · have := hrow i a ha
    simp only [arow, Bool.or_eq_false_iff] at this
    have h1 := this.1.1.2
    cases hq : afind (l.take i) a.parent with
    | none => rw [hq] at h1; simp [hp] at h1
    | some j => exact ⟨j, rfl⟩
theorem IsTree.find {l : List Acc} (h : IsTree l) {i : Nat} {a : Acc} (ha : l[i]? = some a) : afind l a.name = some i := by
  have h1 := h.once i a ha
  have := ffrom_append (p := fun b : Acc => decide (b.name = a.name)) (l.drop i) (l := l.take i) (i := 0)
  rw [List.take_append_drop] at this
  unfold afind at h1 ⊢
  rw [this, h1]
  have hi : i < l.length := by
    rcases Nat.lt_or_ge i l.length with h' | h'
    · exact h'
    · rw [List.getElem?_eq_none h'] at ha; simp at ha
  rw [List.drop_eq_getElem_cons hi]
  have : l[i] = a := by rw [List.getElem?_eq_getElem hi] at ha; simpa using ha
  simp [ffrom, this, Nat.min_eq_left (Nat.le_of_lt hi)]

def upF (l : List Acc) : Nat → Nat → List ByteArray
  | 0, _ => []
  | F + 1, i => match l[i]? with
    | some a => if a.parent = ⟨#[]⟩ then [] else (match l[aix l a.parent]? with
      | some b => b.name :: upF l F (aix l a.parent)
      | none => [])
    | none => []
def path (l : List Acc) (i : Nat) : List ByteArray := (match l[i]? with | some a => a.name | none => ⟨#[]⟩) :: upF l (i + 1) i
theorem IsTree.step {l : List Acc} (h : IsTree l) {i : Nat} {a : Acc} (ha : l[i]? = some a) (hp : a.parent ≠ ⟨#[]⟩) : ∃ j b, j < i ∧ afind l a.parent = some j ∧ aix l a.parent = j ∧ l[j]? = some b ∧ b.name = a.parent := by
  obtain ⟨j, hj⟩ := h.up i a ha hp
  obtain ⟨h1, h2⟩ := afind_take hj
  obtain ⟨b, h3, h4⟩ := afind_some h1
  exact ⟨j, b, h2, h1, by simp [aix, h1], h3, h4⟩
theorem upF_fuel {l : List Acc} (h : IsTree l) : ∀ (i F F' : Nat), i < F → i < F' → upF l F i = upF l F' i := by
  intro i
  induction i using Nat.strongRecOn with
  | ind i ih =>
    intro F F' h1 h2
    obtain ⟨F, rfl⟩ : ∃ n, F = n + 1 := ⟨F - 1, by omega⟩
    obtain ⟨F', rfl⟩ : ∃ n, F' = n + 1 := ⟨F' - 1, by omega⟩
    simp only [upF]
    cases ha : l[i]? with
    | none => rfl
    | some a =>
      simp only
      split
      · rfl
      · rename_i hp
        obtain ⟨j, b, q1, q2, q3, q4, q5⟩ := h.step ha hp
        simp only [q3, q4]
        rw [ih j q1 F F' (by omega) (by omega)]
theorem upF_len {l : List Acc} (h : IsTree l) : ∀ (i F : Nat), (upF l F i).length ≤ i := by
  intro i
  induction i using Nat.strongRecOn with
  | ind i ih =>
    intro F
    cases F with
    | zero => simp [upF]
    | succ F =>
      simp only [upF]
      cases ha : l[i]? with
      | none => simp
      | some a =>
        simp only
        split
        · simp
        · rename_i hp
          obtain ⟨j, b, q1, q2, q3, q4, q5⟩ := h.step ha hp
          simp only [q3, q4, List.length_cons]
          have := ih j q1 F
          omega

section
variable {L m : Nat}
theorem l59 {R : Type} (n : Nat) (hn : 5 ≤ n) (ke : List PV → Option R) (l : List Acc) (hl : OkA L l) (ht : IsTree l) :
    ∀ (i N : Nat) (x : List PV), i < l.length → i < N → x.length + i ≤ 1000 → d70_1i (kk L n) L ke N (accs l) (I i) x = ke (x ++ (upF l (i + 1) i).map Sr) := by
  intro i
  induction i using Nat.strongRecOn with
  | ind i ih =>
    intro N x hi hN hx
    obtain ⟨N, rfl⟩ : ∃ n, N = n + 1 := ⟨N - 1, by omega⟩
    have ha : l[i]? = some l[i] := List.getElem?_eq_getElem hi
    generalize l[i] = a at ha
    by_cases hp : a.parent = ⟨#[]⟩
    · simp only [d70_1i, d70_2, ia24, List.getElem?_map, ha, Option.map_some, ob_some, fa45_1, ld9, neq_str, cb_bool, hp, upF]
      simp
    · obtain ⟨j, b, q1, q2, q3, q4, q5⟩ := ht.step ha hp
      have hjl : j < l.length := by omega
      have := ih j q1 N (x ++ [Sr b.name]) hjl (by omega) (by simp; omega)
      rw [upF_fuel ht j (j + 1) i (by omega) (by omega)] at this
      have hup : upF l (i + 1) i = b.name :: upF l i j := by simp [upF, ha, hp, q3, q4]
      have happ := app32 x [Sr b.name] true (by simp [appendRoom]; omega)
      simp only [d70_1i, d70_2, ia24, List.getElem?_map, ha, Option.map_some, ob_some, fa45_1, fa45_0, ld9, neq_str, cb_bool, hp, decide_false, Bool.not_false, if_true,
        callD_clo, List.nil_append, List.append_nil, c40 (show 5 ≤ n by omega) l a.parent hl.len hl.lenL, extract_tup, List.getElem?_cons_zero, List.getElem?_cons_succ, q3, q4, bs32, happ, oxs_some, this, hup]
      simp
theorem c59 (hm : 6 ≤ m) (l : List Acc) (hl : OkA L l) (ht : IsTree l) (i : Nat) (hi : i < l.length) : callP Try.prog hh L m 70 [accs l, I i] = some (strs false (path l i)) := by
  obtain ⟨n, rfl⟩ : ∃ n, m = n + 1 := ⟨m - 1, by omega⟩
  refine callP_of' (by omega) (by kernel_rfl) ?_
  rw [r70]
  have ha : l[i]? = some l[i] := List.getElem?_eq_getElem hi
  have hlen := ht.len
  have hL := hl.lenL
  have := l59 (L := L) n (by omega) (fun x => d70_3 (kk L n) L x) l hl ht i L [Sr l[i].name] hi (by omega) (by simp; omega)
  simp only [d70_0, g70_0, d70_1, ia24, List.getElem?_map, ha, Option.map_some, ob_some, fa45_0, ld9, bx32, oxs_some]
  rw [this]
  simp [d70_3, path, ha]
theorem c48 (hm : 10 ≤ m) (l : List Acc) (s : ByteArray) (hl : OkA L l) : callP Try.prog hh L m 42 [accs l, Sr s] =
    some (if aright l then (match afind l s with | some i => .tup [strs false (path l i), I 0] | none => .tup [.sc (.slice none 0 0), I 141]) else .tup [.sc (.slice none 0 0), I 2]) := by
  obtain ⟨n, rfl⟩ : ∃ n, m = n + 1 := ⟨m - 1, by omega⟩
  refine callP_of' (by omega) (by kernel_rfl) ?_
  rw [r42]
  simp only [d42_0, callD_clo, List.nil_append, List.append_nil, c58 (show 9 ≤ n by omega) l s hl, ob_some]
  by_cases h : aright l = true
  · simp only [h, if_true]
    cases hf : afind l s with
    | none => simp
    | some i =>
      obtain ⟨a, ha, _⟩ := afind_some hf
      have hi : i < l.length := by
        rcases Nat.lt_or_ge i l.length with h' | h'
        · exact h'
        · rw [List.getElem?_eq_none h'] at ha; simp at ha
      simp [c59 (show 6 ≤ n by omega) l hl (aright_tree h) i hi]
  · simp [h]
def SL (v : PV) (l : List ByteArray) : Prop := (∃ c, v = strs c l) ∨ (v = .sc (.slice none 0 0) ∧ l = [])
def admits (l : List Acc) (who : List ByteArray) (s : ByteArray) : Bool :=
  aright l && (match afind l s with
    | some i => who.isEmpty || (path l i).any fun x => who.any fun a => decide (x = a)
    | none => false)
theorem path_len {l : List Acc} (ht : IsTree l) (i : Nat) : (path l i).length ≤ i + 1 := by
  have := upF_len ht i (i + 1)
  simp [path]; omega
theorem c14 (hm : 11 ≤ m) (l : List Acc) (who : List ByteArray) (wv : PV) (s : ByteArray) (hl : OkA L l) (hw : SL wv who) (hwl : who.length ≤ 9223372036854775807) (hwL : who.length < L) :
    callP Try.prog hh L m 15 [accs l, wv, Sr s] = some (Bo (admits l who s)) := by
  obtain ⟨n, rfl⟩ : ∃ n, m = n + 1 := ⟨m - 1, by omega⟩
  refine callP_of' (by omega) (by kernel_rfl) ?_
  rw [r15]
  have hk : PV.hasLay 0 wv = true := by rcases hw with ⟨c, rfl⟩ | ⟨rfl, _⟩ <;> rfl
  have hlen : (lenPV Try.prog 45 wv).map (fun n => PV.sc (goInt n)) = some (I who.length) := by
    rcases hw with ⟨c, rfl⟩ | ⟨rfl, rfl⟩
    · rw [ln32]; simp
    · exact ln32n
  rw [d15_0, hk, ck_true]
  simp only [callD_clo, List.nil_append, List.append_nil, c48 (show 10 ≤ n by omega) l s hl, ob_some, hlen, eql_int]
  by_cases h : aright l = true
  · simp only [h, if_true, admits]
    cases hf : afind l s with
    | none => simp
    | some i =>
      obtain ⟨a, ha, _⟩ := afind_some hf
      have hi : i < l.length := by
        rcases Nat.lt_or_ge i l.length with h' | h'
        · exact h'
        · rw [List.getElem?_eq_none h'] at ha; simp at ha
      have hp := path_len (aright_tree h) i
      have hll := hl.lenL
      have hl16 := (aright_tree h).len
      by_cases hw0 : who = []
      · subst hw0; simp
      · have hw1 : ¬ (who.length : Int) = 0 := by have := List.length_pos_iff.2 hw0; omega
        obtain ⟨c, rfl⟩ : ∃ c, wv = strs c who := by rcases hw with h | ⟨_, h⟩; exact h; exact absurd h hw0
        have h49 := c49 (L := L) (m := n) (by omega) (.clo 44 [] [.ro 0 (strs c who)]) (fun x => who.any fun a => decide (x = a)) false (path l i) (by omega) (by omega) (fun k hk a ha => by
          rw [callD_clo]; exact c50 (by omega) a c who hwl hwL)
        have h49' : callD (callP Try.prog hh L n) (.clo 43 [] []) [strs false (path l i), .clo 44 [] [.ro 0 (strs c who)]] 1 = _ := callD_t (by simpa using h49) rfl
        simp only [extract_tup, List.getElem?_cons_zero, List.getElem?_cons_succ, ob_some, neq_int, cb_bool, hw1, decide_false, gcase_f, h49']
        have : who.isEmpty = false := by cases who <;> simp_all
        simp [this]
  · simp [h, admits]
end

end Go.Lite.Pq

namespace Go.Lite.Pq
open Go Go.Proofs Go.Lite Go.Lite.Pp
set_option linter.unusedVariables false
set_option linter.unusedSimpArgs false
set_option maxRecDepth 100000
theorem index_str' (s : ByteArray) (i : Nat) (h : i < s.size) : indexPV Try.prog 9 (Sr s) (I i) = some (.sc (.int .u8 (s.data[i]'h).toNat)) := by
  have hb : s[(i : Int).toNat]? = some (s.data[i]'h) := by
    show s[i]? = _
    rw [getElem?_pos s i h]; rfl
  have hu : ∀ (α : Type) (k : TypeDesc → Sem α), pureRun Try.prog (underlying 9 >>= k) = pureRun Try.prog (k .string) := by
    intro α k
    have : underlying 9 >>= k = Sem.program fun P => (match P.underlying 9 with | some d => pure d | none => stuck "no such type") >>= k := rfl
    rw [this, pureRun, u9]; rfl
  have : pureRun Try.prog (Instr.index 9 (.string s) (.int .i64 i)) = some (.int .u8 (s.data[i]'h).toNat) := by
    unfold Instr.index
    show pureRun Try.prog (underlying 9 >>= fun d => _) = _
    rw [hu]
    simp only [Int.natCast_nonneg, if_true, hb]
    rfl
  simp [indexPV, this]

theorem size_list (s : ByteArray) : s.data.toList.length = s.size := by rw [Array.length_toList]; rfl
theorem get_list (s : ByteArray) (i : Nat) (h : i < s.size) : s.data.toList[i]? = some (s.data[i]'h) := by
  rw [Array.getElem?_toList]; exact Array.getElem?_eq_getElem h
def letter (b : UInt8) : Bool := decide (97 ≤ (b.toNat : Int)) && decide ((b.toNat : Int) ≤ 122)
def other (b : UInt8) : Bool := (decide (48 ≤ (b.toNat : Int)) && decide ((b.toNat : Int) ≤ 57)) || decide ((b.toNat : Int) = 45) || decide ((b.toNat : Int) = 95)
def rn : Nat → List UInt8 → Bool
  | _, [] => true
  | i, b :: r => (letter b || (!decide (i = 0) && other b)) && rn (i + 1) r

section
variable {L m : Nat}
theorem rn_runes (s : ByteArray) : ∀ (r : List UInt8) (i F : Nat), s.data.toList.drop i = r → r.length < F → 0 < i → (rfrom badRune s F i).isNone = rn i r := by
  intro r
  induction r with
  | nil =>
    intro i F h hF hi
    obtain ⟨F, rfl⟩ : ∃ n, F = n + 1 := ⟨F - 1, by omega⟩
    have := drop_nil' h
    have h2 : ¬ i < s.size := by have := size_list s; omega
    simp [rfrom, h2, rn]
  | cons b r ih =>
    intro i F h hF hi
    obtain ⟨F, rfl⟩ : ∃ n, F = n + 1 := ⟨F - 1, by omega⟩
    obtain ⟨h1, h2, h3, h4⟩ := drop_cons' h
    have h6 : i < s.size := by have := size_list s; omega
    have hb : s.data[i]'h6 = b := by
      have := get_list s i h6
      rw [h2] at this; simpa using this.symm
    simp only [List.length_cons] at hF
    have hi0 : ¬ i = 0 := by omega
    by_cases hlow : b.toNat < 128
    · have hd : Utf8.decode s i = (b.toNat, 1) := by
        have h0 : s.get! (i + 0) = b := by rw [get_at s i h6]; exact hb
        simp only [Utf8.decode, h0, hlow, if_true]
      have hrec := ih (i + 1) F h3 (by omega) (by omega)
      simp only [rfrom, h6, if_true, hd, rn, hi0, decide_false, Bool.not_false, Bool.true_and]
      by_cases hbad : badRune (b.toNat : Int) = true
      · have : (letter b || other b) = false := by
          simp only [badRune, letter, other, Bool.and_eq_true, Bool.or_eq_true, bne_iff_ne, decide_eq_true_eq, Bool.or_eq_false_iff, Bool.and_eq_false_iff, decide_eq_false_iff_not] at hbad ⊢
          omega
        simp [hbad, this]
      · have : (letter b || other b) = true := by
          simp only [badRune, letter, other, Bool.and_eq_true, Bool.or_eq_true, bne_iff_ne, decide_eq_true_eq] at hbad ⊢
          omega
        simp [hbad, this, hrec]
    · obtain ⟨g1, g2⟩ := decode_high s i h6 (by show 128 ≤ (s.data[i]'h6).toNat; rw [hb]; omega)
      have hbad : badRune ((Utf8.decode s i).1 : Int) = true := by
        simp only [badRune, Bool.and_eq_true, Bool.or_eq_true, bne_iff_ne, decide_eq_true_eq]
        omega
      have : (letter b || other b) = false := by
        simp only [letter, other, Bool.or_eq_false_iff, Bool.and_eq_false_iff, decide_eq_false_iff_not]
        omega
      simp [rfrom, h6, hbad, rn, hi0, this]
end
theorem nm_bytes (s : ByteArray) : nm s = (rn 0 s.data.toList && decide (1 ≤ s.size) && decide (s.size ≤ 16)) := by
  by_cases h0 : s.size = 0
  · have : s = ⟨#[]⟩ := by
      apply WideShapes.bytes_inj
      have := size_list s
      rw [h0] at this
      rw [List.eq_nil_of_length_eq_zero this]
    subst this
    have e : decide (1 ≤ (⟨#[]⟩ : ByteArray).size) = false := by decide
    simp only [nm, e, decide_true, Bool.not_true, Bool.false_and, Bool.and_false]
  · have hs : 0 < s.size := by omega
    have hne : s ≠ ⟨#[]⟩ := by intro h; subst h; exact absurd hs (by decide)
    have hb : s.data[0]? = some (s.data[0]'hs) := Array.getElem?_eq_getElem hs
    have hl := size_list s
    cases hd : s.data.toList with
    | nil => rw [hd] at hl; simp at hl; omega
    | cons b r =>
      have hb0 : s.data[0]'hs = b := by
        have := get_list s 0 hs
        rw [hd] at this; simpa using this.symm
      have h1 : s.data.toList.drop 1 = r := by rw [hd]; rfl
      rw [hd] at hl
      simp only [List.length_cons] at hl
      simp only [nm, hb, hb0, rn, hne, decide_false, Bool.not_false, Bool.true_and, decide_true, Bool.false_and, Bool.or_false, Bool.not_true, show 1 ≤ s.size from hs, Bool.and_true]
      by_cases hlet : letter b = true
      · have hlow : b.toNat < 128 := by simp only [letter, Bool.and_eq_true, decide_eq_true_eq] at hlet; omega
        have h0' : s.get! (0 + 0) = b := by rw [get_at s 0 hs]; exact hb0
        have hdec : Utf8.decode s 0 = (b.toNat, 1) := by simp only [Utf8.decode, h0', hlow, if_true]
        have hbad : badRune (b.toNat : Int) = false := by
          simp only [letter, Bool.and_eq_true, decide_eq_true_eq] at hlet
          cases hq : badRune (b.toNat : Int) with
          | false => rfl
          | true =>
            simp only [badRune, Bool.and_eq_true, Bool.or_eq_true, bne_iff_ne, decide_eq_true_eq] at hq
            omega
        have hrec := rn_runes s r 1 s.size h1 (by omega) (by omega)
        have hr : rfrom badRune s (s.size + 1) 0 = rfrom badRune s s.size 1 := by
          rw [rfrom]; simp only [hs, if_true, hdec, hbad]; simp
        rw [hr, hrec]
        unfold letter at hlet
        rw [hlet, show letter b = true from hlet]
        cases rn 1 r <;> simp
      · have hlet' : letter b = false := by simpa using hlet
        have : (decide (97 ≤ (b.toNat : Int)) && decide ((b.toNat : Int) ≤ 122)) = false := hlet'
        rw [this, hlet']
        simp

section
variable {L m : Nat}
theorem any_comm (l : List ByteArray) (x : ByteArray) : (l.any fun a => decide (a = x)) = l.any fun a => decide (x = a) := by
  congr 1; funext a; simp [eq_comm]
end
theorem u22 : Try.prog.underlying 22 = some (.slice 3) := by kernel_rfl
theorem y3 : layOf Try.prog 3 = some 0 := by kernel_rfl
@[simp] theorem ia22 (c : Bool) (xs : List PV) (i : Nat) : indexAddrPV Try.prog 22 (.list 0 c xs) (I i) = (xs[i]?).map (.ro 0) := indexAddr_list u22 y3 c xs i
@[simp] theorem ld3 (d : PV) : loadPV Try.prog 3 (.ro 0 d) = some d := load_ro y3 d
theorem ln22 (c : Bool) (xs : List PV) : (lenPV Try.prog 22 (.list 0 c xs)).map (fun n => PV.sc (goInt n)) = some (I xs.length) := len_list u22 c xs
@[simp] theorem ln22i (c : Bool) (xs : List PV) : (lenPV Try.prog 22 (.list 0 c xs)).map (fun n => I n) = some (I xs.length) := len_list u22 c xs
theorem inf3 : (Try.prog.info? 3).map (·.bytes) = some 8 := by kernel_rfl
theorem zero3 : zeroPV Try.prog 3 = some (I 0) := by kernel_rfl
theorem app22 (xs ys : List PV) (c : Bool) (h : (xs.length + ys.length) * 8 ≤ appendRoom) : appendTo Try.prog 22 22 0 xs (.list 0 c ys) = some (xs ++ ys) := by
  have := inf3
  cases hi : Try.prog.info? 3 with
  | none => rw [hi] at this; simp at this
  | some i =>
    rw [hi] at this
    simp only [Option.map_some, Option.some.injEq] at this
    have hz : PV.hasLay 0 (I 0) = true := rfl
    simp [appendTo, u22, y3, hi, zero3, this, hz, width, layPV, elemsPV?, h]
theorem bs22 (s : Int) : buildSliceAV Try.prog 22 1 [(0, I s)] = some (.list 0 true [I s]) := by
  simp [buildSliceAV, u22, y3, zero3, width, PV.hasLay, PV.isCell, setAll]
section
variable {L m : Nat}
theorem c42 (hm : 3 ≤ m) (a : Nat) (ha : a < 2 ^ 32) : callP Try.prog hh L m 16 [U a] = some (I ((ons a.testBit 32).length : Nat)) := Go.Lite.Pp.c18 hm a ha
theorem c31 (hm : 2 ≤ m) (a b : Nat) (ha : a < 2 ^ 32) (hb : b < 2 ^ 32) : callP Try.prog hh L m 31 [U a, U b] = some (Bo (within a b)) := by
  obtain ⟨n, rfl⟩ : ∃ n, m = n + 1 := ⟨m - 1, by omega⟩
  refine callP_of' (by omega) (by kernel_rfl) ?_
  rw [r31]
  have e3 : (((a &&& (2 ^ 32 - 1 - b) : Nat) : Int) = 0) = (a &&& (2 ^ 32 - 1 - b) = 0) := by apply propext; omega
  simp only [d31_0, andNot_u _ _ _ _ a b ha hb, ob_some, eql_int, within, e3]
end
/-! # more data -/
structure Pt where
  name : ByteArray
  nodes : Nat
  prio : Int
  max : Int
  accs : List ByteArray
def Pt.pv (a : Pt) : PV := .agg [Sr a.name, U a.nodes, I a.prio, I a.max, strs false a.accs]
structure Qs where
  name : ByteArray
  prio : Int
  limit : Int
  jobs : Int
def Qs.pv (a : Qs) : PV := .agg [Sr a.name, I a.prio, I a.limit, I a.jobs]
structure Nd where
  cores : Int
  up : Bool
  epoch : Int
def Nd.pv (a : Nd) : PV := .agg [I a.cores, Bo a.up, I a.epoch]
abbrev pts (l : List Pt) : PV := .list 6 false (l.map Pt.pv)
abbrev qss (l : List Qs) : PV := .list 5 false (l.map Qs.pv)
abbrev nds (l : List Nd) : PV := .list 4 false (l.map Nd.pv)
abbrev intz (c : Bool) (l : List Int) : PV := .list 0 c (l.map fun i => I i)
structure Cfg where
  cores : List Int
  parts : List Pt
  accounts : List Acc
  qos : List Qs
  policy : Int
abbrev W8 (n : Int) : PV := .sc (.int .u8 n)
def Cfg.pv (c : Cfg) : PV := .agg [intz false c.cores, pts c.parts, accs c.accounts, qss c.qos, W8 c.policy]

theorem u23 : Try.prog.underlying 23 = some (.slice 47) := by kernel_rfl
theorem u25 : Try.prog.underlying 25 = some (.slice 107) := by kernel_rfl
theorem u60 : Try.prog.underlying 56 = some (.slice 97) := by kernel_rfl
theorem u100 : Try.prog.underlying 91 = some (.slice 128) := by kernel_rfl
theorem y58 : layOf Try.prog 47 = some 6 := by kernel_rfl
theorem y84 : layOf Try.prog 107 = some 5 := by kernel_rfl
theorem y87 : layOf Try.prog 97 = some 4 := by kernel_rfl
theorem y23 : layOf Try.prog 23 = some 0 := by kernel_rfl
theorem y24 : layOf Try.prog 24 = some 0 := by kernel_rfl
theorem y56 : layOf Try.prog 42 = some 0 := by kernel_rfl
theorem y4 : layOf Try.prog 4 = some 0 := by kernel_rfl
@[simp] theorem ia23 (c : Bool) (xs : List PV) (i : Nat) : indexAddrPV Try.prog 23 (.list 6 c xs) (I i) = (xs[i]?).map (.ro 6) := indexAddr_list u23 y58 c xs i
@[simp] theorem ia25 (c : Bool) (xs : List PV) (i : Nat) : indexAddrPV Try.prog 25 (.list 5 c xs) (I i) = (xs[i]?).map (.ro 5) := indexAddr_list u25 y84 c xs i
@[simp] theorem ia60 (c : Bool) (xs : List PV) (i : Nat) : indexAddrPV Try.prog 56 (.list 4 c xs) (I i) = (xs[i]?).map (.ro 4) := indexAddr_list u60 y87 c xs i
@[simp] theorem ld58 (d : PV) : loadPV Try.prog 47 (.ro 6 d) = some d := load_ro y58 d
@[simp] theorem ld84 (d : PV) : loadPV Try.prog 107 (.ro 5 d) = some d := load_ro y84 d
@[simp] theorem ld87 (d : PV) : loadPV Try.prog 97 (.ro 4 d) = some d := load_ro y87 d
@[simp] theorem ld23 (d : PV) : loadPV Try.prog 23 (.ro 0 d) = some d := load_ro y23 d
@[simp] theorem ld24 (d : PV) : loadPV Try.prog 24 (.ro 0 d) = some d := load_ro y24 d
@[simp] theorem ld56 (d : PV) : loadPV Try.prog 42 (.ro 0 d) = some d := load_ro y56 d
@[simp] theorem ld4 (d : PV) : loadPV Try.prog 4 (.ro 0 d) = some d := load_ro y4 d
theorem ln23 (c : Bool) (xs : List PV) : (lenPV Try.prog 23 (.list 6 c xs)).map (fun n => PV.sc (goInt n)) = some (I xs.length) := len_list u23 c xs
@[simp] theorem ln23i (c : Bool) (xs : List PV) : (lenPV Try.prog 23 (.list 6 c xs)).map (fun n => I n) = some (I xs.length) := len_list u23 c xs
theorem ln25 (c : Bool) (xs : List PV) : (lenPV Try.prog 25 (.list 5 c xs)).map (fun n => PV.sc (goInt n)) = some (I xs.length) := len_list u25 c xs
@[simp] theorem ln25i (c : Bool) (xs : List PV) : (lenPV Try.prog 25 (.list 5 c xs)).map (fun n => I n) = some (I xs.length) := len_list u25 c xs
theorem ln60 (c : Bool) (xs : List PV) : (lenPV Try.prog 56 (.list 4 c xs)).map (fun n => PV.sc (goInt n)) = some (I xs.length) := len_list u60 c xs
@[simp] theorem ln60i (c : Bool) (xs : List PV) : (lenPV Try.prog 56 (.list 4 c xs)).map (fun n => I n) = some (I xs.length) := len_list u60 c xs
theorem ln60n : (lenPV Try.prog 56 (.sc (.slice none 0 0))).map (fun n => PV.sc (goInt n)) = some (I 0) := len_nil u60
@[simp] theorem ln60ni : (lenPV Try.prog 56 (.sc (.slice none 0 0))).map (fun n => I n) = some (I 0) := len_nil u60
theorem ln100n : (lenPV Try.prog 91 (.sc (.slice none 0 0))).map (fun n => PV.sc (goInt n)) = some (I 0) := len_nil u100
@[simp] theorem ln100ni : (lenPV Try.prog 91 (.sc (.slice none 0 0))).map (fun n => I n) = some (I 0) := len_nil u100
@[simp] theorem pt0 (a : Pt) : PV.at_ 6 0 0 a.pv = some (Sr a.name) := rfl
@[simp] theorem pt1 (a : Pt) : PV.at_ 6 1 0 a.pv = some (U a.nodes) := rfl
@[simp] theorem pt2 (a : Pt) : PV.at_ 6 2 0 a.pv = some (I a.prio) := rfl
@[simp] theorem pt3 (a : Pt) : PV.at_ 6 3 0 a.pv = some (I a.max) := rfl
@[simp] theorem pt4 (a : Pt) : PV.at_ 6 4 0 a.pv = some (strs false a.accs) := rfl
@[simp] theorem ptl (a : Pt) : PV.hasLay 6 a.pv = true := rfl
@[simp] theorem cf0 (a : Cfg) : PV.at_ 6 0 0 a.pv = some (intz false a.cores) := rfl
@[simp] theorem cf1 (a : Cfg) : PV.at_ 6 1 0 a.pv = some (pts a.parts) := rfl
@[simp] theorem cf2 (a : Cfg) : PV.at_ 6 2 0 a.pv = some (accs a.accounts) := rfl
@[simp] theorem cf3 (a : Cfg) : PV.at_ 6 3 0 a.pv = some (qss a.qos) := rfl
@[simp] theorem cf4 (a : Cfg) : PV.at_ 6 4 0 a.pv = some (W8 a.policy) := rfl
@[simp] theorem cfl (a : Cfg) : PV.hasLay 6 a.pv = true := rfl
@[simp] theorem qs0 (a : Qs) : PV.at_ 5 0 0 a.pv = some (Sr a.name) := rfl
@[simp] theorem qs1 (a : Qs) : PV.at_ 5 1 0 a.pv = some (I a.prio) := rfl
@[simp] theorem qs2 (a : Qs) : PV.at_ 5 2 0 a.pv = some (I a.limit) := rfl
@[simp] theorem qs3 (a : Qs) : PV.at_ 5 3 0 a.pv = some (I a.jobs) := rfl
@[simp] theorem qsl (a : Qs) : PV.hasLay 5 a.pv = true := rfl
@[simp] theorem nd0 (a : Nd) : PV.at_ 4 0 0 a.pv = some (I a.cores) := rfl
@[simp] theorem nd1 (a : Nd) : PV.at_ 4 1 0 a.pv = some (Bo a.up) := rfl
@[simp] theorem nd2 (a : Nd) : PV.at_ 4 2 0 a.pv = some (I a.epoch) := rfl
@[simp] theorem ndl (a : Nd) : PV.hasLay 4 a.pv = true := rfl
@[simp] theorem fa58_0 (a : Pt) : fieldAddrPV Try.prog 47 (.ro 6 a.pv) 0 = some (.ro 0 (Sr a.name)) := by kernel_rfl
@[simp] theorem fa84_0 (a : Qs) : fieldAddrPV Try.prog 107 (.ro 5 a.pv) 0 = some (.ro 0 (Sr a.name)) := by kernel_rfl
@[simp] theorem fa87_0 (a : Nd) : fieldAddrPV Try.prog 97 (.ro 4 a.pv) 0 = some (.ro 0 (I a.cores)) := by kernel_rfl
@[simp] theorem fa87_1 (a : Nd) : fieldAddrPV Try.prog 97 (.ro 4 a.pv) 1 = some (.ro 0 (Bo a.up)) := by kernel_rfl
@[simp] theorem fa87_2 (a : Nd) : fieldAddrPV Try.prog 97 (.ro 4 a.pv) 2 = some (.ro 0 (I a.epoch)) := by kernel_rfl
@[simp] theorem fa28_1 (a : Cfg) : fieldAddrPV Try.prog 28 (.ro 6 a.pv) 1 = some (.ro 0 (pts a.parts)) := by kernel_rfl
@[simp] theorem fa28_2 (a : Cfg) : fieldAddrPV Try.prog 28 (.ro 6 a.pv) 2 = some (.ro 0 (accs a.accounts)) := by kernel_rfl
theorem put6 (c : AV) (a : Pt) : putPV 6 0 6 c a.pv = some a.pv := by simp [putPV]
theorem put5 (c : AV) (a : Qs) : putPV 5 0 5 c a.pv = some a.pv := by simp [putPV]
theorem put4n (c : AV) (a : Nd) : putPV 4 0 4 c a.pv = some a.pv := by simp [putPV]
theorem slice23 (l : List Pt) (i : Nat) (h : i ≤ l.length) : slicePVd Try.prog 23 (pts l) none (some (I i)) none = some (pts (l.take i)) := by
  rw [slice_to u23 y58 _ _ (by simpa using h), ← List.map_take]
theorem slice25 (l : List Qs) (i : Nat) (h : i ≤ l.length) : slicePVd Try.prog 25 (qss l) none (some (I i)) none = some (qss (l.take i)) := by
  rw [slice_to u25 y84 _ _ (by simpa using h), ← List.map_take]
theorem slice32 (l : List ByteArray) (i : Nat) (h : i ≤ l.length) : slicePVd Try.prog 45 (strs false l) none (some (I i)) none = some (strs false (l.take i)) := by
  rw [slice_to u32 y9 _ _ (by simpa using h), ← List.map_take]

section
variable {L m : Nat}

theorem l25 {R : Type} (C : Kallee) (kr : PV → Option R) (ke : Option R) (clo : PV) (p : Pt → Bool) (c : Bool) (l : List Pt) (hl : l.length ≤ 9223372036854775807) (hcl : ∀ a ∈ l, callD C.pure clo [Pt.pv a] 0 = some (Bo (p a))) :
    ∀ (r : List Pt) (N i : Nat), l.drop i = r → r.length < N → d21_1i C L kr ke N (.list 6 c (l.map fun a => Pt.pv a)) clo (I l.length) (I i) = (match ffrom p i r with | some j => kr (I j) | none => ke) := by
  intro r
  induction r with
  | nil =>
    intro N i h hN
    obtain ⟨N, rfl⟩ : ∃ n, N = n + 1 := ⟨N - 1, by omega⟩
    have := drop_nil' h
    have h2 : ¬ (i : Int) < l.length := by omega
    simp [d21_1i, d21_2, h2, ffrom]
  | cons a r ih =>
    intro N i h hN
    obtain ⟨N, rfl⟩ : ∃ n, N = n + 1 := ⟨N - 1, by omega⟩
    obtain ⟨h1, h2, h3, h4⟩ := drop_cons' h
    have h5 : (i : Int) < l.length := by omega
    simp only [List.length_cons] at hN
    have := ih N (i + 1) h3 (by omega)
    simp only [d21_1i, d21_2, lss_int, ob_some, cb_bool, decide_eq_true_eq, h5, if_true, ia23, List.getElem?_map, h2, Option.map_some, ld58, hcl a h4, add_int, wrap_succ (show i < 9223372036854775807 by omega), this, ffrom]
    cases p a <;> simp
theorem c25 (hm : 2 ≤ m) (clo : PV) (p : Pt → Bool) (c : Bool) (l : List Pt) (hl : l.length ≤ 9223372036854775807) (hL : l.length < L) (hcl : ∀ k, m ≤ k + 1 → ∀ a ∈ l, callD (callP Try.prog hh L k) clo [Pt.pv a] 0 = some (Bo (p a))) :
    callP Try.prog hh L m 21 [.list 6 c (l.map fun a => Pt.pv a), clo] = some (I (ix p l)) := by
  obtain ⟨n, rfl⟩ : ∃ n, m = n + 1 := ⟨m - 1, by omega⟩
  refine callP_of' (by omega) (by kernel_rfl) ?_
  rw [r21]
  have := l25 (L := L) (kk L n) (fun v => some v) (d21_3 (kk L n) L) clo p c l hl (hcl n (by omega)) l L 0 rfl hL
  simp only [d21_0, g21_0, d21_1, ln23, ob_some, List.length_map]
  rw [show (PV.sc (Value.int IntKind.i64 0)) = I ((0 : Nat) : Int) from rfl, this, ix]
  cases ffrom p 0 l <;> rfl

theorem l86 {R : Type} (C : Kallee) (kr : PV → Option R) (ke : Option R) (clo : PV) (p : Qs → Bool) (c : Bool) (l : List Qs) (hl : l.length ≤ 9223372036854775807) (hcl : ∀ a ∈ l, callD C.pure clo [Qs.pv a] 0 = some (Bo (p a))) :
    ∀ (r : List Qs) (N i : Nat), l.drop i = r → r.length < N → d65_1i C L kr ke N (.list 5 c (l.map fun a => Qs.pv a)) clo (I l.length) (I i) = (match ffrom p i r with | some j => kr (I j) | none => ke) := by
  intro r
  induction r with
  | nil =>
    intro N i h hN
    obtain ⟨N, rfl⟩ : ∃ n, N = n + 1 := ⟨N - 1, by omega⟩
    have := drop_nil' h
    have h2 : ¬ (i : Int) < l.length := by omega
    simp [d65_1i, d65_2, h2, ffrom]
  | cons a r ih =>
    intro N i h hN
    obtain ⟨N, rfl⟩ : ∃ n, N = n + 1 := ⟨N - 1, by omega⟩
    obtain ⟨h1, h2, h3, h4⟩ := drop_cons' h
    have h5 : (i : Int) < l.length := by omega
    simp only [List.length_cons] at hN
    have := ih N (i + 1) h3 (by omega)
    simp only [d65_1i, d65_2, lss_int, ob_some, cb_bool, decide_eq_true_eq, h5, if_true, ia25, List.getElem?_map, h2, Option.map_some, ld84, hcl a h4, add_int, wrap_succ (show i < 9223372036854775807 by omega), this, ffrom]
    cases p a <;> simp
theorem c86 (hm : 2 ≤ m) (clo : PV) (p : Qs → Bool) (c : Bool) (l : List Qs) (hl : l.length ≤ 9223372036854775807) (hL : l.length < L) (hcl : ∀ k, m ≤ k + 1 → ∀ a ∈ l, callD (callP Try.prog hh L k) clo [Qs.pv a] 0 = some (Bo (p a))) :
    callP Try.prog hh L m 65 [.list 5 c (l.map fun a => Qs.pv a), clo] = some (I (ix p l)) := by
  obtain ⟨n, rfl⟩ : ∃ n, m = n + 1 := ⟨m - 1, by omega⟩
  refine callP_of' (by omega) (by kernel_rfl) ?_
  rw [r65]
  have := l86 (L := L) (kk L n) (fun v => some v) (d65_3 (kk L n) L) clo p c l hl (hcl n (by omega)) l L 0 rfl hL
  simp only [d65_0, g65_0, d65_1, ln25, ob_some, List.length_map]
  rw [show (PV.sc (Value.int IntKind.i64 0)) = I ((0 : Nat) : Int) from rfl, this, ix]
  cases ffrom p 0 l <;> rfl

theorem l93 {R : Type} (C : Kallee) (kr : PV → Option R) (ke : Option R) (clo : PV) (p : Nd → Bool) (c : Bool) (l : List Nd) (hl : l.length ≤ 9223372036854775807) (hcl : ∀ a ∈ l, callD C.pure clo [Nd.pv a] 0 = some (Bo (p a))) :
    ∀ (r : List Nd) (N i : Nat), l.drop i = r → r.length < N → d91_1i C L kr ke N (.list 4 c (l.map fun a => Nd.pv a)) clo (I l.length) (I i) = (match ffrom p i r with | some j => kr (I j) | none => ke) := by
  intro r
  induction r with
  | nil =>
    intro N i h hN
    obtain ⟨N, rfl⟩ : ∃ n, N = n + 1 := ⟨N - 1, by omega⟩
    have := drop_nil' h
    have h2 : ¬ (i : Int) < l.length := by omega
    simp [d91_1i, d91_2, h2, ffrom]
  | cons a r ih =>
    intro N i h hN
    obtain ⟨N, rfl⟩ : ∃ n, N = n + 1 := ⟨N - 1, by omega⟩
    obtain ⟨h1, h2, h3, h4⟩ := drop_cons' h
    have h5 : (i : Int) < l.length := by omega
    simp only [List.length_cons] at hN
    have := ih N (i + 1) h3 (by omega)
    simp only [d91_1i, d91_2, lss_int, ob_some, cb_bool, decide_eq_true_eq, h5, if_true, ia60, List.getElem?_map, h2, Option.map_some, ld87, hcl a h4, add_int, wrap_succ (show i < 9223372036854775807 by omega), this, ffrom]
    cases p a <;> simp
theorem c93 (hm : 2 ≤ m) (clo : PV) (p : Nd → Bool) (c : Bool) (l : List Nd) (hl : l.length ≤ 9223372036854775807) (hL : l.length < L) (hcl : ∀ k, m ≤ k + 1 → ∀ a ∈ l, callD (callP Try.prog hh L k) clo [Nd.pv a] 0 = some (Bo (p a))) :
    callP Try.prog hh L m 91 [.list 4 c (l.map fun a => Nd.pv a), clo] = some (I (ix p l)) := by
  obtain ⟨n, rfl⟩ : ∃ n, m = n + 1 := ⟨m - 1, by omega⟩
  refine callP_of' (by omega) (by kernel_rfl) ?_
  rw [r91]
  have := l93 (L := L) (kk L n) (fun v => some v) (d91_3 (kk L n) L) clo p c l hl (hcl n (by omega)) l L 0 rfl hL
  simp only [d91_0, g91_0, d91_1, ln60, ob_some, List.length_map]
  rw [show (PV.sc (Value.int IntKind.i64 0)) = I ((0 : Nat) : Int) from rfl, this, ix]
  cases ffrom p 0 l <;> rfl

theorem l95 {R : Type} (C : Kallee) (kr : PV → Option R) (ke : Option R) (clo : PV) (p : Int → Bool) (c : Bool) (l : List Int) (hl : l.length ≤ 9223372036854775807) (hcl : ∀ a ∈ l, callD C.pure clo [I a] 0 = some (Bo (p a))) :
    ∀ (r : List Int) (N i : Nat), l.drop i = r → r.length < N → d99_1i C L kr ke N (.list 0 c (l.map fun a => I a)) clo (I l.length) (I i) = (match ffrom p i r with | some j => kr (I j) | none => ke) := by
  intro r
  induction r with
  | nil =>
    intro N i h hN
    obtain ⟨N, rfl⟩ : ∃ n, N = n + 1 := ⟨N - 1, by omega⟩
    have := drop_nil' h
    have h2 : ¬ (i : Int) < l.length := by omega
    simp [d99_1i, d99_2, h2, ffrom]
  | cons a r ih =>
    intro N i h hN
    obtain ⟨N, rfl⟩ : ∃ n, N = n + 1 := ⟨N - 1, by omega⟩
    obtain ⟨h1, h2, h3, h4⟩ := drop_cons' h
    have h5 : (i : Int) < l.length := by omega
    simp only [List.length_cons] at hN
    have := ih N (i + 1) h3 (by omega)
    simp only [d99_1i, d99_2, lss_int, ob_some, cb_bool, decide_eq_true_eq, h5, if_true, ia22, List.getElem?_map, h2, Option.map_some, ld3, hcl a h4, add_int, wrap_succ (show i < 9223372036854775807 by omega), this, ffrom]
    cases p a <;> simp
theorem c95 (hm : 2 ≤ m) (clo : PV) (p : Int → Bool) (c : Bool) (l : List Int) (hl : l.length ≤ 9223372036854775807) (hL : l.length < L) (hcl : ∀ k, m ≤ k + 1 → ∀ a ∈ l, callD (callP Try.prog hh L k) clo [I a] 0 = some (Bo (p a))) :
    callP Try.prog hh L m 99 [.list 0 c (l.map fun a => I a), clo] = some (I (ix p l)) := by
  obtain ⟨n, rfl⟩ : ∃ n, m = n + 1 := ⟨m - 1, by omega⟩
  refine callP_of' (by omega) (by kernel_rfl) ?_
  rw [r99]
  have := l95 (L := L) (kk L n) (fun v => some v) (d99_3 (kk L n) L) clo p c l hl (hcl n (by omega)) l L 0 rfl hL
  simp only [d99_0, g99_0, d99_1, ln22, ob_some, List.length_map]
  rw [show (PV.sc (Value.int IntKind.i64 0)) = I ((0 : Nat) : Int) from rfl, this, ix]
  cases ffrom p 0 l <;> rfl
end

end Go.Lite.Pq

namespace Go.Lite.Pq
open Go Go.Proofs Go.Lite Go.Lite.Pp
set_option linter.unusedVariables false
set_option linter.unusedSimpArgs false
set_option maxRecDepth 100000
def pfind (l : List Pt) (s : ByteArray) : Option Nat := ffrom (fun a => decide (a.name = s)) 0 l
section
variable {L m : Nat}
theorem c26 (hm : 2 ≤ m) (a : Pt) (s : ByteArray) : callP Try.prog hh L m 22 [a.pv, .ro 0 (Sr s)] = some (Bo (decide (a.name = s))) := by
  obtain ⟨n, rfl⟩ : ∃ n, m = n + 1 := ⟨m - 1, by omega⟩
  refine callP_of' (by omega) (by kernel_rfl) ?_
  rw [r22]; simp [d22_0]
theorem c8 (hm : 4 ≤ m) (l : List Pt) (s : ByteArray) (hl : l.length ≤ 9223372036854775807) (hL : l.length < L) :
    callP Try.prog hh L m 8 [pts l, Sr s] = some (.tup [I ((pfind l s).getD 0 : Nat), Bo (pfind l s).isSome]) := by
  obtain ⟨n, rfl⟩ : ∃ n, m = n + 1 := ⟨m - 1, by omega⟩
  refine callP_of' (by omega) (by kernel_rfl) ?_
  rw [r8]
  have h := c25 (L := L) (m := n) (by omega) (.clo 22 [] [.ro 0 (Sr s)]) (fun a => decide (a.name = s)) false l hl hL (fun k hk a ha => by
    rw [callD_clo]; exact c26 (by omega) a s)
  have h' : callD (callP Try.prog hh L n) (.clo 21 [] []) [pts l, .clo 22 [] [.ro 0 (Sr s)]] 1 = _ := callD_t (by simpa using h) rfl
  have hk : PV.hasLay 0 (Sr s) = true := rfl
  simp only [d8_0, hk, ck_true, h', ob_some, max_int, geq_int, ix, pfind]
  cases ffrom (fun a : Pt => decide (a.name = s)) 0 l with
  | none => simp; rfl
  | some j =>
    have : max (j : Int) 0 = j := by omega
    simp [this]
/-! qualities -/
def qix (l : List Qs) (s : ByteArray) : Int := ix (fun a : Qs => decide (a.name = s)) l
theorem c87 (hm : 2 ≤ m) (a : Qs) (s : ByteArray) : callP Try.prog hh L m 66 [a.pv, .ro 0 (Sr s)] = some (Bo (decide (a.name = s))) := by
  obtain ⟨n, rfl⟩ : ∃ n, m = n + 1 := ⟨m - 1, by omega⟩
  refine callP_of' (by omega) (by kernel_rfl) ?_
  rw [r66]; simp [d66_0]
theorem c66 (hm : 4 ≤ m) (l : List Qs) (s : ByteArray) (hl : l.length ≤ 9223372036854775807) (hL : l.length < L) : callP Try.prog hh L m 38 [qss l, Sr s] = some (I (qix l s)) := by
  obtain ⟨n, rfl⟩ : ∃ n, m = n + 1 := ⟨m - 1, by omega⟩
  refine callP_of' (by omega) (by kernel_rfl) ?_
  rw [r38]
  have h := c86 (L := L) (m := n) (by omega) (.clo 66 [] [.ro 0 (Sr s)]) (fun a => decide (a.name = s)) false l hl hL (fun k hk a ha => by
    rw [callD_clo]; exact c87 (by omega) a s)
  have h' : callD (callP Try.prog hh L n) (.clo 65 [] []) [qss l, .clo 66 [] [.ro 0 (Sr s)]] 1 = _ := callD_t (by simpa using h) rfl
  have hk : PV.hasLay 0 (Sr s) = true := rfl
  simp only [d38_0, hk, ck_true, h', ob_some, qix]
def offL (n : Int) : Bool := decide (n < -1) || decide (1073741824 < n)
theorem c89 (hm : 2 ≤ m) (k : Int) : callP Try.prog hh L m 89 [I k] = some (Bo (offL k)) := by
  obtain ⟨n, rfl⟩ : ∃ n, m = n + 1 := ⟨m - 1, by omega⟩
  refine callP_of' (by omega) (by kernel_rfl) ?_
  rw [r89]
  simp only [d89_0, lss_int, gtr_int, ob_some, gcase_f, offL]
  by_cases h : k < -1 <;> simp [h]
theorem c88 (hm : 3 ≤ m) (clo : PV) (p : Int → Bool) (c : Bool) (l : List Int) (hl : l.length ≤ 9223372036854775807) (hL : l.length < L) (hcl : ∀ k, m ≤ k + 2 → ∀ a ∈ l, callD (callP Try.prog hh L k) clo [I a] 0 = some (Bo (p a))) :
    callP Try.prog hh L m 88 [intz c l, clo] = some (Bo (l.any p)) := by
  obtain ⟨n, rfl⟩ : ∃ n, m = n + 1 := ⟨m - 1, by omega⟩
  refine callP_of' (by omega) (by kernel_rfl) ?_
  rw [r88]
  simp only [d88_0, callD_clo, List.nil_append, List.append_nil, c95 (show 2 ≤ n by omega) clo p c l hl hL (fun k hk => hcl k (by omega)), ob_some, geq_int, ix_nonneg]
theorem c67 (hm : 5 ≤ m) (hL : 10 < L) (a b : Int) : callP Try.prog hh L m 61 [.list 0 true [I a, I b]] = some (Bo (!(offL a || offL b))) := by
  obtain ⟨n, rfl⟩ : ∃ n, m = n + 1 := ⟨m - 1, by omega⟩
  refine callP_of' (by omega) (by kernel_rfl) ?_
  rw [r61]
  have h := c88 (L := L) (m := n) (by omega) (.clo 89 [] []) offL true [a, b] (by simp) (by simp; omega) (fun k hk a ha => by
    rw [callD_clo]; exact c89 (by omega) a)
  simp only [d61_0, callD_clo, List.nil_append, List.append_nil]
  rw [show ([PV.list 0 true [I a, I b], PV.clo 89 [] []] : List PV) = [intz true [a, b], .clo 89 [] []] from rfl, h]
  simp
/-! nodes -/
def ndBad (a : Nd) : Bool := decide (a.cores < 1) || decide (64 < a.cores) || decide (a.epoch < 1) || decide (1073741824 < a.epoch)
def nright (l : List Nd) : Bool := decide (1 ≤ l.length) && decide (l.length ≤ 32) && !l.any ndBad
theorem c83 (hm : 2 ≤ m) (a : Nd) : callP Try.prog hh L m 67 [a.pv] = some (Bo (ndBad a)) := by
  obtain ⟨n, rfl⟩ : ∃ n, m = n + 1 := ⟨m - 1, by omega⟩
  refine callP_of' (by omega) (by kernel_rfl) ?_
  rw [r67]
  simp only [d67_0, ndl, ck_true, nd0, nd2, lss_int, gtr_int, ob_some, gcase_f, ndBad]
  by_cases h : a.cores < 1 <;> by_cases h2 : 64 < a.cores <;> by_cases h3 : a.epoch < 1 <;> simp [h, h2, h3]
theorem c84 (hm : 3 ≤ m) (clo : PV) (p : Nd → Bool) (c : Bool) (l : List Nd) (hl : l.length ≤ 9223372036854775807) (hL : l.length < L) (hcl : ∀ k, m ≤ k + 2 → ∀ a ∈ l, callD (callP Try.prog hh L k) clo [a.pv] 0 = some (Bo (p a))) :
    callP Try.prog hh L m 68 [nds l, clo] = some (Bo (l.any p)) := by
  obtain ⟨n, rfl⟩ : ∃ n, m = n + 1 := ⟨m - 1, by omega⟩
  refine callP_of' (by omega) (by kernel_rfl) ?_
  rw [r68]
  simp only [d68_0, callD_clo, List.nil_append, List.append_nil, c93 (show 2 ≤ n by omega) clo p false l hl hL (fun k hk => hcl k (by omega)), ob_some, geq_int, ix_nonneg]
theorem c61 (hm : 5 ≤ m) (l : List Nd) (hl : l.length ≤ 9223372036854775807) (hL : l.length < L) : callP Try.prog hh L m 41 [nds l] = some (Bo (nright l)) := by
  obtain ⟨n, rfl⟩ : ∃ n, m = n + 1 := ⟨m - 1, by omega⟩
  refine callP_of' (by omega) (by kernel_rfl) ?_
  rw [r41]
  have h := c84 (L := L) (m := n) (by omega) (.clo 67 [] []) ndBad false l hl hL (fun k hk a ha => by
    rw [callD_clo]; exact c83 (by omega) a)
  simp only [d41_0, ln60, ob_some, geq_int, gcase_t, leq_int, callD_clo, List.nil_append, List.append_nil, h, not_bool, List.length_map, nright]
  have e1 : (1 : Int) ≤ l.length ↔ 1 ≤ l.length := by omega
  have e2 : (l.length : Int) ≤ 32 ↔ l.length ≤ 32 := by omega
  simp only [e1, e2]
  by_cases q1 : 1 ≤ l.length <;> by_cases q2 : l.length ≤ 32 <;> simp [q1, q2]
def mkN (c : Int) : Nd := ⟨c, true, 1⟩
theorem bld87 (c : Int) : buildPV Try.prog 97 [(0, I c), (1, .sc (.bool true)), (2, .sc (.int .i64 1))] = some (mkN c).pv := by kernel_rfl
theorem inf87 : (Try.prog.info? 97).map (·.bytes) = some 24 := by kernel_rfl
theorem zero87 : zeroPV Try.prog 97 = some (Nd.pv ⟨0, false, 0⟩) := by kernel_rfl
theorem app60 (xs ys : List PV) (c : Bool) (h : (xs.length + ys.length) * 24 ≤ appendRoom) : appendTo Try.prog 56 56 4 xs (.list 4 c ys) = some (xs ++ ys) := by
  have := inf87
  cases hi : Try.prog.info? 97 with
  | none => rw [hi] at this; simp at this
  | some i =>
    rw [hi] at this
    simp only [Option.map_some, Option.some.injEq] at this
    simp [appendTo, u60, y87, hi, zero87, this, width, layPV, elemsPV?, h]
theorem bs60 (a : Nd) : buildSliceAV Try.prog 56 1 [(0, a.pv)] = some (.list 4 true [a.pv]) := by
  simp [buildSliceAV, u60, y87, zero87, width, setAll]
theorem l27 {R : Type} (C : Kallee) (ke : List PV → Option R) (l : List Int) (hl : l.length ≤ 1000) :
    ∀ (r : List Int) (N i : Nat), l.drop i = r → r.length < N → d14_1i C L ke N (intz false l) (I l.length) (I i) ((l.take i).map fun c => (mkN c).pv) = ke (l.map fun c => (mkN c).pv) := by
  intro r
  induction r with
  | nil =>
    intro N i h hN
    obtain ⟨N, rfl⟩ : ∃ n, N = n + 1 := ⟨N - 1, by omega⟩
    have := drop_nil' h
    have h2 : ¬ (i : Int) < l.length := by omega
    simp [d14_1i, d14_2, h2, List.take_of_length_le (show l.length ≤ i by omega)]
  | cons a r ih =>
    intro N i h hN
    obtain ⟨N, rfl⟩ : ∃ n, N = n + 1 := ⟨N - 1, by omega⟩
    obtain ⟨h1, h2, h3, h4⟩ := drop_cons' h
    have h5 : (i : Int) < l.length := by omega
    simp only [List.length_cons] at hN
    have := ih N (i + 1) h3 (by omega)
    rw [List.take_add_one, h2] at this
    simp only [Option.toList_some, List.map_append, List.map_cons, List.map_nil] at this
    have happ := app60 ((l.take i).map fun c => (mkN c).pv) [(mkN a).pv] true (by simp [appendRoom]; omega)
    simp only [d14_1i, d14_2, lss_int, ob_some, cb_bool, decide_eq_true_eq, h5, if_true, ia22, List.getElem?_map, h2, Option.map_some, ld3, bld87, bs60, happ, oxs_some, add_int, wrap_succ (show i < 9223372036854775807 by omega), this]
def nnew (l : List Int) : PV := if nright (l.map mkN) then .tup [nds (l.map mkN), I 0] else .tup [.sc (.slice none 0 0), I 2]
theorem map_mk (l : List Int) : (l.map fun c => (mkN c).pv) = (l.map mkN).map Nd.pv := by simp
theorem c27 (hm : 6 ≤ m) (l : List Int) (hl : l.length ≤ 1000) (hL : l.length < L) : callP Try.prog hh L m 14 [intz false l] = some (nnew l) := by
  obtain ⟨n, rfl⟩ : ∃ n, m = n + 1 := ⟨m - 1, by omega⟩
  refine callP_of' (by omega) (by kernel_rfl) ?_
  rw [r14]
  have := l27 (L := L) (kk L n) (fun x => d14_3 (kk L n) L x) l hl l L 0 rfl hL
  simp only [d14_0, g14_0, ln22, ob_some, d14_1, List.length_map]
  rw [show (PV.sc (Value.int IntKind.i64 0)) = I ((0 : Nat) : Int) from rfl]
  simp only [List.take_zero, List.map_nil] at this
  rw [this, map_mk]
  simp only [d14_3, callD_clo, List.nil_append, List.append_nil, c61 (L := L) (show 5 ≤ n by omega) (l.map mkN) (by simp; omega) (by simpa using hL), ob_some, not_bool, cb_bool, nnew]
  by_cases h : nright (l.map mkN) = true <;> simp [h]
end
section
variable {L m : Nat}
/-! the nodes that are so, as a set -/
theorem putU (c : AV) (d : PV) (h : d.isCell = true) : putPV 0 0 0 c d = some d := by
  have : d.hasLay 0 = true := by cases d <;> simp_all [PV.hasLay, PV.isCell]
  simp [putPV, this]
theorem l62 {R : Type} (C : Kallee) (ke : PV → Option R) (clo : PV) (q : Nat → Bool) (l : List Nd) (hl : l.length ≤ 32) (hcl : ∀ (i : Nat) a, l[i]? = some a → callD C.pure clo [I i, a.pv] 0 = some (Bo (q i))) :
    ∀ (r : List Nd) (N i : Nat), l.drop i = r → r.length < N → d47_1i C L ke N clo (U (Pp.bits q i)) (nds l) (I l.length) (I i) = ke (U (Pp.bits q (i + r.length))) := by
  intro r
  induction r with
  | nil =>
    intro N i h hN
    obtain ⟨N, rfl⟩ : ∃ n, N = n + 1 := ⟨N - 1, by omega⟩
    have := drop_nil' h
    have h2 : ¬ (i : Int) < l.length := by omega
    simp [d47_1i, d47_2, g47_2, h2]
  | cons a r ih =>
    intro N i h hN
    obtain ⟨N, rfl⟩ : ∃ n, N = n + 1 := ⟨N - 1, by omega⟩
    obtain ⟨h1, h2, h3, h4⟩ := drop_cons' h
    have h5 : (i : Int) < l.length := by omega
    have h6 : (i : Int) < 32 := by omega
    simp only [List.length_cons] at hN
    have := ih N (i + 1) h3 (by omega)
    have hb : Pp.bits q i < 2 ^ 32 := Nat.lt_of_lt_of_le (bits_lt q i) (Nat.pow_le_pow_right (by decide) (by omega))
    have hp : (2 : Nat) ^ i < 2 ^ 32 := Nat.pow_lt_pow_right (by decide) (by omega)
    simp only [d47_1i, d47_2, g47_2, d47_3, d47_4, lss_int, ob_some, cb_bool, decide_eq_true_eq, h5, h6, if_true, ia60, List.getElem?_map, h2, Option.map_some, ld87, put4n, hcl i a h2, gcase_t, decide_true, shl_u _ _ _ _ i (show i < 32 by omega), or_u _ _ _ _ (Pp.bits q i) (2 ^ i) hb hp, bits_or, add_int, wrap_succ (show i < 9223372036854775807 by omega)]
    simp only [Pp.bits] at this
    by_cases hq : q i = true
    · simp only [hq, if_true] at this ⊢
      rw [this, List.length_cons, show i + 1 + r.length = i + (r.length + 1) by omega]
    · simp only [hq, Bool.false_eq_true, if_false, Nat.add_zero] at this ⊢
      rw [this, List.length_cons, show i + 1 + r.length = i + (r.length + 1) by omega]
theorem c62 (hm : 2 ≤ m) (clo : PV) (q : Nat → Bool) (l : List Nd) (hl : l.length ≤ 32) (hL : 40 < L) (hcl : ∀ k, m ≤ k + 1 → ∀ (i : Nat) a, l[i]? = some a → callD (callP Try.prog hh L k) clo [I i, a.pv] 0 = some (Bo (q i))) :
    callP Try.prog hh L m 47 [nds l, clo] = some (U (Pp.bits q l.length)) := by
  obtain ⟨n, rfl⟩ : ∃ n, m = n + 1 := ⟨m - 1, by omega⟩
  refine callP_of' (by omega) (by kernel_rfl) ?_
  rw [r47]
  have := l62 (L := L) (kk L n) (fun v => d47_5 (kk L n) L v) clo q l hl (hcl n (by omega)) l L 0 rfl (by omega)
  simp only [d47_0, g47_0, ln60, ob_some, d47_1, List.length_map]
  rw [show (PV.sc (Value.int IntKind.i64 0)) = I ((0 : Nat) : Int) from rfl, show (PV.sc (Value.int IntKind.u32 0)) = U (Pp.bits q 0) from rfl, this]
  simp [d47_5]
theorem c62n (hm : 2 ≤ m) (clo : PV) (hL : 40 < L) : callP Try.prog hh L m 47 [.sc (.slice none 0 0), clo] = some (U 0) := by
  obtain ⟨n, rfl⟩ : ∃ n, m = n + 1 := ⟨m - 1, by omega⟩
  refine callP_of' (by omega) (by kernel_rfl) ?_
  rw [r47]
  obtain ⟨N, rfl⟩ : ∃ q, L = q + 1 := ⟨L - 1, by omega⟩
  simp only [d47_0, g47_0, ln60n, ob_some, d47_1, d47_1i, d47_2, g47_2, lss_int, cb_bool]
  simp [d47_5]
def qup (l : List Nd) (i : Nat) : Bool := match l[i]? with | some a => a.up | none => false
def qable (l : List Nd) (s : Nat) (c : Int) (i : Nat) : Bool := match l[i]? with | some a => s.testBit i && decide (c ≤ a.cores) | none => false
theorem c63 (hm : 2 ≤ m) (i : PV) (a : Nd) : callP Try.prog hh L m 60 [i, a.pv] = some (Bo a.up) := by
  obtain ⟨n, rfl⟩ : ∃ n, m = n + 1 := ⟨m - 1, by omega⟩
  refine callP_of' (by omega) (by kernel_rfl) ?_
  rw [r60]; simp [d60_0]
theorem c28 (hm : 4 ≤ m) (l : List Nd) (hl : l.length ≤ 32) (hL : 40 < L) : callP Try.prog hh L m 29 [nds l] = some (U (Pp.bits (qup l) l.length)) := by
  obtain ⟨n, rfl⟩ : ∃ n, m = n + 1 := ⟨m - 1, by omega⟩
  refine callP_of' (by omega) (by kernel_rfl) ?_
  rw [r29]
  have h := c62 (L := L) (m := n) (by omega) (.clo 60 [] []) (qup l) l hl hL (fun k hk i a ha => by
    rw [callD_clo]; simp only [List.nil_append, List.append_nil, c63 (L := L) (show 2 ≤ k by omega) (I i) a, qup, ha])
  simp only [d29_0, callD_clo, List.nil_append, List.append_nil, h, ob_some]
theorem c28n (hm : 4 ≤ m) (hL : 40 < L) : callP Try.prog hh L m 29 [.sc (.slice none 0 0)] = some (U 0) := by
  obtain ⟨n, rfl⟩ : ∃ n, m = n + 1 := ⟨m - 1, by omega⟩
  refine callP_of' (by omega) (by kernel_rfl) ?_
  rw [r29]
  simp only [d29_0, callD_clo, List.nil_append, List.append_nil, c62n (L := L) (show 2 ≤ n by omega) _ hL, ob_some]
theorem c78 (hm : 2 ≤ m) (i : Nat) (hi : i < 32) (a : Nd) (s : Nat) (hs : s < 2 ^ 32) (c : Int) : callP Try.prog hh L m 48 [I i, a.pv, .ro 0 (U s), .ro 0 (I c)] = some (Bo (s.testBit i && decide (c ≤ a.cores))) := by
  obtain ⟨n, rfl⟩ : ∃ n, m = n + 1 := ⟨m - 1, by omega⟩
  refine callP_of' (by omega) (by kernel_rfl) ?_
  rw [r48]
  have h1 : s / 2 ^ i < 2 ^ 32 := Nat.lt_of_le_of_lt (Nat.div_le_self _ _) hs
  have h2 := fun x y => and_u Try.prog 42 x y (s / 2 ^ i) 1 h1 (by decide)
  simp only [Int.cast_ofNat_Int, Nat.and_one_is_mod] at h2
  have e3 : (((s / 2 ^ i % 2 : Nat) : Int) = 1) = (s / 2 ^ i % 2 = 1) := by apply propext; omega
  rw [d48_0]
  simp only [ndl, ck_true, ld56, ob_some, shr_u _ _ _ _ s i hi]
  rw [show (PV.sc (Value.int IntKind.u32 1)) = U 1 from rfl, h2]
  simp only [ob_some, eql_int, Nat.testBit_eq_decide_div_mod_eq]
  rw [show (((1 : Nat) : Int)) = 1 from rfl]
  simp only [e3, gcase_t, nd0, ld3, ob_some, geq_int]
  by_cases h : s / 2 ^ i % 2 = 1 <;> simp [h]
theorem c43 (hm : 4 ≤ m) (l : List Nd) (hl : l.length ≤ 32) (s : Nat) (hs : s < 2 ^ 32) (c : Int) (hL : 40 < L) : callP Try.prog hh L m 17 [nds l, U s, I c] = some (U (Pp.bits (qable l s c) l.length)) := by
  obtain ⟨n, rfl⟩ : ∃ n, m = n + 1 := ⟨m - 1, by omega⟩
  refine callP_of' (by omega) (by kernel_rfl) ?_
  rw [r17]
  have h := c62 (L := L) (m := n) (by omega) (.clo 48 [] [.ro 0 (U s), .ro 0 (I c)]) (qable l s c) l hl hL (fun k hk i a ha => by
    have hi : i < 32 := by
      rcases Nat.lt_or_ge i l.length with h' | h'
      · omega
      · rw [List.getElem?_eq_none h'] at ha; simp at ha
    rw [callD_clo]
    exact (c78 (L := L) (show 2 ≤ k by omega) i hi a s hs c).trans (by simp [qable, ha]))
  have h' : callD (callP Try.prog hh L n) (.clo 47 [] []) [nds l, .clo 48 [] [.ro 0 (U s), .ro 0 (I c)]] 1 = _ := callD_t (by simpa using h) rfl
  have e1 : PV.hasLay 0 (U s) = true := rfl
  have e2 : PV.hasLay 0 (I c) = true := rfl
  simp only [d17_0, e1, e2, ck_true, h', ob_some]
end

end Go.Lite.Pq
