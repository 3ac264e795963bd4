import Derived.Test.YtjfjcigpjechfaaRf

namespace Go.Lite
open Go Go.Proofs
set_option linter.unusedVariables false
set_option linter.unusedSimpArgs false
noncomputable abbrev kk (L n : Nat) : Kallee := ⟨callP Try.prog hh L n, callS Try.prog hh L n⟩

/-! # facts on types -/
theorem u24 : Try.prog.underlying 24 = some (.slice 45) := by kernel_rfl
theorem u32 : Try.prog.underlying 32 = some (.slice 9) := by kernel_rfl
theorem u9 : Try.prog.underlying 9 = some .string := by kernel_rfl
theorem y45 : layOf Try.prog 45 = some 4 := by kernel_rfl
theorem y9 : layOf Try.prog 9 = some 0 := by kernel_rfl
theorem y32 : layOf Try.prog 32 = some 0 := by kernel_rfl
theorem hhprim (f : FuncId) : hh.prim f = none := rfl

structure Acc where
  name : ByteArray
  parent : ByteArray
  limit : Int
def Acc.pv (a : Acc) : PV := .agg [Sr a.name, Sr a.parent, I a.limit]
abbrev accs (l : List Acc) : PV := .list 4 false (l.map Acc.pv)

@[simp] theorem ia24 (c : Bool) (xs : List PV) (i : Nat) : indexAddrPV Try.prog 24 (.list 4 c xs) (I i) = (xs[i]?).map (.ro 4) := indexAddr_list u24 y45 c xs i
@[simp] theorem ia32 (c : Bool) (xs : List PV) (i : Nat) : indexAddrPV Try.prog 32 (.list 0 c xs) (I i) = (xs[i]?).map (.ro 0) := indexAddr_list u32 y9 c xs i
@[simp] theorem ld45 (d : PV) : loadPV Try.prog 45 (.ro 4 d) = some d := load_ro y45 d
@[simp] theorem ld9 (d : PV) : loadPV Try.prog 9 (.ro 0 d) = some d := load_ro y9 d
@[simp] theorem ld32 (d : PV) : loadPV Try.prog 32 (.ro 0 d) = some d := load_ro y32 d
@[simp] theorem ln24 (c : Bool) (xs : List PV) : (lenPV Try.prog 24 (.list 4 c xs)).map (fun n => PV.sc (goInt n)) = some (I xs.length) := len_list u24 c xs
@[simp] theorem ln32 (c : Bool) (xs : List PV) : (lenPV Try.prog 32 (.list 0 c xs)).map (fun n => PV.sc (goInt n)) = some (I xs.length) := len_list u32 c xs
@[simp] theorem ln32n : (lenPV Try.prog 32 (.sc (.slice none 0 0))).map (fun n => PV.sc (goInt n)) = some (I 0) := len_nil u32
@[simp] theorem ln9 (s : ByteArray) : (lenPV Try.prog 9 (Sr s)).map (fun n => PV.sc (goInt n)) = some (I s.size) := len_str u9 s
@[simp] theorem acc0 (a : Acc) : PV.at_ 4 0 0 a.pv = some (Sr a.name) := rfl
@[simp] theorem acc1 (a : Acc) : PV.at_ 4 1 0 a.pv = some (Sr a.parent) := rfl
@[simp] theorem acc2 (a : Acc) : PV.at_ 4 2 0 a.pv = some (I a.limit) := rfl
@[simp] theorem accl (a : Acc) : PV.hasLay 4 a.pv = true := rfl
@[simp] theorem fa45_0 (a : Acc) : fieldAddrPV Try.prog 45 (.ro 4 a.pv) 0 = some (.ro 0 (Sr a.name)) := by kernel_rfl
@[simp] theorem fa45_1 (a : Acc) : fieldAddrPV Try.prog 45 (.ro 4 a.pv) 1 = some (.ro 0 (Sr a.parent)) := by kernel_rfl

/-! # the functions -/
section
variable {L m : Nat}
theorem c74 (hm : 1 ≤ m) (a : Acc) (s : ByteArray) : callP Try.prog hh L m 74 [a.pv, .ro 0 (Sr s)] = some (Bo (decide (a.name = s))) := by
  obtain ⟨n, rfl⟩ : ∃ n, m = n + 1 := ⟨m - 1, by omega⟩
  refine callP_of rfl ?_
  rw [r74]; simp [d74_0]

theorem l91 {R : Type} (C : Kallee) (kr : PV → Option R) (ke : Option R) (clo : PV) (p : Acc → Bool) (l : List Acc) (hl : l.length < 1000000) (hcl : ∀ a ∈ l, callD C.pure clo [a.pv] false = some (Bo (p a))) :
    ∀ (r : List Acc) (N i : Nat), l.drop i = r → r.length < N → d91_1i C L kr ke N (accs l) clo (I l.length) (I i) = (match ffrom p i r with | some j => kr (I j) | none => ke) := by
  intro r
  induction r with
  | nil =>
    intro N i h hN
    obtain ⟨N, rfl⟩ : ∃ n, N = n + 1 := ⟨N - 1, by omega⟩
    have := drop_nil' h
    have h2 : ¬ (i : Int) < l.length := by omega
    simp [d91_1i, d91_2, h2, ffrom]
  | cons a r ih =>
    intro N i h hN
    obtain ⟨N, rfl⟩ : ∃ n, N = n + 1 := ⟨N - 1, by omega⟩
    obtain ⟨h1, h2, h3, h4⟩ := drop_cons' h
    have h5 : (i : Int) < l.length := by omega
    simp only [List.length_cons] at hN
    have := ih N (i + 1) h3 (by omega)
    simp only [d91_1i, d91_2, lss_int, ob_some, cb_bool, decide_eq_true_eq, h5, if_true, ia24, List.getElem?_map, h2, Option.map_some, ld45, hcl a h4, add_int, wrap_succ (show i < 9223372036854775807 by omega), this, ffrom]
    cases p a <;> simp
theorem c91 (hm : 1 ≤ m) (clo : PV) (p : Acc → Bool) (l : List Acc) (hl : l.length < 1000000) (hL : l.length < L) (hcl : ∀ k, m ≤ k + 1 → ∀ a ∈ l, callD (callP Try.prog hh L k) clo [a.pv] false = some (Bo (p a))) :
    callP Try.prog hh L m 91 [accs l, clo] = some (I (match ffrom p 0 l with | some j => (j : Int) | none => -1)) := by
  obtain ⟨n, rfl⟩ : ∃ n, m = n + 1 := ⟨m - 1, by omega⟩
  refine callP_of rfl ?_
  rw [r91]
  have := l91 (L := L) (kk L n) (fun v => some v) (d91_3 (kk L n) L) clo p l hl (hcl n (by omega)) l L 0 rfl hL
  simp only [d91_0, g91_0, d91_1, ln24, ob_some, List.length_map]
  rw [show (PV.sc (Value.int IntKind.i64 0)) = I ((0 : Nat) : Int) from rfl, this]
  cases ffrom p 0 l <;> rfl
end
end Go.Lite

namespace Go.Lite
open Go Go.Proofs
set_option linter.unusedVariables false
set_option linter.unusedSimpArgs false

theorem callD_t {cp : FuncId → List PV → Option PV} {g : FuncId} {a b xs : List PV} {r : PV} (h : cp g (a ++ xs ++ b) = some r) (ht : r.tame = true) : callD cp (.clo g a b) xs true = some r := by
  simp only [callD, h, ht]; simp

theorem width_pos (s : ByteArray) (i : Nat) : 1 ≤ (Utf8.decode s i).2 := by
  unfold Utf8.decode
  simp only
  repeat' split
  all_goals simp

/-- the first rune that is so, from a place on -/
def rfrom (p : Int → Bool) (s : ByteArray) : Nat → Nat → Option Nat
  | 0, _ => none
  | F + 1, pos => if pos < s.size then (if p (Utf8.decode s pos).1 then some pos else rfrom p s F (pos + (Utf8.decode s pos).2)) else none
abbrev Rn (n : Int) : PV := .sc (.int .i32 n)
def badRune (r : Int) : Bool := r != 45 && r != 95 && (decide (r < 48) || decide (57 < r)) && (decide (r < 97) || decide (122 < r))
def nm (s : ByteArray) : Bool :=
  !decide (s = ⟨#[]⟩) && decide (s.size ≤ 16) && (match s.data[0]? with | some b => decide (97 ≤ (b.toNat : Int)) && decide ((b.toNat : Int) ≤ 122) | none => false) && (rfrom badRune s (s.size + 1) 0).isNone

section
variable {L m : Nat}
theorem c65 (hm : 1 ≤ m) (r : Int) : callP Try.prog hh L m 65 [Rn r] = some (Bo (badRune r)) := by
  obtain ⟨n, rfl⟩ : ∃ n, m = n + 1 := ⟨m - 1, by omega⟩
  refine callP_of rfl ?_
  rw [r65]
  simp only [d65_0, neq_int, lss_int, gtr_int, ob_some, gcase_t, gcase_f, badRune]
  by_cases h1 : r = 45 <;> by_cases h2 : r = 95 <;> by_cases h3 : r < 48 <;> by_cases h4 : 57 < r <;> by_cases h5 : r < 97 <;> by_cases h6 : 122 < r <;> simp [h1, h2, h3, h4, h5, h6]

theorem l94 {R : Type} (C : Kallee) (kr : PV → ByteArray → Nat → Option R) (ke : ByteArray → Nat → Option R) (clo : PV) (p : Int → Bool) (s : ByteArray) (hcl : ∀ r : Nat, callD C.pure clo [Rn r] false = some (Bo (p r))) (r0 : Option R) (v0 : Nat → Option R)
    (hkr : ∀ (i n : Nat), kr (I (i : Int)) s n = v0 i) (hke : ∀ n, ke s n = r0) :
    ∀ (F N pos : Nat), s.size < pos + F → F < N → d94_1i C L kr ke N clo (Bo true) s pos = (match rfrom p s F pos with | some j => v0 j | none => r0) := by
  intro F
  induction F with
  | zero =>
    intro N pos h hN
    obtain ⟨N, rfl⟩ : ∃ n, N = n + 1 := ⟨N - 1, by omega⟩
    have h2 : ¬ pos < s.size := by omega
    simp [d94_1i, d94_2, nextV, nextPos, h2, rfrom, hke]
  | succ F ih =>
    intro N pos h hN
    obtain ⟨N, rfl⟩ : ∃ n, N = n + 1 := ⟨N - 1, by omega⟩
    by_cases h2 : pos < s.size
    · have hw := width_pos s pos
      have := ih N (pos + (Utf8.decode s pos).2) (by omega) (by omega)
      have hc := hcl (Utf8.decode s pos).1
      have heq : ∀ (b c : Bool), binPV Try.prog .eql 4 (.tmp 17) (.tmp 18) (.sc (.bool b)) (.sc (.bool c)) = some (.sc (.bool (b == c))) := by
        intro b c; cases b <;> cases c <;> kernel_rfl
      simp only [d94_1i, d94_2, nextV, nextPos, h2, if_true, extract_tup, List.getElem?_cons_zero, List.getElem?_cons_succ, ob_some, cb_bool, hc, heq, rfrom, goInt, hkr, this]
      cases p (Utf8.decode s pos).1 <;> simp
    · simp [d94_1i, d94_2, nextV, nextPos, h2, rfrom, hke]

theorem c94 (hm : 1 ≤ m) (clo : PV) (p : Int → Bool) (s : ByteArray) (hL : s.size + 1 < L) (hcl : ∀ k, m ≤ k + 1 → ∀ r : Nat, callD (callP Try.prog hh L k) clo [Rn r] false = some (Bo (p r))) :
    callP Try.prog hh L m 94 [Sr s, clo, Bo true] = some (I (match rfrom p s (s.size + 1) 0 with | some j => (j : Int) | none => -1)) := by
  obtain ⟨n, rfl⟩ : ∃ n, m = n + 1 := ⟨m - 1, by omega⟩
  refine callP_of rfl ?_
  rw [r94]
  simp only [d94_0, g94_0, strPV?, obs_some, d94_1]
  rw [l94 (L := L) (kk L n) _ _ clo p s (hcl n (by omega)) (d94_3 (kk L n) L s 0) (fun i => some (I i)) (fun i n => rfl) (fun n => rfl) (s.size + 1) L 0 (by omega) hL]
  cases rfrom p s (s.size + 1) 0 <;> rfl

theorem c85 (hm : 2 ≤ m) (clo : PV) (p : Int → Bool) (s : ByteArray) (hL : s.size + 1 < L) (hcl : ∀ k, m ≤ k + 2 → ∀ r : Nat, callD (callP Try.prog hh L k) clo [Rn r] false = some (Bo (p r))) :
    callP Try.prog hh L m 85 [Sr s, clo] = some (I (match rfrom p s (s.size + 1) 0 with | some j => (j : Int) | none => -1)) := by
  obtain ⟨n, rfl⟩ : ∃ n, m = n + 1 := ⟨m - 1, by omega⟩
  refine callP_of rfl ?_
  rw [r85]
  simp only [d85_0, callD_clo, List.nil_append, List.append_nil, c94 (show 1 ≤ n by omega) clo p s hL (fun k hk => hcl k (by omega)), ob_some]
theorem c64 (hm : 3 ≤ m) (clo : PV) (p : Int → Bool) (s : ByteArray) (hL : s.size + 1 < L) (hcl : ∀ k, m ≤ k + 3 → ∀ r : Nat, callD (callP Try.prog hh L k) clo [Rn r] false = some (Bo (p r))) :
    callP Try.prog hh L m 64 [Sr s, clo] = some (Bo (rfrom p s (s.size + 1) 0).isSome) := by
  obtain ⟨n, rfl⟩ : ∃ n, m = n + 1 := ⟨m - 1, by omega⟩
  refine callP_of rfl ?_
  rw [r64]
  simp only [d64_0, callD_clo, List.nil_append, List.append_nil, c85 (show 2 ≤ n by omega) clo p s hL (fun k hk => hcl k (by omega)), ob_some, geq_int]
  cases rfrom p s (s.size + 1) 0 <;> simp

theorem index_str (s : ByteArray) (h : 0 < s.size) : indexPV Try.prog 9 (Sr s) (.sc (.int .i64 0)) = some (.sc (.int .u8 (s.data[0]'h).toNat)) := by
  have hb : s[(0 : Int).toNat]? = some (s.data[0]'h) := by
    show s[0]? = _
    rw [getElem?_pos s 0 h]; rfl
  have hu : ∀ (α : Type) (k : TypeDesc → Sem α), pureRun Try.prog (underlying 9 >>= k) = pureRun Try.prog (k .string) := by
    intro α k
    have : underlying 9 >>= k = Sem.program fun P => (match P.underlying 9 with | some d => pure d | none => stuck "no such type") >>= k := rfl
    rw [this, pureRun, u9]; rfl
  have : pureRun Try.prog (Instr.index 9 (.string s) (.int .i64 0)) = some (.int .u8 (s.data[0]'h).toNat) := by
    unfold Instr.index
    show pureRun Try.prog (underlying 9 >>= fun d => _) = _
    rw [hu]
    simp only [Int.le_refl, if_true, hb]
    rfl
  simp [indexPV, this]
theorem c30 (hm : 5 ≤ m) (s : ByteArray) (hL : s.size + 1 < L) : callP Try.prog hh L m 30 [Sr s] = some (Bo (nm s)) := by
  obtain ⟨n, rfl⟩ : ∃ n, m = n + 1 := ⟨m - 1, by omega⟩
  refine callP_of rfl ?_
  rw [r30]
  have h64 := c64 (L := L) (m := n) (by omega) (.clo 65 [] []) badRune s hL (fun k hk r => by
    rw [callD_clo]; simp only [List.nil_append, List.append_nil]; exact c65 (by omega) r)
  by_cases h0 : s = ⟨#[]⟩
  · subst h0
    simp [d30_0, nm]
  · have hs : 0 < s.size := by
      rcases Nat.eq_zero_or_pos s.size with h | h
      · exact absurd (by obtain ⟨⟨l⟩⟩ := s; cases l with | nil => rfl | cons a l => simp [ByteArray.size] at h) h0
      · exact h
    have hb : s.data[0]? = some (s.data[0]'hs) := Array.getElem?_eq_getElem hs
    simp only [d30_0, eql_str, ob_some, gcase_f, h0, decide_false, Bool.false_eq_true, if_false, ln9, gtr_int, index_str s hs, lss_int, cb_bool, callD_clo, List.nil_append, List.append_nil, h64, not_bool, nm, hb]
    by_cases h1 : s.size ≤ 16
    · have h1' : ¬ (16 : Int) < s.size := by omega
      by_cases h2 : (97 : Int) ≤ (s.data[0]'hs).toNat
      · have h2' : ¬ ((s.data[0]'hs).toNat : Int) < 97 := by omega
        by_cases h3 : ((s.data[0]'hs).toNat : Int) ≤ 122
        · have h3' : ¬ (122 : Int) < (s.data[0]'hs).toNat := by omega
          simp [h1, h1', h2, h2', h3, h3']
        · have h3' : (122 : Int) < (s.data[0]'hs).toNat := by omega
          simp [h1, h1', h2, h2', h3, h3']
      · have h2' : ((s.data[0]'hs).toNat : Int) < 97 := by omega
        simp [h1, h1', h2, h2']
    · have h1' : (16 : Int) < s.size := by omega
      simp [h1, h1']
end
end Go.Lite

namespace Go.Lite
open Go Go.Proofs
set_option linter.unusedVariables false
set_option linter.unusedSimpArgs false

/-! # lists of texts -/
abbrev strs (c : Bool) (l : List ByteArray) : PV := .list 0 c (l.map Sr)
theorem strs_get (l : List ByteArray) (i : Nat) : (l.map Sr)[i]? = (l[i]?).map Sr := by simp
def ix {α : Type} (p : α → Bool) (l : List α) : Int := match ffrom p 0 l with | some j => (j : Int) | none => -1
theorem ix_nonneg {α : Type} (p : α → Bool) (l : List α) : decide (0 ≤ ix p l) = l.any p := by
  have : ∀ (l : List α) (i : Nat), (ffrom p i l).isSome = l.any p := by
    intro l
    induction l with
    | nil => intro i; rfl
    | cons a r ih => intro i; simp only [ffrom, List.any_cons]; cases p a <;> simp [ih]
  unfold ix
  rw [← this l 0]
  cases ffrom p 0 l <;> simp

section
variable {L m : Nat}
theorem l79 {R : Type} (C : Kallee) (kr : PV → Option R) (ke : Option R) (clo : PV) (p : ByteArray → Bool) (c : Bool) (l : List ByteArray) (hl : l.length ≤ 9223372036854775807) (hcl : ∀ a ∈ l, callD C.pure clo [Sr a] false = some (Bo (p a))) :
    ∀ (r : List ByteArray) (N i : Nat), l.drop i = r → r.length < N → d79_1i C L kr ke N (strs c l) clo (I l.length) (I i) = (match ffrom p i r with | some j => kr (I j) | none => ke) := by
  intro r
  induction r with
  | nil =>
    intro N i h hN
    obtain ⟨N, rfl⟩ : ∃ n, N = n + 1 := ⟨N - 1, by omega⟩
    have := drop_nil' h
    have h2 : ¬ (i : Int) < l.length := by omega
    simp [d79_1i, d79_2, h2, ffrom]
  | cons a r ih =>
    intro N i h hN
    obtain ⟨N, rfl⟩ : ∃ n, N = n + 1 := ⟨N - 1, by omega⟩
    obtain ⟨h1, h2, h3, h4⟩ := drop_cons' h
    have h5 : (i : Int) < l.length := by omega
    simp only [List.length_cons] at hN
    have := ih N (i + 1) h3 (by omega)
    simp only [d79_1i, d79_2, lss_int, ob_some, cb_bool, decide_eq_true_eq, h5, if_true, ia32, List.getElem?_map, h2, Option.map_some, ld9, hcl a h4, add_int, wrap_succ (show i < 9223372036854775807 by omega), this, ffrom]
    cases p a <;> simp
theorem c79 (hm : 1 ≤ m) (clo : PV) (p : ByteArray → Bool) (c : Bool) (l : List ByteArray) (hl : l.length ≤ 9223372036854775807) (hL : l.length < L) (hcl : ∀ k, m ≤ k + 1 → ∀ a ∈ l, callD (callP Try.prog hh L k) clo [Sr a] false = some (Bo (p a))) :
    callP Try.prog hh L m 79 [strs c l, clo] = some (I (ix p l)) := by
  obtain ⟨n, rfl⟩ : ∃ n, m = n + 1 := ⟨m - 1, by omega⟩
  refine callP_of rfl ?_
  rw [r79]
  have := l79 (L := L) (kk L n) (fun v => some v) (d79_3 (kk L n) L) clo p c l hl (hcl n (by omega)) l L 0 rfl hL
  simp only [d79_0, g79_0, d79_1, ln32, ob_some, List.length_map]
  rw [show (PV.sc (Value.int IntKind.i64 0)) = I ((0 : Nat) : Int) from rfl, this, ix]
  cases ffrom p 0 l <;> rfl
theorem l80 {R : Type} (C : Kallee) (kr : PV → Option R) (ke : Option R) (x : ByteArray) (c : Bool) (l : List ByteArray) (hl : l.length ≤ 9223372036854775807) :
    ∀ (r : List ByteArray) (N i : Nat), l.drop i = r → r.length < N → d80_1i C L kr ke N (strs c l) (Sr x) (I l.length) (I i) = (match ffrom (fun a => decide (x = a)) i r with | some j => kr (I j) | none => ke) := by
  intro r
  induction r with
  | nil =>
    intro N i h hN
    obtain ⟨N, rfl⟩ : ∃ n, N = n + 1 := ⟨N - 1, by omega⟩
    have := drop_nil' h
    have h2 : ¬ (i : Int) < l.length := by omega
    simp [d80_1i, d80_2, h2, ffrom]
  | cons a r ih =>
    intro N i h hN
    obtain ⟨N, rfl⟩ : ∃ n, N = n + 1 := ⟨N - 1, by omega⟩
    obtain ⟨h1, h2, h3, h4⟩ := drop_cons' h
    have h5 : (i : Int) < l.length := by omega
    simp only [List.length_cons] at hN
    have := ih N (i + 1) h3 (by omega)
    simp only [d80_1i, d80_2, lss_int, ob_some, cb_bool, decide_eq_true_eq, h5, if_true, ia32, List.getElem?_map, h2, Option.map_some, ld9, eql_str, add_int, wrap_succ (show i < 9223372036854775807 by omega), this, ffrom]
    by_cases hx : x = a <;> simp [hx]
theorem c80 (hm : 1 ≤ m) (x : ByteArray) (c : Bool) (l : List ByteArray) (hl : l.length ≤ 9223372036854775807) (hL : l.length < L) :
    callP Try.prog hh L m 80 [strs c l, Sr x] = some (I (ix (fun a => decide (x = a)) l)) := by
  obtain ⟨n, rfl⟩ : ∃ n, m = n + 1 := ⟨m - 1, by omega⟩
  refine callP_of rfl ?_
  rw [r80]
  have := l80 (L := L) (kk L n) (fun v => some v) (d80_3 (kk L n) L) x c l hl l L 0 rfl hL
  simp only [d80_0, g80_0, d80_1, ln32, ob_some, List.length_map]
  rw [show (PV.sc (Value.int IntKind.i64 0)) = I ((0 : Nat) : Int) from rfl, this, ix]
  cases ffrom (fun a => decide (x = a)) 0 l <;> rfl
/-- slices.Contains -/
theorem c51 (hm : 2 ≤ m) (x : ByteArray) (c : Bool) (l : List ByteArray) (hl : l.length ≤ 9223372036854775807) (hL : l.length < L) :
    callP Try.prog hh L m 51 [strs c l, Sr x] = some (Bo (l.any fun a => decide (x = a))) := by
  obtain ⟨n, rfl⟩ : ∃ n, m = n + 1 := ⟨m - 1, by omega⟩
  refine callP_of rfl ?_
  rw [r51]
  simp only [d51_0, callD_clo, List.nil_append, List.append_nil, c80 (show 1 ≤ n by omega) x c l hl hL, ob_some, geq_int, ix_nonneg]
theorem c50 (hm : 3 ≤ m) (x : ByteArray) (c : Bool) (l : List ByteArray) (hl : l.length ≤ 9223372036854775807) (hL : l.length < L) :
    callP Try.prog hh L m 50 [Sr x, .ro 0 (strs c l)] = some (Bo (l.any fun a => decide (x = a))) := by
  obtain ⟨n, rfl⟩ : ∃ n, m = n + 1 := ⟨m - 1, by omega⟩
  refine callP_of rfl ?_
  rw [r50]
  simp only [d50_0, ld32, ob_some, callD_clo, List.nil_append, List.append_nil, c51 (show 2 ≤ n by omega) x c l hl hL]
theorem c49 (hm : 2 ≤ m) (clo : PV) (p : ByteArray → Bool) (c : Bool) (l : List ByteArray) (hl : l.length ≤ 9223372036854775807) (hL : l.length < L) (hcl : ∀ k, m ≤ k + 2 → ∀ a ∈ l, callD (callP Try.prog hh L k) clo [Sr a] false = some (Bo (p a))) :
    callP Try.prog hh L m 49 [strs c l, clo] = some (Bo (l.any p)) := by
  obtain ⟨n, rfl⟩ : ∃ n, m = n + 1 := ⟨m - 1, by omega⟩
  refine callP_of rfl ?_
  rw [r49]
  simp only [d49_0, callD_clo, List.nil_append, List.append_nil, c79 (show 1 ≤ n by omega) clo p c l hl hL (fun k hk => hcl k (by omega)), ob_some, geq_int, ix_nonneg]

/-! # accounts -/
def afind (l : List Acc) (s : ByteArray) : Option Nat := ffrom (fun a => decide (a.name = s)) 0 l
def aix (l : List Acc) (s : ByteArray) : Nat := (afind l s).getD 0
theorem c73 (hm : 2 ≤ m) (clo : PV) (p : Acc → Bool) (l : List Acc) (hl : l.length < 1000000) (hL : l.length < L) (hcl : ∀ k, m ≤ k + 2 → ∀ a ∈ l, callD (callP Try.prog hh L k) clo [a.pv] false = some (Bo (p a))) :
    callP Try.prog hh L m 73 [accs l, clo] = some (.tup [I ((ffrom p 0 l).getD 0 : Nat), Bo (ffrom p 0 l).isSome]) := by
  obtain ⟨n, rfl⟩ : ∃ n, m = n + 1 := ⟨m - 1, by omega⟩
  refine callP_of rfl ?_
  rw [r73]
  simp only [d73_0, callD_clo, List.nil_append, List.append_nil, c91 (show 1 ≤ n by omega) clo p l hl hL (fun k hk => hcl k (by omega)), ob_some, geq_int, max_int]
  cases ffrom p 0 l with
  | none => simp; rfl
  | some j =>
    have : max (j : Int) 0 = j := by omega
    simp [this]
theorem c40 (hm : 4 ≤ m) (l : List Acc) (s : ByteArray) (hl : l.length < 1000000) (hL : l.length < L) :
    callP Try.prog hh L m 40 [accs l, Sr s] = some (.tup [I (aix l s : Nat), Bo (afind l s).isSome]) := by
  obtain ⟨n, rfl⟩ : ∃ n, m = n + 1 := ⟨m - 1, by omega⟩
  refine callP_of rfl ?_
  rw [r40]
  have h73 := c73 (L := L) (m := n) (by omega) (.clo 74 [] [.ro 0 (Sr s)]) (fun a => decide (a.name = s)) l hl hL (fun k hk a ha => by
    rw [callD_clo]; exact c74 (by omega) a s)
  have hk : PV.hasLay 0 (Sr s) = true := rfl
  rw [d40_0, hk, ck_true]
  rw [show (kk L n).pure = callP Try.prog hh L n from rfl]
  rw [callD_t (by simpa using h73) rfl]
  simp [aix, afind]
end
end Go.Lite

namespace Go.Lite
open Go Go.Proofs
set_option linter.unusedVariables false
set_option linter.unusedSimpArgs false

def arow (l : List Acc) (i : Nat) (a : Acc) : Bool :=
  (afind (l.take i) a.name).isSome || !nm a.name || (!(afind (l.take i) a.parent).isSome && !decide (a.parent = ⟨#[]⟩)) || decide (a.limit < -1) || decide (1073741824 < a.limit)
def arightFrom (l : List Acc) : Nat → List Acc → Bool
  | _, [] => true
  | i, a :: r => !arow l i a && arightFrom l (i + 1) r
def aright (l : List Acc) : Bool := arightFrom l 0 l && decide (1 ≤ l.length) && decide (l.length ≤ 16)

structure OkA (L : Nat) (l : List Acc) : Prop where
  len : l.length < 1000000
  lenL : l.length < L
  name : ∀ a ∈ l, a.name.size + 1 < L
  nameB : ∀ a ∈ l, a.name.size ≤ 9223372036854775807

section
variable {L m : Nat}
theorem put4 (c : AV) (a : Acc) : putPV 4 0 4 c a.pv = some a.pv := by simp [putPV]
theorem slice24 (l : List Acc) (i : Nat) (h : i ≤ l.length) : slicePVd Try.prog 24 (accs l) none (some (I i)) none = some (accs (l.take i)) := by
  rw [slice_to u24 y45 _ _ (by simpa using h), ← List.map_take]

theorem l17 {R : Type} (n : Nat) (hn : 6 ≤ n) (kr : PV → Option R) (ke : PV → Option R) (l : List Acc) (hl : OkA L l) :
    ∀ (r : List Acc) (N i : Nat), l.drop i = r → r.length < N → d17_1i (kk L n) L kr ke N (accs l) (accs l) (I l.length) (I i) = if arightFrom l i r then ke (accs l) else kr (Bo false) := by
  intro r
  induction r with
  | nil =>
    intro N i h hN
    obtain ⟨N, rfl⟩ : ∃ n, N = n + 1 := ⟨N - 1, by omega⟩
    have := drop_nil' h
    have h2 : ¬ (i : Int) < l.length := by omega
    simp [d17_1i, d17_2, h2, arightFrom]
  | cons a r ih =>
    intro N i h hN
    obtain ⟨N, rfl⟩ : ∃ n, N = n + 1 := ⟨N - 1, by omega⟩
    obtain ⟨h1, h2, h3, h4⟩ := drop_cons' h
    have h5 : (i : Int) < l.length := by omega
    simp only [List.length_cons] at hN
    have := ih N (i + 1) h3 (by omega)
    have hle := hl.len
    have ht : (l.take i).length < 1000000 := by simp; omega
    have htL : (l.take i).length < L := by have := hl.lenL; simp; omega
    simp only [d17_1i, d17_2, lss_int, ob_some, cb_bool, decide_eq_true_eq, h5, if_true, ia24, List.getElem?_map, h2, Option.map_some, ld45, put4, slice24 l i (by omega), acc0, acc1, acc2,
      callD_clo, List.nil_append, List.append_nil, c40 (show 4 ≤ n by omega) (l.take i) _ ht htL, extract_tup, List.getElem?_cons_zero, List.getElem?_cons_succ, gcase_f, gcase_t, c30 (show 5 ≤ n by omega) a.name (hl.name a h4),
      not_bool, neq_str, gtr_int, add_int, wrap_succ (show i < 9223372036854775807 by omega), this, arightFrom, arow]
    by_cases q4 : (afind (l.take i) a.name).isSome = true <;> by_cases q5 : nm a.name = true <;> by_cases q6 : (afind (l.take i) a.parent).isSome = true <;> by_cases q1 : a.parent = ⟨#[]⟩ <;> by_cases q2 : a.limit < -1 <;> by_cases q3 : 1073741824 < a.limit <;> simp [q1, q2, q3, q4, q5, q6]
theorem c17 (hm : 7 ≤ m) (l : List Acc) (hl : OkA L l) : callP Try.prog hh L m 17 [accs l] = some (Bo (aright l)) := by
  obtain ⟨n, rfl⟩ : ∃ n, m = n + 1 := ⟨m - 1, by omega⟩
  refine callP_of rfl ?_
  rw [r17]
  have := l17 (L := L) n (by omega) (fun v => some v) (fun v => d17_3 (kk L n) L v) l hl l L 0 rfl hl.lenL
  simp only [d17_0, g17_0, d17_1, ln24, ob_some, List.length_map]
  rw [show (PV.sc (Value.int IntKind.i64 0)) = I ((0 : Nat) : Int) from rfl, this]
  simp only [d17_3, ln24, ob_some, geq_int, gcase_t, leq_int, List.length_map, aright]
  have e1 : (1 : Int) ≤ l.length ↔ 1 ≤ l.length := by omega
  have e2 : (l.length : Int) ≤ 16 ↔ l.length ≤ 16 := by omega
  simp only [e1, e2]
  by_cases q2 : arightFrom l 0 l = true <;> by_cases q1 : 1 ≤ l.length <;> simp [q1, q2]
/-- place: -/
theorem c58 (hm : 8 ≤ m) (l : List Acc) (s : ByteArray) (hl : OkA L l) : callP Try.prog hh L m 58 [accs l, Sr s] =
    some (if aright l then (match afind l s with | some i => .tup [I (i : Nat), I 0] | none => .tup [I 0, I 141]) else .tup [I 0, I 2]) := by
  obtain ⟨n, rfl⟩ : ∃ n, m = n + 1 := ⟨m - 1, by omega⟩
  refine callP_of rfl ?_
  rw [r58]
  simp only [d58_0, callD_clo, List.nil_append, List.append_nil, c17 (show 7 ≤ n by omega) l hl, c40 (show 4 ≤ n by omega) l s hl.len hl.lenL, ob_some, not_bool, cb_bool, extract_tup, List.getElem?_cons_zero, List.getElem?_cons_succ, aix]
  by_cases q1 : aright l = true <;> cases afind l s <;> simp [q1]
end
end Go.Lite

namespace Go.Lite
open Go Go.Proofs
set_option linter.unusedVariables false
set_option linter.unusedSimpArgs false

theorem inf9 : (Try.prog.info? 9).map (·.bytes) = some 16 := by kernel_rfl
theorem zero9 : zeroPV Try.prog 9 = some (Sr ⟨#[]⟩) := by kernel_rfl
theorem app32 (xs ys : List PV) (c : Bool) (h : (xs.length + ys.length) * 16 ≤ appendRoom) : appendTo Try.prog 32 32 0 xs (.list 0 c ys) = some (xs ++ ys) := by
  have := inf9
  cases hi : Try.prog.info? 9 with
  | none => rw [hi] at this; simp at this
  | some i =>
    rw [hi] at this
    simp only [Option.map_some, Option.some.injEq] at this
    have hz : PV.hasLay 0 (Sr ⟨#[]⟩) = true := rfl
    simp [appendTo, u32, y9, hi, zero9, this, hz, width, layPV, elemsPV?, h]
theorem bs32 (s : ByteArray) : buildSliceAV Try.prog 32 1 [(0, Sr s)] = some (.list 0 true [Sr s]) := by
  simp [buildSliceAV, u32, y9, zero9, width, PV.hasLay, PV.isCell, setAll]
theorem bx32 (s : ByteArray) : buildXs Try.prog 32 0 1 [(0, Sr s)] = some [Sr s] := by
  simp [buildXs, u32, y9, zero9, width, PV.hasLay, PV.isCell, setAll]

/-! # trees -/
theorem ffrom_some {α : Type} {p : α → Bool} : ∀ {l : List α} {i j : Nat}, ffrom p i l = some j → i ≤ j ∧ ∃ a, l[j - i]? = some a ∧ p a = true := by
  intro l
  induction l with
  | nil => intro i j h; simp [ffrom] at h
  | cons a r ih =>
    intro i j h
    simp only [ffrom] at h
    split at h
    · simp only [Option.some.injEq] at h; subst h
      exact ⟨Nat.le_refl _, a, by simp, by assumption⟩
    · obtain ⟨h1, b, h2, h3⟩ := ih h
      refine ⟨by omega, b, ?_, h3⟩
      rw [show j - i = (j - (i + 1)) + 1 by omega]
      simpa using h2
theorem ffrom_none {α : Type} {p : α → Bool} : ∀ {l : List α} {i : Nat}, ffrom p i l = none → ∀ a ∈ l, p a = false := by
  intro l
  induction l with
  | nil => intro i _ a h; simp at h
  | cons a r ih =>
    intro i h b hb
    simp only [ffrom] at h
    split at h
    · simp at h
    · rename_i hp
      rcases List.mem_cons.1 hb with rfl | hb
      · simpa using hp
      · exact ih h b hb
theorem ffrom_append {α : Type} {p : α → Bool} (l2 : List α) : ∀ {l : List α} {i : Nat}, ffrom p i (l ++ l2) = (match ffrom p i l with | some j => some j | none => ffrom p (i + l.length) l2) := by
  intro l
  induction l with
  | nil => intro i; simp [ffrom]
  | cons a r ih =>
    intro i
    simp only [List.cons_append, ffrom]
    split
    · rfl
    · rw [ih]; simp only [List.length_cons]; rw [show i + (r.length + 1) = i + 1 + r.length by omega]
theorem afind_take {l : List Acc} {i j : Nat} {s : ByteArray} (h : afind (l.take i) s = some j) : afind l s = some j ∧ j < i := by
  unfold afind at h ⊢
  obtain ⟨_, a, h2, _⟩ := ffrom_some h
  refine ⟨?_, ?_⟩
  · have := ffrom_append (p := fun a : Acc => decide (a.name = s)) (l.drop i) (l := l.take i) (i := 0)
    rw [List.take_append_drop, h] at this
    exact this
  · have : j - 0 < (l.take i).length := by
      rcases Nat.lt_or_ge (j - 0) (l.take i).length with h' | h'
      · exact h'
      · rw [List.getElem?_eq_none h'] at h2; simp at h2
    simp at this; omega
theorem afind_some {l : List Acc} {j : Nat} {s : ByteArray} (h : afind l s = some j) : ∃ a, l[j]? = some a ∧ a.name = s := by
  obtain ⟨_, a, h2, h3⟩ := ffrom_some h
  exact ⟨a, by simpa using h2, by simpa using h3⟩
/-- what a tree is -/
structure IsTree (l : List Acc) : Prop where
  once : ∀ (i : Nat) a, l[i]? = some a → afind (l.take i) a.name = none
  up : ∀ (i : Nat) a, l[i]? = some a → a.parent ≠ ⟨#[]⟩ → ∃ j, afind (l.take i) a.parent = some j
  len : l.length ≤ 16
theorem arightFrom_row {l : List Acc} : ∀ {r : List Acc} {i : Nat}, l.drop i = r → arightFrom l i r = true → ∀ (k : Nat) a, i ≤ k → l[k]? = some a → arow l k a = false := by
  intro r
  induction r with
  | nil =>
    intro i h _ k a hk ha
    have := drop_nil' h
    rw [List.getElem?_eq_none (by omega)] at ha; simp at ha
  | cons b r ih =>
    intro i h hr k a hk ha
    obtain ⟨h1, h2, h3, h4⟩ := drop_cons' h
    simp only [arightFrom, Bool.and_eq_true, Bool.not_eq_true'] at hr
    by_cases hik : i = k
    · subst hik; rw [h2] at ha; simp only [Option.some.injEq] at ha; subst ha; exact hr.1
    · exact ih h3 hr.2 k a (by omega) ha
theorem aright_tree {l : List Acc} (h : aright l = true) : IsTree l := by
  simp only [aright, Bool.and_eq_true, decide_eq_true_eq] at h
  have hrow := fun k a ha => arightFrom_row (l := l) (r := l) (i := 0) rfl h.1.1 k a (by omega) ha
  refine ⟨fun i a ha => ?_, fun i a ha hp => ?_, h.2⟩
  · have := hrow i a ha
    simp only [arow, Bool.or_eq_false_iff] at this
    have h1 := this.1.1.1.1
    cases hq : afind (l.take i) a.name with
    | none => rfl
    | some j => rw [hq] at h1; simp at h1
  · have := hrow i a ha
    simp only [arow, Bool.or_eq_false_iff] at this
    have h1 := this.1.1.2
    cases hq : afind (l.take i) a.parent with
    | none => rw [hq] at h1; simp [hp] at h1
    | some j => exact ⟨j, rfl⟩
theorem IsTree.find {l : List Acc} (h : IsTree l) {i : Nat} {a : Acc} (ha : l[i]? = some a) : afind l a.name = some i := by
  have h1 := h.once i a ha
  have := ffrom_append (p := fun b : Acc => decide (b.name = a.name)) (l.drop i) (l := l.take i) (i := 0)
  rw [List.take_append_drop] at this
  unfold afind at h1 ⊢
  rw [this, h1]
  have hi : i < l.length := by
    rcases Nat.lt_or_ge i l.length with h' | h'
    · exact h'
    · rw [List.getElem?_eq_none h'] at ha; simp at ha
  rw [List.drop_eq_getElem_cons hi]
  have : l[i] = a := by rw [List.getElem?_eq_getElem hi] at ha; simpa using ha
  simp [ffrom, this, Nat.min_eq_left (Nat.le_of_lt hi)]

/-- the names above one -/
def upF (l : List Acc) : Nat → Nat → List ByteArray
  | 0, _ => []
  | F + 1, i => match l[i]? with
    | some a => if a.parent = ⟨#[]⟩ then [] else (match l[aix l a.parent]? with
      | some b => b.name :: upF l F (aix l a.parent)
      | none => [])
    | none => []
def path (l : List Acc) (i : Nat) : List ByteArray := (match l[i]? with | some a => a.name | none => ⟨#[]⟩) :: upF l (i + 1) i
theorem IsTree.step {l : List Acc} (h : IsTree l) {i : Nat} {a : Acc} (ha : l[i]? = some a) (hp : a.parent ≠ ⟨#[]⟩) : ∃ j b, j < i ∧ afind l a.parent = some j ∧ aix l a.parent = j ∧ l[j]? = some b ∧ b.name = a.parent := by
  obtain ⟨j, hj⟩ := h.up i a ha hp
  obtain ⟨h1, h2⟩ := afind_take hj
  obtain ⟨b, h3, h4⟩ := afind_some h1
  exact ⟨j, b, h2, h1, by simp [aix, h1], h3, h4⟩
theorem upF_fuel {l : List Acc} (h : IsTree l) : ∀ (i F F' : Nat), i < F → i < F' → upF l F i = upF l F' i := by
  intro i
  induction i using Nat.strongRecOn with
  | ind i ih =>
    intro F F' h1 h2
    obtain ⟨F, rfl⟩ : ∃ n, F = n + 1 := ⟨F - 1, by omega⟩
    obtain ⟨F', rfl⟩ : ∃ n, F' = n + 1 := ⟨F' - 1, by omega⟩
    simp only [upF]
    cases ha : l[i]? with
    | none => rfl
    | some a =>
      simp only
      split
      · rfl
      · rename_i hp
        obtain ⟨j, b, q1, q2, q3, q4, q5⟩ := h.step ha hp
        simp only [q3, q4]
        rw [ih j q1 F F' (by omega) (by omega)]
theorem upF_len {l : List Acc} (h : IsTree l) : ∀ (i F : Nat), (upF l F i).length ≤ i := by
  intro i
  induction i using Nat.strongRecOn with
  | ind i ih =>
    intro F
    cases F with
    | zero => simp [upF]
    | succ F =>
      simp only [upF]
      cases ha : l[i]? with
      | none => simp
      | some a =>
        simp only
        split
        · simp
        · rename_i hp
          obtain ⟨j, b, q1, q2, q3, q4, q5⟩ := h.step ha hp
          simp only [q3, q4, List.length_cons]
          have := ih j q1 F
          omega

section
variable {L m : Nat}
theorem l59 {R : Type} (n : Nat) (hn : 4 ≤ n) (ke : List PV → Option R) (l : List Acc) (hl : OkA L l) (ht : IsTree l) :
    ∀ (i N : Nat) (x : List PV), i < l.length → i < N → x.length + i ≤ 1000 → d59_1i (kk L n) L ke N (accs l) (I i) x = ke (x ++ (upF l (i + 1) i).map Sr) := by
  intro i
  induction i using Nat.strongRecOn with
  | ind i ih =>
    intro N x hi hN hx
    obtain ⟨N, rfl⟩ : ∃ n, N = n + 1 := ⟨N - 1, by omega⟩
    have ha : l[i]? = some l[i] := List.getElem?_eq_getElem hi
    generalize l[i] = a at ha
    by_cases hp : a.parent = ⟨#[]⟩
    · simp only [d59_1i, d59_2, ia24, List.getElem?_map, ha, Option.map_some, ob_some, fa45_1, ld9, neq_str, cb_bool, hp, upF]
      simp
    · obtain ⟨j, b, q1, q2, q3, q4, q5⟩ := ht.step ha hp
      have hjl : j < l.length := by omega
      have := ih j q1 N (x ++ [Sr b.name]) hjl (by omega) (by simp; omega)
      rw [upF_fuel ht j (j + 1) i (by omega) (by omega)] at this
      have hup : upF l (i + 1) i = b.name :: upF l i j := by simp [upF, ha, hp, q3, q4]
      have happ := app32 x [Sr b.name] true (by simp [appendRoom]; omega)
      simp only [d59_1i, d59_2, ia24, List.getElem?_map, ha, Option.map_some, ob_some, fa45_1, fa45_0, ld9, neq_str, cb_bool, hp, decide_false, Bool.not_false, if_true,
        callD_clo, List.nil_append, List.append_nil, c40 (show 4 ≤ n by omega) l a.parent hl.len hl.lenL, extract_tup, List.getElem?_cons_zero, List.getElem?_cons_succ, q3, q4, bs32, happ, oxs_some, this, hup]
      simp
theorem c59 (hm : 5 ≤ m) (l : List Acc) (hl : OkA L l) (ht : IsTree l) (i : Nat) (hi : i < l.length) : callP Try.prog hh L m 59 [accs l, I i] = some (strs false (path l i)) := by
  obtain ⟨n, rfl⟩ : ∃ n, m = n + 1 := ⟨m - 1, by omega⟩
  refine callP_of rfl ?_
  rw [r59]
  have ha : l[i]? = some l[i] := List.getElem?_eq_getElem hi
  have hlen := ht.len
  have hL := hl.lenL
  have := l59 (L := L) n (by omega) (fun x => d59_3 (kk L n) L x) l hl ht i L [Sr l[i].name] hi (by omega) (by simp; omega)
  simp only [d59_0, g59_0, d59_1, ia24, List.getElem?_map, ha, Option.map_some, ob_some, fa45_0, ld9, bx32, oxs_some]
  rw [this]
  simp [d59_3, path, ha]
theorem c48 (hm : 9 ≤ m) (l : List Acc) (s : ByteArray) (hl : OkA L l) : callP Try.prog hh L m 48 [accs l, Sr s] =
    some (if aright l then (match afind l s with | some i => .tup [strs false (path l i), I 0] | none => .tup [.sc (.slice none 0 0), I 141]) else .tup [.sc (.slice none 0 0), I 2]) := by
  obtain ⟨n, rfl⟩ : ∃ n, m = n + 1 := ⟨m - 1, by omega⟩
  refine callP_of rfl ?_
  rw [r48]
  simp only [d48_0, callD_clo, List.nil_append, List.append_nil, c58 (show 8 ≤ n by omega) l s hl, ob_some]
  by_cases h : aright l = true
  · simp only [h, if_true]
    cases hf : afind l s with
    | none => simp
    | some i =>
      obtain ⟨a, ha, _⟩ := afind_some hf
      have hi : i < l.length := by
        rcases Nat.lt_or_ge i l.length with h' | h'
        · exact h'
        · rw [List.getElem?_eq_none h'] at ha; simp at ha
      simp [c59 (show 5 ≤ n by omega) l hl (aright_tree h) i hi]
  · simp [h]
/-- who: a list, or none -/
def SL (v : PV) (l : List ByteArray) : Prop := (∃ c, v = strs c l) ∨ (v = .sc (.slice none 0 0) ∧ l = [])
/-- parts.Admits -/
def admits (l : List Acc) (who : List ByteArray) (s : ByteArray) : Bool :=
  aright l && (match afind l s with
    | some i => who.isEmpty || (path l i).any fun x => who.any fun a => decide (x = a)
    | none => false)
theorem path_len {l : List Acc} (ht : IsTree l) (i : Nat) : (path l i).length ≤ i + 1 := by
  have := upF_len ht i (i + 1)
  simp [path]; omega
theorem c14 (hm : 10 ≤ m) (l : List Acc) (who : List ByteArray) (wv : PV) (s : ByteArray) (hl : OkA L l) (hw : SL wv who) (hwl : who.length ≤ 9223372036854775807) (hwL : who.length < L) :
    callP Try.prog hh L m 14 [accs l, wv, Sr s] = some (Bo (admits l who s)) := by
  obtain ⟨n, rfl⟩ : ∃ n, m = n + 1 := ⟨m - 1, by omega⟩
  refine callP_of rfl ?_
  rw [r14]
  have hk : PV.hasLay 0 wv = true := by rcases hw with ⟨c, rfl⟩ | ⟨rfl, _⟩ <;> rfl
  have hlen : (lenPV Try.prog 32 wv).map (fun n => PV.sc (goInt n)) = some (I who.length) := by
    rcases hw with ⟨c, rfl⟩ | ⟨rfl, rfl⟩
    · rw [ln32]; simp
    · exact ln32n
  rw [d14_0, hk, ck_true]
  simp only [callD_clo, List.nil_append, List.append_nil, c48 (show 9 ≤ n by omega) l s hl, ob_some, hlen, eql_int]
  by_cases h : aright l = true
  · simp only [h, if_true, admits]
    cases hf : afind l s with
    | none => simp
    | some i =>
      obtain ⟨a, ha, _⟩ := afind_some hf
      have hi : i < l.length := by
        rcases Nat.lt_or_ge i l.length with h' | h'
        · exact h'
        · rw [List.getElem?_eq_none h'] at ha; simp at ha
      have hp := path_len (aright_tree h) i
      have hll := hl.lenL
      have hl16 := (aright_tree h).len
      by_cases hw0 : who = []
      · subst hw0; simp
      · have hw1 : ¬ (who.length : Int) = 0 := by have := List.length_pos_iff.2 hw0; omega
        obtain ⟨c, rfl⟩ : ∃ c, wv = strs c who := by rcases hw with h | ⟨_, h⟩; exact h; exact absurd h hw0
        have h49 := c49 (L := L) (m := n) (by omega) (.clo 50 [] [.ro 0 (strs c who)]) (fun x => who.any fun a => decide (x = a)) false (path l i) (by omega) (by omega) (fun k hk a ha => by
          rw [callD_clo]; exact c50 (by omega) a c who hwl hwL)
        have h49' : callD (callP Try.prog hh L n) (.clo 49 [] []) [strs false (path l i), .clo 50 [] [.ro 0 (strs c who)]] true = _ := callD_t (by simpa using h49) rfl
        simp only [extract_tup, List.getElem?_cons_zero, List.getElem?_cons_succ, ob_some, neq_int, cb_bool, hw1, decide_false, gcase_f, h49']
        have : who.isEmpty = false := by cases who <;> simp_all
        simp [this]
  · simp [h, admits]
end
end Go.Lite

namespace Go.Lite
open Go Go.Proofs
set_option linter.unusedVariables false
set_option linter.unusedSimpArgs false

def belowF (l : List Acc) (s : ByteArray) : Nat → List Acc → List ByteArray
  | _, [] => []
  | i, a :: r => if (path l i).any (fun x => decide (s = x)) then a.name :: belowF l s (i + 1) r else belowF l s (i + 1) r
def below (l : List Acc) (s : ByteArray) : List ByteArray := belowF l s 0 l

theorem apv32 (xs ys : List PV) (c : Bool) (h : (xs.length + ys.length) * 16 ≤ appendRoom) : appendPV Try.prog 32 32 (.list 0 true xs) (.list 0 c ys) = some (.list 0 ys.isEmpty (xs ++ ys)) := by
  have := inf9
  cases hi : Try.prog.info? 9 with
  | none => rw [hi] at this; simp at this
  | some i =>
    rw [hi] at this
    simp only [Option.map_some, Option.some.injEq] at this
    have hz : PV.hasLay 0 (Sr ⟨#[]⟩) = true := rfl
    simp [appendPV, u32, y9, hi, zero9, this, hz, width, h]

theorem below_len (l : List Acc) (s : ByteArray) : ∀ (r : List Acc) (i : Nat), (belowF l s i r).length ≤ r.length := by
  intro r
  induction r with
  | nil => intro i; simp [belowF]
  | cons a r ih =>
    intro i
    simp only [belowF]
    have := ih (i + 1)
    split <;> simp <;> omega
theorem below_mem {l : List Acc} {s b : ByteArray} : ∀ {r : List Acc} {i : Nat}, l.drop i = r → b ∈ belowF l s i r → ∃ k a, l[k]? = some a ∧ a.name = b ∧ s ∈ path l k := by
  intro r
  induction r with
  | nil => intro i _ h; simp [belowF] at h
  | cons a r ih =>
    intro i hd h
    obtain ⟨h1, h2, h3, h4⟩ := drop_cons' hd
    simp only [belowF] at h
    split at h
    · rename_i hany
      rcases List.mem_cons.1 h with rfl | h
      · refine ⟨i, a, h2, rfl, ?_⟩
        simp only [List.any_eq_true, decide_eq_true_eq] at hany
        obtain ⟨x, hx, rfl⟩ := hany
        exact hx
      · exact ih h3 h
    · exact ih h3 h

/-- who stands on a path: its own path is the path's end -/
theorem path_sub {l : List Acc} (ht : IsTree l) {i : Nat} {a : Acc} (ha : l[i]? = some a) : ∀ (k : Nat) (c : Acc), l[k]? = some c → a.name ∈ path l k → ∀ x ∈ path l i, x ∈ path l k := by
  intro k
  induction k using Nat.strongRecOn with
  | ind k ih =>
    intro c hc hm x hx
    by_cases hki : k = i
    · subst hki; exact hx
    · simp only [path, hc, List.mem_cons] at hm
      rcases hm with hm | hm
      · exfalso
        have h1 := ht.find ha
        have h2 := ht.find hc
        rw [hm, h2] at h1
        simp only [Option.some.injEq] at h1
        exact hki h1
      · by_cases hp : c.parent = ⟨#[]⟩
        · simp [upF, hc, hp] at hm
        · obtain ⟨j, b, q1, q2, q3, q4, q5⟩ := ht.step hc hp
          have hup : upF l (k + 1) k = b.name :: upF l k j := by simp [upF, hc, hp, q3, q4]
          have hpj : path l j = b.name :: upF l k j := by
            simp only [path, q4]
            rw [upF_fuel ht j (j + 1) k (by omega) (by omega)]
          rw [hup, ← hpj] at hm
          have := ih j q1 b q4 hm x hx
          simp only [path, hc, List.mem_cons]
          rw [hup, ← hpj]
          exact .inr this

section
variable {L m : Nat}
theorem l18 {R : Type} (n : Nat) (hn : 5 ≤ n) (ke : List PV → Option R) (l : List Acc) (s : ByteArray) (hl : OkA L l) (ht : IsTree l) :
    ∀ (r : List Acc) (N i : Nat) (x : List PV), l.drop i = r → r.length < N → x.length + r.length ≤ 1000 → d18_1i (kk L n) L ke N (accs l) (Sr s) (accs l) (I l.length) (I i) x = ke (x ++ (belowF l s i r).map Sr) := by
  intro r
  induction r with
  | nil =>
    intro N i x h hN _
    obtain ⟨N, rfl⟩ : ∃ n, N = n + 1 := ⟨N - 1, by omega⟩
    have := drop_nil' h
    have h2 : ¬ (i : Int) < l.length := by omega
    simp [d18_1i, d18_2, h2, belowF]
  | cons a r ih =>
    intro N i x h hN hx
    obtain ⟨N, rfl⟩ : ∃ n, N = n + 1 := ⟨N - 1, by omega⟩
    obtain ⟨h1, h2, h3, h4⟩ := drop_cons' h
    have h5 : (i : Int) < l.length := by omega
    simp only [List.length_cons] at hN hx
    have hp := path_len ht i
    have hll := hl.lenL
    have hl16 := ht.len
    have e0 := ih N (i + 1) x h3 (by omega) (by omega)
    have e1 := ih N (i + 1) (x ++ [Sr a.name]) h3 (by omega) (by simp; omega)
    have happ := app32 x [Sr a.name] true (by simp [appendRoom]; omega)
    simp only [d18_1i, d18_2, lss_int, ob_some, cb_bool, decide_eq_true_eq, h5, if_true, ia24, List.getElem?_map, h2, Option.map_some, ld45, put4, acc0, callD_clo, List.nil_append, List.append_nil,
      c59 (show 5 ≤ n by omega) l hl ht i h1, c51 (L := L) (show 2 ≤ n by omega) s false (path l i) (by omega) (by omega), bs32, happ, oxs_some, add_int, wrap_succ (show i < 9223372036854775807 by omega), e0, e1, belowF]
    by_cases hq : ((path l i).any fun a => decide (s = a)) = true <;> simp [hq]
theorem c18 (hm : 9 ≤ m) (l : List Acc) (i : Nat) (a : Acc) (hl : OkA L l) (hr : aright l = true) (ha : l[i]? = some a) : callP Try.prog hh L m 18 [accs l, Sr a.name] = some (.tup [strs false (below l a.name), I 0]) := by
  obtain ⟨n, rfl⟩ : ∃ n, m = n + 1 := ⟨m - 1, by omega⟩
  refine callP_of rfl ?_
  rw [r18]
  have ht := aright_tree hr
  have hf := ht.find ha
  have hlen := ht.len
  have := l18 (L := L) n (by omega) (fun x => d18_3 (kk L n) L x) l a.name hl ht l L 0 [] rfl hl.lenL (by simp; omega)
  simp only [d18_0, g18_0, callD_clo, List.nil_append, List.append_nil, c58 (show 8 ≤ n by omega) l a.name hl, hr, if_true, hf, ob_some, extract_tup, List.getElem?_cons_zero, List.getElem?_cons_succ, neq_int, cb_bool, ln24, d18_1, List.length_map]
  rw [show (PV.sc (Value.int IntKind.i64 0)) = I ((0 : Nat) : Int) from rfl, this]
  simp [d18_3, below]

theorem admits_nil {l : List Acc} (hr : aright l = true) {i : Nat} {a : Acc} (ha : l[i]? = some a) : admits l [] a.name = true := by
  simp [admits, hr, (aright_tree hr).find ha]
theorem admits_self {l : List Acc} (hr : aright l = true) {i : Nat} {a : Acc} (ha : l[i]? = some a) : admits l [a.name] a.name = true := by
  simp [admits, hr, (aright_tree hr).find ha, path, ha]
theorem admits_below {l : List Acc} (hr : aright l = true) {i : Nat} {a : Acc} (ha : l[i]? = some a) {who : List ByteArray} (h : admits l who a.name = true) {b : ByteArray} (hb : b ∈ below l a.name) : admits l who b = true := by
  have ht := aright_tree hr
  obtain ⟨k, c, hc, rfl, hm⟩ := below_mem (i := 0) rfl hb
  have hsub := path_sub ht ha k c hc hm
  simp only [admits, hr, ht.find ha, ht.find hc, Bool.true_and, Bool.or_eq_true, List.any_eq_true] at h ⊢
  rcases h with h | ⟨x, hx, h⟩
  · exact .inl h
  · exact .inr ⟨x, hsub x hx, h⟩
theorem admits_more {l : List Acc} {who : List ByteArray} {s t : ByteArray} (h0 : who ≠ []) (h : admits l who s = true) : admits l (t :: who) s = true := by
  simp only [admits, Bool.and_eq_true] at h ⊢
  refine ⟨h.1, ?_⟩
  have h2 := h.2
  cases hf : afind l s with
  | none => rw [hf] at h2; simp at h2
  | some i =>
    rw [hf] at h2
    simp only [Bool.or_eq_true, List.any_eq_true] at h2 ⊢
    rcases h2 with h2 | ⟨x, hx, y, hy, h2⟩
    · simp at h2; exact absurd h2 h0
    · exact .inr ⟨x, hx, y, List.mem_cons_of_mem _ hy, h2⟩
end
end Go.Lite

namespace Go.Lite
open Go Go.Proofs
set_option linter.unusedVariables false
set_option linter.unusedSimpArgs false

section
variable {L m : Nat}
/-- the inner loop: all below are let in, too -/
theorem l4_3 {R : Type} (n : Nat) (hn : 10 ≤ n) (kr : PV → PV → Option R) (ke : PV → PV → PV → PV → PV → PV → PV → Option R) (l : List Acc) (who : List ByteArray) (hl : OkA L l) (hwl : who.length ≤ 9223372036854775807) (hwL : who.length < L)
    (a : Acc) (u2 u3 u4 u5 : PV) (bs : List ByteArray) (hbl : bs.length ≤ 9223372036854775807) (hb : ∀ b ∈ bs, admits l who a.name = true → admits l who b = true) :
    ∀ (r : List ByteArray) (N i : Nat), bs.drop i = r → r.length < N → d4_3i (kk L n) L kr ke N (accs l) (strs false who) u2 u3 u4 u5 (strs false bs) (I bs.length) (I i) a.pv = ke (accs l) (strs false who) u2 u3 u4 u5 a.pv := by
  intro r
  induction r with
  | nil =>
    intro N i h hN
    obtain ⟨N, rfl⟩ : ∃ n, N = n + 1 := ⟨N - 1, by omega⟩
    have := drop_nil' h
    have h2 : ¬ (i : Int) < bs.length := by omega
    simp [d4_3i, d4_4, h2]
  | cons b r ih =>
    intro N i h hN
    obtain ⟨N, rfl⟩ : ∃ n, N = n + 1 := ⟨N - 1, by omega⟩
    obtain ⟨h1, h2, h3, h4⟩ := drop_cons' h
    have h5 : (i : Int) < bs.length := by omega
    simp only [List.length_cons] at hN
    have := ih N (i + 1) h3 (by omega)
    have hc := fun s => c14 (L := L) (m := n) hn l who (strs false who) s hl (.inl ⟨false, rfl⟩) hwl hwL
    simp only [d4_3i, d4_4, lss_int, ob_some, cb_bool, decide_eq_true_eq, h5, if_true, ia32, List.getElem?_map, h2, Option.map_some, ld9, acc0, callD_clo, List.nil_append, List.append_nil, hc, gcase_t, not_bool, add_int, wrap_succ (show i < 9223372036854775807 by omega), this]
    have := hb b h4
    by_cases q1 : admits l who a.name = true
    · simp [q1, this q1]
    · simp [q1]

/-- the outer loop -/
theorem l4_1 (n : Nat) (hn : 10 ≤ n) (l : List Acc) (who : List ByteArray) (more : ByteArray) (hl : OkA L l) (hr : aright l = true) (hwl : who.length < 1000) (hwL : who.length + 1 < L) (hL : 20 < L) (kr : PV → Option PV) (ke : Option PV) :
    ∀ (r : List Acc) (N i : Nat), l.drop i = r → r.length < N → d4_1i (kk L n) L kr ke N (accs l) (strs false who) (Sr more) (accs l) (I l.length) (I i) = ke := by
  intro r
  induction r with
  | nil =>
    intro N i h hN
    obtain ⟨N, rfl⟩ : ∃ n, N = n + 1 := ⟨N - 1, by omega⟩
    have := drop_nil' h
    have h2 : ¬ (i : Int) < l.length := by omega
    simp [d4_1i, d4_2, g4_2, h2]
  | cons a r ih =>
    intro N i h hN
    obtain ⟨N, rfl⟩ : ∃ n, N = n + 1 := ⟨N - 1, by omega⟩
    obtain ⟨h1, h2, h3, h4⟩ := drop_cons' h
    have h5 : (i : Int) < l.length := by omega
    simp only [List.length_cons] at hN
    have hnext := ih N (i + 1) h3 (by omega)
    have ht := aright_tree hr
    have hlen := ht.len
    have hbl := below_len l a.name l 0
    have hc18 := c18 (L := L) (m := n) (by omega) l i a hl hr h2
    have hc0 := c14 (L := L) (m := n) hn l [] (.sc (.slice none 0 0)) a.name hl (.inr ⟨rfl, rfl⟩) (by simp) (by simp; omega)
    have hc1 := c14 (L := L) (m := n) hn l [a.name] (.list 0 true [Sr a.name]) a.name hl (.inl ⟨true, rfl⟩) (by simp) (by simp; omega)
    have hcw := c14 (L := L) (m := n) hn l who (strs false who) a.name hl (.inl ⟨false, rfl⟩) (by omega) (by omega)
    have hcm := c14 (L := L) (m := n) hn l (more :: who) (.list 0 (who.map Sr).isEmpty (Sr more :: who.map Sr)) a.name hl (.inl ⟨_, rfl⟩) (by simp; omega) (by simp; omega)
    rw [admits_nil hr h2] at hc0
    rw [admits_self hr h2] at hc1
    have happ := apv32 [Sr more] (who.map Sr) false (by simp [appendRoom]; omega)
    have hin := fun kr' ke' => l4_3 (L := L) (R := PV) n hn kr' ke' l who hl (by omega) (by omega) a (Sr more) (accs l) (I l.length) (I i) (below l a.name) (by unfold below; omega) (fun b hb hq => admits_below hr h2 hq hb) (below l a.name) L 0 rfl (by unfold below; omega)
    simp only [d4_1i, d4_2, g4_2, lss_int, ob_some, cb_bool, decide_eq_true_eq, h5, if_true, ia24, List.getElem?_map, h2, Option.map_some, ld45, put4, acc0, callD_clo, List.nil_append, List.append_nil, hc18, extract_tup,
      List.getElem?_cons_zero, List.getElem?_cons_succ, neq_int, gcase_f, hc0, not_bool, bs32, hc1, ln32, d4_3, List.length_map]
    simp only [ne_eq, not_true_eq_false, decide_false, Bool.not_true, Bool.false_eq_true, if_false]
    rw [show (PV.sc (Value.int IntKind.i64 0)) = I ((0 : Nat) : Int) from rfl, hin]
    simp only [d4_5, ln32, ob_some, gtr_int, gcase_t, acc0, callD_clo, List.nil_append, List.append_nil, hcw, bs32, happ, List.singleton_append, hcm, not_bool, cb_bool, add_int, wrap_succ (show i < 9223372036854775807 by omega), hnext, List.length_map]
    by_cases h0 : who = []
    · subst h0; simp
    · have : (0 : Int) < who.length := by have := List.length_pos_iff.2 h0; omega
      by_cases q : admits l who a.name = true
      · simp [this, q, admits_more h0 q]
      · simp [this, q]

theorem c4 (hm : 11 ≤ m) (l : List Acc) (who : List ByteArray) (more : ByteArray) (hl : l.length ≤ 60 → OkA L l) (hL : 100 < L) (haw : callP Try.prog hh L (m - 1) 6 [] = some (Bo true)) :
    callP Try.prog hh L m 4 [accs l, strs false who, Sr more] = some (Bo true) := by
  obtain ⟨n, rfl⟩ : ∃ n, m = n + 1 := ⟨m - 1, by omega⟩
  refine callP_of rfl ?_
  rw [r4]
  simp only [Nat.add_sub_cancel] at haw
  simp only [d4_0, g4_0, ln24, ln32, ob_some, gtr_int, gcase_f, callD_clo, List.nil_append, List.append_nil, haw, List.length_map]
  by_cases h1 : (60 : Int) < l.length
  · simp [h1]
  · have hl := hl (by omega)
    simp only [c17 (show 7 ≤ n by omega) l hl, ob_some, not_bool, cb_bool]
    by_cases h2 : (60 : Int) < who.length
    · simp [h1, h2]
    · by_cases h3 : aright l = true
      · simp only [h1, h2, h3, decide_false, Bool.false_eq_true, if_false, Bool.not_true, d4_1]
        rw [show (PV.sc (Value.int IntKind.i64 0)) = I ((0 : Nat) : Int) from rfl, l4_1 (L := L) n (by omega) l who more hl h3 (by omega) (by omega) (by omega) _ _ l L 0 rfl hl.lenL]
        simp only [d4_6, callD_clo, List.nil_append, List.append_nil, haw, ob_some]
      · simp [h1, h2, h3]
end

/-! # the arguments -/
theorem list_bound {α : Type} (f : α → Nat) : ∀ (l : List α), ∃ B, ∀ a ∈ l, f a < B := by
  intro l
  induction l with
  | nil => exact ⟨0, by simp⟩
  | cons a r ih =>
    obtain ⟨B, hB⟩ := ih
    refine ⟨B + f a + 1, fun b hb => ?_⟩
    rcases List.mem_cons.1 hb with rfl | hb
    · omega
    · have := hB b hb; omega
theorem str_inv {d : PV} (h : Typed .str d) : ∃ s, d = Sr s ∧ s.size ≤ 9223372036854775807 := by
  cases h with
  | str h => exact ⟨_, rfl, Nat.le_trans h (by decide)⟩
theorem int_inv {k : IntKind} {d : PV} (h : Typed (.int k) d) : ∃ n, d = .sc (.int k n) := by cases h; exact ⟨_, rfl⟩
theorem rows_acc : ∀ (rows : List (List PV)), (∀ xs ∈ rows, xs.length = 3) → (∀ xs ∈ rows, ∀ (i : Nat) (ct : CT) (x : PV), [CT.str, .str, .int .i64][i]? = some ct → xs[i]? = some x → Typed ct x) →
    ∃ l : List Acc, rows.map (rowPV 4) = l.map Acc.pv ∧ ∀ a ∈ l, a.name.size ≤ 9223372036854775807 := by
  intro rows
  induction rows with
  | nil => intro _ _; exact ⟨[], rfl, by simp⟩
  | cons xs r ih =>
    intro h1 h2
    obtain ⟨l, hl, hb⟩ := ih (fun ys hy => h1 ys (List.mem_cons_of_mem _ hy)) (fun ys hy => h2 ys (List.mem_cons_of_mem _ hy))
    match xs, h1 xs (List.mem_cons_self), h2 xs (List.mem_cons_self) with
    | [x, y, z], _, h =>
      obtain ⟨s, rfl, hs⟩ := str_inv (h 0 _ _ rfl rfl)
      obtain ⟨t, rfl, _⟩ := str_inv (h 1 _ _ rfl rfl)
      obtain ⟨n, rfl⟩ := int_inv (h 2 _ _ rfl rfl)
      exact ⟨⟨s, t, n⟩ :: l, by simp [hl, rowPV, Acc.pv], fun a ha => by
        rcases List.mem_cons.1 ha with rfl | ha
        · exact hs
        · exact hb a ha⟩
theorem accs_inv {d : PV} (h : Typed (.list 4 40 [.str, .str, .int .i64]) d) : ∃ l, d = accs l ∧ ∀ a ∈ l, a.name.size ≤ 9223372036854775807 := by
  cases h with
  | list rows hm hb hl hx =>
    obtain ⟨l, e, hb'⟩ := rows_acc rows hl hx
    exact ⟨l, by rw [e], hb'⟩
theorem rows_str : ∀ (rows : List (List PV)), (∀ xs ∈ rows, xs.length = 1) → (∀ xs ∈ rows, ∀ (i : Nat) (ct : CT) (x : PV), [CT.str][i]? = some ct → xs[i]? = some x → Typed ct x) →
    ∃ l : List ByteArray, rows.map (rowPV 0) = l.map Sr := by
  intro rows
  induction rows with
  | nil => intro _ _; exact ⟨[], rfl⟩
  | cons xs r ih =>
    intro h1 h2
    obtain ⟨l, hl⟩ := ih (fun ys hy => h1 ys (List.mem_cons_of_mem _ hy)) (fun ys hy => h2 ys (List.mem_cons_of_mem _ hy))
    match xs, h1 xs (List.mem_cons_self), h2 xs (List.mem_cons_self) with
    | [x], _, h =>
      obtain ⟨s, rfl, _⟩ := str_inv (h 0 _ _ rfl rfl)
      exact ⟨s :: l, by simp [hl, rowPV]⟩
theorem strs_inv {d : PV} (h : Typed (.list 0 16 [.str]) d) : ∃ l, d = strs false l := by
  cases h with
  | list rows hm hb hl hx =>
    obtain ⟨l, e⟩ := rows_str rows hl hx
    exact ⟨l, by rw [e]⟩
theorem TypedA.cell {ct : CT} {d : PV} (h : TypedA (0, [ct]) d) : Typed ct d := by
  obtain ⟨xs, rfl, hl, h⟩ := h
  match xs, hl with
  | [x], _ => exact h 0 _ _ rfl rfl
theorem main4 (haw : callP Try.prog hh 1000 40 6 [] = some (Bo true)) (a b c : PV) (ha : TypedA (0, [.list 4 40 [.str, .str, .int .i64]]) a) (hb : TypedA (0, [.list 0 16 [.str]]) b) (hc : TypedA (0, [.str]) c) :
    ∃ L n, callP Try.prog hh L n 4 [a, b, c] = some (Bo true) := by
  obtain ⟨l, rfl, hlb⟩ := accs_inv ha.cell
  obtain ⟨who, rfl⟩ := strs_inv hb.cell
  obtain ⟨more, rfl, _⟩ := str_inv hc.cell
  obtain ⟨B, hB⟩ := list_bound (fun a : Acc => a.name.size) l
  refine ⟨B + 1001, 60, c4 (by omega) l who more (fun h => ⟨by omega, by omega, fun a h => by have := hB a h; omega, hlb⟩) (by omega) (callP_mono (by omega) (by omega) haw)⟩
end Go.Lite
