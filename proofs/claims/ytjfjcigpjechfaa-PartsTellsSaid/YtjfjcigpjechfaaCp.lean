import Derived.Test.YtjfjcigpjechfaaCo
import Derived.Laws.RangeAny
import Derived.Laws.StructEq

namespace Go.Lite
open Go Go.Proofs
set_option linter.unusedVariables false
set_option linter.unusedSimpArgs false

theorem index_str' (s : ByteArray) (i : Nat) (h : i < s.size) : indexPV Try.prog 9 (Sr s) (I i) = some (.sc (.int .u8 (s.data[i]'h).toNat)) := by
  have hb : s[(i : Int).toNat]? = some (s.data[i]'h) := by
    show s[i]? = _
    rw [getElem?_pos s i h]; rfl
  have hu : ∀ (α : Type) (k : TypeDesc → Sem α), pureRun Try.prog (underlying 9 >>= k) = pureRun Try.prog (k .string) := by
    intro α k
    have : underlying 9 >>= k = Sem.program fun P => (match P.underlying 9 with | some d => pure d | none => stuck "no such type") >>= k := rfl
    rw [this, pureRun, u9]; rfl
  have : pureRun Try.prog (Instr.index 9 (.string s) (.int .i64 i)) = some (.int .u8 (s.data[i]'h).toNat) := by
    unfold Instr.index
    show pureRun Try.prog (underlying 9 >>= fun d => _) = _
    rw [hu]
    simp only [Int.natCast_nonneg, if_true, hb]
    rfl
  simp [indexPV, this]

theorem size_list (s : ByteArray) : s.data.toList.length = s.size := by rw [Array.length_toList]; rfl
theorem get_list (s : ByteArray) (i : Nat) (h : i < s.size) : s.data.toList[i]? = some (s.data[i]'h) := by
  rw [Array.getElem?_toList]; exact Array.getElem?_eq_getElem h
def letter (b : UInt8) : Bool := decide (97 ≤ (b.toNat : Int)) && decide ((b.toNat : Int) ≤ 122)
def other (b : UInt8) : Bool := (decide (48 ≤ (b.toNat : Int)) && decide ((b.toNat : Int) ≤ 57)) || decide ((b.toNat : Int) = 45) || decide ((b.toNat : Int) = 95)
def rn : Nat → List UInt8 → Bool
  | _, [] => true
  | i, b :: r => (letter b || (!decide (i = 0) && other b)) && rn (i + 1) r

section
variable {L m : Nat}
theorem l37 {R : Type} (C : Kallee) (ke kr : PV → Option R) (s : ByteArray) (hs : s.size ≤ 9223372036854775807) :
    ∀ (r : List UInt8) (N i : Nat), s.data.toList.drop i = r → r.length < N → d37_1i C L ke kr N (Sr s) (I i) = if rn i r then ke (Sr s) else kr (Bo false) := by
  intro r
  induction r with
  | nil =>
    intro N i h hN
    obtain ⟨N, rfl⟩ : ∃ n, N = n + 1 := ⟨N - 1, by omega⟩
    have := drop_nil' h
    have h2 : ¬ (i : Int) < s.size := by
      have := size_list s
      omega
    simp [d37_1i, d37_2, g37_2, h2, rn]
  | cons b r ih =>
    intro N i h hN
    obtain ⟨N, rfl⟩ : ∃ n, N = n + 1 := ⟨N - 1, by omega⟩
    obtain ⟨h1, h2, h3, h4⟩ := drop_cons' h
    have h6 : i < s.size := by
      have := size_list s
      omega
    have h5 : (i : Int) < s.size := by omega
    have hb : s.data[i]'h6 = b := by
      have := get_list s i h6
      rw [h2] at this; simpa using this.symm
    simp only [List.length_cons] at hN
    have := ih N (i + 1) h3 (by omega)
    have hi0 : ((i : Int) = 0) = (i = 0) := by apply propext; omega
    simp only [d37_1i, d37_2, g37_2, d37_3, d37_4, ln9, lss_int, ob_some, cb_bool, decide_eq_true_eq, h5, if_true, index_str' s i h6, hb, geq_int, leq_int, eql_int, gcase_t, gcase_f, not_bool, add_int, wrap_succ (show i < 9223372036854775807 by omega), this, rn, letter, other, hi0]
    by_cases q1 : (97 : Int) ≤ b.toNat
    · by_cases q2 : (b.toNat : Int) ≤ 122
      · simp [q1, q2]
      · have q3 : ¬ (b.toNat : Int) ≤ 57 := by omega
        have q4 : ¬ (b.toNat : Int) = 45 := by omega
        have q5 : ¬ (b.toNat : Int) = 95 := by omega
        have q6 : (48 : Int) ≤ b.toNat := by omega
        by_cases q0 : i = 0 <;> simp [q1, q2, q3, q4, q5, q6, q0]
    · by_cases q0 : i = 0
      · simp [q1, q0]
      · by_cases q6 : (48 : Int) ≤ b.toNat <;> by_cases q3 : (b.toNat : Int) ≤ 57 <;> by_cases q4 : (b.toNat : Int) = 45 <;> by_cases q5 : (b.toNat : Int) = 95 <;> simp [q1, q0, q6, q3, q4, q5]

theorem rn_runes (s : ByteArray) : ∀ (r : List UInt8) (i F : Nat), s.data.toList.drop i = r → r.length < F → 0 < i → (rfrom badRune s F i).isNone = rn i r := by
  intro r
  induction r with
  | nil =>
    intro i F h hF hi
    obtain ⟨F, rfl⟩ : ∃ n, F = n + 1 := ⟨F - 1, by omega⟩
    have := drop_nil' h
    have h2 : ¬ i < s.size := by have := size_list s; omega
    simp [rfrom, h2, rn]
  | cons b r ih =>
    intro i F h hF hi
    obtain ⟨F, rfl⟩ : ∃ n, F = n + 1 := ⟨F - 1, by omega⟩
    obtain ⟨h1, h2, h3, h4⟩ := drop_cons' h
    have h6 : i < s.size := by have := size_list s; omega
    have hb : s.data[i]'h6 = b := by
      have := get_list s i h6
      rw [h2] at this; simpa using this.symm
    simp only [List.length_cons] at hF
    have hi0 : ¬ i = 0 := by omega
    by_cases hlow : b.toNat < 128
    · have hd : Utf8.decode s i = (b.toNat, 1) := by
        have h0 : s.get! (i + 0) = b := by rw [get_at s i h6]; exact hb
        simp only [Utf8.decode, h0, hlow, if_true]
      have hrec := ih (i + 1) F h3 (by omega) (by omega)
      simp only [rfrom, h6, if_true, hd, rn, hi0, decide_false, Bool.not_false, Bool.true_and]
      by_cases hbad : badRune (b.toNat : Int) = true
      · have : (letter b || other b) = false := by
          simp only [badRune, letter, other, Bool.and_eq_true, Bool.or_eq_true, bne_iff_ne, decide_eq_true_eq, Bool.or_eq_false_iff, Bool.and_eq_false_iff, decide_eq_false_iff_not] at hbad ⊢
          omega
        simp [hbad, this]
      · have : (letter b || other b) = true := by
          simp only [badRune, letter, other, Bool.and_eq_true, Bool.or_eq_true, bne_iff_ne, decide_eq_true_eq] at hbad ⊢
          omega
        simp [hbad, this, hrec]
    · obtain ⟨g1, g2⟩ := decode_high s i h6 (by show 128 ≤ (s.data[i]'h6).toNat; rw [hb]; omega)
      have hbad : badRune ((Utf8.decode s i).1 : Int) = true := by
        simp only [badRune, Bool.and_eq_true, Bool.or_eq_true, bne_iff_ne, decide_eq_true_eq]
        omega
      have : (letter b || other b) = false := by
        simp only [letter, other, Bool.or_eq_false_iff, Bool.and_eq_false_iff, decide_eq_false_iff_not]
        omega
      simp [rfrom, h6, hbad, rn, hi0, this]
end
end Go.Lite

namespace Go.Lite
open Go Go.Proofs
set_option linter.unusedVariables false
set_option linter.unusedSimpArgs false

theorem nm_bytes (s : ByteArray) : nm s = (rn 0 s.data.toList && decide (1 ≤ s.size) && decide (s.size ≤ 16)) := by
  by_cases h0 : s.size = 0
  · have : s = ⟨#[]⟩ := by
      apply WideShapes.bytes_inj
      have := size_list s
      rw [h0] at this
      rw [List.eq_nil_of_length_eq_zero this]
    subst this
    have e : decide (1 ≤ (⟨#[]⟩ : ByteArray).size) = false := by decide
    simp only [nm, e, decide_true, Bool.not_true, Bool.false_and, Bool.and_false]
  · have hs : 0 < s.size := by omega
    have hne : s ≠ ⟨#[]⟩ := by intro h; subst h; exact absurd hs (by decide)
    have hb : s.data[0]? = some (s.data[0]'hs) := Array.getElem?_eq_getElem hs
    have hl := size_list s
    cases hd : s.data.toList with
    | nil => rw [hd] at hl; simp at hl; omega
    | cons b r =>
      have hb0 : s.data[0]'hs = b := by
        have := get_list s 0 hs
        rw [hd] at this; simpa using this.symm
      have h1 : s.data.toList.drop 1 = r := by rw [hd]; rfl
      rw [hd] at hl
      simp only [List.length_cons] at hl
      simp only [nm, hb, hb0, rn, hne, decide_false, Bool.not_false, Bool.true_and, decide_true, Bool.false_and, Bool.or_false, Bool.not_true, show 1 ≤ s.size from hs, Bool.and_true]
      by_cases hlet : letter b = true
      · have hlow : b.toNat < 128 := by simp only [letter, Bool.and_eq_true, decide_eq_true_eq] at hlet; omega
        have h0' : s.get! (0 + 0) = b := by rw [get_at s 0 hs]; exact hb0
        have hdec : Utf8.decode s 0 = (b.toNat, 1) := by simp only [Utf8.decode, h0', hlow, if_true]
        have hbad : badRune (b.toNat : Int) = false := by
          simp only [letter, Bool.and_eq_true, decide_eq_true_eq] at hlet
          cases hq : badRune (b.toNat : Int) with
          | false => rfl
          | true =>
            simp only [badRune, Bool.and_eq_true, Bool.or_eq_true, bne_iff_ne, decide_eq_true_eq] at hq
            omega
        have hrec := rn_runes s r 1 s.size h1 (by omega) (by omega)
        have hr : rfrom badRune s (s.size + 1) 0 = rfrom badRune s s.size 1 := by
          rw [rfrom]; simp only [hs, if_true, hdec, hbad]; simp
        rw [hr, hrec]
        unfold letter at hlet
        rw [hlet, show letter b = true from hlet]
        cases rn 1 r <;> simp
      · have hlet' : letter b = false := by simpa using hlet
        have : (decide (97 ≤ (b.toNat : Int)) && decide ((b.toNat : Int) ≤ 122)) = false := hlet'
        rw [this, hlet']
        simp

section
variable {L m : Nat}
theorem c37 (hm : 1 ≤ m) (s : ByteArray) (hs : s.size ≤ 9223372036854775807) (hL : s.size < L) : callP Try.prog hh L m 37 [Sr s] = some (Bo (nm s)) := by
  obtain ⟨n, rfl⟩ : ∃ n, m = n + 1 := ⟨m - 1, by omega⟩
  refine callP_of rfl ?_
  rw [r37]
  have := l37 (L := L) (kk L n) (fun v => d37_5 (kk L n) L v) (fun v => some v) s hs s.data.toList L 0 rfl (by rw [size_list]; exact hL)
  simp only [d37_0, g37_0, d37_1]
  rw [show (PV.sc (Value.int IntKind.i64 0)) = I ((0 : Nat) : Int) from rfl, this]
  simp only [d37_5, ln9, ob_some, geq_int, gcase_t, leq_int, nm_bytes]
  have e1 : (1 : Int) ≤ s.size ↔ 1 ≤ s.size := by omega
  have e2 : (s.size : Int) ≤ 16 ↔ s.size ≤ 16 := by omega
  simp only [e1, e2]
  by_cases q2 : rn 0 s.data.toList = true <;> by_cases q1 : 1 ≤ s.size <;> simp [q1, q2]

theorem l44 {R : Type} (C : Kallee) (kr : PV → PV → Option R) (ke : Option R) (s : ByteArray) (l : List Acc) (hl : l.length ≤ 9223372036854775807) :
    ∀ (r : List Acc) (N i : Nat), l.drop i = r → r.length < N → d44_1i C L kr ke N (accs l) (Sr s) (I i) = (match ffrom (fun a => decide (a.name = s)) i r with | some j => kr (I j) (Bo true) | none => ke) := by
  intro r
  induction r with
  | nil =>
    intro N i h hN
    obtain ⟨N, rfl⟩ : ∃ n, N = n + 1 := ⟨N - 1, by omega⟩
    have := drop_nil' h
    have h2 : ¬ (i : Int) < l.length := by omega
    simp [d44_1i, d44_2, h2, ffrom]
  | cons a r ih =>
    intro N i h hN
    obtain ⟨N, rfl⟩ : ∃ n, N = n + 1 := ⟨N - 1, by omega⟩
    obtain ⟨h1, h2, h3, h4⟩ := drop_cons' h
    have h5 : (i : Int) < l.length := by omega
    simp only [List.length_cons] at hN
    have := ih N (i + 1) h3 (by omega)
    simp only [d44_1i, d44_2, ln24, List.length_map, lss_int, ob_some, cb_bool, decide_eq_true_eq, h5, if_true, ia24, List.getElem?_map, h2, Option.map_some, fa45_0, ld9, eql_str, add_int, wrap_succ (show i < 9223372036854775807 by omega), this, ffrom]
    by_cases hx : a.name = s <;> simp [hx]
theorem c44 (hm : 1 ≤ m) (l : List Acc) (s : ByteArray) (hl : l.length ≤ 9223372036854775807) (hL : l.length < L) :
    callP Try.prog hh L m 44 [accs l, Sr s] = some (.tup [I (aix l s : Nat), Bo (afind l s).isSome]) := by
  obtain ⟨n, rfl⟩ : ∃ n, m = n + 1 := ⟨m - 1, by omega⟩
  refine callP_of rfl ?_
  rw [r44]
  have := l44 (L := L) (kk L n) (fun v w => some (.tup [v, w])) (d44_3 (kk L n) L) s l hl l L 0 rfl hL
  simp only [d44_0, g44_0, d44_1]
  rw [show (PV.sc (Value.int IntKind.i64 0)) = I ((0 : Nat) : Int) from rfl, this, aix, afind]
  cases ffrom (fun a : Acc => decide (a.name = s)) 0 l <;> rfl

theorem l70 {R : Type} (n : Nat) (hn : 1 ≤ n) (kr : PV → Option R) (ke : PV → Option R) (l : List Acc) (hl : OkA L l) :
    ∀ (r : List Acc) (N i : Nat), l.drop i = r → r.length < N → d70_1i (kk L n) L kr ke N (accs l) (I i) = if arightFrom l i r then ke (accs l) else kr (Bo false) := by
  intro r
  induction r with
  | nil =>
    intro N i h hN
    obtain ⟨N, rfl⟩ : ∃ n, N = n + 1 := ⟨N - 1, by omega⟩
    have := drop_nil' h
    have h2 : ¬ (i : Int) < l.length := by omega
    simp [d70_1i, d70_2, h2, arightFrom]
  | cons a r ih =>
    intro N i h hN
    obtain ⟨N, rfl⟩ : ∃ n, N = n + 1 := ⟨N - 1, by omega⟩
    obtain ⟨h1, h2, h3, h4⟩ := drop_cons' h
    have h5 : (i : Int) < l.length := by omega
    simp only [List.length_cons] at hN
    have := ih N (i + 1) h3 (by omega)
    have hle := hl.len
    have ht : (l.take i).length ≤ 9223372036854775807 := by simp; omega
    have htL : (l.take i).length < L := by have := hl.lenL; simp; omega
    have hnm := hl.name a h4
    have hnb := hl.nameB a h4
    simp only [d70_1i, d70_2, ln24, List.length_map, lss_int, ob_some, cb_bool, decide_eq_true_eq, h5, if_true, ia24, List.getElem?_map, h2, Option.map_some, ld45, put4, slice24 l i (by omega), acc0, acc1, acc2,
      callD_clo, List.nil_append, List.append_nil, c44 (show 1 ≤ n by omega) (l.take i) _ ht htL, extract_tup, List.getElem?_cons_zero, List.getElem?_cons_succ, gcase_f, gcase_t, c37 (L := L) (show 1 ≤ n by omega) a.name hnb (by omega),
      not_bool, neq_str, gtr_int, add_int, wrap_succ (show i < 9223372036854775807 by omega), this, arightFrom, arow]
    by_cases q4 : (afind (l.take i) a.name).isSome = true <;> by_cases q5 : nm a.name = true <;> by_cases q6 : (afind (l.take i) a.parent).isSome = true <;> by_cases q1 : a.parent = ⟨#[]⟩ <;> by_cases q2 : a.limit < -1 <;> by_cases q3 : 1073741824 < a.limit <;> simp [q1, q2, q3, q4, q5, q6]
theorem c70 (hm : 2 ≤ m) (l : List Acc) (hl : OkA L l) : callP Try.prog hh L m 70 [accs l] = some (Bo (aright l)) := by
  obtain ⟨n, rfl⟩ : ∃ n, m = n + 1 := ⟨m - 1, by omega⟩
  refine callP_of rfl ?_
  rw [r70]
  have := l70 (L := L) n (by omega) (fun v => some v) (fun v => d70_3 (kk L n) L v) l hl l L 0 rfl hl.lenL
  simp only [d70_0, g70_0, d70_1]
  rw [show (PV.sc (Value.int IntKind.i64 0)) = I ((0 : Nat) : Int) from rfl, this]
  simp only [d70_3, ln24, ob_some, geq_int, gcase_t, leq_int, List.length_map, aright]
  have e1 : (1 : Int) ≤ l.length ↔ 1 ≤ l.length := by omega
  have e2 : (l.length : Int) ≤ 16 ↔ l.length ≤ 16 := by omega
  simp only [e1, e2]
  by_cases q2 : arightFrom l 0 l = true <;> by_cases q1 : 1 ≤ l.length <;> simp [q1, q2]

theorem l52 {R : Type} (n : Nat) (hn : 1 ≤ n) (ke : List PV → Option R) (l : List Acc) (hl : OkA L l) (ht : IsTree l) :
    ∀ (i N : Nat) (x : List PV), i < l.length → i < N → x.length + i ≤ 1000 → d52_1i (kk L n) L ke N (accs l) (I i) x = ke (x ++ (upF l (i + 1) i).map Sr) := by
  intro i
  induction i using Nat.strongRecOn with
  | ind i ih =>
    intro N x hi hN hx
    obtain ⟨N, rfl⟩ : ∃ n, N = n + 1 := ⟨N - 1, by omega⟩
    have ha : l[i]? = some l[i] := List.getElem?_eq_getElem hi
    generalize l[i] = a at ha
    by_cases hp : a.parent = ⟨#[]⟩
    · simp only [d52_1i, d52_2, ia24, List.getElem?_map, ha, Option.map_some, ob_some, fa45_1, ld9, neq_str, cb_bool, hp, upF]
      simp
    · obtain ⟨j, b, q1, q2, q3, q4, q5⟩ := ht.step ha hp
      have hjl : j < l.length := by omega
      have := ih j q1 N (x ++ [Sr b.name]) hjl (by omega) (by simp; omega)
      rw [upF_fuel ht j (j + 1) i (by omega) (by omega)] at this
      have hup : upF l (i + 1) i = b.name :: upF l i j := by simp [upF, ha, hp, q3, q4]
      have happ := app32 x [Sr b.name] true (by simp [appendRoom]; omega)
      have hlen := hl.len
      simp only [d52_1i, d52_2, ia24, List.getElem?_map, ha, Option.map_some, ob_some, fa45_1, fa45_0, ld9, neq_str, cb_bool, hp, decide_false, Bool.not_false, if_true,
        callD_clo, List.nil_append, List.append_nil, c44 (L := L) (show 1 ≤ n by omega) l a.parent (by omega) hl.lenL, extract_tup, List.getElem?_cons_zero, List.getElem?_cons_succ, q3, q4, bs32, happ, oxs_some, this, hup]
      simp
theorem c52 (hm : 3 ≤ m) (l : List Acc) (s : ByteArray) (hl : OkA L l) : callP Try.prog hh L m 52 [accs l, Sr s] =
    some (if aright l then (match afind l s with | some i => .tup [strs false (path l i), I 0] | none => .tup [.sc (.slice none 0 0), I 141]) else .tup [.sc (.slice none 0 0), I 2]) := by
  obtain ⟨n, rfl⟩ : ∃ n, m = n + 1 := ⟨m - 1, by omega⟩
  refine callP_of rfl ?_
  rw [r52]
  have hlen := hl.len
  simp only [d52_0, g52_0, callD_clo, List.nil_append, List.append_nil, c70 (L := L) (show 2 ≤ n by omega) l hl, ob_some, not_bool, cb_bool, c44 (L := L) (show 1 ≤ n by omega) l s (by omega) hl.lenL, extract_tup, List.getElem?_cons_zero, List.getElem?_cons_succ, bx32, oxs_some, aix]
  by_cases h : aright l = true
  · have ht := aright_tree h
    simp only [h, if_true]
    cases hf : afind l s with
    | none => simp
    | some i =>
      obtain ⟨a, ha, hn⟩ := afind_some hf
      have hi : i < l.length := by
        rcases Nat.lt_or_ge i l.length with h' | h'
        · exact h'
        · rw [List.getElem?_eq_none h'] at ha; simp at ha
      have h16 := ht.len
      have hLL := hl.lenL
      have := l52 (L := L) n (by omega) (fun x => d52_3 (kk L n) L x) l hl ht i L [Sr s] hi (by omega) (by simp; omega)
      simp only [Option.isSome_some, Bool.not_true, Bool.false_eq_true, if_false, Option.getD_some, d52_1]
      rw [this]
      simp [d52_3, path, ha, hn]
  · simp [h]
theorem l53 {R : Type} (C : Kallee) (kr : PV → Option R) (ke : Option R) (x : ByteArray) (c : Bool) (l : List ByteArray) (hl : l.length ≤ 9223372036854775807) :
    ∀ (r : List ByteArray) (N i : Nat), l.drop i = r → r.length < N → d53_1i C L kr ke N (strs c l) (Sr x) (I i) = if (r.any fun a => decide (a = x)) then kr (Bo true) else ke := by
  intro r
  induction r with
  | nil =>
    intro N i h hN
    obtain ⟨N, rfl⟩ : ∃ n, N = n + 1 := ⟨N - 1, by omega⟩
    have := drop_nil' h
    have h2 : ¬ (i : Int) < l.length := by omega
    simp [d53_1i, d53_2, h2]
  | cons a r ih =>
    intro N i h hN
    obtain ⟨N, rfl⟩ : ∃ n, N = n + 1 := ⟨N - 1, by omega⟩
    obtain ⟨h1, h2, h3, h4⟩ := drop_cons' h
    have h5 : (i : Int) < l.length := by omega
    simp only [List.length_cons] at hN
    have := ih N (i + 1) h3 (by omega)
    simp only [d53_1i, d53_2, ln32, List.length_map, lss_int, ob_some, cb_bool, decide_eq_true_eq, h5, if_true, ia32, List.getElem?_map, h2, Option.map_some, ld9, eql_str, add_int, wrap_succ (show i < 9223372036854775807 by omega), this, List.any_cons]
    by_cases hx : a = x <;> simp only [hx, decide_true, decide_false, Bool.true_or, Bool.false_or, if_true, Bool.false_eq_true, if_false]
theorem any_comm (l : List ByteArray) (x : ByteArray) : (l.any fun a => decide (a = x)) = l.any fun a => decide (x = a) := by
  congr 1; funext a; simp [eq_comm]
theorem c53 (hm : 1 ≤ m) (x : ByteArray) (c : Bool) (l : List ByteArray) (hl : l.length ≤ 9223372036854775807) (hL : l.length < L) :
    callP Try.prog hh L m 53 [strs c l, Sr x] = some (Bo (l.any fun a => decide (x = a))) := by
  obtain ⟨n, rfl⟩ : ∃ n, m = n + 1 := ⟨m - 1, by omega⟩
  refine callP_of rfl ?_
  rw [r53]
  have := l53 (L := L) (kk L n) (fun v => some v) (d53_3 (kk L n) L) x c l hl l L 0 rfl hL
  simp only [d53_0, g53_0, d53_1]
  rw [show (PV.sc (Value.int IntKind.i64 0)) = I ((0 : Nat) : Int) from rfl, this, any_comm]
  by_cases h : (l.any fun a => decide (x = a)) = true <;> simp [h, d53_3]
end
end Go.Lite

namespace Go.Lite
open Go Go.Proofs
set_option linter.unusedVariables false
set_option linter.unusedSimpArgs false

/-! # words of 32 bits -/
abbrev U (a : Nat) : PV := .sc (.int .u32 (a : Int))
theorem wrapU {n : Int} (h : 0 ≤ n) (h' : n < 4294967296) : IntKind.u32.wrap n = n := by
  have e1 : (2 ^ IntKind.u32.bits : Int) = 4294967296 := by rfl
  have e3 : IntKind.u32.signed = false := rfl
  simp only [IntKind.wrap, e1, e3, Bool.false_and]
  simp; omega
theorem ofInt_nat (a : Nat) : BitVec.ofInt IntKind.u32.bits (a : Int) = BitVec.ofNat 32 a := by
  show BitVec.ofInt 32 (a : Int) = _
  exact BitVec.ofInt_natCast 32 a
section
variable (Q : Program) (t : TypeId) (x y : Operand)
theorem and_u (a b : Nat) (ha : a < 2 ^ 32) (hb : b < 2 ^ 32) : binPV Q .and t x y (U a) (U b) = some (U (a &&& b)) := by
  have h : pureRun Q (Op.intBits .and .u32 (a : Int) (b : Int)) = some (.int .u32 (IntKind.u32.wrap ((BitVec.ofInt IntKind.u32.bits (a : Int) &&& BitVec.ofInt IntKind.u32.bits (b : Int)).toNat : Int))) := rfl
  have h2 : (BitVec.ofInt IntKind.u32.bits (a : Int) &&& BitVec.ofInt IntKind.u32.bits (b : Int)).toNat = a &&& b := by
    rw [ofInt_nat, ofInt_nat]
    show (BitVec.ofNat 32 a &&& BitVec.ofNat 32 b).toNat = _
    rw [BitVec.toNat_and, BitVec.toNat_ofNat, BitVec.toNat_ofNat, Nat.mod_eq_of_lt ha, Nat.mod_eq_of_lt hb]
  have hle : a &&& b ≤ a := Nat.and_le_left
  rw [h2, wrapU (by omega) (by omega)] at h
  simp [binPV, PV.plain?, eqGuard, binOp, h]
theorem or_u (a b : Nat) (ha : a < 2 ^ 32) (hb : b < 2 ^ 32) : binPV Q .or t x y (U a) (U b) = some (U (a ||| b)) := by
  have h : pureRun Q (Op.intBits .or .u32 (a : Int) (b : Int)) = some (.int .u32 (IntKind.u32.wrap ((BitVec.ofInt IntKind.u32.bits (a : Int) ||| BitVec.ofInt IntKind.u32.bits (b : Int)).toNat : Int))) := rfl
  have h2 : (BitVec.ofInt IntKind.u32.bits (a : Int) ||| BitVec.ofInt IntKind.u32.bits (b : Int)).toNat = a ||| b := by
    rw [ofInt_nat, ofInt_nat]
    show (BitVec.ofNat 32 a ||| BitVec.ofNat 32 b).toNat = _
    rw [BitVec.toNat_or, BitVec.toNat_ofNat, BitVec.toNat_ofNat, Nat.mod_eq_of_lt ha, Nat.mod_eq_of_lt hb]
  have hle : a ||| b < 2 ^ 32 := Nat.or_lt_two_pow ha hb
  rw [h2, wrapU (by omega) (by omega)] at h
  simp [binPV, PV.plain?, eqGuard, binOp, h]
theorem andNot_u (a b : Nat) (ha : a < 2 ^ 32) (hb : b < 2 ^ 32) : binPV Q .andNot t x y (U a) (U b) = some (U (a &&& (2 ^ 32 - 1 - b))) := by
  have h : pureRun Q (Op.intBits .andNot .u32 (a : Int) (b : Int)) = some (.int .u32 (IntKind.u32.wrap ((BitVec.ofInt IntKind.u32.bits (a : Int) &&& ~~~ BitVec.ofInt IntKind.u32.bits (b : Int)).toNat : Int))) := rfl
  have h2 : (BitVec.ofInt IntKind.u32.bits (a : Int) &&& ~~~ BitVec.ofInt IntKind.u32.bits (b : Int)).toNat = a &&& (2 ^ 32 - 1 - b) := by
    rw [ofInt_nat, ofInt_nat]
    show (BitVec.ofNat 32 a &&& ~~~ BitVec.ofNat 32 b).toNat = _
    rw [BitVec.toNat_and, BitVec.toNat_not, BitVec.toNat_ofNat, BitVec.toNat_ofNat, Nat.mod_eq_of_lt ha, Nat.mod_eq_of_lt hb]
  have hle : a &&& (2 ^ 32 - 1 - b) ≤ a := Nat.and_le_left
  rw [h2, wrapU (by omega) (by omega)] at h
  simp [binPV, PV.plain?, eqGuard, binOp, h]
theorem quo_u (a : Nat) (ha : a < 2 ^ 32) : binPV Q .quo t x y (U a) (.sc (.int .u32 2)) = some (U (a / 2)) := by
  have h : pureRun Q (Op.intDiv .quo .u32 (a : Int) 2) = some (.int .u32 (IntKind.u32.wrap ((a : Int).tdiv 2))) := rfl
  have h2 : (a : Int).tdiv 2 = ((a / 2 : Nat) : Int) := by rw [Int.tdiv_eq_ediv_of_nonneg (by omega)]; omega
  rw [h2, wrapU (by omega) (by omega)] at h
  simp [binPV, PV.plain?, eqGuard, binOp, h]
theorem rem_u (a : Nat) : binPV Q .rem t x y (U a) (.sc (.int .u32 2)) = some (U (a % 2)) := by
  have h : pureRun Q (Op.intDiv .rem .u32 (a : Int) 2) = some (.int .u32 ((a : Int).tmod 2)) := rfl
  have h2 : (a : Int).tmod 2 = ((a % 2 : Nat) : Int) := by rw [Int.tmod_eq_emod_of_nonneg (by omega)]; omega
  rw [h2] at h
  simp [binPV, PV.plain?, eqGuard, binOp, h]
theorem mul_u (a : Nat) (ha : a * 2 < 2 ^ 32) : binPV Q .mul t x y (U a) (.sc (.int .u32 2)) = some (U (a * 2)) := by
  have h : pureRun Q (Op.intArith .mul .u32 (a : Int) 2) = some (.int .u32 (IntKind.u32.wrap ((a : Int) * 2))) := rfl
  rw [wrapU (by omega) (by omega), show (a : Int) * 2 = ((a * 2 : Nat) : Int) by omega] at h
  simp [binPV, PV.plain?, eqGuard, binOp, h]
theorem add_u (a b : Nat) (ha : a + b < 2 ^ 32) : binPV Q .add t x y (U a) (U b) = some (U (a + b)) := by
  rw [add_int, wrapU (by omega) (by omega)]
  rw [show (a : Int) + b = ((a + b : Nat) : Int) by omega]
theorem shl_u (i : Nat) (h : i < 32) : binPV Q .shl t x y (.sc (.int .u32 1)) (I i) = some (U (2 ^ i)) := by
  have h1 : pureRun Q (Op.shift .shl .u32 1 .i64 (i : Int)) = some (.int .u32 (IntKind.u32.wrap (1 * 2 ^ (min (i : Int).toNat 32)))) := by
    have : ¬ (i : Int) < 0 := by omega
    simp only [Op.shift, this, if_false]; rfl
  have h2 : (2 : Nat) ^ i < 2 ^ 32 := Nat.pow_lt_pow_right (by decide) h
  have h3 : (1 * 2 ^ (min (i : Int).toNat 32) : Int) = ((2 ^ i : Nat) : Int) := by
    have : min (i : Int).toNat 32 = i := by omega
    rw [this]; simp
  have h4 : IntKind.u32.wrap (1 * 2 ^ (min (i : Int).toNat 32)) = ((2 ^ i : Nat) : Int) := by
    rw [h3]; exact wrapU (by exact Int.natCast_nonneg _) (by omega)
  rw [h4] at h1
  simp [binPV, PV.plain?, eqGuard, binOp, h1]
theorem shr_u (a i : Nat) (h : i < 32) : binPV Q .shr t x y (U a) (I i) = some (U (a / 2 ^ i)) := by
  have h1 : pureRun Q (Op.shift .shr .u32 (a : Int) .i64 (i : Int)) = some (.int .u32 ((a : Int).fdiv (2 ^ (min (i : Int).toNat 32)))) := by
    have : ¬ (i : Int) < 0 := by omega
    simp only [Op.shift, this, if_false]; rfl
  have h3 : (a : Int).fdiv (2 ^ (min (i : Int).toNat 32)) = ((a / 2 ^ i : Nat) : Int) := by
    have : min (i : Int).toNat 32 = i := by omega
    rw [this, Int.fdiv_eq_ediv_of_nonneg _ (by exact Int.pow_nonneg (by decide))]
    simp
  rw [h3] at h1
  simp [binPV, PV.plain?, eqGuard, binOp, h1]
end

/-- the sum of the bits that are so, below k -/
def bits (p : Nat → Bool) : Nat → Nat
  | 0 => 0
  | k + 1 => bits p k + (if p k then 2 ^ k else 0)
theorem bits_lt (p : Nat → Bool) : ∀ k, bits p k < 2 ^ k := by
  intro k
  induction k with
  | zero => simp [bits]
  | succ k ih => simp only [bits]; rw [Nat.pow_succ]; split <;> omega
theorem bits_or (p : Nat → Bool) (k : Nat) : bits p k ||| 2 ^ k = bits p k + 2 ^ k := by
  have := Nat.two_pow_add_eq_or_of_lt (bits_lt p k) 1
  rw [Nat.mul_one] at this
  rw [Nat.or_comm, ← this, Nat.add_comm]
theorem bits_testBit (p : Nat → Bool) : ∀ (k i : Nat), (bits p k).testBit i = (decide (i < k) && p i) := by
  intro k
  induction k with
  | zero => intro i; simp [bits]
  | succ k ih =>
    intro i
    simp only [bits]
    by_cases hp : p k = true
    · simp only [hp, if_true]
      rw [← bits_or, Nat.testBit_or, ih, Nat.testBit_two_pow]
      by_cases hik : k = i
      · subst hik; simp [hp]
      · by_cases h1 : i < k
        · simp [h1, hik, show i < k + 1 by omega]
        · simp [h1, hik, show ¬ i < k + 1 by omega]
    · simp only [hp, Bool.false_eq_true, if_false, Nat.add_zero]
      rw [ih]
      by_cases hik : k = i
      · subst hik; simp [hp]
      · by_cases h1 : i < k
        · simp [h1, show i < k + 1 by omega]
        · simp [h1, show ¬ i < k + 1 by omega]
/-! # the reference's sets -/
theorem u22 : Try.prog.underlying 22 = some (.slice 3) := by kernel_rfl
theorem y3 : layOf Try.prog 3 = some 0 := by kernel_rfl
@[simp] theorem ia22 (c : Bool) (xs : List PV) (i : Nat) : indexAddrPV Try.prog 22 (.list 0 c xs) (I i) = (xs[i]?).map (.ro 0) := indexAddr_list u22 y3 c xs i
@[simp] theorem ld3 (d : PV) : loadPV Try.prog 3 (.ro 0 d) = some d := load_ro y3 d
@[simp] theorem ln22 (c : Bool) (xs : List PV) : (lenPV Try.prog 22 (.list 0 c xs)).map (fun n => PV.sc (goInt n)) = some (I xs.length) := len_list u22 c xs
theorem inf3 : (Try.prog.info? 3).map (·.bytes) = some 8 := by kernel_rfl
theorem zero3 : zeroPV Try.prog 3 = some (I 0) := by kernel_rfl
theorem app22 (xs ys : List PV) (c : Bool) (h : (xs.length + ys.length) * 8 ≤ appendRoom) : appendTo Try.prog 22 22 0 xs (.list 0 c ys) = some (xs ++ ys) := by
  have := inf3
  cases hi : Try.prog.info? 3 with
  | none => rw [hi] at this; simp at this
  | some i =>
    rw [hi] at this
    simp only [Option.map_some, Option.some.injEq] at this
    have hz : PV.hasLay 0 (I 0) = true := rfl
    simp [appendTo, u22, y3, hi, zero3, this, hz, width, layPV, elemsPV?, h]
theorem bs22 (s : Int) : buildSliceAV Try.prog 22 1 [(0, I s)] = some (.list 0 true [I s]) := by
  simp [buildSliceAV, u22, y3, zero3, width, PV.hasLay, PV.isCell, setAll]

section
variable {L m : Nat}
theorem l72 {R : Type} (C : Kallee) (ke : PV → PV → Option R) (i : Nat) (hi : i ≤ 32) : ∀ (d N k s : Nat), k + d = i → d < N → s < 2 ^ 32 → d72_1i C L ke N (U s) (I i) (I k) = ke (U (s / 2 ^ d)) (I i) := by
  intro d
  induction d with
  | zero =>
    intro N k s h hN hs
    obtain ⟨N, rfl⟩ : ∃ n, N = n + 1 := ⟨N - 1, by omega⟩
    have h2 : ¬ (k : Int) < i := by omega
    simp [d72_1i, d72_2, h2]
  | succ d ih =>
    intro N k s h hN hs
    obtain ⟨N, rfl⟩ : ∃ n, N = n + 1 := ⟨N - 1, by omega⟩
    have h5 : (k : Int) < i := by omega
    have := ih N (k + 1) (s / 2) (by omega) (by omega) (by omega)
    simp only [d72_1i, d72_2, lss_int, ob_some, cb_bool, decide_eq_true_eq, h5, if_true, quo_u _ _ _ _ _ hs, add_int, wrap_succ (show k < 9223372036854775807 by omega), this]
    rw [Nat.div_div_eq_div_mul, Nat.pow_succ, Nat.mul_comm]
/-- Has -/
theorem c72 (hm : 1 ≤ m) (hL : 40 < L) (s i : Nat) (hs : s < 2 ^ 32) (hi : i < 32) : callP Try.prog hh L m 72 [U s, I i] = some (Bo (s.testBit i)) := by
  obtain ⟨n, rfl⟩ : ∃ n, m = n + 1 := ⟨m - 1, by omega⟩
  refine callP_of rfl ?_
  rw [r72]
  have := l72 (L := L) (kk L n) (fun v w => d72_3 (kk L n) L v w) i (by omega) i L 0 s (by omega) (by omega) hs
  simp only [d72_0, g72_0, d72_1]
  rw [show (PV.sc (Value.int IntKind.i64 0)) = I ((0 : Nat) : Int) from rfl, this]
  have e1 : (0 : Int) ≤ i := by omega
  have e2 : (i : Int) < 32 := by omega
  have e3 : (((s / 2 ^ i % 2 : Nat) : Int) = 1) = (s / 2 ^ i % 2 = 1) := by apply propext; omega
  simp only [d72_3, geq_int, ob_some, gcase_t, e1, lss_int, e2, rem_u, eql_int, decide_true, if_true, Nat.testBit_eq_decide_div_mod_eq, e3]
theorem l90 {R : Type} (C : Kallee) (ke : PV → Option R) (i : Nat) (hi : i < 32) : ∀ (d N k : Nat), k + d = i → d < N → d90_1i C L ke N (I i) (U (2 ^ k)) (I k) = ke (U (2 ^ i)) := by
  intro d
  induction d with
  | zero =>
    intro N k h hN
    obtain ⟨N, rfl⟩ : ∃ n, N = n + 1 := ⟨N - 1, by omega⟩
    have h2 : ¬ (k : Int) < i := by omega
    have : k = i := by omega
    subst this
    simp [d90_1i, d90_2]
  | succ d ih =>
    intro N k h hN
    obtain ⟨N, rfl⟩ : ∃ n, N = n + 1 := ⟨N - 1, by omega⟩
    have h5 : (k : Int) < i := by omega
    have := ih N (k + 1) (by omega) (by omega)
    have hp : (2 : Nat) ^ (k + 1) < 2 ^ 32 := Nat.pow_lt_pow_right (by decide) (by omega)
    simp only [d90_1i, d90_2, lss_int, ob_some, cb_bool, decide_eq_true_eq, h5, if_true, mul_u _ _ _ _ (2 ^ k) (by rw [Nat.pow_succ] at hp; exact hp), add_int, wrap_succ (show k < 9223372036854775807 by omega)]
    rw [← Nat.pow_succ, this]
theorem c90 (hm : 1 ≤ m) (hL : 40 < L) (i : Nat) (hi : i < 32) : callP Try.prog hh L m 90 [I i] = some (U (2 ^ i)) := by
  obtain ⟨n, rfl⟩ : ∃ n, m = n + 1 := ⟨m - 1, by omega⟩
  refine callP_of rfl ?_
  rw [r90]
  have := l90 (L := L) (kk L n) (fun v => d90_3 (kk L n) L v) i hi i L 0 (by omega) (by omega)
  simp only [d90_0, g90_0, d90_1]
  rw [show (PV.sc (Value.int IntKind.i64 0)) = I ((0 : Nat) : Int) from rfl, show (PV.sc (Value.int IntKind.u32 1)) = U (2 ^ 0) from rfl, this]
  rfl
/-- the bits that are so, as a list -/
def ons (p : Nat → Bool) (k : Nat) : List Nat := (List.range k).filter p
theorem ons_succ (p : Nat → Bool) (k : Nat) : ons p (k + 1) = if p k then ons p k ++ [k] else ons p k := by
  simp only [ons, List.range_succ, List.filter_append]
  cases hp : p k <;> simp [hp]
theorem ons_len (p : Nat → Bool) (k : Nat) : (ons p k).length ≤ k := by
  unfold ons
  have := List.length_filter_le p (List.range k)
  simpa using this
abbrev ints (c : Bool) (l : List Nat) : PV := .list 0 c (l.map fun i => I (i : Nat))
def sumB (l : List Nat) : Nat := (l.map (2 ^ ·)).sum
theorem bits_sum (p : Nat → Bool) : ∀ k, sumB (ons p k) = bits p k := by
  intro k
  induction k with
  | zero => rfl
  | succ k ih =>
    rw [ons_succ]
    simp only [bits]
    split
    · simp only [sumB, List.map_append, List.sum_append] at ih ⊢
      rw [ih]; simp
    · rw [ih]; simp
/-- Of, of what rises -/
theorem l71 {R : Type} (n : Nat) (hn : 1 ≤ n) (hL : 40 < L) (kr : PV → PV → Option R) (ke : PV → Option R) (c : Bool) (l : List Nat) (hlen : l.length ≤ 32) (hr : l.Pairwise (· < ·)) (hb : ∀ x ∈ l, x < 32) :
    ∀ (r : List Nat) (N i s : Nat), l.drop i = r → r.length < N → (∀ x ∈ r, s < 2 ^ x) → d71_1i (kk L n) L kr ke N (ints c l) (U s) (I i) = ke (U (s + sumB r)) := by
  intro r
  induction r with
  | nil =>
    intro N i s h hN hs
    obtain ⟨N, rfl⟩ : ∃ n, N = n + 1 := ⟨N - 1, by omega⟩
    have := drop_nil' h
    have h2 : ¬ (i : Int) < l.length := by omega
    simp [d71_1i, d71_2, h2, sumB]
  | cons a r ih =>
    intro N i s h hN hs
    obtain ⟨N, rfl⟩ : ∃ n, N = n + 1 := ⟨N - 1, by omega⟩
    obtain ⟨h1, h2, h3, h4⟩ := drop_cons' h
    have h5 : (i : Int) < l.length := by omega
    simp only [List.length_cons] at hN
    have ha := hb a h4
    have hsa := hs a (by simp)
    have hpa : (2 : Nat) ^ (a + 1) ≤ 2 ^ 32 := Nat.pow_le_pow_right (by decide) ha
    have hpa' : (2 : Nat) ^ (a + 1) = 2 * 2 ^ a := by rw [Nat.pow_succ]; omega
    have hrise : ∀ x ∈ r, a < x := by
      have := hr.sublist (List.drop_sublist i l)
      rw [h] at this
      exact (List.pairwise_cons.1 this).1
    have hrec := ih N (i + 1) (s + 2 ^ a) h3 (by omega) (fun x hx => by
      have := hrise x hx
      have h9 : (2 : Nat) ^ (a + 1) ≤ 2 ^ x := Nat.pow_le_pow_right (by decide) this
      omega)
    have q1 : ¬ (a : Int) < 0 := by omega
    have q2 : ¬ (31 : Int) < a := by omega
    have ht : s.testBit a = false := Nat.testBit_lt_two_pow hsa
    simp only [d71_1i, d71_2, ln22, List.length_map, lss_int, ob_some, cb_bool, decide_eq_true_eq, h5, if_true, ia22, List.getElem?_map, h2, Option.map_some, ld3, q1, decide_false, gcase_f, gtr_int, q2, Bool.false_eq_true, if_false,
      callD_clo, List.nil_append, List.append_nil, c72 (L := L) hn hL s a (by omega) ha, c90 (L := L) hn hL a ha, ht, not_bool, Bool.not_false, add_u _ _ _ _ s (2 ^ a) (by omega)]
    rw [add_int, wrap_succ (show i < 9223372036854775807 by omega)]
    simp only [ob_some, hrec, sumB, List.map_cons, List.sum_cons]
    rw [Nat.add_assoc]
theorem c71 (hm : 2 ≤ m) (hL : 40 < L) (c : Bool) (p : Nat → Bool) (k : Nat) (hk : k ≤ 32) : callP Try.prog hh L m 71 [ints c (ons p k)] = some (.tup [U (bits p k), I 0]) := by
  obtain ⟨n, rfl⟩ : ∃ n, m = n + 1 := ⟨m - 1, by omega⟩
  refine callP_of rfl ?_
  rw [r71]
  have hlen := ons_len p k
  have := l71 (L := L) n (by omega) hL (fun v w => some (.tup [v, w])) (fun v => d71_3 (kk L n) L v) c (ons p k) (by omega) ((List.pairwise_lt_range).filter p) (fun x hx => by
    simp only [ons, List.mem_filter, List.mem_range] at hx; omega) (ons p k) L 0 0 rfl (by omega) (fun x _ => Nat.two_pow_pos x)
  simp only [d71_0, g71_0, d71_1]
  rw [show (PV.sc (Value.int IntKind.i64 0)) = I ((0 : Nat) : Int) from rfl, show (PV.sc (Value.int IntKind.u32 0)) = U 0 from rfl, this]
  simp [d71_3, bits_sum]
/-- Within, both -/
theorem within_bits (a b : Nat) (ha : a < 2 ^ 32) (hb : b < 2 ^ 32) : (a &&& (2 ^ 32 - 1 - b) = 0) ↔ ∀ i, i < 32 → a.testBit i = true → b.testBit i = true := by
  have hc : ∀ i, i < 32 → (2 ^ 32 - 1 - b).testBit i = !b.testBit i := by
    intro i hi
    rw [show 2 ^ 32 - 1 - b = 2 ^ 32 - (b + 1) by omega, Nat.testBit_two_pow_sub_succ hb]
    simp [hi]
  constructor
  · intro h i hi ha'
    have h1 : (a &&& (2 ^ 32 - 1 - b)).testBit i = false := by rw [h]; exact Nat.zero_testBit i
    rw [Nat.testBit_and, ha', hc i hi] at h1
    simpa using h1
  · intro h
    apply Nat.eq_of_testBit_eq
    intro i
    rw [Nat.testBit_and, Nat.zero_testBit]
    by_cases hi : i < 32
    · rw [hc i hi]
      cases ha' : a.testBit i with
      | false => rfl
      | true => rw [h i hi ha']; rfl
    · have : a < 2 ^ i := Nat.lt_of_lt_of_le ha (Nat.pow_le_pow_right (by decide) (by omega))
      rw [Nat.testBit_lt_two_pow this]; rfl
def within (a b : Nat) : Bool := decide (a &&& (2 ^ 32 - 1 - b) = 0)
theorem c31 (hm : 1 ≤ m) (a b : Nat) (ha : a < 2 ^ 32) (hb : b < 2 ^ 32) : callP Try.prog hh L m 31 [U a, U b] = some (Bo (within a b)) := by
  obtain ⟨n, rfl⟩ : ∃ n, m = n + 1 := ⟨m - 1, by omega⟩
  refine callP_of rfl ?_
  rw [r31]
  have e3 : (((a &&& (2 ^ 32 - 1 - b) : Nat) : Int) = 0) = (a &&& (2 ^ 32 - 1 - b) = 0) := by apply propext; omega
  simp only [d31_0, andNot_u _ _ _ _ a b ha hb, ob_some, eql_int, within, e3]
def wfrom (a b i d : Nat) : Bool := (List.range' i d).all fun j => !a.testBit j || b.testBit j
theorem l38 {R : Type} (n : Nat) (hn : 1 ≤ n) (hL : 40 < L) (kr : PV → Option R) (ke : Option R) (a b : Nat) (ha : a < 2 ^ 32) (hb : b < 2 ^ 32) :
    ∀ (d N i : Nat), i + d = 32 → d < N → d38_1i (kk L n) L kr ke N (U a) (U b) (I i) = if wfrom a b i d then ke else kr (Bo false) := by
  intro d
  induction d with
  | zero =>
    intro N i h hN
    obtain ⟨N, rfl⟩ : ∃ n, N = n + 1 := ⟨N - 1, by omega⟩
    have h2 : ¬ (i : Int) < 32 := by omega
    simp [d38_1i, d38_2, h2, wfrom]
  | succ d ih =>
    intro N i h hN
    obtain ⟨N, rfl⟩ : ∃ n, N = n + 1 := ⟨N - 1, by omega⟩
    have h5 : (i : Int) < 32 := by omega
    have := ih N (i + 1) (by omega) (by omega)
    have hw : wfrom a b i (d + 1) = ((!a.testBit i || b.testBit i) && wfrom a b (i + 1) d) := by simp [wfrom, List.range'_succ]
    simp only [d38_1i, d38_2, lss_int, ob_some, cb_bool, decide_eq_true_eq, h5, if_true, callD_clo, List.nil_append, List.append_nil, c72 (L := L) hn hL a i ha (by omega), c72 (L := L) hn hL b i hb (by omega), gcase_t, not_bool, add_int, wrap_succ (show i < 9223372036854775807 by omega), this, hw]
    cases a.testBit i <;> cases b.testBit i <;> simp
theorem c38 (hm : 2 ≤ m) (hL : 40 < L) (a b : Nat) (ha : a < 2 ^ 32) (hb : b < 2 ^ 32) : callP Try.prog hh L m 38 [U a, U b] = some (Bo (within a b)) := by
  obtain ⟨n, rfl⟩ : ∃ n, m = n + 1 := ⟨m - 1, by omega⟩
  refine callP_of rfl ?_
  rw [r38]
  have := l38 (L := L) n (by omega) hL (fun v => some v) (d38_3 (kk L n) L) a b ha hb 32 L 0 (by omega) (by omega)
  simp only [d38_0, g38_0, d38_1]
  rw [show (PV.sc (Value.int IntKind.i64 0)) = I ((0 : Nat) : Int) from rfl, this]
  have hw : wfrom a b 0 32 = within a b := by
    rw [Bool.eq_iff_iff]
    simp only [within, decide_eq_true_eq]
    rw [within_bits a b ha hb]
    simp only [wfrom, List.all_eq_true, List.mem_range'_1, Bool.or_eq_true, Bool.not_eq_true']
    constructor
    · intro h i hi h1
      rcases h i ⟨by omega, by omega⟩ with h2 | h2
      · rw [h1] at h2; cases h2
      · exact h2
    · intro h i hi
      cases h1 : a.testBit i with
      | false => exact .inl rfl
      | true => exact .inr (h i (by omega) h1)
  rw [hw]
  cases within a b <;> simp [d38_3]
/-- List -/
theorem l46 {R : Type} (n : Nat) (hn : 1 ≤ n) (hL : 40 < L) (ke : List PV → Option R) (a : Nat) (ha : a < 2 ^ 32) :
    ∀ (d N i : Nat), i + d = 32 → d < N → d46_1i (kk L n) L ke N (U a) (I i) ((ons a.testBit i).map fun i => I (i : Nat)) = ke ((ons a.testBit 32).map fun i => I (i : Nat)) := by
  intro d
  induction d with
  | zero =>
    intro N i h hN
    obtain ⟨N, rfl⟩ : ∃ n, N = n + 1 := ⟨N - 1, by omega⟩
    have : i = 32 := by omega
    subst this
    simp [d46_1i, d46_2]
  | succ d ih =>
    intro N i h hN
    obtain ⟨N, rfl⟩ : ∃ n, N = n + 1 := ⟨N - 1, by omega⟩
    have h5 : (i : Int) < 32 := by omega
    have := ih N (i + 1) (by omega) (by omega)
    rw [ons_succ] at this
    have hlen := ons_len a.testBit i
    have happ := app22 ((ons a.testBit i).map fun i => I (i : Nat)) [I (i : Nat)] true (by simp [appendRoom]; omega)
    simp only [d46_1i, d46_2, lss_int, ob_some, cb_bool, decide_eq_true_eq, h5, if_true, callD_clo, List.nil_append, List.append_nil, c72 (L := L) hn hL a i ha (by omega), bs22, happ, oxs_some, add_int, wrap_succ (show i < 9223372036854775807 by omega)]
    by_cases q1 : a.testBit i = true
    · simp only [q1, if_true] at this ⊢
      rw [← this]; simp
    · simp only [q1, Bool.false_eq_true, if_false] at this ⊢
      exact this
theorem c46 (hm : 2 ≤ m) (hL : 40 < L) (a : Nat) (ha : a < 2 ^ 32) : callP Try.prog hh L m 46 [U a] = some (ints false (ons a.testBit 32)) := by
  obtain ⟨n, rfl⟩ : ∃ n, m = n + 1 := ⟨m - 1, by omega⟩
  refine callP_of rfl ?_
  rw [r46]
  have := l46 (L := L) n (by omega) hL (fun v => d46_3 (kk L n) L v) a ha 32 L 0 (by omega) (by omega)
  simp only [d46_0, g46_0, d46_1]
  rw [show (PV.sc (Value.int IntKind.i64 0)) = I ((0 : Nat) : Int) from rfl]
  exact this
end
end Go.Lite

namespace Go.Lite
open Go Go.Proofs
set_option linter.unusedVariables false
set_option linter.unusedSimpArgs false
def tab : ByteArray := ⟨#[0, 1, 1, 2, 1, 2, 2, 3, 1, 2, 2, 3, 2, 3, 3, 4, 1, 2, 2, 3, 2, 3, 3, 4, 2, 3, 3, 4, 3, 4, 4, 5, 1, 2, 2, 3, 2, 3, 3, 4, 2, 3, 3, 4, 3, 4, 4, 5, 2, 3, 3, 4, 3, 4, 4, 5, 3, 4, 4, 5, 4, 5, 5, 6, 1, 2, 2, 3, 2, 3, 3, 4, 2, 3, 3, 4, 3, 4, 4, 5, 2, 3, 3, 4, 3, 4, 4, 5, 3, 4, 4, 5, 4, 5, 5, 6, 2, 3, 3, 4, 3, 4, 4, 5, 3, 4, 4, 5, 4, 5, 5, 6, 3, 4, 4, 5, 4, 5, 5, 6, 4, 5, 5, 6, 5, 6, 6, 7, 1, 2, 2, 3, 2, 3, 3, 4, 2, 3, 3, 4, 3, 4, 4, 5, 2, 3, 3, 4, 3, 4, 4, 5, 3, 4, 4, 5, 4, 5, 5, 6, 2, 3, 3, 4, 3, 4, 4, 5, 3, 4, 4, 5, 4, 5, 5, 6, 3, 4, 4, 5, 4, 5, 5, 6, 4, 5, 5, 6, 5, 6, 6, 7, 2, 3, 3, 4, 3, 4, 4, 5, 3, 4, 4, 5, 4, 5, 5, 6, 3, 4, 4, 5, 4, 5, 5, 6, 4, 5, 5, 6, 5, 6, 6, 7, 3, 4, 4, 5, 4, 5, 5, 6, 4, 5, 5, 6, 5, 6, 6, 7, 4, 5, 5, 6, 5, 6, 6, 7, 5, 6, 6, 7, 6, 7, 7, 8]⟩
def popN (v : Nat) : Nat := (List.range 8).countP v.testBit
theorem tab_size : tab.size = 256 := by decide +kernel
theorem tab_get : ∀ v : Fin 256, (tab.data[v.val]?).map (·.toNat) = some (popN v.val) := by decide +kernel
theorem index_tab (v : Nat) (h : v < 256) : indexPV Try.prog 9 (.sc (.string tab)) (U v) = some (.sc (.int .u8 (popN v : Nat))) := by
  have hs : v < tab.size := by rw [tab_size]; exact h
  have hv := tab_get ⟨v, h⟩
  have hb : tab[(v : Int).toNat]? = some (tab.data[v]'hs) := by
    show tab[v]? = _
    rw [getElem?_pos tab v hs]; rfl
  have hd : tab.data[v]? = some (tab.data[v]'hs) := Array.getElem?_eq_getElem hs
  simp only [hd, Option.map_some, Option.some.injEq] at hv
  have hu : ∀ (α : Type) (k : TypeDesc → Sem α), pureRun Try.prog (underlying 9 >>= k) = pureRun Try.prog (k .string) := by
    intro α k
    have : underlying 9 >>= k = Sem.program fun P => (match P.underlying 9 with | some d => pure d | none => stuck "no such type") >>= k := rfl
    rw [this, pureRun, u9]; rfl
  have : pureRun Try.prog (Instr.index 9 (.string tab) (.int .u32 v)) = some (.int .u8 (tab.data[v]'hs).toNat) := by
    unfold Instr.index
    show pureRun Try.prog (underlying 9 >>= fun d => _) = _
    rw [hu]
    simp only [Int.natCast_nonneg, if_true, hb]
    rfl
  simp only [indexPV, this, Option.map_some, hv]
theorem popN_le (v : Nat) : popN v ≤ 8 := by
  have := List.countP_le_length (p := v.testBit) (l := List.range 8)
  simpa [popN] using this
theorem pop_byte (a q : Nat) : (List.range 8).countP (fun j => a.testBit (8 * q + j)) = popN (a / 2 ^ (8 * q) % 256) := by
  unfold popN
  apply List.countP_congr
  intro j hj
  simp only [List.mem_range] at hj
  rw [show 256 = 2 ^ 8 from rfl, Nat.testBit_mod_two_pow, Nat.testBit_div_two_pow, Nat.add_comm j]
  simp [hj]
theorem range32 : List.range 32 = List.range 8 ++ (List.range 8).map (8 + ·) ++ (List.range 8).map (16 + ·) ++ (List.range 8).map (24 + ·) := by decide
theorem pop_all (a : Nat) (h : a < 2 ^ 32) : (ons a.testBit 32).length = popN (a / 2 ^ 24) + popN (a / 2 ^ 16 % 256) + popN (a / 2 ^ 8 % 256) + popN (a % 256) := by
  have h24 : a / 2 ^ 24 = a / 2 ^ 24 % 256 := by omega
  have e : (ons a.testBit 32).length = (List.range 32).countP a.testBit := by rw [ons, List.countP_eq_length_filter]
  have p0 : (List.range 8).countP a.testBit = popN (a % 256) := by have := pop_byte a 0; simpa using this
  have p1 := pop_byte a 1
  have p2 := pop_byte a 2
  have p3 := pop_byte a 3
  simp only [Nat.mul_one, show 8 * 2 = 16 from rfl, show 8 * 3 = 24 from rfl] at p1 p2 p3
  rw [← h24] at p3
  rw [e, range32]
  simp only [List.countP_append, List.countP_map, Function.comp_def]
  rw [p0, p1, p2, p3]
  omega
noncomputable def e77 (T : ByteArray) (v0 : PV) : Option PV := (ob (binPV Try.prog .shr 55 (.tmp 3) (.const (.int Go.IntKind.u64 24)) v0 (.sc (.int Go.IntKind.u64 24))) fun v102 => (ob (indexPV Try.prog 9 (.sc (.string T)) v102) fun v103 => (ob (binPV Try.prog .shr 55 (.tmp 6) (.const (.int Go.IntKind.u64 16)) v0 (.sc (.int Go.IntKind.u64 16))) fun v104 => (ob (binPV Try.prog .and 55 (.tmp 7) (.const (.int Go.IntKind.u32 255)) v104 (.sc (.int Go.IntKind.u32 255))) fun v105 => (ob (indexPV Try.prog 9 (.sc (.string T)) v105) fun v106 => (ob (binPV Try.prog .add 5 (.tmp 5) (.tmp 9) v103 v106) fun v107 => (ob (binPV Try.prog .shr 55 (.tmp 11) (.const (.int Go.IntKind.u64 8)) v0 (.sc (.int Go.IntKind.u64 8))) fun v108 => (ob (binPV Try.prog .and 55 (.tmp 12) (.const (.int Go.IntKind.u32 255)) v108 (.sc (.int Go.IntKind.u32 255))) fun v109 => (ob (indexPV Try.prog 9 (.sc (.string T)) v109) fun v110 => (ob (binPV Try.prog .add 5 (.tmp 10) (.tmp 14) v107 v110) fun v111 => (ob (binPV Try.prog .and 55 (.tmp 16) (.const (.int Go.IntKind.u32 255)) v0 (.sc (.int Go.IntKind.u32 255))) fun v112 => (ob (indexPV Try.prog 9 (.sc (.string T)) v112) fun v113 => (ob (binPV Try.prog .add 5 (.tmp 15) (.tmp 18) v111 v113) fun v114 => (ob (convPV Try.prog 5 3 v114) fun v115 => (some v115)))))))))))))))
theorem d77_eq (C : Kallee) (L : Nat) (v0 : PV) : d77_0 C L v0 = e77 tab v0 := by kernel_rfl
section
variable {L m : Nat}
variable (t : TypeId) (x y : Operand)
theorem shr64 (a i : Nat) (h : i < 32) : binPV Try.prog .shr t x y (U a) (.sc (.int .u64 i)) = some (U (a / 2 ^ i)) := by
  have h1 : pureRun Try.prog (Op.shift .shr .u32 (a : Int) .u64 (i : Int)) = some (.int .u32 ((a : Int).fdiv (2 ^ (min (i : Int).toNat 32)))) := by
    have : ¬ (i : Int) < 0 := by omega
    simp only [Op.shift, this, if_false]; rfl
  have h3 : (a : Int).fdiv (2 ^ (min (i : Int).toNat 32)) = ((a / 2 ^ i : Nat) : Int) := by
    have : min (i : Int).toNat 32 = i := by omega
    rw [this, Int.fdiv_eq_ediv_of_nonneg _ (by exact Int.pow_nonneg (by decide))]
    simp
  rw [h3] at h1
  simp [binPV, PV.plain?, eqGuard, binOp, h1]
theorem and255 (a : Nat) (h : a < 2 ^ 32) : binPV Try.prog .and t x y (U a) (.sc (.int .u32 255)) = some (U (a % 256)) := by
  have := and_u Try.prog t x y a 255 h (by decide)
  rw [show a &&& 255 = a % 256 from Nat.and_two_pow_sub_one_eq_mod a 8] at this
  exact this
theorem add8 (a b : Nat) (h : a + b < 256) : binPV Try.prog .add t x y (.sc (.int .u8 (a : Nat))) (.sc (.int .u8 (b : Nat))) = some (.sc (.int .u8 ((a + b : Nat) : Int))) := by
  rw [add_int]
  have e1 : (2 ^ IntKind.u8.bits : Int) = 256 := by rfl
  have e3 : IntKind.u8.signed = false := rfl
  have : IntKind.u8.wrap ((a : Int) + b) = ((a + b : Nat) : Int) := by
    simp only [IntKind.wrap, e1, e3, Bool.false_and]
    simp; omega
  rw [this]
theorem conv53 (n : Int) : convPV Try.prog 5 3 (.sc (.int .u8 n)) = some (I (IntKind.i64.wrap n)) := by kernel_rfl
theorem c77 (hm : 1 ≤ m) (a : Nat) (ha : a < 2 ^ 32) : callP Try.prog hh L m 77 [U a] = some (I ((ons a.testBit 32).length : Nat)) := by
  obtain ⟨n, rfl⟩ : ∃ n, m = n + 1 := ⟨m - 1, by omega⟩
  refine callP_of rfl ?_
  rw [r77]
  have l1 := popN_le (a / 2 ^ 24)
  have l2 := popN_le (a / 2 ^ 16 % 256)
  have l3 := popN_le (a / 2 ^ 8 % 256)
  have l4 := popN_le (a % 256)
  have hp := pop_all a ha
  have s24 := fun x y => shr64 55 x y a 24 (by decide)
  have s16 := fun x y => shr64 55 x y a 16 (by decide)
  have s8 := fun x y => shr64 55 x y a 8 (by decide)
  simp only [Int.cast_ofNat_Int] at s24 s16 s8
  have h16 : a / 2 ^ 16 < 2 ^ 32 := by omega
  have h8 : a / 2 ^ 8 < 2 ^ 32 := by omega
  rw [d77_eq]
  simp only [e77, s24, s16, s8, ob_some, index_tab (a / 2 ^ 24) (by omega), and255 _ _ _ (a / 2 ^ 16) h16, index_tab (a / 2 ^ 16 % 256) (by omega), add8 _ _ _ (popN (a / 2 ^ 24)) (popN (a / 2 ^ 16 % 256)) (by omega),
    and255 _ _ _ (a / 2 ^ 8) h8, index_tab (a / 2 ^ 8 % 256) (by omega), add8 _ _ _ (popN (a / 2 ^ 24) + popN (a / 2 ^ 16 % 256)) (popN (a / 2 ^ 8 % 256)) (by omega), and255 _ _ _ a ha, index_tab (a % 256) (by omega),
    add8 _ _ _ (popN (a / 2 ^ 24) + popN (a / 2 ^ 16 % 256) + popN (a / 2 ^ 8 % 256)) (popN (a % 256)) (by omega), conv53]
  rw [wrap64 (by omega) (by omega), hp]
theorem c42 (hm : 2 ≤ m) (a : Nat) (ha : a < 2 ^ 32) : callP Try.prog hh L m 42 [U a] = some (I ((ons a.testBit 32).length : Nat)) := by
  obtain ⟨n, rfl⟩ : ∃ n, m = n + 1 := ⟨m - 1, by omega⟩
  refine callP_of rfl ?_
  rw [r42]
  simp only [d42_0, callD_clo, List.nil_append, List.append_nil, c77 (L := L) (show 1 ≤ n by omega) a ha, ob_some]
end
end Go.Lite

namespace Go.Lite
open Go Go.Proofs
set_option linter.unusedVariables false
set_option linter.unusedSimpArgs false

/-! # more data -/
structure Pt where
  name : ByteArray
  nodes : Nat
  prio : Int
  max : Int
  accs : List ByteArray
def Pt.pv (a : Pt) : PV := .agg [Sr a.name, U a.nodes, I a.prio, I a.max, strs false a.accs]
structure Qs where
  name : ByteArray
  prio : Int
  limit : Int
  jobs : Int
def Qs.pv (a : Qs) : PV := .agg [Sr a.name, I a.prio, I a.limit, I a.jobs]
structure Nd where
  cores : Int
  up : Bool
  epoch : Int
def Nd.pv (a : Nd) : PV := .agg [I a.cores, Bo a.up, I a.epoch]
abbrev pts (l : List Pt) : PV := .list 6 false (l.map Pt.pv)
abbrev qss (l : List Qs) : PV := .list 5 false (l.map Qs.pv)
abbrev nds (l : List Nd) : PV := .list 4 false (l.map Nd.pv)
abbrev intz (c : Bool) (l : List Int) : PV := .list 0 c (l.map fun i => I i)
structure Cfg where
  cores : List Int
  parts : List Pt
  accounts : List Acc
  qos : List Qs
  policy : Int
abbrev W8 (n : Int) : PV := .sc (.int .u8 n)
def Cfg.pv (c : Cfg) : PV := .agg [intz false c.cores, pts c.parts, accs c.accounts, qss c.qos, W8 c.policy]

theorem u23 : Try.prog.underlying 23 = some (.slice 58) := by kernel_rfl
theorem u25 : Try.prog.underlying 25 = some (.slice 84) := by kernel_rfl
theorem u60 : Try.prog.underlying 60 = some (.slice 87) := by kernel_rfl
theorem u100 : Try.prog.underlying 100 = some (.slice 107) := by kernel_rfl
theorem y58 : layOf Try.prog 58 = some 6 := by kernel_rfl
theorem y84 : layOf Try.prog 84 = some 5 := by kernel_rfl
theorem y87 : layOf Try.prog 87 = some 4 := by kernel_rfl
theorem y23 : layOf Try.prog 23 = some 0 := by kernel_rfl
theorem y24 : layOf Try.prog 24 = some 0 := by kernel_rfl
theorem y56 : layOf Try.prog 56 = some 0 := by kernel_rfl
theorem y4 : layOf Try.prog 4 = some 0 := by kernel_rfl
@[simp] theorem ia23 (c : Bool) (xs : List PV) (i : Nat) : indexAddrPV Try.prog 23 (.list 6 c xs) (I i) = (xs[i]?).map (.ro 6) := indexAddr_list u23 y58 c xs i
@[simp] theorem ia25 (c : Bool) (xs : List PV) (i : Nat) : indexAddrPV Try.prog 25 (.list 5 c xs) (I i) = (xs[i]?).map (.ro 5) := indexAddr_list u25 y84 c xs i
@[simp] theorem ia60 (c : Bool) (xs : List PV) (i : Nat) : indexAddrPV Try.prog 60 (.list 4 c xs) (I i) = (xs[i]?).map (.ro 4) := indexAddr_list u60 y87 c xs i
@[simp] theorem ld58 (d : PV) : loadPV Try.prog 58 (.ro 6 d) = some d := load_ro y58 d
@[simp] theorem ld84 (d : PV) : loadPV Try.prog 84 (.ro 5 d) = some d := load_ro y84 d
@[simp] theorem ld87 (d : PV) : loadPV Try.prog 87 (.ro 4 d) = some d := load_ro y87 d
@[simp] theorem ld23 (d : PV) : loadPV Try.prog 23 (.ro 0 d) = some d := load_ro y23 d
@[simp] theorem ld24 (d : PV) : loadPV Try.prog 24 (.ro 0 d) = some d := load_ro y24 d
@[simp] theorem ld56 (d : PV) : loadPV Try.prog 56 (.ro 0 d) = some d := load_ro y56 d
@[simp] theorem ld4 (d : PV) : loadPV Try.prog 4 (.ro 0 d) = some d := load_ro y4 d
@[simp] theorem ln23 (c : Bool) (xs : List PV) : (lenPV Try.prog 23 (.list 6 c xs)).map (fun n => PV.sc (goInt n)) = some (I xs.length) := len_list u23 c xs
@[simp] theorem ln25 (c : Bool) (xs : List PV) : (lenPV Try.prog 25 (.list 5 c xs)).map (fun n => PV.sc (goInt n)) = some (I xs.length) := len_list u25 c xs
@[simp] theorem ln60 (c : Bool) (xs : List PV) : (lenPV Try.prog 60 (.list 4 c xs)).map (fun n => PV.sc (goInt n)) = some (I xs.length) := len_list u60 c xs
@[simp] theorem ln60n : (lenPV Try.prog 60 (.sc (.slice none 0 0))).map (fun n => PV.sc (goInt n)) = some (I 0) := len_nil u60
@[simp] theorem ln100n : (lenPV Try.prog 100 (.sc (.slice none 0 0))).map (fun n => PV.sc (goInt n)) = some (I 0) := len_nil u100
@[simp] theorem pt0 (a : Pt) : PV.at_ 6 0 0 a.pv = some (Sr a.name) := rfl
@[simp] theorem pt1 (a : Pt) : PV.at_ 6 1 0 a.pv = some (U a.nodes) := rfl
@[simp] theorem pt2 (a : Pt) : PV.at_ 6 2 0 a.pv = some (I a.prio) := rfl
@[simp] theorem pt3 (a : Pt) : PV.at_ 6 3 0 a.pv = some (I a.max) := rfl
@[simp] theorem pt4 (a : Pt) : PV.at_ 6 4 0 a.pv = some (strs false a.accs) := rfl
@[simp] theorem ptl (a : Pt) : PV.hasLay 6 a.pv = true := rfl
@[simp] theorem cf0 (a : Cfg) : PV.at_ 6 0 0 a.pv = some (intz false a.cores) := rfl
@[simp] theorem cf1 (a : Cfg) : PV.at_ 6 1 0 a.pv = some (pts a.parts) := rfl
@[simp] theorem cf2 (a : Cfg) : PV.at_ 6 2 0 a.pv = some (accs a.accounts) := rfl
@[simp] theorem cf3 (a : Cfg) : PV.at_ 6 3 0 a.pv = some (qss a.qos) := rfl
@[simp] theorem cf4 (a : Cfg) : PV.at_ 6 4 0 a.pv = some (W8 a.policy) := rfl
@[simp] theorem cfl (a : Cfg) : PV.hasLay 6 a.pv = true := rfl
@[simp] theorem qs0 (a : Qs) : PV.at_ 5 0 0 a.pv = some (Sr a.name) := rfl
@[simp] theorem qs1 (a : Qs) : PV.at_ 5 1 0 a.pv = some (I a.prio) := rfl
@[simp] theorem qs2 (a : Qs) : PV.at_ 5 2 0 a.pv = some (I a.limit) := rfl
@[simp] theorem qs3 (a : Qs) : PV.at_ 5 3 0 a.pv = some (I a.jobs) := rfl
@[simp] theorem qsl (a : Qs) : PV.hasLay 5 a.pv = true := rfl
@[simp] theorem nd0 (a : Nd) : PV.at_ 4 0 0 a.pv = some (I a.cores) := rfl
@[simp] theorem nd1 (a : Nd) : PV.at_ 4 1 0 a.pv = some (Bo a.up) := rfl
@[simp] theorem nd2 (a : Nd) : PV.at_ 4 2 0 a.pv = some (I a.epoch) := rfl
@[simp] theorem ndl (a : Nd) : PV.hasLay 4 a.pv = true := rfl
@[simp] theorem fa58_0 (a : Pt) : fieldAddrPV Try.prog 58 (.ro 6 a.pv) 0 = some (.ro 0 (Sr a.name)) := by kernel_rfl
@[simp] theorem fa84_0 (a : Qs) : fieldAddrPV Try.prog 84 (.ro 5 a.pv) 0 = some (.ro 0 (Sr a.name)) := by kernel_rfl
@[simp] theorem fa87_0 (a : Nd) : fieldAddrPV Try.prog 87 (.ro 4 a.pv) 0 = some (.ro 0 (I a.cores)) := by kernel_rfl
@[simp] theorem fa87_1 (a : Nd) : fieldAddrPV Try.prog 87 (.ro 4 a.pv) 1 = some (.ro 0 (Bo a.up)) := by kernel_rfl
@[simp] theorem fa87_2 (a : Nd) : fieldAddrPV Try.prog 87 (.ro 4 a.pv) 2 = some (.ro 0 (I a.epoch)) := by kernel_rfl
@[simp] theorem fa28_1 (a : Cfg) : fieldAddrPV Try.prog 28 (.ro 6 a.pv) 1 = some (.ro 0 (pts a.parts)) := by kernel_rfl
@[simp] theorem fa28_2 (a : Cfg) : fieldAddrPV Try.prog 28 (.ro 6 a.pv) 2 = some (.ro 0 (accs a.accounts)) := by kernel_rfl
theorem put6 (c : AV) (a : Pt) : putPV 6 0 6 c a.pv = some a.pv := by simp [putPV]
theorem put5 (c : AV) (a : Qs) : putPV 5 0 5 c a.pv = some a.pv := by simp [putPV]
theorem put4n (c : AV) (a : Nd) : putPV 4 0 4 c a.pv = some a.pv := by simp [putPV]
theorem slice23 (l : List Pt) (i : Nat) (h : i ≤ l.length) : slicePVd Try.prog 23 (pts l) none (some (I i)) none = some (pts (l.take i)) := by
  rw [slice_to u23 y58 _ _ (by simpa using h), ← List.map_take]
theorem slice25 (l : List Qs) (i : Nat) (h : i ≤ l.length) : slicePVd Try.prog 25 (qss l) none (some (I i)) none = some (qss (l.take i)) := by
  rw [slice_to u25 y84 _ _ (by simpa using h), ← List.map_take]
theorem slice32 (l : List ByteArray) (i : Nat) (h : i ≤ l.length) : slicePVd Try.prog 32 (strs false l) none (some (I i)) none = some (strs false (l.take i)) := by
  rw [slice_to u32 y9 _ _ (by simpa using h), ← List.map_take]

section
variable {L m : Nat}

theorem l25 {R : Type} (C : Kallee) (kr : PV → Option R) (ke : Option R) (clo : PV) (p : Pt → Bool) (c : Bool) (l : List Pt) (hl : l.length ≤ 9223372036854775807) (hcl : ∀ a ∈ l, callD C.pure clo [Pt.pv a] false = some (Bo (p a))) :
    ∀ (r : List Pt) (N i : Nat), l.drop i = r → r.length < N → d25_1i C L kr ke N (.list 6 c (l.map fun a => Pt.pv a)) clo (I l.length) (I i) = (match ffrom p i r with | some j => kr (I j) | none => ke) := by
  intro r
  induction r with
  | nil =>
    intro N i h hN
    obtain ⟨N, rfl⟩ : ∃ n, N = n + 1 := ⟨N - 1, by omega⟩
    have := drop_nil' h
    have h2 : ¬ (i : Int) < l.length := by omega
    simp [d25_1i, d25_2, h2, ffrom]
  | cons a r ih =>
    intro N i h hN
    obtain ⟨N, rfl⟩ : ∃ n, N = n + 1 := ⟨N - 1, by omega⟩
    obtain ⟨h1, h2, h3, h4⟩ := drop_cons' h
    have h5 : (i : Int) < l.length := by omega
    simp only [List.length_cons] at hN
    have := ih N (i + 1) h3 (by omega)
    simp only [d25_1i, d25_2, lss_int, ob_some, cb_bool, decide_eq_true_eq, h5, if_true, ia23, List.getElem?_map, h2, Option.map_some, ld58, hcl a h4, add_int, wrap_succ (show i < 9223372036854775807 by omega), this, ffrom]
    cases p a <;> simp
theorem c25 (hm : 1 ≤ m) (clo : PV) (p : Pt → Bool) (c : Bool) (l : List Pt) (hl : l.length ≤ 9223372036854775807) (hL : l.length < L) (hcl : ∀ k, m ≤ k + 1 → ∀ a ∈ l, callD (callP Try.prog hh L k) clo [Pt.pv a] false = some (Bo (p a))) :
    callP Try.prog hh L m 25 [.list 6 c (l.map fun a => Pt.pv a), clo] = some (I (ix p l)) := by
  obtain ⟨n, rfl⟩ : ∃ n, m = n + 1 := ⟨m - 1, by omega⟩
  refine callP_of rfl ?_
  rw [r25]
  have := l25 (L := L) (kk L n) (fun v => some v) (d25_3 (kk L n) L) clo p c l hl (hcl n (by omega)) l L 0 rfl hL
  simp only [d25_0, g25_0, d25_1, ln23, ob_some, List.length_map]
  rw [show (PV.sc (Value.int IntKind.i64 0)) = I ((0 : Nat) : Int) from rfl, this, ix]
  cases ffrom p 0 l <;> rfl

theorem l86 {R : Type} (C : Kallee) (kr : PV → Option R) (ke : Option R) (clo : PV) (p : Qs → Bool) (c : Bool) (l : List Qs) (hl : l.length ≤ 9223372036854775807) (hcl : ∀ a ∈ l, callD C.pure clo [Qs.pv a] false = some (Bo (p a))) :
    ∀ (r : List Qs) (N i : Nat), l.drop i = r → r.length < N → d86_1i C L kr ke N (.list 5 c (l.map fun a => Qs.pv a)) clo (I l.length) (I i) = (match ffrom p i r with | some j => kr (I j) | none => ke) := by
  intro r
  induction r with
  | nil =>
    intro N i h hN
    obtain ⟨N, rfl⟩ : ∃ n, N = n + 1 := ⟨N - 1, by omega⟩
    have := drop_nil' h
    have h2 : ¬ (i : Int) < l.length := by omega
    simp [d86_1i, d86_2, h2, ffrom]
  | cons a r ih =>
    intro N i h hN
    obtain ⟨N, rfl⟩ : ∃ n, N = n + 1 := ⟨N - 1, by omega⟩
    obtain ⟨h1, h2, h3, h4⟩ := drop_cons' h
    have h5 : (i : Int) < l.length := by omega
    simp only [List.length_cons] at hN
    have := ih N (i + 1) h3 (by omega)
    simp only [d86_1i, d86_2, lss_int, ob_some, cb_bool, decide_eq_true_eq, h5, if_true, ia25, List.getElem?_map, h2, Option.map_some, ld84, hcl a h4, add_int, wrap_succ (show i < 9223372036854775807 by omega), this, ffrom]
    cases p a <;> simp
theorem c86 (hm : 1 ≤ m) (clo : PV) (p : Qs → Bool) (c : Bool) (l : List Qs) (hl : l.length ≤ 9223372036854775807) (hL : l.length < L) (hcl : ∀ k, m ≤ k + 1 → ∀ a ∈ l, callD (callP Try.prog hh L k) clo [Qs.pv a] false = some (Bo (p a))) :
    callP Try.prog hh L m 86 [.list 5 c (l.map fun a => Qs.pv a), clo] = some (I (ix p l)) := by
  obtain ⟨n, rfl⟩ : ∃ n, m = n + 1 := ⟨m - 1, by omega⟩
  refine callP_of rfl ?_
  rw [r86]
  have := l86 (L := L) (kk L n) (fun v => some v) (d86_3 (kk L n) L) clo p c l hl (hcl n (by omega)) l L 0 rfl hL
  simp only [d86_0, g86_0, d86_1, ln25, ob_some, List.length_map]
  rw [show (PV.sc (Value.int IntKind.i64 0)) = I ((0 : Nat) : Int) from rfl, this, ix]
  cases ffrom p 0 l <;> rfl

theorem l93 {R : Type} (C : Kallee) (kr : PV → Option R) (ke : Option R) (clo : PV) (p : Nd → Bool) (c : Bool) (l : List Nd) (hl : l.length ≤ 9223372036854775807) (hcl : ∀ a ∈ l, callD C.pure clo [Nd.pv a] false = some (Bo (p a))) :
    ∀ (r : List Nd) (N i : Nat), l.drop i = r → r.length < N → d93_1i C L kr ke N (.list 4 c (l.map fun a => Nd.pv a)) clo (I l.length) (I i) = (match ffrom p i r with | some j => kr (I j) | none => ke) := by
  intro r
  induction r with
  | nil =>
    intro N i h hN
    obtain ⟨N, rfl⟩ : ∃ n, N = n + 1 := ⟨N - 1, by omega⟩
    have := drop_nil' h
    have h2 : ¬ (i : Int) < l.length := by omega
    simp [d93_1i, d93_2, h2, ffrom]
  | cons a r ih =>
    intro N i h hN
    obtain ⟨N, rfl⟩ : ∃ n, N = n + 1 := ⟨N - 1, by omega⟩
    obtain ⟨h1, h2, h3, h4⟩ := drop_cons' h
    have h5 : (i : Int) < l.length := by omega
    simp only [List.length_cons] at hN
    have := ih N (i + 1) h3 (by omega)
    simp only [d93_1i, d93_2, lss_int, ob_some, cb_bool, decide_eq_true_eq, h5, if_true, ia60, List.getElem?_map, h2, Option.map_some, ld87, hcl a h4, add_int, wrap_succ (show i < 9223372036854775807 by omega), this, ffrom]
    cases p a <;> simp
theorem c93 (hm : 1 ≤ m) (clo : PV) (p : Nd → Bool) (c : Bool) (l : List Nd) (hl : l.length ≤ 9223372036854775807) (hL : l.length < L) (hcl : ∀ k, m ≤ k + 1 → ∀ a ∈ l, callD (callP Try.prog hh L k) clo [Nd.pv a] false = some (Bo (p a))) :
    callP Try.prog hh L m 93 [.list 4 c (l.map fun a => Nd.pv a), clo] = some (I (ix p l)) := by
  obtain ⟨n, rfl⟩ : ∃ n, m = n + 1 := ⟨m - 1, by omega⟩
  refine callP_of rfl ?_
  rw [r93]
  have := l93 (L := L) (kk L n) (fun v => some v) (d93_3 (kk L n) L) clo p c l hl (hcl n (by omega)) l L 0 rfl hL
  simp only [d93_0, g93_0, d93_1, ln60, ob_some, List.length_map]
  rw [show (PV.sc (Value.int IntKind.i64 0)) = I ((0 : Nat) : Int) from rfl, this, ix]
  cases ffrom p 0 l <;> rfl

theorem l95 {R : Type} (C : Kallee) (kr : PV → Option R) (ke : Option R) (clo : PV) (p : Int → Bool) (c : Bool) (l : List Int) (hl : l.length ≤ 9223372036854775807) (hcl : ∀ a ∈ l, callD C.pure clo [I a] false = some (Bo (p a))) :
    ∀ (r : List Int) (N i : Nat), l.drop i = r → r.length < N → d95_1i C L kr ke N (.list 0 c (l.map fun a => I a)) clo (I l.length) (I i) = (match ffrom p i r with | some j => kr (I j) | none => ke) := by
  intro r
  induction r with
  | nil =>
    intro N i h hN
    obtain ⟨N, rfl⟩ : ∃ n, N = n + 1 := ⟨N - 1, by omega⟩
    have := drop_nil' h
    have h2 : ¬ (i : Int) < l.length := by omega
    simp [d95_1i, d95_2, h2, ffrom]
  | cons a r ih =>
    intro N i h hN
    obtain ⟨N, rfl⟩ : ∃ n, N = n + 1 := ⟨N - 1, by omega⟩
    obtain ⟨h1, h2, h3, h4⟩ := drop_cons' h
    have h5 : (i : Int) < l.length := by omega
    simp only [List.length_cons] at hN
    have := ih N (i + 1) h3 (by omega)
    simp only [d95_1i, d95_2, lss_int, ob_some, cb_bool, decide_eq_true_eq, h5, if_true, ia22, List.getElem?_map, h2, Option.map_some, ld3, hcl a h4, add_int, wrap_succ (show i < 9223372036854775807 by omega), this, ffrom]
    cases p a <;> simp
theorem c95 (hm : 1 ≤ m) (clo : PV) (p : Int → Bool) (c : Bool) (l : List Int) (hl : l.length ≤ 9223372036854775807) (hL : l.length < L) (hcl : ∀ k, m ≤ k + 1 → ∀ a ∈ l, callD (callP Try.prog hh L k) clo [I a] false = some (Bo (p a))) :
    callP Try.prog hh L m 95 [.list 0 c (l.map fun a => I a), clo] = some (I (ix p l)) := by
  obtain ⟨n, rfl⟩ : ∃ n, m = n + 1 := ⟨m - 1, by omega⟩
  refine callP_of rfl ?_
  rw [r95]
  have := l95 (L := L) (kk L n) (fun v => some v) (d95_3 (kk L n) L) clo p c l hl (hcl n (by omega)) l L 0 rfl hL
  simp only [d95_0, g95_0, d95_1, ln22, ob_some, List.length_map]
  rw [show (PV.sc (Value.int IntKind.i64 0)) = I ((0 : Nat) : Int) from rfl, this, ix]
  cases ffrom p 0 l <;> rfl
end
end Go.Lite

namespace Go.Lite
open Go Go.Proofs
set_option linter.unusedVariables false
set_option linter.unusedSimpArgs false

def pfind (l : List Pt) (s : ByteArray) : Option Nat := ffrom (fun a => decide (a.name = s)) 0 l
section
variable {L m : Nat}
theorem c26 (hm : 1 ≤ m) (a : Pt) (s : ByteArray) : callP Try.prog hh L m 26 [a.pv, .ro 0 (Sr s)] = some (Bo (decide (a.name = s))) := by
  obtain ⟨n, rfl⟩ : ∃ n, m = n + 1 := ⟨m - 1, by omega⟩
  refine callP_of rfl ?_
  rw [r26]; simp [d26_0]
theorem c8 (hm : 3 ≤ m) (l : List Pt) (s : ByteArray) (hl : l.length ≤ 9223372036854775807) (hL : l.length < L) :
    callP Try.prog hh L m 8 [pts l, Sr s] = some (.tup [I ((pfind l s).getD 0 : Nat), Bo (pfind l s).isSome]) := by
  obtain ⟨n, rfl⟩ : ∃ n, m = n + 1 := ⟨m - 1, by omega⟩
  refine callP_of rfl ?_
  rw [r8]
  have h := c25 (L := L) (m := n) (by omega) (.clo 26 [] [.ro 0 (Sr s)]) (fun a => decide (a.name = s)) false l hl hL (fun k hk a ha => by
    rw [callD_clo]; exact c26 (by omega) a s)
  have h' : callD (callP Try.prog hh L n) (.clo 25 [] []) [pts l, .clo 26 [] [.ro 0 (Sr s)]] true = _ := callD_t (by simpa using h) rfl
  have hk : PV.hasLay 0 (Sr s) = true := rfl
  simp only [d8_0, hk, ck_true, h', ob_some, max_int, geq_int, ix, pfind]
  cases ffrom (fun a : Pt => decide (a.name = s)) 0 l with
  | none => simp; rfl
  | some j =>
    have : max (j : Int) 0 = j := by omega
    simp [this]
theorem l9 {R : Type} (C : Kallee) (kr : PV → PV → Option R) (ke : Option R) (s : ByteArray) (l : List Pt) (hl : l.length ≤ 9223372036854775807) :
    ∀ (r : List Pt) (N i : Nat), l.drop i = r → r.length < N → d9_1i C L kr ke N (pts l) (Sr s) (I i) = (match ffrom (fun a => decide (a.name = s)) i r with | some j => kr (I j) (Bo true) | none => ke) := by
  intro r
  induction r with
  | nil =>
    intro N i h hN
    obtain ⟨N, rfl⟩ : ∃ n, N = n + 1 := ⟨N - 1, by omega⟩
    have := drop_nil' h
    have h2 : ¬ (i : Int) < l.length := by omega
    simp [d9_1i, d9_2, h2, ffrom]
  | cons a r ih =>
    intro N i h hN
    obtain ⟨N, rfl⟩ : ∃ n, N = n + 1 := ⟨N - 1, by omega⟩
    obtain ⟨h1, h2, h3, h4⟩ := drop_cons' h
    have h5 : (i : Int) < l.length := by omega
    simp only [List.length_cons] at hN
    have := ih N (i + 1) h3 (by omega)
    simp only [d9_1i, d9_2, ln23, List.length_map, lss_int, ob_some, cb_bool, decide_eq_true_eq, h5, if_true, ia23, List.getElem?_map, h2, Option.map_some, fa58_0, ld9, eql_str, add_int, wrap_succ (show i < 9223372036854775807 by omega), this, ffrom]
    by_cases hx : a.name = s <;> simp [hx]
theorem c9 (hm : 1 ≤ m) (l : List Pt) (s : ByteArray) (hl : l.length ≤ 9223372036854775807) (hL : l.length < L) :
    callP Try.prog hh L m 9 [pts l, Sr s] = some (.tup [I ((pfind l s).getD 0 : Nat), Bo (pfind l s).isSome]) := by
  obtain ⟨n, rfl⟩ : ∃ n, m = n + 1 := ⟨m - 1, by omega⟩
  refine callP_of rfl ?_
  rw [r9]
  have := l9 (L := L) (kk L n) (fun v w => some (.tup [v, w])) (d9_3 (kk L n) L) s l hl l L 0 rfl hL
  simp only [d9_0, g9_0, d9_1]
  rw [show (PV.sc (Value.int IntKind.i64 0)) = I ((0 : Nat) : Int) from rfl, this, pfind]
  cases ffrom (fun a : Pt => decide (a.name = s)) 0 l <;> rfl
/-! qualities -/
def qix (l : List Qs) (s : ByteArray) : Int := ix (fun a : Qs => decide (a.name = s)) l
theorem c87 (hm : 1 ≤ m) (a : Qs) (s : ByteArray) : callP Try.prog hh L m 87 [a.pv, .ro 0 (Sr s)] = some (Bo (decide (a.name = s))) := by
  obtain ⟨n, rfl⟩ : ∃ n, m = n + 1 := ⟨m - 1, by omega⟩
  refine callP_of rfl ?_
  rw [r87]; simp [d87_0]
theorem c66 (hm : 3 ≤ m) (l : List Qs) (s : ByteArray) (hl : l.length ≤ 9223372036854775807) (hL : l.length < L) : callP Try.prog hh L m 66 [qss l, Sr s] = some (I (qix l s)) := by
  obtain ⟨n, rfl⟩ : ∃ n, m = n + 1 := ⟨m - 1, by omega⟩
  refine callP_of rfl ?_
  rw [r66]
  have h := c86 (L := L) (m := n) (by omega) (.clo 87 [] [.ro 0 (Sr s)]) (fun a => decide (a.name = s)) false l hl hL (fun k hk a ha => by
    rw [callD_clo]; exact c87 (by omega) a s)
  have h' : callD (callP Try.prog hh L n) (.clo 86 [] []) [qss l, .clo 87 [] [.ro 0 (Sr s)]] true = _ := callD_t (by simpa using h) rfl
  have hk : PV.hasLay 0 (Sr s) = true := rfl
  simp only [d66_0, hk, ck_true, h', ob_some, qix]
theorem l69 {R : Type} (C : Kallee) (kr : PV → Option R) (ke : Option R) (s : ByteArray) (l : List Qs) (hl : l.length ≤ 9223372036854775807) :
    ∀ (r : List Qs) (N i : Nat), l.drop i = r → r.length < N → d69_1i C L kr ke N (qss l) (Sr s) (I i) = (match ffrom (fun a => decide (a.name = s)) i r with | some j => kr (I j) | none => ke) := by
  intro r
  induction r with
  | nil =>
    intro N i h hN
    obtain ⟨N, rfl⟩ : ∃ n, N = n + 1 := ⟨N - 1, by omega⟩
    have := drop_nil' h
    have h2 : ¬ (i : Int) < l.length := by omega
    simp [d69_1i, d69_2, h2, ffrom]
  | cons a r ih =>
    intro N i h hN
    obtain ⟨N, rfl⟩ : ∃ n, N = n + 1 := ⟨N - 1, by omega⟩
    obtain ⟨h1, h2, h3, h4⟩ := drop_cons' h
    have h5 : (i : Int) < l.length := by omega
    simp only [List.length_cons] at hN
    have := ih N (i + 1) h3 (by omega)
    simp only [d69_1i, d69_2, ln25, List.length_map, lss_int, ob_some, cb_bool, decide_eq_true_eq, h5, if_true, ia25, List.getElem?_map, h2, Option.map_some, fa84_0, ld9, eql_str, add_int, wrap_succ (show i < 9223372036854775807 by omega), this, ffrom]
    by_cases hx : a.name = s <;> simp [hx]
theorem c69 (hm : 1 ≤ m) (l : List Qs) (s : ByteArray) (hl : l.length ≤ 9223372036854775807) (hL : l.length < L) : callP Try.prog hh L m 69 [qss l, Sr s] = some (I (qix l s)) := by
  obtain ⟨n, rfl⟩ : ∃ n, m = n + 1 := ⟨m - 1, by omega⟩
  refine callP_of rfl ?_
  rw [r69]
  have := l69 (L := L) (kk L n) (fun v => some v) (d69_3 (kk L n) L) s l hl l L 0 rfl hL
  simp only [d69_0, g69_0, d69_1]
  rw [show (PV.sc (Value.int IntKind.i64 0)) = I ((0 : Nat) : Int) from rfl, this, qix, ix]
  cases ffrom (fun a : Qs => decide (a.name = s)) 0 l <;> rfl
def offL (n : Int) : Bool := decide (n < -1) || decide (1073741824 < n)
theorem c89 (hm : 1 ≤ m) (k : Int) : callP Try.prog hh L m 89 [I k] = some (Bo (offL k)) := by
  obtain ⟨n, rfl⟩ : ∃ n, m = n + 1 := ⟨m - 1, by omega⟩
  refine callP_of rfl ?_
  rw [r89]
  simp only [d89_0, lss_int, gtr_int, ob_some, gcase_f, offL]
  by_cases h : k < -1 <;> simp [h]
theorem c88 (hm : 2 ≤ m) (clo : PV) (p : Int → Bool) (c : Bool) (l : List Int) (hl : l.length ≤ 9223372036854775807) (hL : l.length < L) (hcl : ∀ k, m ≤ k + 2 → ∀ a ∈ l, callD (callP Try.prog hh L k) clo [I a] false = some (Bo (p a))) :
    callP Try.prog hh L m 88 [intz c l, clo] = some (Bo (l.any p)) := by
  obtain ⟨n, rfl⟩ : ∃ n, m = n + 1 := ⟨m - 1, by omega⟩
  refine callP_of rfl ?_
  rw [r88]
  simp only [d88_0, callD_clo, List.nil_append, List.append_nil, c95 (show 1 ≤ n by omega) clo p c l hl hL (fun k hk => hcl k (by omega)), ob_some, geq_int, ix_nonneg]
theorem c67 (hm : 4 ≤ m) (hL : 10 < L) (a b : Int) : callP Try.prog hh L m 67 [.list 0 true [I a, I b]] = some (Bo (!(offL a || offL b))) := by
  obtain ⟨n, rfl⟩ : ∃ n, m = n + 1 := ⟨m - 1, by omega⟩
  refine callP_of rfl ?_
  rw [r67]
  have h := c88 (L := L) (m := n) (by omega) (.clo 89 [] []) offL true [a, b] (by simp) (by simp; omega) (fun k hk a ha => by
    rw [callD_clo]; exact c89 (by omega) a)
  simp only [d67_0, callD_clo, List.nil_append, List.append_nil]
  rw [show ([PV.list 0 true [I a, I b], PV.clo 89 [] []] : List PV) = [intz true [a, b], .clo 89 [] []] from rfl, h]
  simp
/-! nodes -/
def ndBad (a : Nd) : Bool := decide (a.cores < 1) || decide (64 < a.cores) || decide (a.epoch < 1) || decide (1073741824 < a.epoch)
def nright (l : List Nd) : Bool := decide (1 ≤ l.length) && decide (l.length ≤ 32) && !l.any ndBad
theorem c83 (hm : 1 ≤ m) (a : Nd) : callP Try.prog hh L m 83 [a.pv] = some (Bo (ndBad a)) := by
  obtain ⟨n, rfl⟩ : ∃ n, m = n + 1 := ⟨m - 1, by omega⟩
  refine callP_of rfl ?_
  rw [r83]
  simp only [d83_0, ndl, ck_true, nd0, nd2, lss_int, gtr_int, ob_some, gcase_f, ndBad]
  by_cases h : a.cores < 1 <;> by_cases h2 : 64 < a.cores <;> by_cases h3 : a.epoch < 1 <;> simp [h, h2, h3]
theorem c84 (hm : 2 ≤ m) (clo : PV) (p : Nd → Bool) (c : Bool) (l : List Nd) (hl : l.length ≤ 9223372036854775807) (hL : l.length < L) (hcl : ∀ k, m ≤ k + 2 → ∀ a ∈ l, callD (callP Try.prog hh L k) clo [a.pv] false = some (Bo (p a))) :
    callP Try.prog hh L m 84 [nds l, clo] = some (Bo (l.any p)) := by
  obtain ⟨n, rfl⟩ : ∃ n, m = n + 1 := ⟨m - 1, by omega⟩
  refine callP_of rfl ?_
  rw [r84]
  simp only [d84_0, callD_clo, List.nil_append, List.append_nil, c93 (show 1 ≤ n by omega) clo p false l hl hL (fun k hk => hcl k (by omega)), ob_some, geq_int, ix_nonneg]
theorem c61 (hm : 4 ≤ m) (l : List Nd) (hl : l.length ≤ 9223372036854775807) (hL : l.length < L) : callP Try.prog hh L m 61 [nds l] = some (Bo (nright l)) := by
  obtain ⟨n, rfl⟩ : ∃ n, m = n + 1 := ⟨m - 1, by omega⟩
  refine callP_of rfl ?_
  rw [r61]
  have h := c84 (L := L) (m := n) (by omega) (.clo 83 [] []) ndBad false l hl hL (fun k hk a ha => by
    rw [callD_clo]; exact c83 (by omega) a)
  simp only [d61_0, ln60, ob_some, geq_int, gcase_t, leq_int, callD_clo, List.nil_append, List.append_nil, h, not_bool, List.length_map, nright]
  have e1 : (1 : Int) ≤ l.length ↔ 1 ≤ l.length := by omega
  have e2 : (l.length : Int) ≤ 32 ↔ l.length ≤ 32 := by omega
  simp only [e1, e2]
  by_cases q1 : 1 ≤ l.length <;> by_cases q2 : l.length ≤ 32 <;> simp [q1, q2]
theorem l68 {R : Type} (C : Kallee) (kr : PV → Option R) (ke : PV → Option R) (l : List Nd) (hl : l.length ≤ 9223372036854775807) :
    ∀ (r : List Nd) (N i : Nat), l.drop i = r → r.length < N → d68_1i C L kr ke N (nds l) (I i) = if r.any ndBad then kr (Bo false) else ke (nds l) := by
  intro r
  induction r with
  | nil =>
    intro N i h hN
    obtain ⟨N, rfl⟩ : ∃ n, N = n + 1 := ⟨N - 1, by omega⟩
    have := drop_nil' h
    have h2 : ¬ (i : Int) < l.length := by omega
    simp [d68_1i, d68_2, h2]
  | cons a r ih =>
    intro N i h hN
    obtain ⟨N, rfl⟩ : ∃ n, N = n + 1 := ⟨N - 1, by omega⟩
    obtain ⟨h1, h2, h3, h4⟩ := drop_cons' h
    have h5 : (i : Int) < l.length := by omega
    simp only [List.length_cons] at hN
    have := ih N (i + 1) h3 (by omega)
    simp only [d68_1i, d68_2, ln60, List.length_map, lss_int, gtr_int, ob_some, cb_bool, decide_eq_true_eq, h5, if_true, ia60, List.getElem?_map, h2, Option.map_some, fa87_0, fa87_2, ld3, gcase_f, add_int, wrap_succ (show i < 9223372036854775807 by omega), this, List.any_cons, ndBad]
    by_cases q1 : a.cores < 1 <;> by_cases q2 : 64 < a.cores <;> by_cases q3 : a.epoch < 1 <;> by_cases q4 : 1073741824 < a.epoch <;> simp only [q1, q2, q3, q4, decide_true, decide_false, if_true, if_false, Bool.true_or, Bool.false_or, Bool.or_true, Bool.or_false, Bool.false_eq_true]
theorem c68 (hm : 1 ≤ m) (l : List Nd) (hl : l.length ≤ 9223372036854775807) (hL : l.length < L) : callP Try.prog hh L m 68 [nds l] = some (Bo (nright l)) := by
  obtain ⟨n, rfl⟩ : ∃ n, m = n + 1 := ⟨m - 1, by omega⟩
  refine callP_of rfl ?_
  rw [r68]
  have := l68 (L := L) (kk L n) (fun v => some v) (fun v => d68_3 (kk L n) L v) l hl l L 0 rfl hL
  simp only [d68_0, g68_0, d68_1]
  rw [show (PV.sc (Value.int IntKind.i64 0)) = I ((0 : Nat) : Int) from rfl, this]
  simp only [d68_3, ln60, ob_some, geq_int, gcase_t, leq_int, List.length_map, nright]
  have e1 : (1 : Int) ≤ l.length ↔ 1 ≤ l.length := by omega
  have e2 : (l.length : Int) ≤ 32 ↔ l.length ≤ 32 := by omega
  simp only [e1, e2]
  by_cases q3 : l.any ndBad = true <;> by_cases q1 : 1 ≤ l.length <;> by_cases q2 : l.length ≤ 32 <;> simp [q1, q2, q3]
def mkN (c : Int) : Nd := ⟨c, true, 1⟩
theorem bld87 (c : Int) : buildPV Try.prog 87 [(0, I c), (1, .sc (.bool true)), (2, .sc (.int .i64 1))] = some (mkN c).pv := by kernel_rfl
theorem inf87 : (Try.prog.info? 87).map (·.bytes) = some 24 := by kernel_rfl
theorem zero87 : zeroPV Try.prog 87 = some (Nd.pv ⟨0, false, 0⟩) := by kernel_rfl
theorem app60 (xs ys : List PV) (c : Bool) (h : (xs.length + ys.length) * 24 ≤ appendRoom) : appendTo Try.prog 60 60 4 xs (.list 4 c ys) = some (xs ++ ys) := by
  have := inf87
  cases hi : Try.prog.info? 87 with
  | none => rw [hi] at this; simp at this
  | some i =>
    rw [hi] at this
    simp only [Option.map_some, Option.some.injEq] at this
    simp [appendTo, u60, y87, hi, zero87, this, width, layPV, elemsPV?, h]
theorem bs60 (a : Nd) : buildSliceAV Try.prog 60 1 [(0, a.pv)] = some (.list 4 true [a.pv]) := by
  simp [buildSliceAV, u60, y87, zero87, width, setAll]
theorem l27 {R : Type} (C : Kallee) (ke : List PV → Option R) (l : List Int) (hl : l.length ≤ 1000) :
    ∀ (r : List Int) (N i : Nat), l.drop i = r → r.length < N → d27_1i C L ke N (intz false l) (I l.length) (I i) ((l.take i).map fun c => (mkN c).pv) = ke (l.map fun c => (mkN c).pv) := by
  intro r
  induction r with
  | nil =>
    intro N i h hN
    obtain ⟨N, rfl⟩ : ∃ n, N = n + 1 := ⟨N - 1, by omega⟩
    have := drop_nil' h
    have h2 : ¬ (i : Int) < l.length := by omega
    simp [d27_1i, d27_2, h2, List.take_of_length_le (show l.length ≤ i by omega)]
  | cons a r ih =>
    intro N i h hN
    obtain ⟨N, rfl⟩ : ∃ n, N = n + 1 := ⟨N - 1, by omega⟩
    obtain ⟨h1, h2, h3, h4⟩ := drop_cons' h
    have h5 : (i : Int) < l.length := by omega
    simp only [List.length_cons] at hN
    have := ih N (i + 1) h3 (by omega)
    rw [List.take_add_one, h2] at this
    simp only [Option.toList_some, List.map_append, List.map_cons, List.map_nil] at this
    have happ := app60 ((l.take i).map fun c => (mkN c).pv) [(mkN a).pv] true (by simp [appendRoom]; omega)
    simp only [d27_1i, d27_2, lss_int, ob_some, cb_bool, decide_eq_true_eq, h5, if_true, ia22, List.getElem?_map, h2, Option.map_some, ld3, bld87, bs60, happ, oxs_some, add_int, wrap_succ (show i < 9223372036854775807 by omega), this]
def nnew (l : List Int) : PV := if nright (l.map mkN) then .tup [nds (l.map mkN), I 0] else .tup [.sc (.slice none 0 0), I 2]
theorem map_mk (l : List Int) : (l.map fun c => (mkN c).pv) = (l.map mkN).map Nd.pv := by simp
theorem c27 (hm : 5 ≤ m) (l : List Int) (hl : l.length ≤ 1000) (hL : l.length < L) : callP Try.prog hh L m 27 [intz false l] = some (nnew l) := by
  obtain ⟨n, rfl⟩ : ∃ n, m = n + 1 := ⟨m - 1, by omega⟩
  refine callP_of rfl ?_
  rw [r27]
  have := l27 (L := L) (kk L n) (fun x => d27_3 (kk L n) L x) l hl l L 0 rfl hL
  simp only [d27_0, g27_0, ln22, ob_some, d27_1, List.length_map]
  rw [show (PV.sc (Value.int IntKind.i64 0)) = I ((0 : Nat) : Int) from rfl]
  simp only [List.take_zero, List.map_nil] at this
  rw [this, map_mk]
  simp only [d27_3, callD_clo, List.nil_append, List.append_nil, c61 (L := L) (show 4 ≤ n by omega) (l.map mkN) (by simp; omega) (by simpa using hL), ob_some, not_bool, cb_bool, nnew]
  by_cases h : nright (l.map mkN) = true <;> simp [h]
theorem l34 {R : Type} (C : Kallee) (ke : List PV → Option R) (l : List Int) (hl : l.length ≤ 1000) :
    ∀ (r : List Int) (N i : Nat), l.drop i = r → r.length < N → d34_1i C L ke N (intz false l) (I i) ((l.take i).map fun c => (mkN c).pv) = ke (l.map fun c => (mkN c).pv) := by
  intro r
  induction r with
  | nil =>
    intro N i h hN
    obtain ⟨N, rfl⟩ : ∃ n, N = n + 1 := ⟨N - 1, by omega⟩
    have := drop_nil' h
    have h2 : ¬ (i : Int) < l.length := by omega
    simp [d34_1i, d34_2, h2, List.take_of_length_le (show l.length ≤ i by omega)]
  | cons a r ih =>
    intro N i h hN
    obtain ⟨N, rfl⟩ : ∃ n, N = n + 1 := ⟨N - 1, by omega⟩
    obtain ⟨h1, h2, h3, h4⟩ := drop_cons' h
    have h5 : (i : Int) < l.length := by omega
    simp only [List.length_cons] at hN
    have := ih N (i + 1) h3 (by omega)
    rw [List.take_add_one, h2] at this
    simp only [Option.toList_some, List.map_append, List.map_cons, List.map_nil] at this
    have happ := app60 ((l.take i).map fun c => (mkN c).pv) [(mkN a).pv] true (by simp [appendRoom]; omega)
    simp only [d34_1i, d34_2, ln22, List.length_map, lss_int, ob_some, cb_bool, decide_eq_true_eq, h5, if_true, ia22, List.getElem?_map, h2, Option.map_some, ld3, bld87, bs60, happ, oxs_some, add_int, wrap_succ (show i < 9223372036854775807 by omega), this]
theorem c34 (hm : 2 ≤ m) (l : List Int) (hl : l.length ≤ 1000) (hL : l.length < L) : callP Try.prog hh L m 34 [intz false l] = some (nnew l) := by
  obtain ⟨n, rfl⟩ : ∃ n, m = n + 1 := ⟨m - 1, by omega⟩
  refine callP_of rfl ?_
  rw [r34]
  have := l34 (L := L) (kk L n) (fun x => d34_3 (kk L n) L x) l hl l L 0 rfl hL
  simp only [d34_0, g34_0, d34_1]
  rw [show (PV.sc (Value.int IntKind.i64 0)) = I ((0 : Nat) : Int) from rfl]
  simp only [List.take_zero, List.map_nil] at this
  rw [this, map_mk]
  simp only [d34_3, callD_clo, List.nil_append, List.append_nil, c68 (L := L) (show 1 ≤ n by omega) (l.map mkN) (by simp; omega) (by simpa using hL), ob_some, not_bool, cb_bool, nnew]
  by_cases h : nright (l.map mkN) = true <;> simp [h]
end
end Go.Lite

namespace Go.Lite
open Go Go.Proofs
set_option linter.unusedVariables false
set_option linter.unusedSimpArgs false

section
variable {L m : Nat}
/-! the nodes that are so, as a set -/
theorem putU (c : AV) (d : PV) (h : d.isCell = true) : putPV 0 0 0 c d = some d := by
  have : d.hasLay 0 = true := by cases d <;> simp_all [PV.hasLay, PV.isCell]
  simp [putPV, this]
theorem l62 {R : Type} (C : Kallee) (ke : PV → Option R) (clo : PV) (q : Nat → Bool) (l : List Nd) (hl : l.length ≤ 32) (hcl : ∀ (i : Nat) a, l[i]? = some a → callD C.pure clo [I i, a.pv] false = some (Bo (q i))) :
    ∀ (r : List Nd) (N i : Nat), l.drop i = r → r.length < N → d62_1i C L ke N clo (U (bits q i)) (nds l) (I l.length) (I i) = ke (U (bits q (i + r.length))) := by
  intro r
  induction r with
  | nil =>
    intro N i h hN
    obtain ⟨N, rfl⟩ : ∃ n, N = n + 1 := ⟨N - 1, by omega⟩
    have := drop_nil' h
    have h2 : ¬ (i : Int) < l.length := by omega
    simp [d62_1i, d62_2, g62_2, h2]
  | cons a r ih =>
    intro N i h hN
    obtain ⟨N, rfl⟩ : ∃ n, N = n + 1 := ⟨N - 1, by omega⟩
    obtain ⟨h1, h2, h3, h4⟩ := drop_cons' h
    have h5 : (i : Int) < l.length := by omega
    have h6 : (i : Int) < 32 := by omega
    simp only [List.length_cons] at hN
    have := ih N (i + 1) h3 (by omega)
    have hb : bits q i < 2 ^ 32 := Nat.lt_of_lt_of_le (bits_lt q i) (Nat.pow_le_pow_right (by decide) (by omega))
    have hp : (2 : Nat) ^ i < 2 ^ 32 := Nat.pow_lt_pow_right (by decide) (by omega)
    simp only [d62_1i, d62_2, g62_2, d62_3, d62_4, lss_int, ob_some, cb_bool, decide_eq_true_eq, h5, h6, if_true, ia60, List.getElem?_map, h2, Option.map_some, ld87, put4n, hcl i a h2, gcase_t, decide_true, shl_u _ _ _ _ i (show i < 32 by omega), or_u _ _ _ _ (bits q i) (2 ^ i) hb hp, bits_or, add_int, wrap_succ (show i < 9223372036854775807 by omega)]
    simp only [bits] at this
    by_cases hq : q i = true
    · simp only [hq, if_true] at this ⊢
      rw [this, List.length_cons, show i + 1 + r.length = i + (r.length + 1) by omega]
    · simp only [hq, Bool.false_eq_true, if_false, Nat.add_zero] at this ⊢
      rw [this, List.length_cons, show i + 1 + r.length = i + (r.length + 1) by omega]
theorem c62 (hm : 1 ≤ m) (clo : PV) (q : Nat → Bool) (l : List Nd) (hl : l.length ≤ 32) (hL : 40 < L) (hcl : ∀ k, m ≤ k + 1 → ∀ (i : Nat) a, l[i]? = some a → callD (callP Try.prog hh L k) clo [I i, a.pv] false = some (Bo (q i))) :
    callP Try.prog hh L m 62 [nds l, clo] = some (U (bits q l.length)) := by
  obtain ⟨n, rfl⟩ : ∃ n, m = n + 1 := ⟨m - 1, by omega⟩
  refine callP_of rfl ?_
  rw [r62]
  have := l62 (L := L) (kk L n) (fun v => d62_5 (kk L n) L v) clo q l hl (hcl n (by omega)) l L 0 rfl (by omega)
  simp only [d62_0, g62_0, ln60, ob_some, d62_1, List.length_map]
  rw [show (PV.sc (Value.int IntKind.i64 0)) = I ((0 : Nat) : Int) from rfl, show (PV.sc (Value.int IntKind.u32 0)) = U (bits q 0) from rfl, this]
  simp [d62_5]
theorem c62n (hm : 1 ≤ m) (clo : PV) (hL : 40 < L) : callP Try.prog hh L m 62 [.sc (.slice none 0 0), clo] = some (U 0) := by
  obtain ⟨n, rfl⟩ : ∃ n, m = n + 1 := ⟨m - 1, by omega⟩
  refine callP_of rfl ?_
  rw [r62]
  obtain ⟨N, rfl⟩ : ∃ q, L = q + 1 := ⟨L - 1, by omega⟩
  simp only [d62_0, g62_0, ln60n, ob_some, d62_1, d62_1i, d62_2, g62_2, lss_int, cb_bool]
  simp [d62_5]
def qup (l : List Nd) (i : Nat) : Bool := match l[i]? with | some a => a.up | none => false
def qable (l : List Nd) (s : Nat) (c : Int) (i : Nat) : Bool := match l[i]? with | some a => s.testBit i && decide (c ≤ a.cores) | none => false
theorem c63 (hm : 1 ≤ m) (i : PV) (a : Nd) : callP Try.prog hh L m 63 [i, a.pv] = some (Bo a.up) := by
  obtain ⟨n, rfl⟩ : ∃ n, m = n + 1 := ⟨m - 1, by omega⟩
  refine callP_of rfl ?_
  rw [r63]; simp [d63_0]
theorem c28 (hm : 3 ≤ m) (l : List Nd) (hl : l.length ≤ 32) (hL : 40 < L) : callP Try.prog hh L m 28 [nds l] = some (U (bits (qup l) l.length)) := by
  obtain ⟨n, rfl⟩ : ∃ n, m = n + 1 := ⟨m - 1, by omega⟩
  refine callP_of rfl ?_
  rw [r28]
  have h := c62 (L := L) (m := n) (by omega) (.clo 63 [] []) (qup l) l hl hL (fun k hk i a ha => by
    rw [callD_clo]; simp only [List.nil_append, List.append_nil, c63 (L := L) (show 1 ≤ k by omega) (I i) a, qup, ha])
  simp only [d28_0, callD_clo, List.nil_append, List.append_nil, h, ob_some]
theorem c28n (hm : 3 ≤ m) (hL : 40 < L) : callP Try.prog hh L m 28 [.sc (.slice none 0 0)] = some (U 0) := by
  obtain ⟨n, rfl⟩ : ∃ n, m = n + 1 := ⟨m - 1, by omega⟩
  refine callP_of rfl ?_
  rw [r28]
  simp only [d28_0, callD_clo, List.nil_append, List.append_nil, c62n (L := L) (show 1 ≤ n by omega) _ hL, ob_some]
theorem c78 (hm : 1 ≤ m) (i : Nat) (hi : i < 32) (a : Nd) (s : Nat) (hs : s < 2 ^ 32) (c : Int) : callP Try.prog hh L m 78 [I i, a.pv, .ro 0 (U s), .ro 0 (I c)] = some (Bo (s.testBit i && decide (c ≤ a.cores))) := by
  obtain ⟨n, rfl⟩ : ∃ n, m = n + 1 := ⟨m - 1, by omega⟩
  refine callP_of rfl ?_
  rw [r78]
  have h1 : s / 2 ^ i < 2 ^ 32 := Nat.lt_of_le_of_lt (Nat.div_le_self _ _) hs
  have h2 := fun x y => and_u Try.prog 56 x y (s / 2 ^ i) 1 h1 (by decide)
  simp only [Int.cast_ofNat_Int, Nat.and_one_is_mod] at h2
  have e3 : (((s / 2 ^ i % 2 : Nat) : Int) = 1) = (s / 2 ^ i % 2 = 1) := by apply propext; omega
  rw [d78_0]
  simp only [ndl, ck_true, ld56, ob_some, shr_u _ _ _ _ s i hi]
  rw [show (PV.sc (Value.int IntKind.u32 1)) = U 1 from rfl, h2]
  simp only [ob_some, eql_int, Nat.testBit_eq_decide_div_mod_eq]
  rw [show (((1 : Nat) : Int)) = 1 from rfl]
  simp only [e3, gcase_t, nd0, ld3, ob_some, geq_int]
  by_cases h : s / 2 ^ i % 2 = 1 <;> simp [h]
theorem c43 (hm : 3 ≤ m) (l : List Nd) (hl : l.length ≤ 32) (s : Nat) (hs : s < 2 ^ 32) (c : Int) (hL : 40 < L) : callP Try.prog hh L m 43 [nds l, U s, I c] = some (U (bits (qable l s c) l.length)) := by
  obtain ⟨n, rfl⟩ : ∃ n, m = n + 1 := ⟨m - 1, by omega⟩
  refine callP_of rfl ?_
  rw [r43]
  have h := c62 (L := L) (m := n) (by omega) (.clo 78 [] [.ro 0 (U s), .ro 0 (I c)]) (qable l s c) l hl hL (fun k hk i a ha => by
    have hi : i < 32 := by
      rcases Nat.lt_or_ge i l.length with h' | h'
      · omega
      · rw [List.getElem?_eq_none h'] at ha; simp at ha
    rw [callD_clo]
    exact (c78 (L := L) (show 1 ≤ k by omega) i hi a s hs c).trans (by simp [qable, ha]))
  have h' : callD (callP Try.prog hh L n) (.clo 62 [] []) [nds l, .clo 78 [] [.ro 0 (U s), .ro 0 (I c)]] true = _ := callD_t (by simpa using h) rfl
  have e1 : PV.hasLay 0 (U s) = true := rfl
  have e2 : PV.hasLay 0 (I c) = true := rfl
  simp only [d43_0, e1, e2, ck_true, h', ob_some]
theorem l36 {R : Type} (C : Kallee) (ke : List PV → Option R) (l : List Nd) (hl : l.length ≤ 32) :
    ∀ (r : List Nd) (N i : Nat), l.drop i = r → r.length < N → d36_1i C L ke N (nds l) (I i) ((ons (qup l) i).map fun i => I (i : Nat)) = ke ((ons (qup l) (i + r.length)).map fun i => I (i : Nat)) := by
  intro r
  induction r with
  | nil =>
    intro N i h hN
    obtain ⟨N, rfl⟩ : ∃ n, N = n + 1 := ⟨N - 1, by omega⟩
    have := drop_nil' h
    have h2 : ¬ (i : Int) < l.length := by omega
    simp [d36_1i, d36_2, h2]
  | cons a r ih =>
    intro N i h hN
    obtain ⟨N, rfl⟩ : ∃ n, N = n + 1 := ⟨N - 1, by omega⟩
    obtain ⟨h1, h2, h3, h4⟩ := drop_cons' h
    have h5 : (i : Int) < l.length := by omega
    have h6 : (i : Int) < 32 := by omega
    simp only [List.length_cons] at hN
    have := ih N (i + 1) h3 (by omega)
    rw [ons_succ] at this
    have hlen := ons_len (qup l) i
    have happ := app22 ((ons (qup l) i).map fun i => I (i : Nat)) [I (i : Nat)] true (by simp [appendRoom]; omega)
    have hq : qup l i = a.up := by simp [qup, h2]
    simp only [d36_1i, d36_2, ln60, List.length_map, lss_int, ob_some, gcase_t, cb_bool, decide_eq_true_eq, h5, h6, decide_true, if_true, ia60, List.getElem?_map, h2, Option.map_some, fa87_1, ld4, bs22, happ, oxs_some, add_int, wrap_succ (show i < 9223372036854775807 by omega)]
    rw [List.length_cons, show i + (r.length + 1) = i + 1 + r.length by omega]
    rw [hq] at this
    by_cases hu : a.up = true
    · simp only [hu, if_true] at this ⊢
      rw [← this]; simp
    · simp only [hu, Bool.false_eq_true, if_false] at this ⊢
      exact this
theorem c36 (hm : 3 ≤ m) (l : List Nd) (hl : l.length ≤ 32) (hL : 40 < L) : callP Try.prog hh L m 36 [nds l] = some (U (bits (qup l) l.length)) := by
  obtain ⟨n, rfl⟩ : ∃ n, m = n + 1 := ⟨m - 1, by omega⟩
  refine callP_of rfl ?_
  rw [r36]
  have := l36 (L := L) (kk L n) (fun v => d36_3 (kk L n) L v) l hl l L 0 rfl (by omega)
  simp only [d36_0, g36_0, d36_1]
  rw [show (PV.sc (Value.int IntKind.i64 0)) = I ((0 : Nat) : Int) from rfl]
  rw [show ((ons (qup l) 0).map fun i => I (i : Nat)) = [] from rfl] at this
  rw [this]
  have h := c71 (L := L) (m := n) (by omega) hL false (qup l) (0 + l.length) (by omega)
  simp only [d36_3, callD_clo, List.nil_append, List.append_nil, h, ob_some]
  simp
theorem l47 {R : Type} (n : Nat) (hn : 1 ≤ n) (hL : 40 < L) (ke : List PV → Option R) (l : List Nd) (hl : l.length ≤ 32) (s : Nat) (hs : s < 2 ^ 32) (c : Int) :
    ∀ (r : List Nd) (N i : Nat), l.drop i = r → r.length < N → d47_1i (kk L n) L ke N (nds l) (U s) (I c) (I i) ((ons (qable l s c) i).map fun i => I (i : Nat)) = ke ((ons (qable l s c) (i + r.length)).map fun i => I (i : Nat)) := by
  intro r
  induction r with
  | nil =>
    intro N i h hN
    obtain ⟨N, rfl⟩ : ∃ n, N = n + 1 := ⟨N - 1, by omega⟩
    have := drop_nil' h
    have h2 : ¬ (i : Int) < l.length := by omega
    simp [d47_1i, d47_2, g47_2, h2]
  | cons a r ih =>
    intro N i h hN
    obtain ⟨N, rfl⟩ : ∃ n, N = n + 1 := ⟨N - 1, by omega⟩
    obtain ⟨h1, h2, h3, h4⟩ := drop_cons' h
    have h5 : (i : Int) < l.length := by omega
    have h6 : (i : Int) < 32 := by omega
    simp only [List.length_cons] at hN
    have := ih N (i + 1) h3 (by omega)
    rw [ons_succ] at this
    have hlen := ons_len (qable l s c) i
    have happ := app22 ((ons (qable l s c) i).map fun i => I (i : Nat)) [I (i : Nat)] true (by simp [appendRoom]; omega)
    have hq : qable l s c i = (s.testBit i && decide (c ≤ a.cores)) := by simp [qable, h2]
    simp only [d47_1i, d47_2, g47_2, d47_3, d47_4, ln60, List.length_map, lss_int, geq_int, ob_some, gcase_t, cb_bool, decide_eq_true_eq, h5, h6, decide_true, if_true, ia60, List.getElem?_map, h2, Option.map_some, fa87_0, ld3, callD_clo, List.nil_append, List.append_nil, c72 (L := L) hn hL s i hs (by omega),
      bs22, happ, oxs_some, add_int, wrap_succ (show i < 9223372036854775807 by omega)]
    rw [List.length_cons, show i + (r.length + 1) = i + 1 + r.length by omega]
    rw [hq] at this
    by_cases h7 : s.testBit i = true
    · by_cases h8 : c ≤ a.cores
      · simp only [h7, h8, decide_true, Bool.and_self, if_true] at this ⊢
        rw [← this]; simp
      · simp only [h7, h8, decide_false, Bool.and_false, Bool.false_eq_true, if_false, if_true] at this ⊢
        exact this
    · simp only [h7, Bool.false_and, Bool.false_eq_true, if_false] at this ⊢
      exact this
theorem c47 (hm : 3 ≤ m) (l : List Nd) (hl : l.length ≤ 32) (s : Nat) (hs : s < 2 ^ 32) (c : Int) (hL : 40 < L) : callP Try.prog hh L m 47 [nds l, U s, I c] = some (U (bits (qable l s c) l.length)) := by
  obtain ⟨n, rfl⟩ : ∃ n, m = n + 1 := ⟨m - 1, by omega⟩
  refine callP_of rfl ?_
  rw [r47]
  have := l47 (L := L) n (by omega) hL (fun v => d47_5 (kk L n) L v) l hl s hs c l L 0 rfl (by omega)
  simp only [d47_0, g47_0, d47_1]
  rw [show (PV.sc (Value.int IntKind.i64 0)) = I ((0 : Nat) : Int) from rfl]
  rw [show ((ons (qable l s c) 0).map fun i => I (i : Nat)) = [] from rfl] at this
  rw [this]
  have h := c71 (L := L) (m := n) (by omega) hL false (qable l s c) (0 + l.length) (by omega)
  simp only [d47_5, callD_clo, List.nil_append, List.append_nil, h, ob_some]
  simp
end
end Go.Lite

namespace Go.Lite
open Go Go.Proofs
set_option linter.unusedVariables false
set_option linter.unusedSimpArgs false

/-! # copies, and what is the same -/
theorem inf58 : (Try.prog.info? 58).map (·.bytes) = some 64 := by kernel_rfl
theorem zero58 : zeroPV Try.prog 58 = some (.agg [Sr ⟨#[]⟩, U 0, I 0, I 0, .sc (.slice none 0 0)]) := by kernel_rfl
theorem inf45 : (Try.prog.info? 45).map (·.bytes) = some 40 := by kernel_rfl
theorem zero45 : zeroPV Try.prog 45 = some (Acc.pv ⟨⟨#[]⟩, ⟨#[]⟩, 0⟩) := by kernel_rfl
theorem inf84 : (Try.prog.info? 84).map (·.bytes) = some 40 := by kernel_rfl
theorem zero84 : zeroPV Try.prog 84 = some (Qs.pv ⟨⟨#[]⟩, 0, 0, 0⟩) := by kernel_rfl
theorem app23 (xs ys : List PV) (c : Bool) (h : (xs.length + ys.length) * 64 ≤ appendRoom) : appendTo Try.prog 23 23 6 xs (.list 6 c ys) = some (xs ++ ys) := by
  have := inf58
  cases hi : Try.prog.info? 58 with
  | none => rw [hi] at this; simp at this
  | some i =>
    rw [hi] at this
    simp only [Option.map_some, Option.some.injEq] at this
    have hz : PV.hasLay 6 (.agg [Sr ⟨#[]⟩, U 0, I 0, I 0, .sc (.slice none 0 0)]) = true := rfl
    simp [appendTo, u23, y58, hi, zero58, this, hz, width, layPV, elemsPV?, h]
theorem app24 (xs ys : List PV) (c : Bool) (h : (xs.length + ys.length) * 40 ≤ appendRoom) : appendTo Try.prog 24 24 4 xs (.list 4 c ys) = some (xs ++ ys) := by
  have := inf45
  cases hi : Try.prog.info? 45 with
  | none => rw [hi] at this; simp at this
  | some i =>
    rw [hi] at this
    simp only [Option.map_some, Option.some.injEq] at this
    simp [appendTo, u24, y45, hi, zero45, this, width, layPV, elemsPV?, h]
theorem app25 (xs ys : List PV) (c : Bool) (h : (xs.length + ys.length) * 40 ≤ appendRoom) : appendTo Try.prog 25 25 5 xs (.list 5 c ys) = some (xs ++ ys) := by
  have := inf84
  cases hi : Try.prog.info? 84 with
  | none => rw [hi] at this; simp at this
  | some i =>
    rw [hi] at this
    simp only [Option.map_some, Option.some.injEq] at this
    simp [appendTo, u25, y84, hi, zero84, this, width, layPV, elemsPV?, h]
theorem bs23 (a : Pt) : buildSliceAV Try.prog 23 1 [(0, a.pv)] = some (.list 6 true [a.pv]) := by
  have hz : PV.hasLay 6 (.agg [Sr ⟨#[]⟩, U 0, I 0, I 0, .sc (.slice none 0 0)]) = true := rfl
  simp [buildSliceAV, u23, y58, zero58, hz, width, setAll]
theorem bs24 (a : Acc) : buildSliceAV Try.prog 24 1 [(0, a.pv)] = some (.list 4 true [a.pv]) := by
  simp [buildSliceAV, u24, y45, zero45, width, setAll]
theorem bs25 (a : Qs) : buildSliceAV Try.prog 25 1 [(0, a.pv)] = some (.list 5 true [a.pv]) := by
  simp [buildSliceAV, u25, y84, zero84, width, setAll]

/-! values of structs, compared -/
theorem pr_bind {α β : Type} (Q : Program) (x : Sem α) (f : α → Sem β) : pureRun Q (x >>= f) = (pureRun Q x).bind fun a => pureRun Q (f a) := by
  show pureRun Q (Sem.bind x f) = _
  induction x <;> simp [Sem.bind, pureRun, *]
theorem pr_underlying {Q : Program} {t : TypeId} {d : TypeDesc} (h : Q.underlying t = some d) : pureRun Q (underlying t) = some d := by
  have : underlying t = Sem.program fun P => (match P.underlying t with | some d => pure d | none => stuck "no such type") := rfl
  rw [this, pureRun, h]; rfl
def eqF (Q : Program) (d : Nat) (xs ys : Array Value) : List Field → Option Bool
  | [] => some true
  | f :: fs =>
    if f.name ≠ "_" then (pureRun Q (part f.type xs f.offset)).bind fun a => (pureRun Q (part f.type ys f.offset)).bind fun b => (pureRun Q (Op.equalIn d f.type a b)).bind fun r => if (!r) = true then some false else eqF Q d xs ys fs
    else eqF Q d xs ys fs
theorem pr_struct {Q : Program} (d : Nat) (t : TypeId) (xs ys : Array Value) (ht : Q.underlying t = some (.struct (Q.fieldsOf t))) (hp : Q.stoodInHeld t = false) :
    pureRun Q (Op.equalIn (d + 1) t (.agg xs) (.agg ys)) = eqF Q d xs ys (Q.fieldsOf t).toList := by
  have hprog : ∀ (β : Type) (k : Program → Sem β), pureRun Q (program >>= k) = pureRun Q (k Q) := fun β k => rfl
  simp only [Op.equalIn, pr_bind, pr_underlying ht, Option.bind_some]
  rw [show pureRun Q program = some Q from rfl]
  simp only [Option.bind_some, hp, Bool.false_eq_true, if_false, pr_bind]
  rw [← Array.forIn_toList]
  generalize (Q.fieldsOf t).toList = fs
  clear ht
  induction fs with
  | nil => simp [eqF, pureRun]; rfl
  | cons f fs ih =>
    simp only [List.forIn_cons, eqF, pr_bind]
    split
    · simp only [pr_bind]
      cases pureRun Q (part f.type xs f.offset) with
      | none => rfl
      | some a =>
        simp only [Option.bind_some]
        cases pureRun Q (part f.type ys f.offset) with
        | none => rfl
        | some b =>
          simp only [Option.bind_some]
          cases pureRun Q (Op.equalIn d f.type a b) with
          | none => rfl
          | some r =>
            cases r
            · rfl
            · simp only [Option.bind_some, Bool.not_true, Bool.false_eq_true, if_false]
              exact ih
    · exact ih
theorem pr_str {Q : Program} (d : Nat) (t : TypeId) (a : ByteArray) (h : Q.underlying t = some .string) : pureRun Q (Op.equalIn (d + 1) t (.string a) (.string a)) = some true := by
  simp only [Op.equalIn, pr_bind, pr_underlying h, Option.bind_some]
  show some (a == a) = some true
  rw [beq_toListBytes]; simp
theorem pr_int {Q : Program} (d : Nat) (t : TypeId) (k : IntKind) (a : Int) (h : Q.underlying t = some (.int k)) : pureRun Q (Op.equalIn (d + 1) t (.int k a) (.int k a)) = some true := by
  simp [Op.equalIn, pr_bind, pr_underlying h, pureRun]
  rfl
theorem u3 : Try.prog.underlying 3 = some (.int .i64) := by kernel_rfl
theorem eqf45 (d : Nat) (a b : ByteArray) (n : Int) : eqF Try.prog d #[.string a, .string b, .int .i64 n] #[.string a, .string b, .int .i64 n] (Try.prog.fieldsOf 45).toList =
    (pureRun Try.prog (Op.equalIn d 9 (.string a) (.string a))).bind fun r => if (!r) = true then some false else (pureRun Try.prog (Op.equalIn d 9 (.string b) (.string b))).bind fun r => if (!r) = true then some false else
      (pureRun Try.prog (Op.equalIn d 3 (.int .i64 n) (.int .i64 n))).bind fun r => if (!r) = true then some false else some true := by kernel_rfl
theorem eqf84 (d : Nat) (a : ByteArray) (n k l : Int) : eqF Try.prog d #[.string a, .int .i64 n, .int .i64 k, .int .i64 l] #[.string a, .int .i64 n, .int .i64 k, .int .i64 l] (Try.prog.fieldsOf 84).toList =
    (pureRun Try.prog (Op.equalIn d 9 (.string a) (.string a))).bind fun r => if (!r) = true then some false else (pureRun Try.prog (Op.equalIn d 3 (.int .i64 n) (.int .i64 n))).bind fun r => if (!r) = true then some false else
      (pureRun Try.prog (Op.equalIn d 3 (.int .i64 k) (.int .i64 k))).bind fun r => if (!r) = true then some false else (pureRun Try.prog (Op.equalIn d 3 (.int .i64 l) (.int .i64 l))).bind fun r => if (!r) = true then some false else some true := by kernel_rfl
theorem neq_agg {Q : Program} (t : TypeId) (x y : Operand) (xs : List Value) (cs : List PV) (hcs : cs.mapM PV.scalar? = some xs) (hm : Q.eqGuardType Q.depth t = false) (h : pureRun Q (Op.equalIn (9998 + 2) t (.agg xs.toArray) (.agg xs.toArray)) = some true) :
    binPV Q .neq t x y (.agg cs) (.agg cs) = some (Bo false) := by
  have e1 : (PV.agg cs).plain? = some (.agg xs.toArray) := by simp [PV.plain?, hcs]
  have e2 : pureRun Q (eqGuard .neq t x y (.agg xs.toArray) (.agg xs.toArray)) = some () := by
    have hpr : pureRun Q program = some Q := rfl
    simp only [eqGuard, Bool.not_true, Bool.false_eq_true, if_false, pr_bind, hpr, Option.bind_some, hm, Bool.not_false, if_true]
    rfl
  have e3 : pureRun Q (binOp .neq t (.agg xs.toArray) (.agg xs.toArray)) = some (.bool false) := by
    simp only [binOp, Op.equal, Op.maxDepth, pr_bind]
    rw [show (10000 : Nat) = 9998 + 2 from rfl, h]
    rfl
  simp only [binPV, e1, pr_bind, e2, Option.bind_some, e3, Option.map_some]
theorem neq45 (x y : Operand) (a : Acc) : binPV Try.prog .neq 45 x y a.pv a.pv = some (Bo false) := by
  refine neq_agg 45 x y [.string a.name, .string a.parent, .int .i64 a.limit] [Sr a.name, Sr a.parent, I a.limit] rfl (by kernel_rfl) ?_
  rw [show (9998 + 2 : Nat) = 9998 + 1 + 1 from rfl, pr_struct _ _ _ _ (by kernel_rfl) (by kernel_rfl)]
  refine (eqf45 _ _ _ _).trans ?_
  rw [pr_str _ _ _ u9, pr_str _ _ _ u9, pr_int _ _ _ _ u3]; rfl
theorem neq84 (x y : Operand) (a : Qs) : binPV Try.prog .neq 84 x y a.pv a.pv = some (Bo false) := by
  refine neq_agg 84 x y [.string a.name, .int .i64 a.prio, .int .i64 a.limit, .int .i64 a.jobs] [Sr a.name, I a.prio, I a.limit, I a.jobs] rfl (by kernel_rfl) ?_
  rw [show (9998 + 2 : Nat) = 9998 + 1 + 1 from rfl, pr_struct _ _ _ _ (by kernel_rfl) (by kernel_rfl)]
  refine (eqf84 _ _ _ _ _).trans ?_
  rw [pr_str _ _ _ u9, pr_int _ _ _ _ u3, pr_int _ _ _ _ u3, pr_int _ _ _ _ u3]; rfl

section
variable {L m : Nat}

theorem l21 {R : Type} (C : Kallee) (ke : List PV → Option R) (l : List Int) (hl : l.length ≤ 9223372036854775807) (hroom : l.length * 8 ≤ appendRoom) :
    ∀ (r : List Int) (N i : Nat), l.drop i = r → r.length < N → d21_1i C L ke N (.list 0 false (l.map fun a => I a)) (I i) ((l.take i).map fun a => I a) = ke (l.map fun a => I a) := by
  intro r
  induction r with
  | nil =>
    intro N i h hN
    obtain ⟨N, rfl⟩ : ∃ n, N = n + 1 := ⟨N - 1, by omega⟩
    have := drop_nil' h
    have h2 : ¬ (i : Int) < l.length := by omega
    simp [d21_1i, d21_2, h2, List.take_of_length_le (show l.length ≤ i by omega)]
  | cons a r ih =>
    intro N i h hN
    obtain ⟨N, rfl⟩ : ∃ n, N = n + 1 := ⟨N - 1, by omega⟩
    obtain ⟨h1, h2, h3, h4⟩ := drop_cons' h
    have h5 : (i : Int) < l.length := by omega
    simp only [List.length_cons] at hN
    have := ih N (i + 1) h3 (by omega)
    rw [List.take_add_one, h2] at this
    simp only [Option.toList_some, List.map_append, List.map_cons, List.map_nil] at this
    have hle : (i + 1) * 8 ≤ l.length * 8 := Nat.mul_le_mul_right _ (by omega)
    have happ := app22 ((l.take i).map fun a => I a) [I a] true (by
      have : ((l.take i).map fun a => I a).length = i := by simp; omega
      rw [this]; simp only [List.length_cons, List.length_nil]; omega)
    simp only [d21_1i, d21_2, ln22, List.length_map, lss_int, ob_some, cb_bool, decide_eq_true_eq, h5, if_true, ia22, List.getElem?_map, h2, Option.map_some, ld3, bs22, happ, oxs_some, add_int, wrap_succ (show i < 9223372036854775807 by omega), this]
theorem c21 (hm : 1 ≤ m) (l : List Int) (hl : l.length ≤ 9223372036854775807) (hL : l.length < L) (hroom : l.length * 8 ≤ appendRoom) : callP Try.prog hh L m 21 [.list 0 false (l.map fun a => I a)] = some (.list 0 false (l.map fun a => I a)) := by
  obtain ⟨n, rfl⟩ : ∃ n, m = n + 1 := ⟨m - 1, by omega⟩
  refine callP_of rfl ?_
  rw [r21]
  have := l21 (L := L) (kk L n) (fun x => d21_3 (kk L n) L x) l hl hroom  l L 0 rfl hL
  simp only [d21_0, g21_0, d21_1]
  rw [show (PV.sc (Value.int IntKind.i64 0)) = I ((0 : Nat) : Int) from rfl]
  simp only [List.take_zero, List.map_nil] at this
  rw [this]
  rfl

theorem l82 {R : Type} (C : Kallee) (ke : List PV → Option R) (l : List ByteArray) (hl : l.length ≤ 9223372036854775807) (hroom : l.length * 16 ≤ appendRoom) :
    ∀ (r : List ByteArray) (N i : Nat), l.drop i = r → r.length < N → d82_1i C L ke N (.list 0 false (l.map fun a => Sr a)) (I i) ((l.take i).map fun a => Sr a) = ke (l.map fun a => Sr a) := by
  intro r
  induction r with
  | nil =>
    intro N i h hN
    obtain ⟨N, rfl⟩ : ∃ n, N = n + 1 := ⟨N - 1, by omega⟩
    have := drop_nil' h
    have h2 : ¬ (i : Int) < l.length := by omega
    simp [d82_1i, d82_2, h2, List.take_of_length_le (show l.length ≤ i by omega)]
  | cons a r ih =>
    intro N i h hN
    obtain ⟨N, rfl⟩ : ∃ n, N = n + 1 := ⟨N - 1, by omega⟩
    obtain ⟨h1, h2, h3, h4⟩ := drop_cons' h
    have h5 : (i : Int) < l.length := by omega
    simp only [List.length_cons] at hN
    have := ih N (i + 1) h3 (by omega)
    rw [List.take_add_one, h2] at this
    simp only [Option.toList_some, List.map_append, List.map_cons, List.map_nil] at this
    have hle : (i + 1) * 16 ≤ l.length * 16 := Nat.mul_le_mul_right _ (by omega)
    have happ := app32 ((l.take i).map fun a => Sr a) [Sr a] true (by
      have : ((l.take i).map fun a => Sr a).length = i := by simp; omega
      rw [this]; simp only [List.length_cons, List.length_nil]; omega)
    simp only [d82_1i, d82_2, ln32, List.length_map, lss_int, ob_some, cb_bool, decide_eq_true_eq, h5, if_true, ia32, List.getElem?_map, h2, Option.map_some, ld9, bs32, happ, oxs_some, add_int, wrap_succ (show i < 9223372036854775807 by omega), this]
theorem c82 (hm : 1 ≤ m) (l : List ByteArray) (hl : l.length ≤ 9223372036854775807) (hL : l.length < L) (hroom : l.length * 16 ≤ appendRoom) : callP Try.prog hh L m 82 [.list 0 false (l.map fun a => Sr a)] = some (.list 0 false (l.map fun a => Sr a)) := by
  obtain ⟨n, rfl⟩ : ∃ n, m = n + 1 := ⟨m - 1, by omega⟩
  refine callP_of rfl ?_
  rw [r82]
  have := l82 (L := L) (kk L n) (fun x => d82_3 (kk L n) L x) l hl hroom  l L 0 rfl hL
  simp only [d82_0, g82_0, d82_1]
  rw [show (PV.sc (Value.int IntKind.i64 0)) = I ((0 : Nat) : Int) from rfl]
  simp only [List.take_zero, List.map_nil] at this
  rw [this]
  rfl

theorem l23 {R : Type} (C : Kallee) (ke : List PV → Option R) (l : List Acc) (hl : l.length ≤ 9223372036854775807) (hroom : l.length * 40 ≤ appendRoom) :
    ∀ (r : List Acc) (N i : Nat), l.drop i = r → r.length < N → d23_1i C L ke N (.list 4 false (l.map fun a => Acc.pv a)) (I i) ((l.take i).map fun a => Acc.pv a) = ke (l.map fun a => Acc.pv a) := by
  intro r
  induction r with
  | nil =>
    intro N i h hN
    obtain ⟨N, rfl⟩ : ∃ n, N = n + 1 := ⟨N - 1, by omega⟩
    have := drop_nil' h
    have h2 : ¬ (i : Int) < l.length := by omega
    simp [d23_1i, d23_2, h2, List.take_of_length_le (show l.length ≤ i by omega)]
  | cons a r ih =>
    intro N i h hN
    obtain ⟨N, rfl⟩ : ∃ n, N = n + 1 := ⟨N - 1, by omega⟩
    obtain ⟨h1, h2, h3, h4⟩ := drop_cons' h
    have h5 : (i : Int) < l.length := by omega
    simp only [List.length_cons] at hN
    have := ih N (i + 1) h3 (by omega)
    rw [List.take_add_one, h2] at this
    simp only [Option.toList_some, List.map_append, List.map_cons, List.map_nil] at this
    have hle : (i + 1) * 40 ≤ l.length * 40 := Nat.mul_le_mul_right _ (by omega)
    have happ := app24 ((l.take i).map fun a => Acc.pv a) [Acc.pv a] true (by
      have : ((l.take i).map fun a => Acc.pv a).length = i := by simp; omega
      rw [this]; simp only [List.length_cons, List.length_nil]; omega)
    simp only [d23_1i, d23_2, ln24, List.length_map, lss_int, ob_some, cb_bool, decide_eq_true_eq, h5, if_true, ia24, List.getElem?_map, h2, Option.map_some, ld45, bs24, happ, oxs_some, add_int, wrap_succ (show i < 9223372036854775807 by omega), this]
theorem c23 (hm : 1 ≤ m) (l : List Acc) (hl : l.length ≤ 9223372036854775807) (hL : l.length < L) (hroom : l.length * 40 ≤ appendRoom) : callP Try.prog hh L m 23 [.list 4 false (l.map fun a => Acc.pv a)] = some (.list 4 false (l.map fun a => Acc.pv a)) := by
  obtain ⟨n, rfl⟩ : ∃ n, m = n + 1 := ⟨m - 1, by omega⟩
  refine callP_of rfl ?_
  rw [r23]
  have := l23 (L := L) (kk L n) (fun x => d23_3 (kk L n) L x) l hl hroom  l L 0 rfl hL
  simp only [d23_0, g23_0, d23_1]
  rw [show (PV.sc (Value.int IntKind.i64 0)) = I ((0 : Nat) : Int) from rfl]
  simp only [List.take_zero, List.map_nil] at this
  rw [this]
  rfl

theorem l24 {R : Type} (C : Kallee) (ke : List PV → Option R) (l : List Qs) (hl : l.length ≤ 9223372036854775807) (hroom : l.length * 40 ≤ appendRoom) :
    ∀ (r : List Qs) (N i : Nat), l.drop i = r → r.length < N → d24_1i C L ke N (.list 5 false (l.map fun a => Qs.pv a)) (I i) ((l.take i).map fun a => Qs.pv a) = ke (l.map fun a => Qs.pv a) := by
  intro r
  induction r with
  | nil =>
    intro N i h hN
    obtain ⟨N, rfl⟩ : ∃ n, N = n + 1 := ⟨N - 1, by omega⟩
    have := drop_nil' h
    have h2 : ¬ (i : Int) < l.length := by omega
    simp [d24_1i, d24_2, h2, List.take_of_length_le (show l.length ≤ i by omega)]
  | cons a r ih =>
    intro N i h hN
    obtain ⟨N, rfl⟩ : ∃ n, N = n + 1 := ⟨N - 1, by omega⟩
    obtain ⟨h1, h2, h3, h4⟩ := drop_cons' h
    have h5 : (i : Int) < l.length := by omega
    simp only [List.length_cons] at hN
    have := ih N (i + 1) h3 (by omega)
    rw [List.take_add_one, h2] at this
    simp only [Option.toList_some, List.map_append, List.map_cons, List.map_nil] at this
    have hle : (i + 1) * 40 ≤ l.length * 40 := Nat.mul_le_mul_right _ (by omega)
    have happ := app25 ((l.take i).map fun a => Qs.pv a) [Qs.pv a] true (by
      have : ((l.take i).map fun a => Qs.pv a).length = i := by simp; omega
      rw [this]; simp only [List.length_cons, List.length_nil]; omega)
    simp only [d24_1i, d24_2, ln25, List.length_map, lss_int, ob_some, cb_bool, decide_eq_true_eq, h5, if_true, ia25, List.getElem?_map, h2, Option.map_some, ld84, bs25, happ, oxs_some, add_int, wrap_succ (show i < 9223372036854775807 by omega), this]
theorem c24 (hm : 1 ≤ m) (l : List Qs) (hl : l.length ≤ 9223372036854775807) (hL : l.length < L) (hroom : l.length * 40 ≤ appendRoom) : callP Try.prog hh L m 24 [.list 5 false (l.map fun a => Qs.pv a)] = some (.list 5 false (l.map fun a => Qs.pv a)) := by
  obtain ⟨n, rfl⟩ : ∃ n, m = n + 1 := ⟨m - 1, by omega⟩
  refine callP_of rfl ?_
  rw [r24]
  have := l24 (L := L) (kk L n) (fun x => d24_3 (kk L n) L x) l hl hroom  l L 0 rfl hL
  simp only [d24_0, g24_0, d24_1]
  rw [show (PV.sc (Value.int IntKind.i64 0)) = I ((0 : Nat) : Int) from rfl]
  simp only [List.take_zero, List.map_nil] at this
  rw [this]
  rfl

structure OkP (L : Nat) (a : Pt) : Prop where
  len : a.accs.length ≤ 9223372036854775807
  lenL : a.accs.length < L
  room : a.accs.length * 16 ≤ appendRoom
  name : a.name.size + 1 < L
  nameB : a.name.size ≤ 9223372036854775807
  nodes : a.nodes < 2 ^ 32
theorem putp (a : Pt) : putPV 6 4 0 (.pv a.pv) (strs false a.accs) = some a.pv := rfl
theorem c60 (hm : 2 ≤ m) (a : Pt) (ha : OkP L a) : callP Try.prog hh L m 60 [a.pv] = some a.pv := by
  obtain ⟨n, rfl⟩ : ∃ n, m = n + 1 := ⟨m - 1, by omega⟩
  refine callP_of rfl ?_
  rw [r60]
  simp only [d60_0, ptl, ck_true, pt4, ob_some, callD_clo, List.nil_append, List.append_nil, c82 (L := L) (show 1 ≤ n by omega) a.accs ha.len ha.lenL ha.room, putp, put6]

theorem l22 {R : Type} (C : Kallee) (ke : List PV → Option R) (l : List Pt) (hl : l.length ≤ 9223372036854775807) (hroom : l.length * 64 ≤ appendRoom) (hcl : ∀ a ∈ l, C.pure 60 [a.pv] = some a.pv) :
    ∀ (r : List Pt) (N i : Nat), l.drop i = r → r.length < N → d22_1i C L ke N (.list 6 false (l.map fun a => Pt.pv a)) (I i) ((l.take i).map fun a => Pt.pv a) = ke (l.map fun a => Pt.pv a) := by
  intro r
  induction r with
  | nil =>
    intro N i h hN
    obtain ⟨N, rfl⟩ : ∃ n, N = n + 1 := ⟨N - 1, by omega⟩
    have := drop_nil' h
    have h2 : ¬ (i : Int) < l.length := by omega
    simp [d22_1i, d22_2, h2, List.take_of_length_le (show l.length ≤ i by omega)]
  | cons a r ih =>
    intro N i h hN
    obtain ⟨N, rfl⟩ : ∃ n, N = n + 1 := ⟨N - 1, by omega⟩
    obtain ⟨h1, h2, h3, h4⟩ := drop_cons' h
    have h5 : (i : Int) < l.length := by omega
    simp only [List.length_cons] at hN
    have := ih N (i + 1) h3 (by omega)
    rw [List.take_add_one, h2] at this
    simp only [Option.toList_some, List.map_append, List.map_cons, List.map_nil] at this
    have hle : (i + 1) * 64 ≤ l.length * 64 := Nat.mul_le_mul_right _ (by omega)
    have happ := app23 ((l.take i).map fun a => Pt.pv a) [Pt.pv a] true (by
      have : ((l.take i).map fun a => Pt.pv a).length = i := by simp; omega
      rw [this]; simp only [List.length_cons, List.length_nil]; omega)
    simp only [d22_1i, d22_2, ln23, List.length_map, lss_int, ob_some, cb_bool, decide_eq_true_eq, h5, if_true, ia23, List.getElem?_map, h2, Option.map_some, ld58, callD_clo, List.nil_append, List.append_nil, hcl a h4, bs23, happ, oxs_some, add_int, wrap_succ (show i < 9223372036854775807 by omega), this]
theorem c22 (hm : 3 ≤ m) (l : List Pt) (hl : l.length ≤ 9223372036854775807) (hL : l.length < L) (hroom : l.length * 64 ≤ appendRoom) (hp : ∀ a ∈ l, OkP L a) : callP Try.prog hh L m 22 [.list 6 false (l.map fun a => Pt.pv a)] = some (.list 6 false (l.map fun a => Pt.pv a)) := by
  obtain ⟨n, rfl⟩ : ∃ n, m = n + 1 := ⟨m - 1, by omega⟩
  refine callP_of rfl ?_
  rw [r22]
  have := l22 (L := L) (kk L n) (fun x => d22_3 (kk L n) L x) l hl hroom (fun a ha => c60 (L := L) (show 2 ≤ n by omega) a (hp a ha)) l L 0 rfl hL
  simp only [d22_0, g22_0, d22_1]
  rw [show (PV.sc (Value.int IntKind.i64 0)) = I ((0 : Nat) : Int) from rfl]
  simp only [List.take_zero, List.map_nil] at this
  rw [this]
  rfl

theorem l54 {R : Type} (C : Kallee) (kr : PV → Option R) (ke : Option R) (l : List Int) (hl : l.length ≤ 9223372036854775807) :
    ∀ (r : List Int) (N i : Nat), l.drop i = r → r.length < N → d54_1i C L kr ke N (.list 0 false (l.map fun a => I a)) (.list 0 false (l.map fun a => I a)) (I i) = ke := by
  intro r
  induction r with
  | nil =>
    intro N i h hN
    obtain ⟨N, rfl⟩ : ∃ n, N = n + 1 := ⟨N - 1, by omega⟩
    have := drop_nil' h
    have h2 : ¬ (i : Int) < l.length := by omega
    simp [d54_1i, d54_2, h2]
  | cons a r ih =>
    intro N i h hN
    obtain ⟨N, rfl⟩ : ∃ n, N = n + 1 := ⟨N - 1, by omega⟩
    obtain ⟨h1, h2, h3, h4⟩ := drop_cons' h
    have h5 : (i : Int) < l.length := by omega
    simp only [List.length_cons] at hN
    have := ih N (i + 1) h3 (by omega)
    simp only [d54_1i, d54_2, ln22, List.length_map, lss_int, ob_some, cb_bool, decide_eq_true_eq, h5, if_true, ia22, List.getElem?_map, h2, Option.map_some, ld3, neq_int, add_int, wrap_succ (show i < 9223372036854775807 by omega), this]
    simp
theorem c54 (hm : 1 ≤ m) (l : List Int) (hl : l.length ≤ 9223372036854775807) (hL : l.length < L) : callP Try.prog hh L m 54 [.list 0 false (l.map fun a => I a), .list 0 false (l.map fun a => I a)] = some (Bo true) := by
  obtain ⟨n, rfl⟩ : ∃ n, m = n + 1 := ⟨m - 1, by omega⟩
  refine callP_of rfl ?_
  rw [r54]
  have := l54 (L := L) (kk L n) (fun v => some v) (d54_3 (kk L n) L) l hl  l L 0 rfl hL
  simp only [d54_0, g54_0, d54_1, ln22, ob_some, neq_int, cb_bool]
  rw [show (PV.sc (Value.int IntKind.i64 0)) = I ((0 : Nat) : Int) from rfl]
  simp only [ne_eq, not_true_eq_false, decide_false, Bool.false_eq_true, if_false]
  rw [this]
  rfl

theorem l92 {R : Type} (C : Kallee) (kr : PV → Option R) (ke : Option R) (l : List ByteArray) (hl : l.length ≤ 9223372036854775807) :
    ∀ (r : List ByteArray) (N i : Nat), l.drop i = r → r.length < N → d92_1i C L kr ke N (.list 0 false (l.map fun a => Sr a)) (.list 0 false (l.map fun a => Sr a)) (I i) = ke := by
  intro r
  induction r with
  | nil =>
    intro N i h hN
    obtain ⟨N, rfl⟩ : ∃ n, N = n + 1 := ⟨N - 1, by omega⟩
    have := drop_nil' h
    have h2 : ¬ (i : Int) < l.length := by omega
    simp [d92_1i, d92_2, h2]
  | cons a r ih =>
    intro N i h hN
    obtain ⟨N, rfl⟩ : ∃ n, N = n + 1 := ⟨N - 1, by omega⟩
    obtain ⟨h1, h2, h3, h4⟩ := drop_cons' h
    have h5 : (i : Int) < l.length := by omega
    simp only [List.length_cons] at hN
    have := ih N (i + 1) h3 (by omega)
    simp only [d92_1i, d92_2, ln32, List.length_map, lss_int, ob_some, cb_bool, decide_eq_true_eq, h5, if_true, ia32, List.getElem?_map, h2, Option.map_some, ld9, neq_str, add_int, wrap_succ (show i < 9223372036854775807 by omega), this]
    simp
theorem c92 (hm : 1 ≤ m) (l : List ByteArray) (hl : l.length ≤ 9223372036854775807) (hL : l.length < L) : callP Try.prog hh L m 92 [.list 0 false (l.map fun a => Sr a), .list 0 false (l.map fun a => Sr a)] = some (Bo true) := by
  obtain ⟨n, rfl⟩ : ∃ n, m = n + 1 := ⟨m - 1, by omega⟩
  refine callP_of rfl ?_
  rw [r92]
  have := l92 (L := L) (kk L n) (fun v => some v) (d92_3 (kk L n) L) l hl  l L 0 rfl hL
  simp only [d92_0, g92_0, d92_1, ln32, ob_some, neq_int, cb_bool]
  rw [show (PV.sc (Value.int IntKind.i64 0)) = I ((0 : Nat) : Int) from rfl]
  simp only [ne_eq, not_true_eq_false, decide_false, Bool.false_eq_true, if_false]
  rw [this]
  rfl

theorem c81 (hm : 2 ≤ m) (a : Pt) (ha : OkP L a) : callP Try.prog hh L m 81 [a.pv, a.pv] = some (Bo true) := by
  obtain ⟨n, rfl⟩ : ∃ n, m = n + 1 := ⟨m - 1, by omega⟩
  refine callP_of rfl ?_
  rw [r81]
  simp only [d81_0, ptl, ck_true, pt0, pt1, pt2, pt3, pt4, ob_some, eql_str, eql_int, decide_true, gcase_t, if_true, callD_clo, List.nil_append, List.append_nil, c92 (L := L) (show 1 ≤ n by omega) a.accs ha.len ha.lenL]

theorem l55 {R : Type} (C : Kallee) (kr : PV → Option R) (ke : Option R) (l : List Pt) (hl : l.length ≤ 9223372036854775807) (hcl : ∀ a ∈ l, C.pure 81 [a.pv, a.pv] = some (Bo true)) :
    ∀ (r : List Pt) (N i : Nat), l.drop i = r → r.length < N → d55_1i C L kr ke N (.list 6 false (l.map fun a => Pt.pv a)) (.list 6 false (l.map fun a => Pt.pv a)) (I i) = ke := by
  intro r
  induction r with
  | nil =>
    intro N i h hN
    obtain ⟨N, rfl⟩ : ∃ n, N = n + 1 := ⟨N - 1, by omega⟩
    have := drop_nil' h
    have h2 : ¬ (i : Int) < l.length := by omega
    simp [d55_1i, d55_2, h2]
  | cons a r ih =>
    intro N i h hN
    obtain ⟨N, rfl⟩ : ∃ n, N = n + 1 := ⟨N - 1, by omega⟩
    obtain ⟨h1, h2, h3, h4⟩ := drop_cons' h
    have h5 : (i : Int) < l.length := by omega
    simp only [List.length_cons] at hN
    have := ih N (i + 1) h3 (by omega)
    simp only [d55_1i, d55_2, ln23, List.length_map, lss_int, ob_some, cb_bool, decide_eq_true_eq, h5, if_true, ia23, List.getElem?_map, h2, Option.map_some, ld58, callD_clo, List.nil_append, List.append_nil, hcl a h4, not_bool, add_int, wrap_succ (show i < 9223372036854775807 by omega), this]
    simp
theorem c55 (hm : 3 ≤ m) (l : List Pt) (hl : l.length ≤ 9223372036854775807) (hL : l.length < L) (hp : ∀ a ∈ l, OkP L a) : callP Try.prog hh L m 55 [.list 6 false (l.map fun a => Pt.pv a), .list 6 false (l.map fun a => Pt.pv a)] = some (Bo true) := by
  obtain ⟨n, rfl⟩ : ∃ n, m = n + 1 := ⟨m - 1, by omega⟩
  refine callP_of rfl ?_
  rw [r55]
  have := l55 (L := L) (kk L n) (fun v => some v) (d55_3 (kk L n) L) l hl (fun a ha => c81 (L := L) (show 2 ≤ n by omega) a (hp a ha)) l L 0 rfl hL
  simp only [d55_0, g55_0, d55_1, ln23, ob_some, neq_int, cb_bool]
  rw [show (PV.sc (Value.int IntKind.i64 0)) = I ((0 : Nat) : Int) from rfl]
  simp only [ne_eq, not_true_eq_false, decide_false, Bool.false_eq_true, if_false]
  rw [this]
  rfl

theorem l56 {R : Type} (C : Kallee) (kr : PV → Option R) (ke : Option R) (l : List Acc) (hl : l.length ≤ 9223372036854775807) :
    ∀ (r : List Acc) (N i : Nat), l.drop i = r → r.length < N → d56_1i C L kr ke N (.list 4 false (l.map fun a => Acc.pv a)) (.list 4 false (l.map fun a => Acc.pv a)) (I i) = ke := by
  intro r
  induction r with
  | nil =>
    intro N i h hN
    obtain ⟨N, rfl⟩ : ∃ n, N = n + 1 := ⟨N - 1, by omega⟩
    have := drop_nil' h
    have h2 : ¬ (i : Int) < l.length := by omega
    simp [d56_1i, d56_2, h2]
  | cons a r ih =>
    intro N i h hN
    obtain ⟨N, rfl⟩ : ∃ n, N = n + 1 := ⟨N - 1, by omega⟩
    obtain ⟨h1, h2, h3, h4⟩ := drop_cons' h
    have h5 : (i : Int) < l.length := by omega
    simp only [List.length_cons] at hN
    have := ih N (i + 1) h3 (by omega)
    simp only [d56_1i, d56_2, ln24, List.length_map, lss_int, ob_some, cb_bool, decide_eq_true_eq, h5, if_true, ia24, List.getElem?_map, h2, Option.map_some, ld45, neq45, add_int, wrap_succ (show i < 9223372036854775807 by omega), this]
    simp
theorem c56 (hm : 1 ≤ m) (l : List Acc) (hl : l.length ≤ 9223372036854775807) (hL : l.length < L) : callP Try.prog hh L m 56 [.list 4 false (l.map fun a => Acc.pv a), .list 4 false (l.map fun a => Acc.pv a)] = some (Bo true) := by
  obtain ⟨n, rfl⟩ : ∃ n, m = n + 1 := ⟨m - 1, by omega⟩
  refine callP_of rfl ?_
  rw [r56]
  have := l56 (L := L) (kk L n) (fun v => some v) (d56_3 (kk L n) L) l hl  l L 0 rfl hL
  simp only [d56_0, g56_0, d56_1, ln24, ob_some, neq_int, cb_bool]
  rw [show (PV.sc (Value.int IntKind.i64 0)) = I ((0 : Nat) : Int) from rfl]
  simp only [ne_eq, not_true_eq_false, decide_false, Bool.false_eq_true, if_false]
  rw [this]
  rfl

theorem l57 {R : Type} (C : Kallee) (kr : PV → Option R) (ke : Option R) (l : List Qs) (hl : l.length ≤ 9223372036854775807) :
    ∀ (r : List Qs) (N i : Nat), l.drop i = r → r.length < N → d57_1i C L kr ke N (.list 5 false (l.map fun a => Qs.pv a)) (.list 5 false (l.map fun a => Qs.pv a)) (I i) = ke := by
  intro r
  induction r with
  | nil =>
    intro N i h hN
    obtain ⟨N, rfl⟩ : ∃ n, N = n + 1 := ⟨N - 1, by omega⟩
    have := drop_nil' h
    have h2 : ¬ (i : Int) < l.length := by omega
    simp [d57_1i, d57_2, h2]
  | cons a r ih =>
    intro N i h hN
    obtain ⟨N, rfl⟩ : ∃ n, N = n + 1 := ⟨N - 1, by omega⟩
    obtain ⟨h1, h2, h3, h4⟩ := drop_cons' h
    have h5 : (i : Int) < l.length := by omega
    simp only [List.length_cons] at hN
    have := ih N (i + 1) h3 (by omega)
    simp only [d57_1i, d57_2, ln25, List.length_map, lss_int, ob_some, cb_bool, decide_eq_true_eq, h5, if_true, ia25, List.getElem?_map, h2, Option.map_some, ld84, neq84, add_int, wrap_succ (show i < 9223372036854775807 by omega), this]
    simp
theorem c57 (hm : 1 ≤ m) (l : List Qs) (hl : l.length ≤ 9223372036854775807) (hL : l.length < L) : callP Try.prog hh L m 57 [.list 5 false (l.map fun a => Qs.pv a), .list 5 false (l.map fun a => Qs.pv a)] = some (Bo true) := by
  obtain ⟨n, rfl⟩ : ∃ n, m = n + 1 := ⟨m - 1, by omega⟩
  refine callP_of rfl ?_
  rw [r57]
  have := l57 (L := L) (kk L n) (fun v => some v) (d57_3 (kk L n) L) l hl  l L 0 rfl hL
  simp only [d57_0, g57_0, d57_1, ln25, ob_some, neq_int, cb_bool]
  rw [show (PV.sc (Value.int IntKind.i64 0)) = I ((0 : Nat) : Int) from rfl]
  simp only [ne_eq, not_true_eq_false, decide_false, Bool.false_eq_true, if_false]
  rw [this]
  rfl

structure OkC (L : Nat) (c : Cfg) : Prop where
  cores : c.cores.length ≤ 60
  parts : c.parts.length ≤ 60
  qosl : c.qos.length ≤ 60
  acc : OkA L c.accounts
  accl : c.accounts.length ≤ 60
  part : ∀ a ∈ c.parts, OkP L a
  qos : ∀ a ∈ c.qos, a.name.size + 1 < L
  qosB : ∀ a ∈ c.qos, a.name.size ≤ 9223372036854775807
theorem bld28 (c : Cfg) : buildPV Try.prog 28 [(0, intz false c.cores), (1, pts c.parts), (2, accs c.accounts), (3, qss c.qos), (4, W8 c.policy)] = some c.pv := by kernel_rfl
theorem put28 (c : Cfg) (v : AV) : putPV 6 0 6 v c.pv = some c.pv := by simp [putPV]
/-- CopyConfig -/
theorem c7 (hm : 4 ≤ m) (hL : 100 < L) (c : Cfg) (hc : OkC L c) : callP Try.prog hh L m 7 [c.pv] = some c.pv := by
  obtain ⟨n, rfl⟩ : ∃ n, m = n + 1 := ⟨m - 1, by omega⟩
  refine callP_of rfl ?_
  rw [r7]
  have h1 := hc.cores; have h2 := hc.parts; have h3 := hc.qosl; have h4 := hc.accl
  have e1 := c21 (L := L) (show 1 ≤ n by omega) c.cores (by omega) (by omega) (by simp [appendRoom]; omega)
  have e2 := c22 (L := L) (show 3 ≤ n by omega) c.parts (by omega) (by omega) (by simp [appendRoom]; omega) hc.part
  have e3 := c23 (L := L) (show 1 ≤ n by omega) c.accounts (by omega) (by omega) (by simp [appendRoom]; omega)
  have e4 := c24 (L := L) (show 1 ≤ n by omega) c.qos (by omega) (by omega) (by simp [appendRoom]; omega)
  simp only [d7_0, cfl, ck_true, cf0, cf1, cf2, cf3, cf4, ob_some, callD_clo, List.nil_append, List.append_nil]
  rw [e1, ob_some, e2, ob_some, e3, ob_some, e4, ob_some]
  rw [bld28, ob_some, put28, ob_some]
/-- SameConfig -/
theorem c16 (hm : 4 ≤ m) (hL : 100 < L) (c : Cfg) (hc : OkC L c) : callP Try.prog hh L m 16 [c.pv, c.pv] = some (Bo true) := by
  obtain ⟨n, rfl⟩ : ∃ n, m = n + 1 := ⟨m - 1, by omega⟩
  refine callP_of rfl ?_
  rw [r16]
  have h1 := hc.cores; have h2 := hc.parts; have h3 := hc.qosl; have h4 := hc.accl
  have e1 := c54 (L := L) (show 1 ≤ n by omega) c.cores (by omega) (by omega)
  have e2 := c55 (L := L) (show 3 ≤ n by omega) c.parts (by omega) (by omega) hc.part
  have e3 := c56 (L := L) (show 1 ≤ n by omega) c.accounts (by omega) (by omega)
  have e4 := c57 (L := L) (show 1 ≤ n by omega) c.qos (by omega) (by omega)
  simp only [d16_0, cfl, ck_true, cf0, cf1, cf2, cf3, cf4, ob_some, eql_int, decide_true, gcase_t, if_true, callD_clo, List.nil_append, List.append_nil]
  rw [e1, ob_some, gcase_t, if_pos rfl, e2, ob_some, gcase_t, if_pos rfl, e3, ob_some, gcase_t, if_pos rfl, e4, ob_some]
end
end Go.Lite

namespace Go.Lite
open Go Go.Proofs
set_option linter.unusedVariables false
set_option linter.unusedSimpArgs false

def lfrom (acc : List Acc) (l : List ByteArray) : Nat → List ByteArray → Bool
  | _, [] => true
  | i, s :: r => (afind acc s).isSome && !((l.take i).any fun a => decide (s = a)) && lfrom acc l (i + 1) r
def lst (acc : List Acc) (l : List ByteArray) : Bool := lfrom acc l 0 l && decide (l.length ≤ 8)
def qbad (l : List Qs) (i : Nat) (q : Qs) : Bool := !nm q.name || decide (0 ≤ qix (l.take i) q.name) || decide (q.prio < 0) || decide (1000 < q.prio) || offL q.limit || offL q.jobs
def qfrom (l : List Qs) : Nat → List Qs → Bool
  | _, [] => true
  | i, q :: r => !qbad l i q && qfrom l (i + 1) r
def qright (c : Cfg) : Bool := qfrom c.qos 0 c.qos && decide (1 ≤ c.qos.length) && decide (c.qos.length ≤ 8) && aright c.accounts
def pwrong (c : Cfg) (all : Nat) (i : Nat) (p : Pt) : Bool := (pfind (c.parts.take i) p.name).isSome || !nm p.name || decide (p.nodes = 0) || !within p.nodes all || !lst c.accounts p.accs
def pbad (c : Cfg) (all : Nat) (i : Nat) (p : Pt) : Bool := pwrong c all i p || decide (p.prio < 0) || decide (1000 < p.prio) || decide (p.max < 1) || decide (1048576 < p.max)
def pfrom (c : Cfg) (all : Nat) : Nat → List Pt → Bool
  | _, [] => true
  | i, p :: r => !pbad c all i p && pfrom c all (i + 1) r
def nodesOf (c : Cfg) : List Nd := c.cores.map mkN
def allOf (c : Cfg) : Nat := bits (qup (nodesOf c)) (nodesOf c).length
def cright (c : Cfg) : Bool := nright (nodesOf c) && qright c && decide (1 ≤ c.policy) && decide (c.policy ≤ 3) && decide (1 ≤ c.parts.length) && decide (c.parts.length ≤ 8) && pfrom c (allOf c) 0 c.parts

section
variable {L m : Nat}
theorem l32 {R : Type} (n : Nat) (hn : 4 ≤ n) (kr : PV → Option R) (ke : PV → Option R) (acc : List Acc) (ha : OkA L acc) (l : List ByteArray) (hl : l.length ≤ 9223372036854775807) (hlL : l.length < L) :
    ∀ (r : List ByteArray) (N i : Nat), l.drop i = r → r.length < N → d32_1i (kk L n) L kr ke N (accs acc) (strs false l) (strs false l) (I l.length) (I i) = if lfrom acc l i r then ke (strs false l) else kr (Bo false) := by
  intro r
  induction r with
  | nil =>
    intro N i h hN
    obtain ⟨N, rfl⟩ : ∃ n, N = n + 1 := ⟨N - 1, by omega⟩
    have := drop_nil' h
    have h2 : ¬ (i : Int) < l.length := by omega
    simp [d32_1i, d32_2, h2, lfrom]
  | cons s r ih =>
    intro N i h hN
    obtain ⟨N, rfl⟩ : ∃ n, N = n + 1 := ⟨N - 1, by omega⟩
    obtain ⟨h1, h2, h3, h4⟩ := drop_cons' h
    have h5 : (i : Int) < l.length := by omega
    simp only [List.length_cons] at hN
    have := ih N (i + 1) h3 (by omega)
    have ht : (l.take i).length ≤ 9223372036854775807 := by simp; omega
    have htL : (l.take i).length < L := by simp; omega
    simp only [d32_1i, d32_2, lss_int, ob_some, cb_bool, decide_eq_true_eq, h5, if_true, ia32, List.getElem?_map, h2, Option.map_some, ld9, callD_clo, List.nil_append, List.append_nil, c40 (show 4 ≤ n by omega) acc s ha.len ha.lenL, extract_tup, List.getElem?_cons_zero, List.getElem?_cons_succ,
      not_bool, gcase_f, slice32 l i (by omega), c51 (L := L) (show 2 ≤ n by omega) s false (l.take i) ht htL, add_int, wrap_succ (show i < 9223372036854775807 by omega), this, lfrom]
    by_cases q1 : (afind acc s).isSome = true <;> by_cases q2 : ((l.take i).any fun a => decide (s = a)) = true <;> simp only [q1, q2, Bool.not_true, Bool.not_false, Bool.and_true, Bool.and_false, Bool.true_and, Bool.false_and, if_true, if_false, Bool.false_eq_true]
theorem c32 (hm : 5 ≤ m) (acc : List Acc) (ha : OkA L acc) (l : List ByteArray) (hl : l.length ≤ 9223372036854775807) (hlL : l.length < L) : callP Try.prog hh L m 32 [accs acc, strs false l] = some (Bo (lst acc l)) := by
  obtain ⟨n, rfl⟩ : ∃ n, m = n + 1 := ⟨m - 1, by omega⟩
  refine callP_of rfl ?_
  rw [r32]
  have := l32 (L := L) n (by omega) (fun v => some v) (fun v => d32_3 (kk L n) L v) acc ha l hl hlL l L 0 rfl hlL
  simp only [d32_0, g32_0, ln32, ob_some, d32_1, List.length_map]
  rw [show (PV.sc (Value.int IntKind.i64 0)) = I ((0 : Nat) : Int) from rfl, this]
  have e2 : (l.length : Int) ≤ 8 ↔ l.length ≤ 8 := by omega
  simp only [d32_3, ln32, ob_some, leq_int, List.length_map, lst, e2]
  by_cases q : lfrom acc l 0 l = true <;> simp [q]
theorem l39 {R : Type} (n : Nat) (hn : 1 ≤ n) (kr : PV → Option R) (ke : PV → Option R) (acc : List Acc) (ha : OkA L acc) (l : List ByteArray) (hl : l.length ≤ 9223372036854775807) (hlL : l.length < L) :
    ∀ (r : List ByteArray) (N i : Nat), l.drop i = r → r.length < N → d39_1i (kk L n) L kr ke N (accs acc) (strs false l) (I i) = if lfrom acc l i r then ke (strs false l) else kr (Bo false) := by
  intro r
  induction r with
  | nil =>
    intro N i h hN
    obtain ⟨N, rfl⟩ : ∃ n, N = n + 1 := ⟨N - 1, by omega⟩
    have := drop_nil' h
    have h2 : ¬ (i : Int) < l.length := by omega
    simp [d39_1i, d39_2, h2, lfrom]
  | cons s r ih =>
    intro N i h hN
    obtain ⟨N, rfl⟩ : ∃ n, N = n + 1 := ⟨N - 1, by omega⟩
    obtain ⟨h1, h2, h3, h4⟩ := drop_cons' h
    have h5 : (i : Int) < l.length := by omega
    simp only [List.length_cons] at hN
    have := ih N (i + 1) h3 (by omega)
    have ht : (l.take i).length ≤ 9223372036854775807 := by simp; omega
    have htL : (l.take i).length < L := by simp; omega
    have hal := ha.len
    simp only [d39_1i, d39_2, ln32, List.length_map, lss_int, ob_some, cb_bool, decide_eq_true_eq, h5, if_true, ia32, List.getElem?_map, h2, Option.map_some, ld9, callD_clo, List.nil_append, List.append_nil, c44 (L := L) (show 1 ≤ n by omega) acc s (by omega) ha.lenL, extract_tup, List.getElem?_cons_zero, List.getElem?_cons_succ,
      not_bool, gcase_f, slice32 l i (by omega), c53 (L := L) (show 1 ≤ n by omega) s false (l.take i) ht htL, add_int, wrap_succ (show i < 9223372036854775807 by omega), this, lfrom]
    by_cases q1 : (afind acc s).isSome = true <;> by_cases q2 : ((l.take i).any fun a => decide (s = a)) = true <;> simp only [q1, q2, Bool.not_true, Bool.not_false, Bool.and_true, Bool.and_false, Bool.true_and, Bool.false_and, if_true, if_false, Bool.false_eq_true]
theorem c39 (hm : 2 ≤ m) (acc : List Acc) (ha : OkA L acc) (l : List ByteArray) (hl : l.length ≤ 9223372036854775807) (hlL : l.length < L) : callP Try.prog hh L m 39 [accs acc, strs false l] = some (Bo (lst acc l)) := by
  obtain ⟨n, rfl⟩ : ∃ n, m = n + 1 := ⟨m - 1, by omega⟩
  refine callP_of rfl ?_
  rw [r39]
  have := l39 (L := L) n (by omega) (fun v => some v) (fun v => d39_3 (kk L n) L v) acc ha l hl hlL l L 0 rfl hlL
  simp only [d39_0, g39_0, d39_1]
  rw [show (PV.sc (Value.int IntKind.i64 0)) = I ((0 : Nat) : Int) from rfl, this]
  have e2 : (l.length : Int) ≤ 8 ↔ l.length ≤ 8 := by omega
  simp only [d39_3, ln32, ob_some, leq_int, List.length_map, lst, e2]
  by_cases q : lfrom acc l 0 l = true <;> simp [q]
/-! quotas -/
theorem bs22b (a b : Int) : buildSliceAV Try.prog 22 2 [(0, I a), (1, I b)] = some (.list 0 true [I a, I b]) := by
  simp [buildSliceAV, u22, y3, zero3, width, PV.hasLay, PV.isCell, setAll, List.replicate]
theorem l33 {R : Type} (n : Nat) (hn : 6 ≤ n) (hL : 100 < L) (kr : PV → PV → Option R) (ke : PV → Option R) (c : Cfg) (hc : OkC L c) :
    ∀ (r : List Qs) (N i : Nat), c.qos.drop i = r → r.length < N → d33_1i (kk L n) L kr ke N (qss c.qos) (I c.qos.length) (I i) c.pv = if qfrom c.qos i r then ke c.pv else kr (Bo false) c.pv := by
  intro r
  induction r with
  | nil =>
    intro N i h hN
    obtain ⟨N, rfl⟩ : ∃ n, N = n + 1 := ⟨N - 1, by omega⟩
    have := drop_nil' h
    have h2 : ¬ (i : Int) < c.qos.length := by omega
    simp [d33_1i, d33_2, h2, qfrom]
  | cons q r ih =>
    intro N i h hN
    obtain ⟨N, rfl⟩ : ∃ n, N = n + 1 := ⟨N - 1, by omega⟩
    obtain ⟨h1, h2, h3, h4⟩ := drop_cons' h
    have h5 : (i : Int) < c.qos.length := by omega
    simp only [List.length_cons] at hN
    have := ih N (i + 1) h3 (by omega)
    have hq := hc.qosl
    have ht : (c.qos.take i).length ≤ 9223372036854775807 := by simp; omega
    have htL : (c.qos.take i).length < L := by simp; omega
    simp only [d33_1i, d33_2, lss_int, gtr_int, geq_int, ob_some, cb_bool, decide_eq_true_eq, h5, if_true, ia25, List.getElem?_map, h2, Option.map_some, ld84, put5, qs0, qs1, qs2, qs3, cf3, callD_clo, List.nil_append, List.append_nil, c30 (show 5 ≤ n by omega) q.name (hc.qos q h4), not_bool, gcase_f, slice25 c.qos i (by omega),
      c66 (L := L) (show 3 ≤ n by omega) (c.qos.take i) q.name ht htL, bs22b, c67 (L := L) (show 4 ≤ n by omega) (by omega) q.limit q.jobs, add_int, wrap_succ (show i < 9223372036854775807 by omega), this, qfrom, qbad]
    by_cases q1 : nm q.name = true <;> by_cases q2 : 0 ≤ qix (c.qos.take i) q.name <;> by_cases q3 : q.prio < 0 <;> by_cases q4 : 1000 < q.prio <;> by_cases q5 : offL q.limit = true <;> by_cases q6 : offL q.jobs = true <;>
      simp only [q1, q2, q3, q4, q5, q6, Bool.not_true, Bool.not_false, decide_true, decide_false, Bool.or_true, Bool.or_false, Bool.true_or, Bool.false_or, Bool.and_true, Bool.and_false, Bool.true_and, Bool.false_and, if_true, if_false, Bool.false_eq_true]
theorem c33 (hm : 8 ≤ m) (hL : 100 < L) (c : Cfg) (hc : OkC L c) : callP Try.prog hh L m 33 [c.pv] = some (Bo (qright c)) := by
  obtain ⟨n, rfl⟩ : ∃ n, m = n + 1 := ⟨m - 1, by omega⟩
  refine callP_of rfl ?_
  rw [r33]
  have hq := hc.qosl
  have := l33 (L := L) n (by omega) hL (fun v w => some v) (fun v => d33_3 (kk L n) L v) c hc c.qos L 0 rfl (by omega)
  simp only [d33_0, g33_0, cfl, ck_true, cf3, ln25, ob_some, d33_1, List.length_map]
  rw [show (PV.sc (Value.int IntKind.i64 0)) = I ((0 : Nat) : Int) from rfl, this]
  have e1 : (1 : Int) ≤ c.qos.length ↔ 1 ≤ c.qos.length := by omega
  have e2 : (c.qos.length : Int) ≤ 8 ↔ c.qos.length ≤ 8 := by omega
  simp only [d33_3, cf3, cf2, ln25, ob_some, geq_int, leq_int, gcase_t, List.length_map, qright, e1, e2, callD_clo, List.nil_append, List.append_nil, c17 (show 7 ≤ n by omega) c.accounts hc.acc]
  by_cases q : qfrom c.qos 0 c.qos = true <;> by_cases q1 : 1 ≤ c.qos.length <;> by_cases q2 : c.qos.length ≤ 8 <;> simp [q, q1, q2]
theorem l35 {R : Type} (n : Nat) (hn : 1 ≤ n) (hL : 100 < L) (kr : PV → PV → Option R) (ke : PV → Option R) (c : Cfg) (hc : OkC L c) :
    ∀ (r : List Qs) (N i : Nat), c.qos.drop i = r → r.length < N → d35_1i (kk L n) L kr ke N (I i) c.pv = if qfrom c.qos i r then ke c.pv else kr (Bo false) c.pv := by
  intro r
  induction r with
  | nil =>
    intro N i h hN
    obtain ⟨N, rfl⟩ : ∃ n, N = n + 1 := ⟨N - 1, by omega⟩
    have := drop_nil' h
    have h2 : ¬ (i : Int) < c.qos.length := by omega
    simp [d35_1i, d35_2, h2, qfrom]
  | cons q r ih =>
    intro N i h hN
    obtain ⟨N, rfl⟩ : ∃ n, N = n + 1 := ⟨N - 1, by omega⟩
    obtain ⟨h1, h2, h3, h4⟩ := drop_cons' h
    have h5 : (i : Int) < c.qos.length := by omega
    simp only [List.length_cons] at hN
    have := ih N (i + 1) h3 (by omega)
    have hq := hc.qosl
    have hqs := hc.qos q h4
    have ht : (c.qos.take i).length ≤ 9223372036854775807 := by simp; omega
    have htL : (c.qos.take i).length < L := by simp; omega
    simp only [d35_1i, d35_2, cf3, ln25, List.length_map, lss_int, gtr_int, geq_int, ob_some, cb_bool, decide_eq_true_eq, h5, if_true, ia25, List.getElem?_map, h2, Option.map_some, ld84, put5, qs0, qs1, qs2, qs3, callD_clo, List.nil_append, List.append_nil, c37 (L := L) (show 1 ≤ n by omega) q.name (hc.qosB q h4) (by omega), not_bool, gcase_f, slice25 c.qos i (by omega),
      c69 (L := L) (show 1 ≤ n by omega) (c.qos.take i) q.name ht htL, add_int, wrap_succ (show i < 9223372036854775807 by omega), this, qfrom, qbad, offL]
    by_cases q1 : nm q.name = true <;> by_cases q2 : 0 ≤ qix (c.qos.take i) q.name <;> by_cases q3 : q.prio < 0 <;> by_cases q4 : 1000 < q.prio <;> by_cases q5 : q.limit < -1 <;> by_cases q6 : 1073741824 < q.limit <;> by_cases q7 : q.jobs < -1 <;> by_cases q8 : 1073741824 < q.jobs <;>
      simp only [q1, q2, q3, q4, q5, q6, q7, q8, Bool.not_true, Bool.not_false, decide_true, decide_false, Bool.or_true, Bool.or_false, Bool.true_or, Bool.false_or, Bool.and_true, Bool.and_false, Bool.true_and, Bool.false_and, if_true, if_false, Bool.false_eq_true]
theorem c35 (hm : 3 ≤ m) (hL : 100 < L) (c : Cfg) (hc : OkC L c) : callP Try.prog hh L m 35 [c.pv] = some (Bo (qright c)) := by
  obtain ⟨n, rfl⟩ : ∃ n, m = n + 1 := ⟨m - 1, by omega⟩
  refine callP_of rfl ?_
  rw [r35]
  have hq := hc.qosl
  have := l35 (L := L) n (by omega) hL (fun v w => some v) (fun v => d35_3 (kk L n) L v) c hc c.qos L 0 rfl (by omega)
  simp only [d35_0, g35_0, cfl, ck_true, d35_1]
  rw [show (PV.sc (Value.int IntKind.i64 0)) = I ((0 : Nat) : Int) from rfl, this]
  have e1 : (1 : Int) ≤ c.qos.length ↔ 1 ≤ c.qos.length := by omega
  have e2 : (c.qos.length : Int) ≤ 8 ↔ c.qos.length ≤ 8 := by omega
  simp only [d35_3, cf3, cf2, ln25, ob_some, geq_int, leq_int, gcase_t, List.length_map, qright, e1, e2, callD_clo, List.nil_append, List.append_nil, c70 (L := L) (show 2 ≤ n by omega) c.accounts hc.acc]
  by_cases q : qfrom c.qos 0 c.qos = true <;> by_cases q1 : 1 ≤ c.qos.length <;> by_cases q2 : c.qos.length ≤ 8 <;> simp [q, q1, q2]
/-- Qos, when nothing runs -/
def qos3 (c : Cfg) (s : ByteArray) : PV := if qright c then (if qix c.qos s < 0 then .tup [I 0, I 0, I 141] else .tup [I 0, I 0, I 0]) else .tup [I 0, I 0, I 2]
theorem c75n (hm : 1 ≤ m) (hL : 100 < L) (clo : PV) : callP Try.prog hh L m 75 [.sc (.slice none 0 0), clo] = some (.tup [I 0, I 0]) := by
  obtain ⟨n, rfl⟩ : ∃ n, m = n + 1 := ⟨m - 1, by omega⟩
  refine callP_of rfl ?_
  rw [r75]
  obtain ⟨N, rfl⟩ : ∃ q, L = q + 1 := ⟨L - 1, by omega⟩
  simp only [d75_0, g75_0, ln100n, ob_some, d75_1, d75_1i, d75_2, g75_2, lss_int, cb_bool]
  simp [d75_5]
theorem c41 (hm : 9 ≤ m) (hL : 100 < L) (c : Cfg) (hc : OkC L c) (s : ByteArray) : callP Try.prog hh L m 41 [c.pv, .sc (.slice none 0 0), Sr s] = some (qos3 c s) := by
  obtain ⟨n, rfl⟩ : ∃ n, m = n + 1 := ⟨m - 1, by omega⟩
  refine callP_of rfl ?_
  rw [r41]
  have hq := hc.qosl
  have hk : PV.hasLay 0 (Sr s) = true := rfl
  have h75 : callD (callP Try.prog hh L n) (.clo 75 [] []) [.sc (.slice none 0 0), .clo 76 [] [.ro 0 (Sr s)]] true = _ := callD_t (c75n (L := L) (m := n) (by omega) hL (.clo 76 [] [.ro 0 (Sr s)])) rfl
  simp only [d41_0, cfl, hk, ck_true, callD_clo, List.nil_append, List.append_nil, c33 (L := L) (show 8 ≤ n by omega) hL c hc, ob_some, not_bool, cb_bool, cf3, c66 (L := L) (show 3 ≤ n by omega) c.qos s (by omega) (by omega), lss_int, h75, extract_tup, List.getElem?_cons_zero, List.getElem?_cons_succ, qos3]
  by_cases q : qright c = true <;> by_cases q1 : qix c.qos s < 0 <;> simp [q, q1]
theorem c45 (hm : 4 ≤ m) (hL : 100 < L) (c : Cfg) (hc : OkC L c) (s : ByteArray) : callP Try.prog hh L m 45 [c.pv, .sc (.slice none 0 0), Sr s] = some (qos3 c s) := by
  obtain ⟨n, rfl⟩ : ∃ n, m = n + 1 := ⟨m - 1, by omega⟩
  refine callP_of rfl ?_
  rw [r45]
  have hq := hc.qosl
  have hloop : ∀ (ke : PV → PV → PV → Option PV), d45_1i (kk L n) L ke L (.sc (.slice none 0 0)) (Sr s) (I 0) (I 0) (I 0) c.pv = ke (I 0) (I 0) c.pv := by
    intro ke
    obtain ⟨N, rfl⟩ : ∃ q, L = q + 1 := ⟨L - 1, by omega⟩
    simp only [d45_1i, d45_2, g45_2, ln100n, ob_some, lss_int, cb_bool]
    simp
  simp only [d45_0, g45_0, cfl, ck_true, callD_clo, List.nil_append, List.append_nil, c35 (L := L) (show 3 ≤ n by omega) hL c hc, ob_some, not_bool, cb_bool, cf3, c69 (L := L) (show 1 ≤ n by omega) c.qos s (by omega) (by omega), lss_int, d45_1, hloop, d45_5, qos3]
  by_cases q : qright c = true <;> by_cases q1 : qix c.qos s < 0 <;> simp [q, q1]
end
end Go.Lite

namespace Go.Lite
open Go Go.Proofs
set_option linter.unusedVariables false
set_option linter.unusedSimpArgs false

section
variable {L m : Nat}
theorem ro6 (c : Cfg) : PV.hasLay 6 c.pv = true := rfl
theorem nup_len (c : Cfg) (h : nright (nodesOf c) = true) : (nodesOf c).length ≤ 32 := by
  simp only [nright, Bool.and_eq_true, decide_eq_true_eq] at h
  exact h.1.2
theorem allOf_lt (c : Cfg) (h : nright (nodesOf c) = true) : allOf c < 2 ^ 32 :=
  Nat.lt_of_lt_of_le (bits_lt _ _) (Nat.pow_le_pow_right (by decide) (nup_len c h))
theorem c29 (hm : 6 ≤ m) (hL : 100 < L) (c : Cfg) (hc : OkC L c) (all : Nat) (hall : all < 2 ^ 32) (i : Nat) (hi : i ≤ c.parts.length) (p : Pt) (hp : OkP L p) :
    callP Try.prog hh L m 29 [I i, p.pv, .ro 6 c.pv, .ro 0 (U all)] = some (Bo (pwrong c all i p)) := by
  obtain ⟨n, rfl⟩ : ∃ n, m = n + 1 := ⟨m - 1, by omega⟩
  refine callP_of rfl ?_
  rw [r29]
  have h2 := hc.parts
  have ht : (c.parts.take i).length ≤ 9223372036854775807 := by simp; omega
  have htL : (c.parts.take i).length < L := by simp; omega
  have e0 : (((p.nodes : Nat) : Int) = 0) = (p.nodes = 0) := by apply propext; omega
  simp only [d29_0, ptl, ck_true, fa28_1, fa28_2, ld23, ld24, ld56, ob_some, slice23 c.parts i hi, pt0, pt1, pt4, callD_clo, List.nil_append, List.append_nil, c8 (L := L) (show 3 ≤ n by omega) (c.parts.take i) p.name ht htL, extract_tup, List.getElem?_cons_zero, List.getElem?_cons_succ, gcase_f,
    c30 (show 5 ≤ n by omega) p.name hp.name, not_bool, eql_int, e0, c31 (L := L) (show 1 ≤ n by omega) p.nodes all hp.nodes hall, c32 (L := L) (show 5 ≤ n by omega) c.accounts hc.acc p.accs hp.len hp.lenL, pwrong]
  by_cases q1 : (pfind (c.parts.take i) p.name).isSome = true <;> by_cases q2 : nm p.name = true <;> by_cases q3 : p.nodes = 0 <;> by_cases q4 : within p.nodes all = true <;> by_cases q5 : lst c.accounts p.accs = true <;>
    simp only [q1, q2, q3, q4, q5, Bool.not_true, Bool.not_false, decide_true, decide_false, Bool.or_true, Bool.or_false, Bool.true_or, Bool.false_or, if_true, if_false, Bool.false_eq_true]
theorem l10 {R : Type} (n : Nat) (hn : 6 ≤ n) (hL : 100 < L) (kr : PV → PV → PV → Option R) (ke : PV → PV → Option R) (c : Cfg) (hc : OkC L c) (all : Nat) (hall : all < 2 ^ 32) :
    ∀ (r : List Pt) (N i : Nat), c.parts.drop i = r → r.length < N → d10_3i (kk L n) L kr ke N (pts c.parts) (I c.parts.length) (I i) c.pv (U all) = if pfrom c all i r then ke c.pv (U all) else kr (Bo false) c.pv (U all) := by
  intro r
  induction r with
  | nil =>
    intro N i h hN
    obtain ⟨N, rfl⟩ : ∃ n, N = n + 1 := ⟨N - 1, by omega⟩
    have := drop_nil' h
    have h2 : ¬ (i : Int) < c.parts.length := by omega
    simp [d10_3i, d10_4, h2, pfrom]
  | cons p r ih =>
    intro N i h hN
    obtain ⟨N, rfl⟩ : ∃ n, N = n + 1 := ⟨N - 1, by omega⟩
    obtain ⟨h1, h2, h3, h4⟩ := drop_cons' h
    have h5 : (i : Int) < c.parts.length := by omega
    simp only [List.length_cons] at hN
    have := ih N (i + 1) h3 (by omega)
    have hpl := hc.parts
    have h29 : callD (callP Try.prog hh L n) (.clo 29 [] [.ro 6 c.pv, .ro 0 (U all)]) [I i, p.pv] true = _ := callD_t (by simpa using c29 (L := L) (m := n) (by omega) hL c hc all hall i (by omega) p (hc.part p h4)) rfl
    simp only [d10_3i, d10_4, lss_int, gtr_int, ob_some, cb_bool, decide_eq_true_eq, h5, if_true, ia23, List.getElem?_map, h2, Option.map_some, ld58, put6, h29, gcase_f, pt2, pt3, add_int, wrap_succ (show i < 9223372036854775807 by omega), this, pfrom, pbad]
    by_cases q1 : pwrong c all i p = true <;> by_cases q2 : p.prio < 0 <;> by_cases q3 : 1000 < p.prio <;> by_cases q4 : p.max < 1 <;> by_cases q5 : 1048576 < p.max <;>
      simp only [q1, q2, q3, q4, q5, Bool.not_true, Bool.not_false, decide_true, decide_false, Bool.or_true, Bool.or_false, Bool.true_or, Bool.false_or, Bool.and_true, Bool.and_false, Bool.true_and, Bool.false_and, if_true, if_false, Bool.false_eq_true]
theorem c10 (hm : 9 ≤ m) (hL : 100 < L) (c : Cfg) (hc : OkC L c) : callP Try.prog hh L m 10 [c.pv] = some (Bo (cright c)) := by
  obtain ⟨n, rfl⟩ : ∃ n, m = n + 1 := ⟨m - 1, by omega⟩
  refine callP_of rfl ?_
  rw [r10]
  have h1 := hc.cores
  have h2 := hc.parts
  have h27 := c27 (L := L) (show 5 ≤ n by omega) c.cores (by omega) (by omega)
  have h33 := c33 (L := L) (show 8 ≤ n by omega) hL c hc
  have e1 : (c.parts.length : Int) < 1 ↔ ¬ 1 ≤ c.parts.length := by omega
  have e2 : (8 : Int) < c.parts.length ↔ ¬ c.parts.length ≤ 8 := by omega
  simp only [d10_0, g10_0, cfl, ck_true, cf0, ob_some, callD_clo, List.nil_append, List.append_nil, h27]
  by_cases hn : nright (nodesOf c) = true
  · have hlen := nup_len c hn
    have hall := allOf_lt c hn
    have h28 := c28 (L := L) (m := n) (by omega) (nodesOf c) hlen (by omega)
    have hl := l10 (L := L) n (by omega) hL (fun v w x => some v) (fun v w => d10_5 (kk L n) L v w) c hc (allOf c) hall c.parts L 0 rfl (by omega)
    have hnn : nnew c.cores = .tup [nds (nodesOf c), I 0] := by simp only [nnew]; rw [if_pos (show nright (c.cores.map mkN) = true from hn)]; rfl
    simp only [hnn, extract_tup, List.getElem?_cons_zero, List.getElem?_cons_succ, ob_some, h28, putU _ (U (bits (qup (nodesOf c)) (nodesOf c).length)) rfl, d10_1, eql_int, gcase_t, decide_true, if_true, callD_clo, List.nil_append, List.append_nil, h33, cb_bool, cf4, cf1, lss_int, gtr_int, gcase_f, d10_6]
    by_cases q : qright c = true
    · by_cases p1 : c.policy < 1
      · have : ¬ 1 ≤ c.policy := by omega
        simp [q, p1, cright, hn, this]
      · have p1' : 1 ≤ c.policy := by omega
        by_cases p2 : 3 < c.policy
        · have : ¬ c.policy ≤ 3 := by omega
          simp [q, p1, p2, cright, hn, this]
        · have p2' : c.policy ≤ 3 := by omega
          simp only [q, p1, p2, if_true, if_false, decide_false, Bool.false_eq_true, d10_2, g10_2, cf1, ob_some, ln23, lss_int, gtr_int, gcase_f, cb_bool, List.length_map, e1, e2, decide_not, Bool.not_eq_true']
          by_cases r1 : 1 ≤ c.parts.length
          · by_cases r2 : c.parts.length ≤ 8
            · simp only [r1, r2, decide_true, Bool.true_eq_false, if_false, d10_3]
              rw [show (PV.sc (Value.int IntKind.i64 0)) = I ((0 : Nat) : Int) from rfl]
              rw [show (U (bits (qup (nodesOf c)) (nodesOf c).length)) = U (allOf c) from rfl, hl]
              simp only [cright, hn, q, p1', p2', r1, r2, decide_true, Bool.and_true, Bool.true_and, d10_5]
              by_cases f : pfrom c (allOf c) 0 c.parts = true <;> simp [f]
            · simp [r1, r2, cright]
          · simp [r1, cright]
    · simp [q, cright]
  · have h28 := c28n (L := L) (m := n) (by omega) (by omega)
    have hnn : nnew c.cores = .tup [.sc (.slice none 0 0), I 2] := by simp only [nnew]; rw [if_neg (show ¬ nright (c.cores.map mkN) = true from hn)]
    simp only [hnn, extract_tup, List.getElem?_cons_zero, List.getElem?_cons_succ, ob_some, h28, putU _ (U 0) rfl, d10_1, eql_int, gcase_t, d10_6]
    simp [cright, hn]
theorem l11 {R : Type} (n : Nat) (hn : 2 ≤ n) (hL : 100 < L) (kr : PV → PV → Option R) (ke : PV → Option R) (c : Cfg) (hc : OkC L c) (all : Nat) (hall : all < 2 ^ 32) :
    ∀ (r : List Pt) (N i : Nat), c.parts.drop i = r → r.length < N → d11_1i (kk L n) L kr ke N (U all) (I i) c.pv = if pfrom c all i r then ke c.pv else kr (Bo false) c.pv := by
  intro r
  induction r with
  | nil =>
    intro N i h hN
    obtain ⟨N, rfl⟩ : ∃ n, N = n + 1 := ⟨N - 1, by omega⟩
    have := drop_nil' h
    have h2 : ¬ (i : Int) < c.parts.length := by omega
    simp [d11_1i, d11_2, h2, pfrom]
  | cons p r ih =>
    intro N i h hN
    obtain ⟨N, rfl⟩ : ∃ n, N = n + 1 := ⟨N - 1, by omega⟩
    obtain ⟨h1, h2, h3, h4⟩ := drop_cons' h
    have h5 : (i : Int) < c.parts.length := by omega
    simp only [List.length_cons] at hN
    have := ih N (i + 1) h3 (by omega)
    have hp := hc.part p h4
    have hpn := hp.name
    have hpl := hc.parts
    have ht : (c.parts.take i).length ≤ 9223372036854775807 := by simp; omega
    have htL : (c.parts.take i).length < L := by simp; omega
    have e0 : (((p.nodes : Nat) : Int) = 0) = (p.nodes = 0) := by apply propext; omega
    simp only [d11_1i, d11_2, cf1, cf2, ln23, List.length_map, lss_int, gtr_int, ob_some, cb_bool, decide_eq_true_eq, h5, if_true, ia23, List.getElem?_map, h2, Option.map_some, ld58, put6, slice23 c.parts i (by omega), pt0, pt1, pt2, pt3, pt4, callD_clo, List.nil_append, List.append_nil,
      c9 (L := L) (show 1 ≤ n by omega) (c.parts.take i) p.name ht htL, extract_tup, List.getElem?_cons_zero, List.getElem?_cons_succ, gcase_f, c37 (L := L) (show 1 ≤ n by omega) p.name hp.nameB (by omega), not_bool, eql_int, e0, c38 (L := L) (show 2 ≤ n by omega) (by omega) p.nodes all hp.nodes hall,
      c39 (L := L) (show 2 ≤ n by omega) c.accounts hc.acc p.accs hp.len hp.lenL, add_int, wrap_succ (show i < 9223372036854775807 by omega), this, pfrom, pbad, pwrong]
    by_cases q1 : (pfind (c.parts.take i) p.name).isSome = true
    · simp only [q1, if_true, Bool.true_or, Bool.not_true, Bool.false_and, if_false, Bool.false_eq_true]
    by_cases q2 : nm p.name = false
    · simp only [q1, q2, Bool.not_false, if_true, if_false, Bool.true_or, Bool.or_true, Bool.not_true, Bool.false_and, Bool.false_eq_true]
    have q2 : nm p.name = true := by simpa using q2
    by_cases q3 : p.nodes = 0
    · simp only [q1, q2, q3, decide_true, Bool.not_true, Bool.false_or, if_true, if_false, Bool.true_or, Bool.or_true, Bool.false_and, Bool.false_eq_true]
    by_cases q4 : within p.nodes all = false
    · simp only [q1, q2, q3, q4, decide_false, Bool.not_true, Bool.not_false, Bool.false_or, if_true, if_false, Bool.true_or, Bool.or_true, Bool.false_and, Bool.false_eq_true]
    have q4 : within p.nodes all = true := by simpa using q4
    by_cases q5 : lst c.accounts p.accs = true <;> by_cases s2 : p.prio < 0 <;> by_cases s3 : 1000 < p.prio <;> by_cases s4 : p.max < 1 <;> by_cases s5 : 1048576 < p.max <;>
      simp only [q1, q2, q3, q4, q5, s2, s3, s4, s5, Bool.not_true, Bool.not_false, decide_true, decide_false, Bool.or_true, Bool.or_false, Bool.true_or, Bool.false_or, Bool.and_true, Bool.and_false, Bool.true_and, Bool.false_and, if_true, if_false, Bool.false_eq_true]
theorem c11 (hm : 4 ≤ m) (hL : 100 < L) (c : Cfg) (hc : OkC L c) : callP Try.prog hh L m 11 [c.pv] = some (Bo (cright c)) := by
  obtain ⟨n, rfl⟩ : ∃ n, m = n + 1 := ⟨m - 1, by omega⟩
  refine callP_of rfl ?_
  rw [r11]
  have h1 := hc.cores
  have h2 := hc.parts
  have h34 := c34 (L := L) (show 2 ≤ n by omega) c.cores (by omega) (by omega)
  have h35 := c35 (L := L) (show 3 ≤ n by omega) hL c hc
  have e1 : (c.parts.length : Int) < 1 ↔ ¬ 1 ≤ c.parts.length := by omega
  have e2 : (8 : Int) < c.parts.length ↔ ¬ c.parts.length ≤ 8 := by omega
  simp only [d11_0, g11_0, cfl, ck_true, cf0, cf1, cf4, ob_some, callD_clo, List.nil_append, List.append_nil, h34, h35, not_bool, lss_int, gtr_int, gcase_f, cb_bool, ln23, List.length_map, e1, e2]
  by_cases hn : nright (nodesOf c) = true
  · have hlen := nup_len c hn
    have hall := allOf_lt c hn
    have h36 := c36 (L := L) (m := n) (by omega) (nodesOf c) hlen (by omega)
    have hl := l11 (L := L) n (by omega) hL (fun v w => some v) (fun v => d11_3 (kk L n) L v) c hc (allOf c) hall c.parts L 0 rfl (by omega)
    have hnn : nnew c.cores = .tup [nds (nodesOf c), I 0] := by simp only [nnew]; rw [if_pos (show nright (c.cores.map mkN) = true from hn)]; rfl
    simp only [hnn, extract_tup, List.getElem?_cons_zero, List.getElem?_cons_succ, ob_some, neq_int, ne_eq, not_true_eq_false, decide_false, Bool.false_eq_true, if_false, h36, d11_1]
    rw [show (PV.sc (Value.int IntKind.i64 0)) = I ((0 : Nat) : Int) from rfl]
    rw [show (U (bits (qup (nodesOf c)) (nodesOf c).length)) = U (allOf c) from rfl, hl]
    by_cases q : qright c = true
    · by_cases p1 : c.policy < 1
      · have : ¬ 1 ≤ c.policy := by omega
        simp [q, p1, cright, this]
      · have p1' : 1 ≤ c.policy := by omega
        by_cases p2 : 3 < c.policy
        · have : ¬ c.policy ≤ 3 := by omega
          simp [q, p1, p2, cright, this]
        · have p2' : c.policy ≤ 3 := by omega
          by_cases r1 : 1 ≤ c.parts.length
          · by_cases r2 : c.parts.length ≤ 8
            · by_cases f : pfrom c (allOf c) 0 c.parts = true <;> simp [cright, hn, q, p1, p2, p1', p2', r1, r2, d11_3, f]
            · simp [q, p1, p2, r1, r2, cright]
          · simp [q, p1, p2, r1, cright]
    · simp [q, cright]
  · have hnn : nnew c.cores = .tup [.sc (.slice none 0 0), I 2] := by simp only [nnew]; rw [if_neg (show ¬ nright (c.cores.map mkN) = true from hn)]
    simp only [hnn, extract_tup, List.getElem?_cons_zero, List.getElem?_cons_succ, ob_some, neq_int]
    simp [cright, hn]
/-- Admits, by the reference -/
theorem l15 {R : Type} (n : Nat) (hn : 1 ≤ n) (kr : PV → Option R) (ke : PV → Option R) (c : Bool) (p : List ByteArray) (hp : p.length ≤ 9223372036854775807) (hpL : p.length < L) (who : List ByteArray) (hl : who.length ≤ 9223372036854775807) :
    ∀ (r : List ByteArray) (N i : Nat), who.drop i = r → r.length < N → d15_1i (kk L n) L kr ke N (strs c who) (strs false p) (I i) = if (r.any fun w => p.any fun a => decide (w = a)) then kr (Bo true) else ke (strs c who) := by
  intro r
  induction r with
  | nil =>
    intro N i h hN
    obtain ⟨N, rfl⟩ : ∃ n, N = n + 1 := ⟨N - 1, by omega⟩
    have := drop_nil' h
    have h2 : ¬ (i : Int) < who.length := by omega
    simp [d15_1i, d15_2, h2]
  | cons w r ih =>
    intro N i h hN
    obtain ⟨N, rfl⟩ : ∃ n, N = n + 1 := ⟨N - 1, by omega⟩
    obtain ⟨h1, h2, h3, h4⟩ := drop_cons' h
    have h5 : (i : Int) < who.length := by omega
    simp only [List.length_cons] at hN
    have := ih N (i + 1) h3 (by omega)
    simp only [d15_1i, d15_2, ln32, List.length_map, lss_int, ob_some, cb_bool, decide_eq_true_eq, h5, if_true, ia32, List.getElem?_map, h2, Option.map_some, ld9, callD_clo, List.nil_append, List.append_nil, c53 (L := L) (show 1 ≤ n by omega) w false p hp hpL, add_int, wrap_succ (show i < 9223372036854775807 by omega), this, List.any_cons]
    by_cases q : (p.any fun a => decide (w = a)) = true <;> simp only [q, if_true, if_false, Bool.true_or, Bool.false_or, Bool.false_eq_true]
theorem any_swap (p who : List ByteArray) : (who.any fun w => p.any fun a => decide (w = a)) = (p.any fun x => who.any fun a => decide (x = a)) := by
  rw [Bool.eq_iff_iff]
  simp only [List.any_eq_true, decide_eq_true_eq]
  constructor
  · rintro ⟨w, hw, a, ha, rfl⟩; exact ⟨w, ha, w, hw, rfl⟩
  · rintro ⟨w, hw, a, ha, rfl⟩; exact ⟨w, ha, w, hw, rfl⟩
theorem c15 (hm : 4 ≤ m) (l : List Acc) (who : List ByteArray) (c : Bool) (s : ByteArray) (hl : OkA L l) (hwl : who.length ≤ 9223372036854775807) (hwL : who.length < L) : callP Try.prog hh L m 15 [accs l, strs c who, Sr s] = some (Bo (admits l who s)) := by
  obtain ⟨n, rfl⟩ : ∃ n, m = n + 1 := ⟨m - 1, by omega⟩
  refine callP_of rfl ?_
  rw [r15]
  simp only [d15_0, g15_0, callD_clo, List.nil_append, List.append_nil, c52 (L := L) (show 3 ≤ n by omega) l s hl, ob_some]
  by_cases h : aright l = true
  · simp only [h, if_true, admits]
    cases hf : afind l s with
    | none => simp
    | some i =>
      obtain ⟨a, ha, _⟩ := afind_some hf
      have hi : i < l.length := by
        rcases Nat.lt_or_ge i l.length with h' | h'
        · exact h'
        · rw [List.getElem?_eq_none h'] at ha; simp at ha
      have hp := path_len (aright_tree h) i
      have hll := hl.lenL
      have hl16 := (aright_tree h).len
      have := l15 (L := L) n (by omega) (fun v => some v) (fun v => d15_3 (kk L n) L v) c (path l i) (by omega) (by omega) who hwl who L 0 rfl hwL
      simp only [extract_tup, List.getElem?_cons_zero, List.getElem?_cons_succ, ob_some, neq_int, ne_eq, not_true_eq_false, decide_false, cb_bool, Bool.false_eq_true, if_false, d15_1]
      rw [show (PV.sc (Value.int IntKind.i64 0)) = I ((0 : Nat) : Int) from rfl, this, any_swap]
      have e : ((who.length : Int) = 0) = (who = []) := by apply propext; rw [← List.length_eq_zero_iff]; omega
      simp only [d15_3, ln32, ob_some, eql_int, List.length_map]
      simp only [e]
      by_cases q : ((path l i).any fun x => who.any fun a => decide (x = a)) = true
      · simp [q]
      · rw [Bool.eq_false_iff.2 q]
        cases who <;> simp
  · simp [h, admits]
end
end Go.Lite

namespace Go.Lite
open Go Go.Proofs
set_option linter.unusedVariables false
set_option linter.unusedSimpArgs false

structure Sp where
  user : ByteArray
  account : ByteArray
  qos : ByteArray
  part : ByteArray
  nodes : Int
  cores : Int
  limit : Int
  deps : List PV
def Sp.pv (s : Sp) : PV := .agg [Sr s.user, Sr s.account, Sr s.qos, Sr s.part, I s.nodes, I s.cores, I s.limit, .list 3 false s.deps]
@[simp] theorem sp0 (a : Sp) : PV.at_ 9 0 0 a.pv = some (Sr a.user) := rfl
@[simp] theorem sp1 (a : Sp) : PV.at_ 9 1 0 a.pv = some (Sr a.account) := rfl
@[simp] theorem sp2 (a : Sp) : PV.at_ 9 2 0 a.pv = some (Sr a.qos) := rfl
@[simp] theorem sp3 (a : Sp) : PV.at_ 9 3 0 a.pv = some (Sr a.part) := rfl
@[simp] theorem sp4 (a : Sp) : PV.at_ 9 4 0 a.pv = some (I a.nodes) := rfl
@[simp] theorem sp5 (a : Sp) : PV.at_ 9 5 0 a.pv = some (I a.cores) := rfl
@[simp] theorem sp6 (a : Sp) : PV.at_ 9 6 0 a.pv = some (I a.limit) := rfl
@[simp] theorem spl (a : Sp) : PV.hasLay 9 a.pv = true := rfl
def sbad (s : Sp) : Bool := !nm s.user || decide (s.nodes < 1) || decide (32 < s.nodes) || decide (s.cores < 1) || decide (64 < s.cores) || decide (s.limit < 1)
def able (c : Cfg) (p : Pt) (s : Sp) : Nat := bits (qable (nodesOf c) p.nodes s.cores) (nodesOf c).length
def chk (c : Cfg) (s : Sp) : Int :=
  if cright c then
    if sbad s then 2 else
    match pfind c.parts s.part with
    | none => 141
    | some i =>
      if !(afind c.accounts s.account).isSome || decide (qix c.qos s.qos < 0) then 141 else
      match c.parts[i]? with
      | none => 0
      | some p =>
        if admits c.accounts p.accs s.account then
          (if decide (p.max < s.limit) || decide (((ons (able c p s).testBit 32).length : Int) < s.nodes) then 150 else 0)
        else 160
  else 250
theorem neqb (x y : Operand) (b c : Bool) : binPV Try.prog .neq 4 x y (.sc (.bool b)) (.sc (.bool c)) = some (Bo (b != c)) := by
  cases b <;> cases c <;> kernel_rfl
theorem cright_n {c : Cfg} (h : cright c = true) : nright (nodesOf c) = true ∧ qright c = true := by
  simp only [cright, Bool.and_eq_true] at h
  exact ⟨h.1.1.1.1.1.1, h.1.1.1.1.1.2⟩

section
variable {L m : Nat}
theorem able_lt (c : Cfg) (h : nright (nodesOf c) = true) (p : Pt) (s : Sp) : able c p s < 2 ^ 32 :=
  Nat.lt_of_lt_of_le (bits_lt _ _) (Nat.pow_le_pow_right (by decide) (nup_len c h))
theorem pfind_get {l : List Pt} {s : ByteArray} {i : Nat} (h : pfind l s = some i) : ∃ p, l[i]? = some p := by
  obtain ⟨_, a, h2, _⟩ := ffrom_some h
  exact ⟨a, by simpa using h2⟩
theorem c12 (hm : 11 ≤ m) (hL : 100 < L) (c : Cfg) (hc : OkC L c) (s : Sp) (hu : s.user.size + 1 < L) : callP Try.prog hh L m 12 [c.pv, s.pv] = some (I (chk c s)) := by
  obtain ⟨n, rfl⟩ : ∃ n, m = n + 1 := ⟨m - 1, by omega⟩
  refine callP_of rfl ?_
  rw [r12]
  have h1 := hc.cores
  have h2 := hc.parts
  have h10 := c10 (L := L) (show 9 ≤ n by omega) hL c hc
  have h8 := c8 (L := L) (show 3 ≤ n by omega) c.parts s.part (by omega) (by omega)
  have h40 := c40 (L := L) (show 4 ≤ n by omega) c.accounts s.account hc.acc.len hc.acc.lenL
  have h41 := c41 (L := L) (show 9 ≤ n by omega) hL c hc s.qos
  have h30 := c30 (L := L) (show 5 ≤ n by omega) s.user hu
  have h27 := c27 (L := L) (show 5 ≤ n by omega) c.cores (by omega) (by omega)
  simp only [d12_0, cfl, spl, ck_true, callD_clo, List.nil_append, List.append_nil, h10, ob_some, not_bool, cb_bool]
  by_cases hr : cright c = false
  · simp [hr, chk]
  have hr : cright c = true := by simpa using hr
  obtain ⟨hn, hq⟩ := cright_n hr
  simp only [hr, Bool.not_true, Bool.false_eq_true, if_false, sp0, sp1, sp2, sp3, sp4, sp5, sp6, cf0, cf1, cf2, ob_some, h30, gcase_f, lss_int, gtr_int, not_bool, cb_bool, h8, h40, h41, extract_tup, List.getElem?_cons_zero, List.getElem?_cons_succ, qos3, hq, if_true]
  by_cases hb : sbad s = true
  · have hc' : chk c s = 2 := by simp [chk, hr, hb]
    rw [hc']
    simp only [sbad, Bool.or_eq_true, Bool.not_eq_true', decide_eq_true_eq] at hb
    by_cases b1 : nm s.user = true <;> by_cases b2 : s.nodes < 1 <;> by_cases b3 : 32 < s.nodes <;> by_cases b4 : s.cores < 1 <;> by_cases b5 : 64 < s.cores <;> by_cases b6 : s.limit < 1 <;> first | (simp [b1, b2, b3, b4, b5, b6]; done) | (exfalso; simp [b1] at hb; omega)
  · have hb' := hb
    simp only [sbad, Bool.or_eq_true, Bool.not_eq_true', decide_eq_true_eq, not_or] at hb'
    obtain ⟨⟨⟨⟨⟨b1, b2⟩, b3⟩, b4⟩, b5⟩, b6⟩ := hb'
    have b1 : nm s.user = true := by simpa using b1
    simp only [b1, b2, b3, b4, b5, b6, Bool.not_true, decide_false, Bool.false_eq_true, if_false]
    cases hf : pfind c.parts s.part with
    | none =>
      have hc' : chk c s = 141 := by simp [chk, hr, hb, hf]
      rw [hc']
      by_cases hqi : qix c.qos s.qos < 0 <;> simp [hqi]
    | some i =>
      obtain ⟨p, hp⟩ := pfind_get hf
      have hpm : p ∈ c.parts := List.mem_of_getElem? hp
      have hop := hc.part p hpm
      have hadm := c14 (L := L) (show 10 ≤ n by omega) c.accounts p.accs (strs false p.accs) s.account hc.acc (.inl ⟨false, rfl⟩) hop.len hop.lenL
      have hlen := nup_len c hn
      have hnn : nnew c.cores = .tup [nds (nodesOf c), I 0] := by simp only [nnew]; rw [if_pos (show nright (c.cores.map mkN) = true from hn)]; rfl
      have h43 := c43 (L := L) (show 3 ≤ n by omega) (nodesOf c) hlen p.nodes hop.nodes s.cores (by omega)
      rw [show bits (qable (nodesOf c) p.nodes s.cores) (nodesOf c).length = able c p s from rfl] at h43
      have h42 := c42 (L := L) (show 2 ≤ n by omega) (able c p s) (able_lt c hn p s)
      by_cases ha : (afind c.accounts s.account).isSome = true
      · by_cases hqi : qix c.qos s.qos < 0
        · have hc' : chk c s = 141 := by simp [chk, hr, hb, hf, hqi]
          rw [hc']
          simp [ha, hqi]
        · have hc' : chk c s = if admits c.accounts p.accs s.account then (if decide (p.max < s.limit) || decide (((ons (able c p s).testBit 32).length : Int) < s.nodes) then 150 else 0) else 160 := by
            simp [chk, hr, hb, hf, hqi, ha, hp]
          rw [hc']
          simp only [hqi, if_false, ob_some, List.getElem?_cons_zero, List.getElem?_cons_succ, Option.isSome_some, Option.getD_some, Bool.not_true, Bool.false_eq_true, ha, neq_int, ne_eq, not_true_eq_false, decide_false, ia23, List.getElem?_map, hp, Option.map_some, ld58, put6, pt1, pt3, pt4, h27, hnn, hadm, h43, h42]
          by_cases h1' : admits c.accounts p.accs s.account = true
          · by_cases h2' : p.max < s.limit
            · simp [h1', h2']
            · by_cases h3' : ((ons (able c p s).testBit 32).length : Int) < s.nodes <;> simp [h1', h2', h3'] <;> rw [h43, ob_some, h42] <;> simp [h3']
          · simp [h1']
      · have hc' : chk c s = 141 := by simp [chk, hr, hb, hf, ha]
        rw [hc']
        by_cases hqi : qix c.qos s.qos < 0 <;> simp [hqi, ha]
theorem c13 (hm : 6 ≤ m) (hL : 100 < L) (c : Cfg) (hc : OkC L c) (s : Sp) (hu : s.user.size + 1 < L) (hub : s.user.size ≤ 9223372036854775807) : callP Try.prog hh L m 13 [c.pv, s.pv] = some (I (chk c s)) := by
  obtain ⟨n, rfl⟩ : ∃ n, m = n + 1 := ⟨m - 1, by omega⟩
  refine callP_of rfl ?_
  rw [r13]
  have h1 := hc.cores
  have h2 := hc.parts
  have hal := hc.acc.len
  have h11 := c11 (L := L) (show 4 ≤ n by omega) hL c hc
  have h9 := c9 (L := L) (show 1 ≤ n by omega) c.parts s.part (by omega) (by omega)
  have h44 := c44 (L := L) (show 1 ≤ n by omega) c.accounts s.account (by omega) hc.acc.lenL
  have h45 := c45 (L := L) (show 4 ≤ n by omega) hL c hc s.qos
  have h37 := c37 (L := L) (show 1 ≤ n by omega) s.user hub (by omega)
  have h34 := c34 (L := L) (show 2 ≤ n by omega) c.cores (by omega) (by omega)
  simp only [d13_0, cfl, spl, ck_true, callD_clo, List.nil_append, List.append_nil, h11, ob_some, not_bool, cb_bool]
  by_cases hr : cright c = false
  · simp [hr, chk]
  have hr : cright c = true := by simpa using hr
  obtain ⟨hn, hq⟩ := cright_n hr
  simp only [hr, Bool.not_true, Bool.false_eq_true, if_false, sp0, sp1, sp2, sp3, sp4, sp5, sp6, cf0, cf1, cf2, ob_some, h37, gcase_f, lss_int, gtr_int, not_bool, cb_bool, h9, h44, h45, extract_tup, List.getElem?_cons_zero, List.getElem?_cons_succ, qos3, hq, if_true]
  by_cases hb : sbad s = true
  · have hc' : chk c s = 2 := by simp [chk, hr, hb]
    rw [hc']
    simp only [sbad, Bool.or_eq_true, Bool.not_eq_true', decide_eq_true_eq] at hb
    by_cases b1 : nm s.user = true <;> by_cases b2 : s.nodes < 1 <;> by_cases b3 : 32 < s.nodes <;> by_cases b4 : s.cores < 1 <;> by_cases b5 : 64 < s.cores <;> by_cases b6 : s.limit < 1 <;> first | (simp [b1, b2, b3, b4, b5, b6]; done) | (exfalso; simp [b1] at hb; omega)
  · have hb' := hb
    simp only [sbad, Bool.or_eq_true, Bool.not_eq_true', decide_eq_true_eq, not_or] at hb'
    obtain ⟨⟨⟨⟨⟨b1, b2⟩, b3⟩, b4⟩, b5⟩, b6⟩ := hb'
    have b1 : nm s.user = true := by simpa using b1
    simp only [b1, b2, b3, b4, b5, b6, Bool.not_true, decide_false, Bool.false_eq_true, if_false]
    cases hf : pfind c.parts s.part with
    | none =>
      have hc' : chk c s = 141 := by simp [chk, hr, hb, hf]
      rw [hc']
      by_cases hqi : qix c.qos s.qos < 0 <;> simp [hqi]
    | some i =>
      obtain ⟨p, hp⟩ := pfind_get hf
      have hpm : p ∈ c.parts := List.mem_of_getElem? hp
      have hop := hc.part p hpm
      have hadm := c15 (L := L) (show 4 ≤ n by omega) c.accounts p.accs false s.account hc.acc hop.len hop.lenL
      have hlen := nup_len c hn
      have hnn : nnew c.cores = .tup [nds (nodesOf c), I 0] := by simp only [nnew]; rw [if_pos (show nright (c.cores.map mkN) = true from hn)]; rfl
      have h43 := c47 (L := L) (show 3 ≤ n by omega) (nodesOf c) hlen p.nodes hop.nodes s.cores (by omega)
      rw [show bits (qable (nodesOf c) p.nodes s.cores) (nodesOf c).length = able c p s from rfl] at h43
      have h42 := c46 (L := L) (show 2 ≤ n by omega) (by omega) (able c p s) (able_lt c hn p s)
      by_cases ha : (afind c.accounts s.account).isSome = true
      · by_cases hqi : qix c.qos s.qos < 0
        · have hc' : chk c s = 141 := by simp [chk, hr, hb, hf, hqi]
          rw [hc']
          simp [ha, hqi]
        · have hc' : chk c s = if admits c.accounts p.accs s.account then (if decide (p.max < s.limit) || decide (((ons (able c p s).testBit 32).length : Int) < s.nodes) then 150 else 0) else 160 := by
            simp [chk, hr, hb, hf, hqi, ha, hp]
          rw [hc']
          simp only [hqi, if_false, ob_some, List.getElem?_cons_zero, List.getElem?_cons_succ, Option.isSome_some, Option.getD_some, Bool.not_true, Bool.false_eq_true, ha, neq_int, ne_eq, not_true_eq_false, decide_false, ia23, List.getElem?_map, hp, Option.map_some, ld58, put6, pt1, pt3, pt4, h34, hnn, hadm, h43, h42, ln22, List.length_map]
          by_cases h1' : admits c.accounts p.accs s.account = true
          · by_cases h2' : p.max < s.limit
            · simp [h1', h2']
            · by_cases h3' : ((ons (able c p s).testBit 32).length : Int) < s.nodes <;> simp [h1', h2', h3'] <;> rw [h43, ob_some, h42] <;> simp [h3']
          · simp [h1']
      · have hc' : chk c s = 141 := by simp [chk, hr, hb, hf, ha]
        rw [hc']
        by_cases hqi : qix c.qos s.qos < 0 <;> simp [hqi, ha]
end
end Go.Lite

namespace Go.Lite
open Go Go.Proofs
set_option linter.unusedVariables false
set_option linter.unusedSimpArgs false

section
variable {L m : Nat}
def isBig (c : Cfg) : Bool := decide (60 < c.cores.length) || decide (60 < c.parts.length) || decide (60 < c.accounts.length) || decide (60 < c.qos.length)
theorem c5 (hm : 1 ≤ m) (c : Cfg) : callP Try.prog hh L m 5 [c.pv] = some (Bo (isBig c)) := by
  obtain ⟨n, rfl⟩ : ∃ n, m = n + 1 := ⟨m - 1, by omega⟩
  refine callP_of rfl ?_
  rw [r5]
  have e1 : (60 : Int) < c.cores.length ↔ 60 < c.cores.length := by omega
  have e2 : (60 : Int) < c.parts.length ↔ 60 < c.parts.length := by omega
  have e3 : (60 : Int) < c.accounts.length ↔ 60 < c.accounts.length := by omega
  have e4 : (60 : Int) < c.qos.length ↔ 60 < c.qos.length := by omega
  simp only [d5_0, cfl, ck_true, cf0, cf1, cf2, cf3, ob_some, ln22, ln23, ln24, ln25, gtr_int, gcase_f, List.length_map, e1, e2, e3, e4, isBig]
  by_cases q1 : 60 < c.cores.length <;> by_cases q2 : 60 < c.parts.length <;> by_cases q3 : 60 < c.accounts.length <;> simp [q1, q2, q3]
theorem c3 (hm : 13 ≤ m) (hL : 100 < L) (c : Cfg) (s : Sp) (who : List ByteArray) (hc : isBig c = false → OkC L c) (hu : s.user.size + 1 < L) (hub : s.user.size ≤ 9223372036854775807) (haw : callP Try.prog hh L (m - 1) 6 [] = some (Bo true)) :
    callP Try.prog hh L m 3 [c.pv, s.pv, strs false who] = some (Bo true) := by
  obtain ⟨n, rfl⟩ : ∃ n, m = n + 1 := ⟨m - 1, by omega⟩
  refine callP_of rfl ?_
  rw [r3]
  simp only [Nat.add_sub_cancel] at haw
  simp only [d3_0, cfl, spl, ck_true, callD_clo, List.nil_append, List.append_nil, c5 (L := L) (show 1 ≤ n by omega) c, ob_some, gcase_f, haw, ln32, gtr_int, cb_bool, List.length_map]
  by_cases hb : isBig c = true
  · simp [hb]
  have hb : isBig c = false := by simpa using hb
  have hc := hc hb
  by_cases hw : (60 : Int) < who.length
  · simp [hb, hw]
  have h1 := hc.cores
  have h2 := hc.parts
  have h7 := c7 (L := L) (show 4 ≤ n by omega) hL c hc
  have h8 := c8 (L := L) (show 3 ≤ n by omega) c.parts s.part (by omega) (by omega)
  have h9 := c9 (L := L) (show 1 ≤ n by omega) c.parts s.part (by omega) (by omega)
  have h10 := c10 (L := L) (show 9 ≤ n by omega) hL c hc
  have h11 := c11 (L := L) (show 4 ≤ n by omega) hL c hc
  have h12 := c12 (L := L) (show 11 ≤ n by omega) hL c hc s hu
  have h13 := c13 (L := L) (show 6 ≤ n by omega) hL c hc s hu hub
  have h14 := c14 (L := L) (show 10 ≤ n by omega) c.accounts who (strs false who) s.account hc.acc (.inl ⟨false, rfl⟩) (by omega) (by omega)
  have h15 := c15 (L := L) (show 4 ≤ n by omega) c.accounts who false s.account hc.acc (by omega) (by omega)
  have h16 := c16 (L := L) (show 4 ≤ n by omega) hL c hc
  simp only [hb, hw, Bool.false_eq_true, if_false, decide_false, h7, ob_some, put28, cf1, cf2, sp1, sp3, h8, h9, h10, h11, h12, h13, h14, h15, h16, extract_tup, List.getElem?_cons_zero, List.getElem?_cons_succ, neq_int, neqb, bne_self_eq_false, ne_eq, not_true_eq_false, gcase_f, gcase_t, cb_bool, if_true]
end

/-! # the arguments of PartsTells -/
def partCT : List CT := [.str, .int .u32, .int .i64, .int .i64, .list 0 16 [.str]]
def qosCT : List CT := [.str, .int .i64, .int .i64, .int .i64]
def cfgCT : List CT := [.list 0 8 [.int .i64], .list 6 64 partCT, .list 4 40 [.str, .str, .int .i64], .list 5 40 qosCT, .int .u8]
def depCT : List CT := [.int .u8, .int .i64]
def spCT : List CT := [.str, .str, .str, .str, .int .i64, .int .i64, .int .i64, .list 3 16 depCT]

theorem u32_inv {d : PV} (h : Typed (.int .u32) d) : ∃ n : Nat, d = U n ∧ n < 2 ^ 32 := by
  cases h with
  | int h =>
    rename_i n
    have h' : (0 : Int) ≤ n ∧ n ≤ 4294967295 := by
      have : (decide (IntKind.u32.min ≤ n) && decide (n ≤ IntKind.u32.max)) = true := by simpa [Lit.wf] using h
      simp only [Bool.and_eq_true, decide_eq_true_eq] at this
      exact ⟨this.1, this.2⟩
    refine ⟨n.toNat, ?_, by omega⟩
    show _ = PV.sc (.int .u32 ((n.toNat : Nat) : Int))
    rw [Int.toNat_of_nonneg h'.1]
theorem rows_gen {T : Type} (lay k : Nat) (cts : List CT) (enc : T → PV) (ok : T → Prop)
    (h1 : ∀ xs : List PV, xs.length = cts.length → (∀ (i : Nat) (ct : CT) (x : PV), cts[i]? = some ct → xs[i]? = some x → Typed ct x) → ∃ t, rowPV lay xs = enc t ∧ ok t) :
    ∀ (rows : List (List PV)), (∀ xs ∈ rows, xs.length = cts.length) → (∀ xs ∈ rows, ∀ (i : Nat) (ct : CT) (x : PV), cts[i]? = some ct → xs[i]? = some x → Typed ct x) →
      ∃ l : List T, rows.map (rowPV lay) = l.map enc ∧ ∀ a ∈ l, ok a := by
  intro rows
  induction rows with
  | nil => intro _ _; exact ⟨[], rfl, by simp⟩
  | cons xs r ih =>
    intro g1 g2
    obtain ⟨l, hl, hb⟩ := ih (fun ys hy => g1 ys (List.mem_cons_of_mem _ hy)) (fun ys hy => g2 ys (List.mem_cons_of_mem _ hy))
    obtain ⟨t, ht, hok⟩ := h1 xs (g1 xs List.mem_cons_self) (g2 xs List.mem_cons_self)
    refine ⟨t :: l, by simp [hl, ht], fun a ha => ?_⟩
    rcases List.mem_cons.1 ha with rfl | ha
    · exact hok
    · exact hb a ha
theorem strs_inv' {d : PV} (h : Typed (.list 0 16 [.str]) d) : ∃ l, d = strs false l ∧ l.length ≤ 9223372036854775807 ∧ l.length * 16 ≤ appendRoom := by
  cases h with
  | list rows hm hb hl hx =>
    obtain ⟨l, e⟩ := rows_str rows hl hx
    have hlen : rows.length = l.length := by have := congrArg List.length e; simpa using this
    refine ⟨l, by rw [e], ?_, ?_⟩
    · rw [← hlen]; exact Nat.le_trans hm (by decide)
    · rw [← hlen]; exact Nat.le_trans hb (by decide)
def PtB (p : Pt) : Prop := p.accs.length ≤ 9223372036854775807 ∧ p.accs.length * 16 ≤ appendRoom ∧ p.name.size ≤ 9223372036854775807 ∧ p.nodes < 2 ^ 32
theorem part_inv (xs : List PV) (hl : xs.length = partCT.length) (h : ∀ (i : Nat) (ct : CT) (x : PV), partCT[i]? = some ct → xs[i]? = some x → Typed ct x) : ∃ t : Pt, rowPV 6 xs = t.pv ∧ PtB t := by
  match xs, hl with
  | [a, b, c, d, e], _ =>
    obtain ⟨s, rfl, hs⟩ := str_inv (h 0 _ _ rfl rfl)
    obtain ⟨n, rfl, hn⟩ := u32_inv (h 1 _ _ rfl rfl)
    obtain ⟨p, rfl⟩ := int_inv (h 2 _ _ rfl rfl)
    obtain ⟨q, rfl⟩ := int_inv (h 3 _ _ rfl rfl)
    obtain ⟨l, rfl, h1, h2⟩ := strs_inv' (h 4 _ _ rfl rfl)
    exact ⟨⟨s, n, p, q, l⟩, rfl, h1, h2, hs, hn⟩
theorem qos_inv (xs : List PV) (hl : xs.length = qosCT.length) (h : ∀ (i : Nat) (ct : CT) (x : PV), qosCT[i]? = some ct → xs[i]? = some x → Typed ct x) : ∃ t : Qs, rowPV 5 xs = t.pv ∧ t.name.size ≤ 9223372036854775807 := by
  match xs, hl with
  | [a, b, c, d], _ =>
    obtain ⟨s, rfl, hs⟩ := str_inv (h 0 _ _ rfl rfl)
    obtain ⟨p, rfl⟩ := int_inv (h 1 _ _ rfl rfl)
    obtain ⟨q, rfl⟩ := int_inv (h 2 _ _ rfl rfl)
    obtain ⟨r, rfl⟩ := int_inv (h 3 _ _ rfl rfl)
    exact ⟨⟨s, p, q, r⟩, rfl, hs⟩
theorem int_row (xs : List PV) (hl : xs.length = [CT.int .i64].length) (h : ∀ (i : Nat) (ct : CT) (x : PV), [CT.int .i64][i]? = some ct → xs[i]? = some x → Typed ct x) : ∃ t : Int, rowPV 0 xs = I t ∧ True := by
  match xs, hl with
  | [a], _ =>
    obtain ⟨p, rfl⟩ := int_inv (h 0 _ _ rfl rfl)
    exact ⟨p, rfl, trivial⟩
theorem pts_inv {d : PV} (h : Typed (.list 6 64 partCT) d) : ∃ l, d = pts l ∧ ∀ a ∈ l, PtB a := by
  cases h with
  | list rows hm hb hl hx =>
    obtain ⟨l, e, hok⟩ := rows_gen 6 0 partCT Pt.pv PtB part_inv rows hl hx
    exact ⟨l, by rw [e], hok⟩
theorem qss_inv {d : PV} (h : Typed (.list 5 40 qosCT) d) : ∃ l : List Qs, d = qss l ∧ ∀ a ∈ l, a.name.size ≤ 9223372036854775807 := by
  cases h with
  | list rows hm hb hl hx =>
    obtain ⟨l, e, hok⟩ := rows_gen 5 0 qosCT Qs.pv (fun a => a.name.size ≤ 9223372036854775807) qos_inv rows hl hx
    exact ⟨l, by rw [e], hok⟩
theorem intz_inv {d : PV} (h : Typed (.list 0 8 [.int .i64]) d) : ∃ l, d = intz false l := by
  cases h with
  | list rows hm hb hl hx =>
    obtain ⟨l, e, _⟩ := rows_gen 0 0 [.int .i64] (fun i => I i) (fun _ => True) int_row rows hl hx
    exact ⟨l, by rw [e]⟩
theorem main3 (haw : callP Try.prog hh 1000 40 6 [] = some (Bo true)) (a b w : PV) (ha : TypedA (6, cfgCT) a) (hb : TypedA (9, spCT) b) (hw : TypedA (0, [.list 0 16 [.str]]) w) :
    ∃ L n, callP Try.prog hh L n 3 [a, b, w] = some (Bo true) := by
  obtain ⟨who, rfl⟩ := strs_inv hw.cell
  obtain ⟨xs, rfl, hxl, hx⟩ := ha
  obtain ⟨ys, rfl, hyl, hy⟩ := hb
  match xs, hxl with
  | [x0, x1, x2, x3, x4], _ =>
    obtain ⟨cores, rfl⟩ := intz_inv (hx 0 _ _ rfl rfl)
    obtain ⟨parts, rfl, hpb⟩ := pts_inv (hx 1 _ _ rfl rfl)
    obtain ⟨acc, rfl, hab⟩ := accs_inv (hx 2 _ _ rfl rfl)
    obtain ⟨qos, rfl, hqb⟩ := qss_inv (hx 3 _ _ rfl rfl)
    obtain ⟨pol, rfl⟩ := int_inv (hx 4 _ _ rfl rfl)
    match ys, hyl with
    | [y0, y1, y2, y3, y4, y5, y6, y7], _ =>
      obtain ⟨user, rfl, hub⟩ := str_inv (hy 0 _ _ rfl rfl)
      obtain ⟨account, rfl, _⟩ := str_inv (hy 1 _ _ rfl rfl)
      obtain ⟨qn, rfl, _⟩ := str_inv (hy 2 _ _ rfl rfl)
      obtain ⟨part, rfl, _⟩ := str_inv (hy 3 _ _ rfl rfl)
      obtain ⟨nodes, rfl⟩ := int_inv (hy 4 _ _ rfl rfl)
      obtain ⟨co, rfl⟩ := int_inv (hy 5 _ _ rfl rfl)
      obtain ⟨lim, rfl⟩ := int_inv (hy 6 _ _ rfl rfl)
      obtain ⟨deps, rfl⟩ : ∃ ds, y7 = .list 3 false ds := by
        have := hy 7 _ _ rfl rfl
        cases this with
        | list rows _ _ _ _ => exact ⟨_, rfl⟩
      obtain ⟨B1, hB1⟩ := list_bound (fun a : Acc => a.name.size) acc
      obtain ⟨B2, hB2⟩ := list_bound (fun a : Qs => a.name.size) qos
      obtain ⟨B3, hB3⟩ := list_bound (fun a : Pt => a.name.size + a.accs.length) parts
      let c : Cfg := ⟨cores, parts, acc, qos, pol⟩
      let s : Sp := ⟨user, account, qn, part, nodes, co, lim, deps⟩
      refine ⟨B1 + B2 + B3 + user.size + 1001, 60, c3 (by omega) (by omega) c s who (fun hb => ?_) (by show user.size + 1 < _; omega) hub (callP_mono (by omega) (by omega) haw)⟩
      have hbig : cores.length ≤ 60 ∧ parts.length ≤ 60 ∧ acc.length ≤ 60 ∧ qos.length ≤ 60 := by
        simp only [isBig, Bool.or_eq_false_iff, decide_eq_false_iff_not] at hb
        obtain ⟨⟨⟨g1, g2⟩, g3⟩, g4⟩ := hb
        exact ⟨by show cores.length ≤ 60; have : ¬ 60 < cores.length := g1; omega, by have : ¬ 60 < parts.length := g2; omega, by have : ¬ 60 < acc.length := g3; omega, by have : ¬ 60 < qos.length := g4; omega⟩
      obtain ⟨g1, g2, g3, g4⟩ := hbig
      exact ⟨g1, g2, g4, ⟨by show acc.length < _; omega, by show acc.length < _; omega, fun a ha => by have := hB1 a ha; omega, hab⟩, g3,
        fun p hp => by
          obtain ⟨q1, q2, q3, q4⟩ := hpb p hp
          have := hB3 p hp
          exact ⟨q1, by omega, q2, by omega, q3, q4⟩,
        fun q hq => by have := hB2 q hq; omega, hqb⟩
end Go.Lite
