import Derived.Test.YthaldjolmmmahaaKa
set_option linter.unusedVariables false
set_option linter.unusedSimpArgs false

namespace Go.Lite
open Go Go.Proofs
set_option linter.unusedVariables false
set_option linter.unusedSimpArgs false
set_option maxRecDepth 100000
theorem y5' : layOf Try.prog 5 = some 0 := y5
@[simp] theorem ia27 (c : Bool) (xs : List PV) (i : Nat) : indexAddrPV Try.prog 27 (.list 0 c xs) (I i) = (xs[i]?).map (.ro 0) := indexAddr_list u27 y5 c xs i
@[simp] theorem ld5 (d : PV) : loadPV Try.prog 5 (.ro 0 d) = some d := load_ro y5 d
theorem y37 : layOf Try.prog 37 = some 0 := by kernel_rfl
@[simp] theorem ld37 (d : PV) : loadPV Try.prog 37 (.ro 0 d) = some d := load_ro y37 d
@[simp] theorem pk2 (p : Pk) : PV.at_ 5 2 0 p.pv = some (I p.t) := rfl
@[simp] theorem ld31 (p : Pk) : loadPV Try.prog 31 (.ro 5 p.pv) = some p.pv := load_ro y31 p.pv
noncomputable def okByte (k : Nat) : Bool := 
  (match convPV Try.prog 5 3 (U k) with | some (.sc (.int .i64 n)) => decide (n = (k : Int)) | _ => false) &&
  (match binPV Try.prog .or 3 (.const (.int .i64 0)) (.const (.int .i64 0)) (I 0) (I k) with | some (.sc (.int .i64 n)) => decide (n = (k : Int)) | _ => false)
theorem bytes_ok : (List.range 100).all okByte = true := by kernel_rfl
theorem conv_byte {k : Nat} (hk : k < 100) : convPV Try.prog 5 3 (U k) = some (I k) := by
  have h := List.all_eq_true.1 bytes_ok k (List.mem_range.2 hk)
  unfold okByte at h
  rw [Bool.and_eq_true] at h
  have h := h.1
  split at h
  · rename_i n hn; simp at h; rw [hn, h]
  · cases h
theorem or_ops (x y x' y' : Operand) (a b : Int) : binPV Try.prog .or 3 x y (I a) (I b) = binPV Try.prog .or 3 x' y' (I a) (I b) := by
  simp [binPV, PV.plain?, eqGuard]
theorem or_byte {k : Nat} (hk : k < 100) (x y : Operand) : binPV Try.prog .or 3 x y (I 0) (I k) = some (I k) := by
  have h := List.all_eq_true.1 bytes_ok k (List.mem_range.2 hk)
  unfold okByte at h
  rw [Bool.and_eq_true] at h
  have h := h.2
  rw [or_ops x y (.const (.int .i64 0)) (.const (.int .i64 0))]
  split at h
  · rename_i n hn; simp at h; rw [hn, h]
  · cases h
theorem shl0 (x y : Operand) : binPV Try.prog .shl 3 x y (I 0) (.sc (.int .u64 8)) = some (I 0) := by
  simp [binPV, PV.plain?, eqGuard, binOp]; rfl
section
variable {L m : Nat}
theorem c16 (hL : 1000 ≤ L) (hm : 40 ≤ m) (n k s : Nat) (hk : k < 100) (hs : k < s) (ow : List Int) (ho : ow[n]? = some ((k : Int) + 1)) :
    callP Try.prog hh L m 16 [(⟨n, k, (k : Int) + 1, bodyF k⟩ : Pk).pv, I 0, .ro 0 (I s), .ro 0 (.list 0 false (ow.map I))] = some (Bo true) := by
  obtain ⟨q, rfl⟩ : ∃ q, m = q + 1 + 1 := ⟨m - 2, by omega⟩
  refine callP_of (by kernel_rfl) ?_
  obtain ⟨_, r, hb, hr⟩ := body_is hk
  have h8 := c18 (L := L) (m := q + 1) hL (by omega) hk
  have h7 := c17 (L := L) (m := q + 1) (by omega) (bodyF k)
  have h0 := conv_byte (k := 0) (by omega)
  have hc := conv_byte hk
  have hadd : ∀ x y : Operand, binPV Try.prog .add 3 x y (I (k : Int)) (I 1) = some (I ((k : Int) + 1)) := fun x y => add_int' _ _ _ _ _ _ (by omega)
  have hlt : (k : Int) < s := by omega
  have hlen : ((bodyF k).map U).length = r.length + 2 := by rw [hb]; simp
  have hx0 : ((bodyF k).map U)[0]? = some (U 0) := by rw [hb]; rfl
  have hx1 : ((bodyF k).map U)[1]? = some (U k) := by rw [hb]; rfl
  have e0 : indexAddrPV Try.prog 27 (B (bodyF k)) (I 0) = some (.ro 0 (U 0)) := by
    have := ia27 false ((bodyF k).map U) 0
    rw [hx0] at this; exact this
  have e1 : indexAddrPV Try.prog 27 (B (bodyF k)) (I 1) = some (.ro 0 (U k)) := by
    have := ia27 false ((bodyF k).map U) 1
    rw [hx1] at this; exact this
  have eo : indexAddrPV Try.prog 37 (.list 0 false (ow.map I)) (I n) = some (.ro 0 (I ((k : Int) + 1))) := by
    rw [ia37, List.getElem?_map, ho]; rfl
  have el : (lenPV Try.prog 27 (B (bodyF k))).map (fun n => I n) = some (I (r.length + 2 : Nat)) := by
    have := ln27 false ((bodyF k).map U)
    rw [hlen] at this; exact this
  have h2 : ¬ ((r.length + 2 : Nat) : Int) < 2 := by omega
  have h0' : convPV Try.prog 5 3 (U 0) = some (I 0) := h0
  rw [r16]
  simp only [d16_0, pkl, ck_true, neq_int, ne_eq, not_true_eq_false, decide_false, ob_some, gcase_f, Bool.false_eq_true, if_false, pk3, goI, el, lss_int, h2, cb_bool, e0, ld5, h0', shl0, e1, hc, or_byte hk, ld3, hlt, decide_true, gcase_t, if_true,
    pk1, eql_int, pk2, hadd, callD, List.nil_append, List.append_nil, okK, h8, h7, ld37, pk0, eo]
end
end Go.Lite

namespace Go.Lite
open Go Go.Proofs
set_option linter.unusedVariables false
set_option linter.unusedSimpArgs false
set_option maxRecDepth 100000
theorem setI {xs : List Int} {i : Nat} (v : Int) (hi : i < xs.length) : (((xs.map I)[i]?).bind fun y => (putPV 0 0 0 (.pv y) (I v)).map fun z => List.set (xs.map I) i z) = some ((xs.set i v).map I) := by
  rw [List.getElem?_map, List.getElem?_eq_getElem hi]
  simp [List.map_set]
theorem getI {xs : List Int} {i : Nat} {v : Int} (h : xs[i]? = some v) : (((xs.map I)[i]?).bind fun x => x.at_ 0 0 0) = some (I v) := by
  rw [List.getElem?_map, h]; simp
theorem idxI {xs : List Int} {i : Nat} (hi : i < xs.length) : idxArr 0 0 (xs.map I).length (I i) = some i := idxArr_nat (by simpa using hi)
theorem sum_set {xs : List Int} : ∀ {i : Nat} {a : Int} (v : Int), xs[i]? = some a → (xs.set i v).sum = xs.sum - a + v := by
  induction xs with
  | nil => intro i a v h; simp at h
  | cons x r ih =>
    intro i a v h
    cases i with
    | zero => simp at h; subst h; simp; omega
    | succ i => simp at h; simp [ih v h]; omega
theorem updM_new {l : List Pk} {k : Int} {d : PV} (h : ∀ p ∈ l, p.n < k) : updM k d (ents l) = ents l ++ [(k, d)] := by
  induction l with
  | nil => rfl
  | cons p r ih =>
    have h1 := h p (by simp)
    have h2 : (p.n == k) = false := by simp; omega
    simp only [ents, List.map_cons, updM, h2, cond_false, List.cons_append]
    have := ih fun q hq => h q (by simp [hq])
    simp only [ents] at this
    rw [this]
theorem delM_ents {l : List Pk} (hr : Rise l) : ∀ {k : Nat} {p : Pk}, l[k]? = some p → delM p.n (ents l) = ents (l.eraseIdx k) := by
  induction l with
  | nil => intro k p h; simp at h
  | cons q r ih =>
    intro k p h
    have h1 := List.pairwise_cons.1 hr
    cases k with
    | zero => simp at h; subst h; simp [ents, delM]
    | succ k =>
      simp at h
      have h2 := h1.1 p (List.mem_of_getElem? h)
      have h3 : (q.n == p.n) = false := by simp; omega
      have := ih h1.2 h
      simp only [ents] at this
      simp [ents, delM, h3, this]
theorem bs37 (v : Int) : buildSliceAV Try.prog 37 1 [(0, I v)] = some (.list 0 true [I v]) := by kernel_rfl

/-- what is on its way -/
structure Good (i : Nat) (l : List Pk) (last sent lost dl : Nat) (ow cp : List Int) : Prop where
  rise : Rise l
  one : ∀ p ∈ l, ∃ n k : Nat, 0 < n ∧ n ≤ last ∧ k < sent ∧ p = ⟨n, k, (k : Int) + 1, bodyF k⟩ ∧ ow[n]? = some ((k : Int) + 1)
  hl : l.length ≤ i
  hlast : last ≤ i
  hsent : sent ≤ i
  hlost : lost ≤ i
  hdl : dl ≤ i
  ol : ow.length = 400
  cl : cp.length = sent
  cb : ∀ c ∈ cp, -(i : Int) ≤ c ∧ c ≤ i
  s1 : (dl : Int) + l.length = cp.sum
  s2 : (last : Int) = cp.sum + lost
section
variable {i last sent lost dl : Nat} {l : List Pk} {ow cp : List Int}
theorem Good.key (h : Good i l last sent lost dl ow cp) (hi : i ≤ 100) : ∀ p ∈ l, keyOK p.n = true := fun p hp => by
  obtain ⟨n, k, h1, h2, h3, rfl, h4⟩ := h.one p hp
  have := h.hlast
  simp [keyOK]; omega
theorem Good.body (h : Good i l last sent lost dl ow cp) (hi : i ≤ 100) : ∀ p ∈ l, p.b.length ≤ 65545 := fun p hp => by
  obtain ⟨n, k, h1, h2, h3, rfl, h4⟩ := h.one p hp
  have := h.hsent
  exact body_len (by omega)
theorem Good.below (h : Good i l last sent lost dl ow cp) : ∀ p ∈ l, p.n < (last : Int) + 1 := fun p hp => by
  obtain ⟨n, k, h1, h2, h3, rfl, h4⟩ := h.one p hp
  show (n : Int) < _
  omega
theorem ow_set {n : Nat} {v w : Int} (h : ow[n]? = some w) (hn : n ≤ last) : (ow.set (last + 1) v)[n]? = some w := by
  rw [List.getElem?_set_ne (by omega)]; exact h
theorem Good.skip (h : Good i l last sent lost dl ow cp) : Good (i + 1) l last sent lost dl ow cp where
  rise := h.rise
  one := h.one
  hl := Nat.le_succ_of_le h.hl
  hlast := Nat.le_succ_of_le h.hlast
  hsent := Nat.le_succ_of_le h.hsent
  hlost := Nat.le_succ_of_le h.hlost
  hdl := Nat.le_succ_of_le h.hdl
  ol := h.ol
  cl := h.cl
  cb := fun c hc => by have := h.cb c hc; omega
  s1 := h.s1
  s2 := h.s2
theorem rise_add (hr : Rise l) (hb : ∀ p ∈ l, p.n < (last : Int) + 1) (q : Pk) (hq : q.n = (last : Int) + 1) : Rise (l ++ [q]) :=
  List.pairwise_append.2 ⟨hr, by simp, fun p hp r hr => by simp at hr; subst hr; have := hb p hp; omega⟩
theorem Good.send (h : Good i l last sent lost dl ow cp) (hi : i < 100) : Good (i + 1) (l ++ [⟨(last : Int) + 1, sent, (sent : Int) + 1, bodyF sent⟩]) (last + 1) (sent + 1) lost dl (ow.set (last + 1) ((sent : Int) + 1)) (cp ++ [1]) where
  rise := rise_add h.rise h.below _ rfl
  one p hp := by
    simp only [List.mem_append, List.mem_singleton] at hp
    rcases hp with hp | rfl
    · obtain ⟨n, k, h1, h2, h3, h5, h4⟩ := h.one p hp
      exact ⟨n, k, h1, by omega, by omega, h5, ow_set h4 h2⟩
    · refine ⟨last + 1, sent, by omega, by omega, by omega, by simp, ?_⟩
      have := h.ol; have := h.hlast
      rw [List.getElem?_set_self (by omega)]
  hl := by simp; exact h.hl
  hlast := Nat.succ_le_succ h.hlast
  hsent := Nat.succ_le_succ h.hsent
  hlost := Nat.le_succ_of_le h.hlost
  hdl := Nat.le_succ_of_le h.hdl
  ol := by simp [h.ol]
  cl := by simp [h.cl]
  cb := fun c hc => by
    simp only [List.mem_append, List.mem_singleton] at hc
    rcases hc with hc | rfl
    · have := h.cb c hc; omega
    · omega
  s1 := by have := h.s1; simp; omega
  s2 := by have := h.s2; simp; omega
theorem len_erase {q : Nat} {p : Pk} (hq : l[q]? = some p) : (l.eraseIdx q).length + 1 = l.length := by
  have := (List.getElem?_eq_some_iff.1 hq).1
  rw [List.length_eraseIdx]; simp [this]; omega
theorem Good.deliver (h : Good i l last sent lost dl ow cp) {q : Nat} {p : Pk} (hq : l[q]? = some p) : Good (i + 1) (l.eraseIdx q) last sent lost (dl + 1) ow cp where
  rise := h.rise.sublist (List.eraseIdx_sublist ..)
  one r hr := h.one r (List.mem_of_mem_eraseIdx hr)
  hl := by have := len_erase hq; have := h.hl; omega
  hlast := Nat.le_succ_of_le h.hlast
  hsent := Nat.le_succ_of_le h.hsent
  hlost := Nat.le_succ_of_le h.hlost
  hdl := Nat.succ_le_succ h.hdl
  ol := h.ol
  cl := h.cl
  cb := fun c hc => by have := h.cb c hc; omega
  s1 := by have := h.s1; have := len_erase hq; omega
  s2 := h.s2
theorem Good.drop (h : Good i l last sent lost dl ow cp) {q k : Nat} {p : Pk} {c : Int} (hq : l[q]? = some p) (hc : cp[k]? = some c) : Good (i + 1) (l.eraseIdx q) last sent (lost + 1) dl ow (cp.set k (c - 1)) where
  rise := h.rise.sublist (List.eraseIdx_sublist ..)
  one r hr := h.one r (List.mem_of_mem_eraseIdx hr)
  hl := by have := len_erase hq; have := h.hl; omega
  hlast := Nat.le_succ_of_le h.hlast
  hsent := Nat.le_succ_of_le h.hsent
  hlost := Nat.succ_le_succ h.hlost
  hdl := Nat.le_succ_of_le h.hdl
  ol := h.ol
  cl := by simp [h.cl]
  cb := fun x hx => by
    have h1 := h.cb c (List.mem_of_getElem? hc)
    rcases List.mem_or_eq_of_mem_set hx with hx | rfl
    · have := h.cb x hx; omega
    · omega
  s1 := by have := h.s1; have := len_erase hq; rw [sum_set _ hc]; omega
  s2 := by have := h.s2; rw [sum_set _ hc]; omega
theorem Good.double (h : Good i l last sent lost dl ow cp) (hi : i < 100) {q n k : Nat} {c : Int} (hq : l[q]? = some ⟨n, k, (k : Int) + 1, bodyF k⟩) (hk : k < sent) (hc : cp[k]? = some c) :
    Good (i + 1) (l ++ [⟨(last : Int) + 1, k, (k : Int) + 1, bodyF k⟩]) (last + 1) sent lost dl (ow.set (last + 1) ((k : Int) + 1)) (cp.set k (c + 1)) where
  rise := rise_add h.rise h.below _ rfl
  one p hp := by
    simp only [List.mem_append, List.mem_singleton] at hp
    rcases hp with hp | rfl
    · obtain ⟨n, k, h1, h2, h3, h5, h4⟩ := h.one p hp
      exact ⟨n, k, h1, by omega, by omega, h5, ow_set h4 h2⟩
    · refine ⟨last + 1, k, by omega, by omega, hk, by simp, ?_⟩
      have := h.ol; have := h.hlast
      rw [List.getElem?_set_self (by omega)]
  hl := by simp; exact h.hl
  hlast := Nat.succ_le_succ h.hlast
  hsent := Nat.le_succ_of_le h.hsent
  hlost := Nat.le_succ_of_le h.hlost
  hdl := Nat.le_succ_of_le h.hdl
  ol := by simp [h.ol]
  cl := by simp [h.cl]
  cb := fun x hx => by
    have h1 := h.cb c (List.mem_of_getElem? hc)
    rcases List.mem_or_eq_of_mem_set hx with hx | rfl
    · have := h.cb x hx; omega
    · omega
  s1 := by have := h.s1; rw [sum_set _ hc]; simp; omega
  s2 := by have := h.s2; rw [sum_set _ hc]; omega
end
end Go.Lite

namespace Go.Lite
open Go Go.Proofs
set_option linter.unusedVariables false
set_option linter.unusedSimpArgs false
set_option maxRecDepth 100000
section
variable {L m : Nat} {i last sent lost dl : Nat} {l : List Pk} {ow cp : List Int} {R : Type}
  (kr : PV → PV → List (Int × PV) → PV → List PV → List PV → Option R) (kg : PV → PV → PV → PV → PV → PV → List (Int × PV) → PV → List PV → List PV → Option R) (v0 v5 v6 : PV)
theorem addI (a : Int) (h : 0 ≤ a ∧ a < 100000) (x y : Operand) : binPV Try.prog .add 3 x y (I a) (I 1) = some (I (a + 1)) := add_int' _ _ _ _ _ _ (by omega)
theorem q_send (hL : 1000 ≤ L) (hm : 50 ≤ m) (h : Good i l last sent lost dl ow cp) (hi : i < 100) :
    d4_4 (kk L m) L kr kg v0 (I lost) (I last) (I dl) (I i) v5 v6 (Bo true) (I last) (ents l) (I sent) (cp.map I) (ow.map I) =
      kg v0 (I lost) (I (last + 1 : Nat)) (I dl) (I (i + 1 : Nat)) (I (last + 1 : Nat)) (ents (l ++ [⟨(last : Int) + 1, sent, (sent : Int) + 1, bodyF sent⟩])) (I (sent + 1 : Nat)) ((cp ++ [1]).map I) ((ow.set (last + 1) ((sent : Int) + 1)).map I) := by
  have h1 := h.hlast; have h2 := h.hsent; have h3 := h.hl; have h4 := h.ol; have h5 := h.cl
  have hs := c10 (L := L) (m := m) (by omega) (ents l) last sent ((sent : Int) + 1) (bodyF sent) (by simp [ents]; omega) (by omega) (body_len (by omega))
  have hu : updM ((last : Int) + 1) (⟨(last : Int) + 1, sent, (sent : Int) + 1, bodyF sent⟩ : Pk).pv (ents l) = ents (l ++ [⟨(last : Int) + 1, sent, (sent : Int) + 1, bodyF sent⟩]) := by
    rw [updM_new h.below]; simp [ents]
  rw [hu] at hs
  have h8 := c18 (L := L) (m := m) hL (by omega) (k := sent) (by omega)
  have ha1 := addI (sent : Int) (by omega)
  have ha2 := addI (last : Int) (by omega)
  have ha3 := addI (i : Int) (by omega)
  have hset := setI (xs := ow) (i := last + 1) ((sent : Int) + 1) (by omega)
  simp only [put_I] at hset
  have hidx : idxArr 0 0 (ow.map I).length (I ((last : Int) + 1)) = some (last + 1) := by
    have := idxI (xs := ow) (i := last + 1) (by omega)
    rw [show (((last + 1 : Nat)) : Int) = (last : Int) + 1 by omega] at this; exact this
  have happ := appendTo_ints (cp.map I) [I 1] true (by simp; omega)
  simp only [d4_4, cb_bool, if_true, ob_some, ha1, callD, okK, List.nil_append, List.append_nil, h8, ckR, ckB_true, hs, om_pair, fm_m, fp_p, fnil_nil, r1_pure, extract_tup, List.getElem?_cons_zero, List.getElem?_cons_succ, neq_int, ne_eq, not_true_eq_false, decide_false,
    gcase_f, Bool.false_eq_true, if_false, ha2, put_I, onat_some, hidx, hset, oxs_some, bs37, happ, ha3, List.map_append, List.map_cons, List.map_nil, Int.natCast_add, Int.cast_ofNat_Int]


theorem quo5 (w : Nat) (hw : w < 1000003) (x y : Operand) : binPV Try.prog .quo 3 x y (I w) (I 5) = some (I (w / 5 : Nat)) := by
  have := quo_pos Try.prog 3 x y w 5 (by omega) (by omega) (by omega)
  simpa using this
theorem remN (w k : Nat) (hk : 0 < k) (x y : Operand) : binPV Try.prog .rem 3 x y (I w) (I k) = some (I (w % k : Nat)) := by
  have := rem_pos Try.prog 3 x y w k (by omega) (by omega)
  simpa using this
theorem rem5 (w : Nat) (x y : Operand) : binPV Try.prog .rem 3 x y (I w) (I 5) = some (I (w % 5 : Nat)) := remN w 5 (by omega) x y
abbrev lpv (l : List Pk) : PV := .list 5 false (l.map Pk.pv)
theorem q_deliver (hL : 1000 ≤ L) (hm : 50 ≤ m) (h : Good i l last sent lost dl ow cp) (hi : i < 100) (w q : Nat) (hw : w < 1000003) (h5 : w % 5 = 2) (p : Pk) (hq : w / 5 % l.length = q) (hp : l[q]? = some p) :
    d4_4 (kk L m) L kr kg v0 (I lost) (I last) (I dl) (I i) (I w) (lpv l) (Bo false) (I last) (ents l) (I sent) (cp.map I) (ow.map I) =
      kg v0 (I lost) (I last) (I (dl + 1 : Nat)) (I (i + 1 : Nat)) (I last) (ents (l.eraseIdx q)) (I sent) (cp.map I) (ow.map I) := by
  have hmem := List.mem_of_getElem? hp
  obtain ⟨n, k, k1, k2, k3, rfl, k4⟩ := h.one p hmem
  have h1 := h.hlast; have h2 := h.hsent; have h3 := h.hl; have h4 := h.ol; have h6 := h.cl; have h7 := h.hdl
  have hlen : 0 < l.length := by have := (List.getElem?_eq_some_iff.1 hp).1; omega
  have hs := c13 (L := L) (m := m) (by omega) (ents l) last n ⟨n, k, (k : Int) + 1, bodyF k⟩ (findM_ents h.rise hmem) (body_len (by omega))
  rw [show delM (n : Int) (ents l) = ents (l.eraseIdx q) from delM_ents h.rise hp] at hs
  have hc := c16 (L := L) (m := m) hL (by omega) n k sent (by omega) k3 ow k4
  have ha1 := addI (dl : Int) (by omega)
  have ha3 := addI (i : Int) (by omega)
  have hrl := remN (w / 5) l.length hlen
  simp only [d4_4, cb_bool, Bool.false_eq_true, if_false, quo5 w hw, ob_some, ln34, goI, List.length_map, hrl, ia34, hq, List.getElem?_map, hp, Option.map_some, ld31, putA, putZ, rem5, h5, eql_int, pk0, ckR, ckB_true, hs, om_pair, fm_m, fp_p, fnil_nil, r1_pure,
    extract_tup, List.getElem?_cons_zero, List.getElem?_cons_succ, callD, okK, List.nil_append, List.cons_append, hc, okAns, PV.tame, not_bool, Bool.not_true, ha1, ha3, Int.natCast_add, Int.cast_ofNat_Int, decide_true, if_true]
end
end Go.Lite

namespace Go.Lite
open Go Go.Proofs
set_option linter.unusedVariables false
set_option linter.unusedSimpArgs false
set_option maxRecDepth 100000
section
variable {L m : Nat} {i last sent lost dl : Nat} {l : List Pk} {ow cp : List Int} {R : Type}
  (kr : PV → PV → List (Int × PV) → PV → List PV → List PV → Option R) (kg : PV → PV → PV → PV → PV → PV → List (Int × PV) → PV → List PV → List PV → Option R) (v0 : PV)
theorem subI (a : Int) (h : -100000 < a ∧ a < 100000) (x y : Operand) : binPV Try.prog .sub 3 x y (I a) (I 1) = some (I (a - 1)) := sub_int _ _ _ _ _ _ (by omega)
theorem addI' (a : Int) (h : -100000 < a ∧ a < 100000) (x y : Operand) : binPV Try.prog .add 3 x y (I a) (I 1) = some (I (a + 1)) := add_int' _ _ _ _ _ _ (by omega)
theorem q_drop (hL : 1000 ≤ L) (hm : 50 ≤ m) (h : Good i l last sent lost dl ow cp) (hi : i < 100) (w q : Nat) (hw : w < 1000003) (h5 : w % 5 = 3) (n k : Nat) (c : Int) (hq : w / 5 % l.length = q) (hp : l[q]? = some ⟨n, k, (k : Int) + 1, bodyF k⟩) (hk : k < sent) (hn : n ≤ last) (ho : ow[n]? = some ((k : Int) + 1)) (hc : cp[k]? = some c) :
    d4_4 (kk L m) L kr kg v0 (I lost) (I last) (I dl) (I i) (I w) (lpv l) (Bo false) (I last) (ents l) (I sent) (cp.map I) (ow.map I) =
      kg v0 (I (lost + 1 : Nat)) (I last) (I dl) (I (i + 1 : Nat)) (I last) (ents (l.eraseIdx q)) (I sent) ((cp.set k (c - 1)).map I) (ow.map I) := by
  have hmem := List.mem_of_getElem? hp
  have h1 := h.hlast; have h2 := h.hsent; have h3 := h.hl; have h4 := h.ol; have h6 := h.cl; have h7 := h.hlost
  have hcb := h.cb c (List.mem_of_getElem? hc)
  have hlen : 0 < l.length := by have := (List.getElem?_eq_some_iff.1 hp).1; omega
  have hs := c12 (L := L) (m := m) (by omega) (ents l) last n ⟨n, k, (k : Int) + 1, bodyF k⟩ (findM_ents h.rise hmem) (body_len (by omega))
  rw [show delM (n : Int) (ents l) = ents (l.eraseIdx q) from delM_ents h.rise hp] at hs
  have ha1 := addI (lost : Int) (by omega)
  have ha3 := addI (i : Int) (by omega)
  have hs1 := subI ((k : Int) + 1) (by omega)
  have hs2 := subI c (by omega)
  rw [show (k : Int) + 1 - 1 = k by omega] at hs1
  have hrl := remN (w / 5) l.length hlen
  have hi1 := idxI (xs := ow) (i := n) (by omega)
  have hi2 := idxI (xs := cp) (i := k) (by omega)
  have hg1 := getI ho
  have hg2 := getI hc
  have hset := setI (xs := cp) (i := k) (c - 1) (by omega)
  simp only [put_I, at_0] at hset hg1 hg2
  simp only [d4_4, cb_bool, Bool.false_eq_true, if_false, quo5 w hw, ob_some, ln34, goI, List.length_map, hrl, ia34, hq, List.getElem?_map, hp, Option.map_some, ld31, putA, putZ, rem5, h5, eql_int, pk0, ckR, ckB_true, hs, om_pair, fm_m, fp_p, fnil_nil, r1_pure,
    neq_int, ne_eq, not_true_eq_false, decide_false, Int.cast_ofNat_Int, decide_true, if_true, show ¬ ((3 : Int) = 2) by omega]
  simp only [List.length_map, List.getElem?_map] at hi1 hi2 hg1 hg2 hset
  simp only [List.length_map, List.getElem?_map, hi1, onat_some, hg1, at_0, ob_some, hs1, hi2, hg2, hs2, put_I, hset, oxs_some, ha1, ha3, Int.natCast_add, Int.cast_ofNat_Int]
theorem q_double (hL : 1000 ≤ L) (hm : 50 ≤ m) (h : Good i l last sent lost dl ow cp) (hi : i < 100) (w q : Nat) (hw : w < 1000003) (h5 : w % 5 = 4) (n k : Nat) (c : Int) (hq : w / 5 % l.length = q) (hp : l[q]? = some ⟨n, k, (k : Int) + 1, bodyF k⟩) (hk : k < sent) (hn : n ≤ last) (ho : ow[n]? = some ((k : Int) + 1)) (hc : cp[k]? = some c) :
    d4_4 (kk L m) L kr kg v0 (I lost) (I last) (I dl) (I i) (I w) (lpv l) (Bo false) (I last) (ents l) (I sent) (cp.map I) (ow.map I) =
      kg v0 (I lost) (I (last + 1 : Nat)) (I dl) (I (i + 1 : Nat)) (I (last + 1 : Nat)) (ents (l ++ [⟨(last : Int) + 1, k, (k : Int) + 1, bodyF k⟩])) (I sent) ((cp.set k (c + 1)).map I) ((ow.set (last + 1) ((k : Int) + 1)).map I) := by
  have hmem := List.mem_of_getElem? hp
  have h1 := h.hlast; have h2 := h.hsent; have h3 := h.hl; have h4 := h.ol; have h6 := h.cl; have h7 := h.hlost
  have hcb := h.cb c (List.mem_of_getElem? hc)
  have hlen : 0 < l.length := by have := (List.getElem?_eq_some_iff.1 hp).1; omega
  have hs := c11 (L := L) (m := m) (by omega) (ents l) last n ⟨n, k, (k : Int) + 1, bodyF k⟩ (findM_ents h.rise hmem) (by simp [ents]; omega) (by omega) (body_len (by omega))
  have hu : updM ((last : Int) + 1) (⟨(last : Int) + 1, k, (k : Int) + 1, bodyF k⟩ : Pk).pv (ents l) = ents (l ++ [⟨(last : Int) + 1, k, (k : Int) + 1, bodyF k⟩]) := by
    rw [updM_new h.below]; simp [ents]
  simp only [hu] at hs
  have ha1 := addI' c (by omega)
  have ha2 := addI (last : Int) (by omega)
  have ha3 := addI (i : Int) (by omega)
  have hs1 := subI ((k : Int) + 1) (by omega)
  rw [show (k : Int) + 1 - 1 = k by omega] at hs1
  have hrl := remN (w / 5) l.length hlen
  have hi1 := idxI (xs := ow) (i := n) (by omega)
  have hi2 := idxI (xs := cp) (i := k) (by omega)
  have hi3 : idxArr 0 0 (ow.map I).length (I ((last : Int) + 1)) = some (last + 1) := by
    have := idxI (xs := ow) (i := last + 1) (by omega)
    rw [show (((last + 1 : Nat)) : Int) = (last : Int) + 1 by omega] at this; exact this
  have hi4 : idxArr 0 0 ((ow.set (last + 1) ((k : Int) + 1)).map I).length (I ((last : Int) + 1)) = some (last + 1) := by
    simpa using hi3
  have hg1 := getI ho
  have hg2 := getI hc
  have hg3 := getI (xs := ow.set (last + 1) ((k : Int) + 1)) (i := last + 1) (v := (k : Int) + 1) (by rw [List.getElem?_set_self (by omega)])
  have hset := setI (xs := cp) (i := k) (c + 1) (by omega)
  have hset2 := setI (xs := ow) (i := last + 1) ((k : Int) + 1) (by omega)
  simp only [put_I, at_0] at hset hset2 hg1 hg2 hg3
  simp only [d4_4, cb_bool, Bool.false_eq_true, if_false, quo5 w hw, ob_some, ln34, goI, List.length_map, hrl, ia34, hq, List.getElem?_map, hp, Option.map_some, ld31, putA, putZ, rem5, h5, eql_int, pk0, ckR, ckB_true, hs, om_pair, fm_m, fp_p, fnil_nil, r1_pure,
    extract_tup, List.getElem?_cons_zero, List.getElem?_cons_succ, gcase_f, neq_int, ne_eq, not_true_eq_false, decide_false, Int.cast_ofNat_Int, decide_true, if_true, show ¬ ((4 : Int) = 2) by omega, show ¬ ((4 : Int) = 3) by omega, ha2]
  simp only [List.length_map, List.getElem?_map] at hi1 hi2 hi3 hi4 hg1 hg2 hg3 hset hset2
  simp only [List.length_map, List.getElem?_map, hi1, onat_some, hg1, at_0, ob_some, hs1, hi2, hi3, hi4, hg2, hg3, put_I, hset, hset2, oxs_some, ha1, ha3, Int.natCast_add, Int.cast_ofNat_Int]
end
end Go.Lite

namespace Go.Lite
open Go Go.Proofs
set_option linter.unusedVariables false
set_option linter.unusedSimpArgs false
set_option maxRecDepth 100000
section
variable {L m : Nat} {T : PV}
abbrev wpv (ws : List Int) : PV := .list 0 false (ws.map I)
theorem l4_1 (hL : 1000 ≤ L) (hm : 50 ≤ m) (ws : List Int) (hws : ws.length < 9000000000000000000)
    (ke : PV → PV → PV → PV → List (Int × PV) → PV → List PV → List PV → Option PV) (kr : PV → PV → List (Int × PV) → PV → List PV → List PV → Option PV)
    (hke : ∀ i l last sent lost dl ow cp, i ≤ 100 → Good i l last sent lost dl ow cp → ke (I lost) (I last) (I dl) (I last) (ents l) (I sent) (cp.map I) (ow.map I) = some T) :
    ∀ (N i : Nat) (l : List Pk) (last sent lost dl : Nat) (ow cp : List Int), 100 < N + i → i ≤ 100 → Good i l last sent lost dl ow cp →
      d4_1i (kk L m) L ke kr N (wpv ws) (I lost) (I last) (I dl) (I i) (I last) (ents l) (I sent) (cp.map I) (ow.map I) = some T := by
  intro N
  induction N with
  | zero => intro i l last sent lost dl ow cp h1 h2; omega
  | succ N ih =>
    intro i l last sent lost dl ow cp h1 h2 hg
    by_cases h3 : i < ws.length
    case neg =>
      have h4 : ¬ (i : Int) < ws.length := by omega
      simp only [d4_1i, d4_2, g4_2, ln37, goI, List.length_map, ob_some, lss_int, h4, decide_false, gcase_t, Bool.false_eq_true, if_false, hke i l last sent lost dl ow cp h2 hg]
    have h4 : (i : Int) < ws.length := by omega
    by_cases h5 : i < 100
    case neg =>
      have h6 : ¬ (i : Int) < 100 := by omega
      simp only [d4_1i, d4_2, g4_2, ln37, goI, List.length_map, ob_some, lss_int, h4, decide_true, gcase_t, if_true, h6, decide_false, cb_bool, Bool.false_eq_true, if_false, hke i l last sent lost dl ow cp h2 hg]
    have h6 : (i : Int) < 100 := by omega
    obtain ⟨w, hw, hw2⟩ := c19 (L := L) (m := m) (by omega) ws[i] 1000003 (by omega)
    have hll := hg.hl
    have hlist := c14 (L := L) (m := m) (by omega) hL l last hg.rise (hg.key h2) (by omega) (hg.body h2)
    have hih := fun l last sent lost dl ow cp => ih (i + 1) l last sent lost dl ow cp (by omega) (by omega)
    have hwi : (ws.map I)[i]? = some (I ws[i]) := by rw [List.getElem?_map, List.getElem?_eq_getElem h3]; rfl
    simp only [d4_1i, d4_2, g4_2, ln37, goI, List.length_map, ob_some, lss_int, h4, decide_true, gcase_t, if_true, h6, cb_bool, ia37, hwi, Option.map_some, ld3, callD, okK, List.nil_append, List.append_nil, show (1000003 : Int) = ((1000003 : Nat) : Int) from rfl, hw2, ckR, ckB_true, hlist, om_pair, fm_m, fp_p, fnil_nil, r1_pure]
    by_cases hl : l.length = 0
    · have hl' : (l.length : Int) = 0 := by omega
      simp only [d4_3, ln34, goI, List.length_map, ob_some, eql_int, hl', decide_true, gcase_f, if_true]
      rw [q_send kr _ _ _ _ hL hm hg h5]
      exact hih _ _ _ _ _ _ _ (hg.send h5)
    have hl' : ¬ (l.length : Int) = 0 := by omega
    simp only [d4_3, ln34, goI, List.length_map, ob_some, eql_int, hl', decide_false, gcase_f, Bool.false_eq_true, if_false, rem5, lss_int]
    by_cases hs : w % 5 < 2
    · have hs' : ((w % 5 : Nat) : Int) < 2 := by omega
      simp only [hs', decide_true]
      rw [q_send kr _ _ _ _ hL hm hg h5]
      exact hih _ _ _ _ _ _ _ (hg.send h5)
    have hs' : ¬ ((w % 5 : Nat) : Int) < 2 := by omega
    simp only [hs', decide_false]
    have hq : w / 5 % l.length < l.length := Nat.mod_lt _ (by omega)
    have hp := List.getElem?_eq_getElem hq
    obtain ⟨n, k, k1, k2, k3, k4, k5⟩ := hg.one _ (List.getElem_mem hq)
    have hcp : k < cp.length := by rw [hg.cl]; exact k3
    have hc := List.getElem?_eq_getElem hcp
    by_cases e2 : w % 5 = 2
    · rw [q_deliver kr _ _ hL hm hg h5 w _ hw e2 _ rfl hp]
      exact hih _ _ _ _ _ _ _ (hg.deliver hp)
    rw [k4] at hp
    by_cases e3 : w % 5 = 3
    · rw [q_drop kr _ _ hL hm hg h5 w _ hw e3 n k _ rfl hp k3 k2 k5 hc]
      exact hih _ _ _ _ _ _ _ (hg.drop hp hc)
    · rw [q_double kr _ _ hL hm hg h5 w _ hw (by omega) n k _ rfl hp k3 k2 k5 hc]
      exact hih _ _ _ _ _ _ _ (hg.double h5 hp k3 hc)

/-- all that is left is delivered -/
theorem l4_6 (hL : 1000 ≤ L) (hm : 50 ≤ m) (l : List Pk) (last sent lost : Nat) (ow cp : List Int) (hs : sent ≤ 100) (hla : last ≤ 100) (hl : l.length ≤ 100)
    (kr : PV → PV → List (Int × PV) → PV → List PV → List PV → Option PV) (ke : PV → PV → PV → PV → List (Int × PV) → PV → List PV → List PV → Option PV)
    (hke : ∀ J dl, J ≤ 300 → Good J [] last sent lost dl ow cp → ke (I lost) (I last) (I dl) (I last) (ents []) (I sent) (cp.map I) (ow.map I) = some T) :
    ∀ (r : List Pk) (N i J dl : Nat), l.drop i = r → r.length < N → Good J r last sent lost dl ow cp → J + r.length ≤ 300 →
      d4_6i (kk L m) L kr ke N (I lost) (I last) (I dl) (lpv l) (I i) (I last) (ents r) (I sent) (cp.map I) (ow.map I) = some T := by
  intro r
  induction r with
  | nil =>
    intro N i J dl h hN hg hJ
    obtain ⟨N, rfl⟩ : ∃ n, N = n + 1 := ⟨N - 1, by omega⟩
    have := drop_nil' h
    have h2 : ¬ (i : Int) < l.length := by omega
    simp only [d4_6i, d4_7, ln34, goI, List.length_map, ob_some, lss_int, h2, decide_false, cb_bool, Bool.false_eq_true, if_false, hke J dl (by simpa using hJ) hg]
  | cons p r ih =>
    intro N i J dl h hN hg hJ
    obtain ⟨N, rfl⟩ : ∃ n, N = n + 1 := ⟨N - 1, by omega⟩
    obtain ⟨h1, h2, h3, h4⟩ := drop_cons' h
    have h5 : (i : Int) < l.length := by omega
    obtain ⟨n, k, k1, k2, k3, rfl, k4⟩ := hg.one p (by simp)
    have hdl := hg.hdl
    have hp0 : (⟨n, k, (k : Int) + 1, bodyF k⟩ :: r : List Pk)[0]? = some ⟨n, k, (k : Int) + 1, bodyF k⟩ := rfl
    have hsm := c13 (L := L) (m := m) (by omega) (ents (⟨n, k, (k : Int) + 1, bodyF k⟩ :: r)) last n ⟨n, k, (k : Int) + 1, bodyF k⟩ (findM_ents hg.rise List.mem_cons_self) (body_len (by omega))
    rw [show delM (n : Int) (ents (⟨n, k, (k : Int) + 1, bodyF k⟩ :: r)) = ents r from delM_ents hg.rise hp0] at hsm
    have hc := c16 (L := L) (m := m) hL (by omega) n k sent (by omega) k3 ow k4
    have hJ' : J + (r.length + 1) ≤ 300 := hJ
    have ha1 := addI (dl : Int) (by omega)
    have ha3 := addI (i : Int) (by omega)
    have := ih N (i + 1) (J + 1) (dl + 1) h3 (by simp at hN; omega) (hg.deliver hp0) (by omega)
    simp only [Int.natCast_add, Int.cast_ofNat_Int] at this
    simp only [d4_6i, d4_7, ln34, goI, List.length_map, ob_some, lss_int, h5, decide_true, cb_bool, if_true, ia34, List.getElem?_map, h2, Option.map_some, fa31_0, ld3, ckR, ckB_true, hsm, om_pair, fm_m, fp_p, fnil_nil, r1_pure,
      extract_tup, List.getElem?_cons_zero, List.getElem?_cons_succ, callD, okK, List.nil_append, List.cons_append, hc, okAns, PV.tame, not_bool, Bool.not_true, Bool.false_eq_true, if_false, ha1, ha3]
    exact this

/-- the copies are counted -/
theorem l4_9 (ke : PV → PV → PV → PV → PV → List (Int × PV) → PV → List PV → List PV → Option PV) (lost last dl v5 : PV) (es : List (Int × PV)) (sent : PV) (x9 : List PV) (cp : List Int) (hcp : cp.length ≤ 100) (hb : ∀ c ∈ cp, -300 ≤ c ∧ c ≤ 300) :
    ∀ (r : List Int) (N i : Nat) (acc : Int), cp.drop i = r → r.length < N → -(300 * (i : Int)) ≤ acc → acc ≤ 300 * i →
      d4_9i (kk L m) L ke N lost last dl (I acc) (I i) v5 es sent (cp.map I) x9 = ke lost last dl (I (acc + r.sum)) v5 es sent (cp.map I) x9 := by
  intro r
  induction r with
  | nil =>
    intro N i acc h hN hg hJ
    obtain ⟨N, rfl⟩ : ∃ n, N = n + 1 := ⟨N - 1, by omega⟩
    have := drop_nil' h
    have h2 : ¬ (i : Int) < cp.length := by omega
    simp only [d4_9i, d4_10, goI, List.length_map, ob_some, lss_int, h2, decide_false, cb_bool, Bool.false_eq_true, if_false, List.sum_nil, Int.add_zero]
  | cons c r ih =>
    intro N i acc h hN hg hJ
    obtain ⟨N, rfl⟩ : ∃ n, N = n + 1 := ⟨N - 1, by omega⟩
    obtain ⟨h1, h2, h3, h4⟩ := drop_cons' h
    have h5 : (i : Int) < cp.length := by omega
    have hc := hb c h4
    have ha1 : ∀ x y : Operand, binPV Try.prog .add 3 x y (I acc) (I c) = some (I (acc + c)) := fun x y => add_int' _ _ _ _ _ _ (by omega)
    have ha3 := addI (i : Int) (by omega)
    have := ih N (i + 1) (acc + c) h3 (by simp at hN; omega) (by omega) (by omega)
    simp only [Int.natCast_add, Int.cast_ofNat_Int] at this
    have hi := idxI (xs := cp) (i := i) (by omega)
    have hg := getI h2
    simp only [List.length_map, List.getElem?_map] at hi hg
    simp only [d4_9i, d4_10, goI, List.length_map, List.getElem?_map, ob_some, lss_int, h5, decide_true, cb_bool, if_true, hi, onat_some, hg, ha1, ha3, this, List.sum_cons, Int.add_assoc]
end
end Go.Lite

namespace Go.Lite
open Go Go.Proofs
set_option linter.unusedVariables false
set_option linter.unusedSimpArgs false
set_option maxRecDepth 100000
theorem awake15 : callP Try.prog hh 1000 40 15 [] = some (.sc (.bool true)) := by kernel_rfl
theorem new9 : callM Try.prog hh 1000 60 9 none [] = some (.one (st [] 0), []) := by kernel_rfl
theorem zeros400 : zeros 400 (I 0) = (List.replicate 400 (0 : Int)).map I := by rw [List.map_replicate]; rfl
theorem good0 : Good 0 [] 0 0 0 0 (List.replicate 400 0) [] where
  rise := List.Pairwise.nil
  one p hp := by cases hp
  hl := Nat.le_refl _
  hlast := Nat.le_refl _
  hsent := Nat.le_refl _
  hlost := Nat.le_refl _
  hdl := Nat.le_refl _
  ol := by simp
  cl := rfl
  cb c hc := by cases hc
  s1 := rfl
  s2 := rfl
theorem Good.mono {i j last sent lost dl : Nat} {l : List Pk} {ow cp : List Int} (h : Good i l last sent lost dl ow cp) (hij : i ≤ j) : Good j l last sent lost dl ow cp where
  rise := h.rise
  one := h.one
  hl := Nat.le_trans h.hl hij
  hlast := Nat.le_trans h.hlast hij
  hsent := Nat.le_trans h.hsent hij
  hlost := Nat.le_trans h.hlost hij
  hdl := Nat.le_trans h.hdl hij
  ol := h.ol
  cl := h.cl
  cb := fun c hc => by have := h.cb c hc; omega
  s1 := h.s1
  s2 := h.s2
section
variable {L m : Nat}
theorem q11 (hL : 1000 ≤ L) (hm : 50 ≤ m) (haw : callP Try.prog hh L m 15 [] = some (Bo true)) (last sent lost dl J : Nat) (ow cp : List Int) (hJ : J ≤ 300) (h : Good J [] last sent lost dl ow cp) :
    d4_11 (kk L m) L (I lost) (I last) (I dl) (I cp.sum) (I last) (ents []) (I sent) (cp.map I) (ow.map I) = some (Bo true) := by
  have hlist := c14 (L := L) (m := m) (by omega) hL [] last List.Pairwise.nil (by simp) (by simp) (by simp)
  have e1 : (dl : Int) = cp.sum := by have := h.s1; simpa using this
  have e2 : (last : Int) = cp.sum + lost := h.s2
  have h1 := h.hlast; have h2 := h.hlost; have h3 := h.hdl
  have hadd : ∀ x y : Operand, binPV Try.prog .add 3 x y (I cp.sum) (I lost) = some (I last) := fun x y => by
    rw [e2]; exact add_int' _ _ _ _ _ _ (by omega)
  simp only [List.map_nil] at hlist
  have hz : (lenPV Try.prog 34 (.list 5 false [])).map (fun n => I n) = some (I 0) := ln34 false []
  simp only [d4_11, eql_int, e1, decide_true, ob_some, gcase_t, if_true, ckR, ckB_true, hlist, om_pair, fm_m, fp_p, fnil_nil, r1_pure, hz, goI, hadd, callD, okK, List.nil_append, haw]
theorem c4 (hL : 1000 ≤ L) (hm : 60 ≤ m) (haw : ∀ n, 40 ≤ n → callP Try.prog hh L n 15 [] = some (Bo true)) (hnew : callM Try.prog hh L m 9 none [] = some (.one (st [] 0), [])) (ws : List Int) (hws : ws.length < 9000000000000000000) :
    bodyPR Try.prog (kk L m) hh L 4 [wpv ws] = some (Bo true) := by
  rw [r4]
  simp only [d4_0, g4_0, hnew, om_pair, fnil_nil, r2_one, fm_m, fp_p, put_I, ob_some, zeros400, d4_1]
  refine l4_1 hL (by omega) ws hws _ _ ?_ L 0 [] 0 0 0 0 (List.replicate 400 0) [] (by omega) (by omega) good0
  intro i l last sent lost dl ow cp hi hg
  have hla := hg.hlast; have hse := hg.hsent; have hlo := hg.hlost; have hll := hg.hl
  have hlist := c14 (L := L) (m := m) (by omega) hL l last hg.rise (hg.key hi) (by omega) (hg.body hi)
  simp only [d4_5, g4_5, ckR, ckB_true, hlist, om_pair, fm_m, fp_p, fnil_nil, r1_pure, d4_6]
  refine l4_6 hL (by omega) l last sent lost ow cp (by omega) (by omega) (by omega) _ _ ?_ l L 0 i dl rfl (by omega) hg (by omega)
  intro J dl hJ hg2
  have hcl := hg2.cl
  simp only [d4_8, g4_8, d4_9]
  have h9 := l4_9 (L := L) (m := m) (fun v0 v1 v2 v3 v4 m5 v6 x7 x8 => d4_11 (kk L m) L v0 v1 v2 v3 v4 m5 v6 x7 x8) (I lost) (I last) (I dl) (I last) (ents []) (I sent) (ow.map I) cp (by omega) (fun c hc => by have := hg2.cb c hc; omega) cp L 0 0 rfl (by omega) (by omega) (by omega)
  simp only [Int.zero_add] at h9
  exact h9.trans (q11 hL (by omega) (haw m (by omega)) last sent lost dl J ow cp hJ hg2)
end
theorem main4 (ws : List Int) (hws : ws.length < 9000000000000000000) : callP Try.prog hh 1000 61 4 [wpv ws] = some (Bo true) :=
  callP_of (n := 59) (by kernel_rfl) (c4 (L := 1000) (m := 60) (by omega) (by omega) (fun n hn => callP_mono (Nat.le_refl _) hn awake15) new9 ws hws)
end Go.Lite
