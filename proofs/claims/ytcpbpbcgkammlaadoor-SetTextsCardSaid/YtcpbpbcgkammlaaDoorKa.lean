import Derived.Test.YtcpbpbcgkammlaaDoorRn
import Derived.Lib.TrimUEq
set_option linter.unusedVariables false
set_option linter.unusedSimpArgs false

namespace Go.Lite
set_option linter.unusedVariables false
set_option linter.unusedSimpArgs false

/-! # step functions: plain -/
abbrev Ct := Int × Int
def okC (c : Ct) : Bool := decide (c.1 ≤ 2199023255552) && decide (0 ≤ c.2) && decide (c.2 ≤ 1073741824)
def tailOK : Ct → List Ct → Bool
  | _, [] => true
  | p, c :: r => okC c && (decide (p.1 < c.1) && !decide (p.2 = c.2)) && tailOK c r
def rightS : List Ct → Bool
  | [] => false
  | c :: r => decide ((c :: r).length ≤ 4096) && decide (c.1 = 0) && okC c && tailOK c r
def val (s : List Ct) (t : Int) : Int := s.foldl (fun v c => if c.1 ≤ t then c.2 else v) 0
def leastR (s : List Ct) (fr to : Int) : Int := s.foldl (fun v c => if fr < c.1 ∧ c.1 < to ∧ c.2 < v then c.2 else v) (val s fr)
/-- how many cuts hold at t -/
def up (s : List Ct) (t : Int) : Nat := (s.takeWhile (fun c => decide (c.1 ≤ t))).length
def walkMin : Int → Int → List Ct → Int
  | v, _, [] => v
  | v, to, c :: r => if to ≤ c.1 then v else walkMin (min v c.2) to r
def leastP (s : List Ct) (fr to : Int) : Int := match s.drop (up s fr - 1) with
  | [] => 0
  | c :: r => walkMin c.2 to (c :: r)

def Rising (c : Ct) (r : List Ct) : Prop := (c :: r).Pairwise (fun a b => a.1 < b.1)
theorem tailOK_rising : ∀ {c : Ct} {r : List Ct}, tailOK c r = true → Rising c r
  | c, [], _ => by simp [Rising]
  | c, d :: r, h => by
    simp only [tailOK, Bool.and_eq_true, decide_eq_true_eq] at h
    obtain ⟨⟨_, h1, _⟩, h2⟩ := h
    have := tailOK_rising h2
    unfold Rising at this ⊢
    refine List.pairwise_cons.2 ⟨fun x hx => ?_, this⟩
    rcases List.mem_cons.1 hx with rfl | hx
    · exact h1
    · have := (List.pairwise_cons.1 this).1 x hx; omega
theorem tailOK_all : ∀ {c : Ct} {r : List Ct}, tailOK c r = true → ∀ d ∈ r, okC d = true
  | c, [], _, d, hd => by simp at hd
  | c, e :: r, h, d, hd => by
    simp only [tailOK, Bool.and_eq_true] at h
    rcases List.mem_cons.1 hd with rfl | hd
    · exact h.1.1
    · exact tailOK_all h.2 d hd
theorem rightS_cons {s : List Ct} (h : rightS s = true) : ∃ c r, s = c :: r ∧ c.1 = 0 ∧ Rising c r ∧ (∀ d ∈ s, okC d = true) ∧ s.length ≤ 4096 := by
  cases s with
  | nil => cases h
  | cons c r =>
    simp only [rightS, Bool.and_eq_true, decide_eq_true_eq] at h
    obtain ⟨⟨⟨h1, h2⟩, h3⟩, h4⟩ := h
    exact ⟨c, r, rfl, h2, tailOK_rising h4, fun d hd => by
      rcases List.mem_cons.1 hd with rfl | hd
      · exact h3
      · exact tailOK_all h4 d hd, h1⟩

/-! ## the least value of a window -/
def lst (c : Ct) (r : List Ct) (fr to : Int) : Int := match r with
  | [] => c.2
  | d :: r => if d.1 ≤ fr then lst d r fr to else walkMin c.2 to (d :: r)
theorem Rising.tail {c d : Ct} {r : List Ct} (h : Rising c (d :: r)) : Rising d r := by
  unfold Rising at h ⊢; exact (List.pairwise_cons.1 h).2
theorem Rising.lt {c d : Ct} {r : List Ct} (h : Rising c r) (hd : d ∈ r) : c.1 < d.1 := (List.pairwise_cons.1 h).1 d hd
theorem up_cons {c : Ct} {r : List Ct} {t : Int} (h : c.1 ≤ t) : up (c :: r) t = up r t + 1 := by simp [up, h]
theorem up_none {c : Ct} {r : List Ct} {t : Int} (h : ¬ c.1 ≤ t) : up (c :: r) t = 0 := by simp [up, h]
theorem leastP_lst : ∀ {c : Ct} {r : List Ct} {fr to : Int}, c.1 ≤ fr → fr < to → leastP (c :: r) fr to = lst c r fr to
  | c, [], fr, to, h, h' => by
    have : ¬ to ≤ c.1 := by omega
    simp [leastP, up, h, lst, walkMin, this]
  | c, d :: r, fr, to, h, h' => by
    have hn : ¬ to ≤ c.1 := by omega
    by_cases hd : d.1 ≤ fr
    · have := leastP_lst (r := r) hd h'
      simp only [lst, if_pos hd]
      rw [← this]
      simp only [leastP, up_cons h, up_cons hd, Nat.add_sub_cancel, List.drop_succ_cons]
    · simp only [lst, if_neg hd]
      simp only [leastP, up_cons h, up_none hd, Nat.zero_add, Nat.sub_self, List.drop_zero]
      rw [walkMin, if_neg hn, Int.min_self]
theorem foldl_val_gt {t : Int} : ∀ {r : List Ct} {v : Int}, (∀ d ∈ r, t < d.1) → r.foldl (fun v c => if c.1 ≤ t then c.2 else v) v = v
  | [], v, _ => rfl
  | d :: r, v, h => by
    have : ¬ d.1 ≤ t := by have := h d (by simp); omega
    simp only [List.foldl_cons, if_neg this]
    exact foldl_val_gt fun x hx => h x (by simp [hx])
theorem fold_walk {fr to : Int} : ∀ {r : List Ct} {v : Int}, (∀ d ∈ r, fr < d.1) → r.Pairwise (fun a b => a.1 < b.1) → r.foldl (fun v c => if fr < c.1 ∧ c.1 < to ∧ c.2 < v then c.2 else v) v = walkMin v to r
  | [], v, _, _ => rfl
  | d :: r, v, h, hp => by
    have h1 := h d (by simp)
    obtain ⟨h2, h3⟩ := List.pairwise_cons.1 hp
    simp only [List.foldl_cons, walkMin]
    by_cases hd : to ≤ d.1
    · rw [if_neg (by omega), if_pos hd]
      have : ∀ {r : List Ct} {v : Int}, (∀ e ∈ r, to ≤ e.1) → r.foldl (fun v c => if fr < c.1 ∧ c.1 < to ∧ c.2 < v then c.2 else v) v = v := by
        intro r
        induction r with
        | nil => intro v _; rfl
        | cons e r ih =>
          intro v he
          have := he e (by simp)
          simp only [List.foldl_cons]
          rw [if_neg (by omega)]
          exact ih fun x hx => he x (by simp [hx])
      exact this fun e he => by have := h2 e he; omega
    · rw [if_neg hd, fold_walk (fun x hx => h x (by simp [hx])) h3]
      congr 1
      split <;> omega
theorem leastR_lst : ∀ {c : Ct} {r : List Ct} {fr to : Int}, Rising c r → c.1 ≤ fr → fr < to → leastR (c :: r) fr to = lst c r fr to
  | c, [], fr, to, _, h, h' => by
    have : ¬ (fr < c.1) := by omega
    simp [leastR, val, lst, h, this]
  | c, d :: r, fr, to, hr, h, h' => by
    have hn : ¬ fr < c.1 := by omega
    by_cases hd : d.1 ≤ fr
    · have hi := leastR_lst (r := r) hr.tail hd h'
      simp only [lst, if_pos hd]
      rw [← hi]
      simp only [leastR, val, List.foldl_cons, if_pos h, if_pos hd, hn, false_and, if_false]
    · simp only [lst, if_neg hd]
      have hg : ∀ e ∈ d :: r, fr < e.1 := fun e he => by
        rcases List.mem_cons.1 he with rfl | he
        · omega
        · have := hr.tail.lt he; omega
      have hv : val (c :: d :: r) fr = c.2 := by
        unfold val
        rw [List.foldl_cons, if_pos h]
        exact foldl_val_gt hg
      unfold leastR
      rw [hv, List.foldl_cons]
      simp only [hn, false_and, if_false]
      exact fold_walk hg (List.pairwise_cons.1 hr).2
theorem least_eq {s : List Ct} (h : rightS s = true) {fr to : Int} (h0 : 0 ≤ fr) (h1 : fr < to) : leastP s fr to = leastR s fr to := by
  obtain ⟨c, r, rfl, hc, hr, _⟩ := rightS_cons h
  rw [leastP_lst (by omega) h1, leastR_lst hr (by omega) h1]

theorem le_fold {n fr to : Int} : ∀ {r : List Ct} {v : Int}, n ≤ r.foldl (fun v c => if fr < c.1 ∧ c.1 < to ∧ c.2 < v then c.2 else v) v ↔ n ≤ v ∧ ∀ c ∈ r, fr < c.1 → c.1 < to → n ≤ c.2
  | [], v => by simp
  | d :: r, v => by
    rw [List.foldl_cons, le_fold]
    constructor
    · rintro ⟨h1, h2⟩
      split at h1
      · refine ⟨by omega, fun c hc => ?_⟩
        rcases List.mem_cons.1 hc with rfl | hc
        · intros; omega
        · exact h2 c hc
      · refine ⟨h1, fun c hc => ?_⟩
        rcases List.mem_cons.1 hc with rfl | hc
        · intros; omega
        · exact h2 c hc
    · rintro ⟨h1, h2⟩
      refine ⟨?_, fun c hc => h2 c (by simp [hc])⟩
      split
      · rename_i h; exact h2 d (by simp) h.1 h.2.1
      · exact h1
theorem le_leastR {n : Int} {s : List Ct} {fr to : Int} : n ≤ leastR s fr to ↔ n ≤ val s fr ∧ ∀ c ∈ s, fr < c.1 → c.1 < to → n ≤ c.2 := le_fold
theorem val_same {s : List Ct} {t t' : Int} (h : t' ≤ t) (hn : ∀ c ∈ s, ¬ (t' < c.1 ∧ c.1 ≤ t)) : val s t' = val s t := by
  unfold val
  generalize (0 : Int) = v
  induction s generalizing v with
  | nil => rfl
  | cons c s ih =>
    simp only [List.foldl_cons]
    have := hn c (by simp)
    have e : (c.1 ≤ t') = (c.1 ≤ t) := by apply propext; omega
    simp only [e]
    exact ih (fun c hc => hn c (by simp [hc])) _
theorem least_back {n : Int} {s : List Ct} {t t' l : Int} (h : t' ≤ t) (hn : ∀ c ∈ s, ¬ (t' < c.1 ∧ c.1 ≤ t)) (hl : n ≤ leastR s t (t + l)) : n ≤ leastR s t' (t' + l) := by
  rw [le_leastR] at hl ⊢
  refine ⟨by rw [val_same h hn]; exact hl.1, fun c hc h1 h2 => ?_⟩
  have := hn c hc
  exact hl.2 c hc (by omega) (by omega)

/-! # the earliest place -/
structure Blk where
  nodes : Nat
  fr : Int
  to : Int
structure Ask where
  count : Int
  cores : Int
  limit : Int
  nodes : Nat
  fr : Int
  blocks : List Blk
def hits (b : Blk) (a : Ask) (t : Int) : Bool := decide (b.fr < t + a.limit) && decide (t < b.to)
def opn (p : List (List Ct)) (a : Ask) (t : Int) (i : Nat) : Bool := match p[i]? with
  | none => false
  | some s => a.nodes.testBit i && decide (a.cores ≤ leastR s t (t + a.limit)) && a.blocks.all fun b => !(hits b a t && b.nodes.testBit i)
def onsN (f : Nat → Bool) : Nat := ((List.range 32).filter f).length
def good (p : List (List Ct)) (a : Ask) (t : Int) : Bool := decide (a.count ≤ onsN (opn p a t))
theorem onsN_mono {f g : Nat → Bool} (h : ∀ i, f i = true → g i = true) : onsN f ≤ onsN g := by
  unfold onsN
  rw [← List.countP_eq_length_filter, ← List.countP_eq_length_filter]
  exact List.countP_mono_left fun i _ => h i
/-- a time at which the program looks -/
def Seen (p : List (List Ct)) (a : Ask) (t : Int) : Prop := t = a.fr ∨ (∃ (i : Nat) (s : List Ct), p[i]? = some s ∧ a.nodes.testBit i = true ∧ ∃ c ∈ s, c.1 = t) ∨ ∃ b ∈ a.blocks, b.to = t
/-- the last of them up to t -/
theorem last_below (t lo : Int) (Q : Int → Prop) : ∀ n : Nat, (t - lo).toNat = n → Q lo → lo ≤ t → ∃ t', lo ≤ t' ∧ t' ≤ t ∧ Q t' ∧ ∀ u, t' < u → u ≤ t → ¬ Q u := by
  intro n
  induction n using Nat.strongRecOn generalizing lo with
  | _ n ih =>
    intro hn hq hle
    by_cases h : ∃ u, lo < u ∧ u ≤ t ∧ Q u
    · obtain ⟨u, h1, h2, h3⟩ := h
      obtain ⟨t', q1, q2, q3, q4⟩ := ih (t - u).toNat (by omega) u rfl h3 h2
      exact ⟨t', by omega, q2, q3, q4⟩
    · exact ⟨lo, by omega, hle, hq, fun u h1 h2 h3 => h ⟨u, h1, h2, h3⟩⟩
theorem good_back {p : List (List Ct)} {a : Ask} {t : Int} (h : a.fr ≤ t) (hg : good p a t = true) : ∃ t', a.fr ≤ t' ∧ t' ≤ t ∧ Seen p a t' ∧ good p a t' = true := by
  obtain ⟨t', h1, h2, h3, h4⟩ := last_below t a.fr (Seen p a) _ rfl (.inl rfl) h
  refine ⟨t', h1, h2, h3, ?_⟩
  simp only [good, decide_eq_true_eq] at hg ⊢
  refine Int.le_trans hg (Int.ofNat_le.2 (onsN_mono fun i hi => ?_))
  unfold opn at hi ⊢
  cases hp : p[i]? with
  | none => rw [hp] at hi; cases hi
  | some s =>
    rw [hp] at hi
    simp only [Bool.and_eq_true, decide_eq_true_eq, List.all_eq_true, Bool.not_eq_true'] at hi ⊢
    obtain ⟨⟨q1, q2⟩, q3⟩ := hi
    refine ⟨⟨q1, least_back h2 (fun c hc hcc => h4 c.1 hcc.1 hcc.2 (.inr (.inl ⟨i, s, hp, q1, c, hc, rfl⟩))) q2⟩, fun b hb => ?_⟩
    have q4 := q3 b hb
    have q5 : ¬ (t' < b.to ∧ b.to ≤ t) := fun hh => h4 b.to hh.1 hh.2 (.inr (.inr ⟨b, hb, rfl⟩))
    cases hbi : b.nodes.testBit i with
    | false => simp
    | true =>
      rw [hbi] at q4
      simp only [hits, Bool.and_true, Bool.and_eq_false_iff, decide_eq_false_iff_not] at q4 ⊢
      omega
/-- a place is found -/
def fits (p : List (List Ct)) (a : Ask) (t : Int) : Bool := decide (a.fr ≤ t) && decide (t ≤ 1099511627776) && good p a t
/-- the least of a list that fits -/
def IsFirst (f : Int → Bool) (o : Option Int) : Prop := match o with
  | some t => f t = true ∧ ∀ u, f u = true → t ≤ u
  | none => ∀ u, f u = false
theorem IsFirst.eq {f : Int → Bool} {o o' : Option Int} (h : IsFirst f o) (h' : IsFirst f o') : o = o' := by
  cases o with
  | none =>
    cases o' with
    | none => rfl
    | some t => simp only [IsFirst] at h h'; rw [h t] at h'; exact absurd h'.1 (by decide)
  | some t =>
    cases o' with
    | none => simp only [IsFirst] at h h'; rw [h' t] at h; exact absurd h.1 (by decide)
    | some u =>
      simp only [IsFirst] at h h'
      have := h.2 u h'.1
      have := h'.2 t h.1
      congr 1; omega
/-- what is looked for among times that hold all that matter -/
theorem first_of {p : List (List Ct)} {a : Ask} {l : List Int} (hl : ∀ t, Seen p a t → t ∈ l) {o : Option Int} (ho : match o with | some t => fits p a t = true ∧ ∀ u ∈ l, fits p a u = true → t ≤ u | none => ∀ u ∈ l, fits p a u = false) : IsFirst (fits p a) o := by
  have key : ∀ u, fits p a u = true → ∃ u' ∈ l, fits p a u' = true ∧ u' ≤ u := fun u hu => by
    simp only [fits, Bool.and_eq_true, decide_eq_true_eq] at hu
    obtain ⟨u', h1, h2, h3, h4⟩ := good_back hu.1.1 hu.2
    exact ⟨u', hl u' h3, by simp only [fits, Bool.and_eq_true, decide_eq_true_eq]; exact ⟨⟨h1, by omega⟩, h4⟩, h2⟩
  cases o with
  | none =>
    intro u
    cases hf : fits p a u with
    | false => rfl
    | true =>
      obtain ⟨u', h1, h2, _⟩ := key u hf
      rw [ho u' h1] at h2; cases h2
  | some t =>
    refine ⟨ho.1, fun u hu => ?_⟩
    obtain ⟨u', h1, h2, h3⟩ := key u hu
    have := ho.2 u' h1 h2
    omega
/-- the first of a sorted list -/
theorem find_first {f : Int → Bool} {l : List Int} (hs : l.Pairwise (· ≤ ·)) : match l.find? f with | some t => f t = true ∧ ∀ u ∈ l, f u = true → t ≤ u | none => ∀ u ∈ l, f u = false := by
  induction l with
  | nil => simp
  | cons x r ih =>
    obtain ⟨h1, h2⟩ := List.pairwise_cons.1 hs
    simp only [List.find?_cons]
    cases hf : f x with
    | true =>
      refine ⟨hf, fun u hu _ => ?_⟩
      rcases List.mem_cons.1 hu with rfl | hu
      · omega
      · exact h1 u hu
    | false =>
      have := ih h2
      simp only
      cases hr : r.find? f with
      | none =>
        rw [hr] at this
        intro u hu
        rcases List.mem_cons.1 hu with rfl | hu
        · exact hf
        · exact this u hu
      | some t =>
        rw [hr] at this
        refine ⟨this.1, fun u hu hfu => ?_⟩
        rcases List.mem_cons.1 hu with rfl | hu
        · rw [hf] at hfu; cases hfu
        · exact this.2 u hu hfu
/-- the best so far (below 0: none) -/
def best (f : Int → Bool) (b : Int) (l : List Int) : Int := l.foldl (fun b t => if f t = true ∧ ¬ (0 ≤ b ∧ b ≤ t) then t else b) b
theorem best_first {f : Int → Bool} (hf : ∀ t, f t = true → 0 ≤ t) : ∀ {l : List Int} {b : Int} {seen : List Int}, (0 ≤ b → f b = true ∧ ∀ u ∈ seen, f u = true → b ≤ u) → (b < 0 → ∀ u ∈ seen, f u = false) →
    (0 ≤ best f b l → f (best f b l) = true ∧ ∀ u ∈ seen ++ l, f u = true → best f b l ≤ u) ∧ (best f b l < 0 → ∀ u ∈ seen ++ l, f u = false)
  | [], b, seen, h1, h2 => by simpa [best] using ⟨h1, h2⟩
  | t :: l, b, seen, h1, h2 => by
    have e : best f b (t :: l) = best f (if f t = true ∧ ¬ (0 ≤ b ∧ b ≤ t) then t else b) l := rfl
    rw [e, show seen ++ t :: l = (seen ++ [t]) ++ l by simp]
    apply best_first hf
    · intro hb
      split at hb
      · rename_i hc
        rw [if_pos hc]
        refine ⟨hc.1, fun u hu hfu => ?_⟩
        rcases List.mem_append.1 hu with hu | hu
        · by_cases hb0 : 0 ≤ b
          · have := (h1 hb0).2 u hu hfu
            have := hc.2; omega
          · rw [h2 (by omega) u hu] at hfu; cases hfu
        · simp at hu; omega
      · rename_i hc
        rw [if_neg hc]
        refine ⟨(h1 hb).1, fun u hu hfu => ?_⟩
        rcases List.mem_append.1 hu with hu | hu
        · exact (h1 hb).2 u hu hfu
        · simp at hu; subst hu
          have : ¬ ¬ (0 ≤ b ∧ b ≤ u) := fun hh => hc ⟨hfu, hh⟩
          omega
    · intro hb u hu
      split at hb
      · rename_i hc; have := hf t hc.1; omega
      · rename_i hc
        rcases List.mem_append.1 hu with hu | hu
        · exact h2 hb u hu
        · simp at hu; subst hu
          cases hfu : f u with
          | false => rfl
          | true => exact absurd ⟨hfu, by omega⟩ hc
end Go.Lite

namespace Go.Lite.Pp
open Go Go.Proofs Go.Lite
set_option linter.unusedVariables false
set_option linter.unusedSimpArgs false
set_option maxRecDepth 100000
/-! # step functions: the program -/
def cpv (c : Ct) : PV := .agg [I c.1, I c.2]
abbrev cuts (b : Bool) (l : List Ct) : PV := .list 3 b (l.map cpv)
theorem y3 : layOf Tryd.prog 3 = some 0 := by kernel_rfl
@[simp] theorem ld3 (d : PV) : loadPV Tryd.prog 3 (.ro 0 d) = some d := load_ro y3 d
theorem putC (v : AV) (c : Ct) : putPV 3 0 3 v (cpv c) = some (cpv c) := by
  have h : (cpv c).hasLay 3 = true := rfl
  simp [putPV, h]
@[simp] theorem at30 (c : Ct) : PV.at_ 3 0 0 (cpv c) = some (I c.1) := nonrfl rfl
@[simp] theorem at31 (c : Ct) : PV.at_ 3 1 0 (cpv c) = some (I c.2) := nonrfl rfl
def tailO : Option Ct → List Ct → Bool
  | none, [] => true
  | none, c :: r => okC c && tailOK c r
  | some p, r => tailOK p r
section
variable {L m : Nat}
theorem idxPred {i : Nat} (h : 0 < i) : IntKind.i64.wrap ((i : Int) - 1) = ((i - 1 : Nat) : Int) ∨ 9223372036854775807 < i := by
  by_cases hi : 9223372036854775807 < i
  · exact .inr hi
  · left; rw [wrap64 (by omega) (by omega)]; omega
def winB (fr to : Int) : Bool := decide (0 ≤ fr) && decide (fr < to) && decide (to ≤ 2199023255552)
/-! ## where a time is -/
theorem wrapu64 {n : Int} (h : 0 ≤ n) (h' : n < 18446744073709551616) : IntKind.u64.wrap n = n := by
  have e1 : (2 ^ IntKind.u64.bits : Int) = 18446744073709551616 := by rfl
  have e3 : IntKind.u64.signed = false := rfl
  simp only [IntKind.wrap, e1, e3, Bool.false_and]
  simp; omega
theorem shr1 (t : TypeId) (x y : Operand) (a : Nat) : binPV Tryd.prog .shr t x y (.sc (.int .u64 (a : Int))) (.sc (.int .u64 1)) = some (.sc (.int .u64 ((a / 2 : Nat) : Int))) := by
  have h1 : pureRun Tryd.prog (Op.shift .shr .u64 (a : Int) .u64 1) = some (.int .u64 ((a : Int).fdiv (2 ^ (min (1 : Int).toNat 64)))) := rfl
  have h3 : (a : Int).fdiv (2 ^ (min (1 : Int).toNat 64)) = ((a / 2 : Nat) : Int) := by
    rw [Int.fdiv_eq_ediv_of_nonneg _ (by exact Int.pow_nonneg (by decide))]
    rfl
  rw [h3] at h1
  simp [binPV, PV.plain?, eqGuard, binOp, h1]
theorem up_spec : ∀ {s : List Ct} {t : Int}, s.Pairwise (fun a b => a.1 < b.1) → up s t ≤ s.length ∧ ∀ (i : Nat) (c : Ct), s[i]? = some c → (decide (t < c.1)) = decide (up s t ≤ i)
  | [], t, _ => by simp [up]
  | c :: r, t, h => by
    obtain ⟨h1, h2⟩ := List.pairwise_cons.1 h
    by_cases hc : c.1 ≤ t
    · rw [up_cons hc]
      obtain ⟨i1, i2⟩ := up_spec (t := t) h2
      refine ⟨by simpa using i1, fun i x hx => ?_⟩
      cases i with
      | zero => simp at hx; subst hx; simp; omega
      | succ i => simp at hx; rw [i2 i x hx, decide_eq_decide]; omega
    · rw [up_none hc]
      refine ⟨by omega, fun i x hx => ?_⟩
      have : t < x.1 := by
        cases i with
        | zero => simp at hx; subst hx; omega
        | succ i => simp at hx; have := h1 x (List.mem_of_getElem? hx); omega
      simp [this]
@[simp] theorem hl0I (n : Int) : PV.hasLay 0 (I n) = true := rfl
@[simp] theorem hl0c (b : Bool) (s : List Ct) : PV.hasLay 0 (cuts b s) = true := rfl
theorem callD1 (cp : FuncId → List PV → Option PV) (g : FuncId) (a b xs : List PV) (n : Int) (h : cp g (a ++ xs ++ b) = some (I n)) : callD cp (.clo g a b) xs 1 = some (I n) := by
  simp only [callD, h]; rfl
end
/-! # words of 32 bits -/
abbrev U (a : Nat) : PV := .sc (.int .u32 (a : Int))
theorem wrapU {n : Int} (h : 0 ≤ n) (h' : n < 4294967296) : IntKind.u32.wrap n = n := by
  have e1 : (2 ^ IntKind.u32.bits : Int) = 4294967296 := by rfl
  have e3 : IntKind.u32.signed = false := rfl
  simp only [IntKind.wrap, e1, e3, Bool.false_and]
  simp; omega
theorem ofInt_nat (a : Nat) : BitVec.ofInt IntKind.u32.bits (a : Int) = BitVec.ofNat 32 a := by
  show BitVec.ofInt 32 (a : Int) = _
  exact BitVec.ofInt_natCast 32 a
section
variable (Q : Program) (t : TypeId) (x y : Operand)
theorem and_u (a b : Nat) (ha : a < 2 ^ 32) (hb : b < 2 ^ 32) : binPV Q .and t x y (U a) (U b) = some (U (a &&& b)) := by
  have h : pureRun Q (Op.intBits .and .u32 (a : Int) (b : Int)) = some (.int .u32 (IntKind.u32.wrap ((BitVec.ofInt IntKind.u32.bits (a : Int) &&& BitVec.ofInt IntKind.u32.bits (b : Int)).toNat : Int))) := rfl
  have h2 : (BitVec.ofInt IntKind.u32.bits (a : Int) &&& BitVec.ofInt IntKind.u32.bits (b : Int)).toNat = a &&& b := by
    rw [ofInt_nat, ofInt_nat]
    show (BitVec.ofNat 32 a &&& BitVec.ofNat 32 b).toNat = _
    rw [BitVec.toNat_and, BitVec.toNat_ofNat, BitVec.toNat_ofNat, Nat.mod_eq_of_lt ha, Nat.mod_eq_of_lt hb]
  have hle : a &&& b ≤ a := Nat.and_le_left
  rw [h2, wrapU (by omega) (by omega)] at h
  simp [binPV, PV.plain?, eqGuard, binOp, h]
theorem or_u (a b : Nat) (ha : a < 2 ^ 32) (hb : b < 2 ^ 32) : binPV Q .or t x y (U a) (U b) = some (U (a ||| b)) := by
  have h : pureRun Q (Op.intBits .or .u32 (a : Int) (b : Int)) = some (.int .u32 (IntKind.u32.wrap ((BitVec.ofInt IntKind.u32.bits (a : Int) ||| BitVec.ofInt IntKind.u32.bits (b : Int)).toNat : Int))) := rfl
  have h2 : (BitVec.ofInt IntKind.u32.bits (a : Int) ||| BitVec.ofInt IntKind.u32.bits (b : Int)).toNat = a ||| b := by
    rw [ofInt_nat, ofInt_nat]
    show (BitVec.ofNat 32 a ||| BitVec.ofNat 32 b).toNat = _
    rw [BitVec.toNat_or, BitVec.toNat_ofNat, BitVec.toNat_ofNat, Nat.mod_eq_of_lt ha, Nat.mod_eq_of_lt hb]
  have hle : a ||| b < 2 ^ 32 := Nat.or_lt_two_pow ha hb
  rw [h2, wrapU (by omega) (by omega)] at h
  simp [binPV, PV.plain?, eqGuard, binOp, h]
theorem andNot_u (a b : Nat) (ha : a < 2 ^ 32) (hb : b < 2 ^ 32) : binPV Q .andNot t x y (U a) (U b) = some (U (a &&& (2 ^ 32 - 1 - b))) := by
  have h : pureRun Q (Op.intBits .andNot .u32 (a : Int) (b : Int)) = some (.int .u32 (IntKind.u32.wrap ((BitVec.ofInt IntKind.u32.bits (a : Int) &&& ~~~ BitVec.ofInt IntKind.u32.bits (b : Int)).toNat : Int))) := rfl
  have h2 : (BitVec.ofInt IntKind.u32.bits (a : Int) &&& ~~~ BitVec.ofInt IntKind.u32.bits (b : Int)).toNat = a &&& (2 ^ 32 - 1 - b) := by
    rw [ofInt_nat, ofInt_nat]
    show (BitVec.ofNat 32 a &&& ~~~ BitVec.ofNat 32 b).toNat = _
    rw [BitVec.toNat_and, BitVec.toNat_not, BitVec.toNat_ofNat, BitVec.toNat_ofNat, Nat.mod_eq_of_lt ha, Nat.mod_eq_of_lt hb]
  have hle : a &&& (2 ^ 32 - 1 - b) ≤ a := Nat.and_le_left
  rw [h2, wrapU (by omega) (by omega)] at h
  simp [binPV, PV.plain?, eqGuard, binOp, h]
theorem quo_u (a : Nat) (ha : a < 2 ^ 32) : binPV Q .quo t x y (U a) (.sc (.int .u32 2)) = some (U (a / 2)) := by
  have h : pureRun Q (Op.intDiv .quo .u32 (a : Int) 2) = some (.int .u32 (IntKind.u32.wrap ((a : Int).tdiv 2))) := rfl
  have h2 : (a : Int).tdiv 2 = ((a / 2 : Nat) : Int) := by rw [Int.tdiv_eq_ediv_of_nonneg (by omega)]; omega
  rw [h2, wrapU (by omega) (by omega)] at h
  simp [binPV, PV.plain?, eqGuard, binOp, h]
theorem rem_u (a : Nat) : binPV Q .rem t x y (U a) (.sc (.int .u32 2)) = some (U (a % 2)) := by
  have h : pureRun Q (Op.intDiv .rem .u32 (a : Int) 2) = some (.int .u32 ((a : Int).tmod 2)) := rfl
  have h2 : (a : Int).tmod 2 = ((a % 2 : Nat) : Int) := by rw [Int.tmod_eq_emod_of_nonneg (by omega)]; omega
  rw [h2] at h
  simp [binPV, PV.plain?, eqGuard, binOp, h]
theorem mul_u (a : Nat) (ha : a * 2 < 2 ^ 32) : binPV Q .mul t x y (U a) (.sc (.int .u32 2)) = some (U (a * 2)) := by
  have h : pureRun Q (Op.intArith .mul .u32 (a : Int) 2) = some (.int .u32 (IntKind.u32.wrap ((a : Int) * 2))) := rfl
  rw [wrapU (by omega) (by omega), show (a : Int) * 2 = ((a * 2 : Nat) : Int) by omega] at h
  simp [binPV, PV.plain?, eqGuard, binOp, h]
theorem add_u (a b : Nat) (ha : a + b < 2 ^ 32) : binPV Q .add t x y (U a) (U b) = some (U (a + b)) := by
  rw [add_int, wrapU (by omega) (by omega)]
  rw [show (a : Int) + b = ((a + b : Nat) : Int) by omega]
theorem shl_u (i : Nat) (h : i < 32) : binPV Q .shl t x y (.sc (.int .u32 1)) (I i) = some (U (2 ^ i)) := by
  have h1 : pureRun Q (Op.shift .shl .u32 1 .i64 (i : Int)) = some (.int .u32 (IntKind.u32.wrap (1 * 2 ^ (min (i : Int).toNat 32)))) := by
    have : ¬ (i : Int) < 0 := by omega
    simp only [Op.shift, this, if_false]; rfl
  have h2 : (2 : Nat) ^ i < 2 ^ 32 := Nat.pow_lt_pow_right (by decide) h
  have h3 : (1 * 2 ^ (min (i : Int).toNat 32) : Int) = ((2 ^ i : Nat) : Int) := by
    have : min (i : Int).toNat 32 = i := by omega
    rw [this]; simp
  have h4 : IntKind.u32.wrap (1 * 2 ^ (min (i : Int).toNat 32)) = ((2 ^ i : Nat) : Int) := by
    rw [h3]; exact wrapU (by exact Int.natCast_nonneg _) (by omega)
  rw [h4] at h1
  simp [binPV, PV.plain?, eqGuard, binOp]
  rw [wrapU (by exact Int.pow_nonneg (by decide)) (by have : ((2:Int)^i) = ((2^i : Nat):Int) := by simp
                                                      rw [this]; omega)]; rfl
theorem shr_u (a i : Nat) (h : i < 32) : binPV Q .shr t x y (U a) (I i) = some (U (a / 2 ^ i)) := by
  have h1 : pureRun Q (Op.shift .shr .u32 (a : Int) .i64 (i : Int)) = some (.int .u32 ((a : Int).fdiv (2 ^ (min (i : Int).toNat 32)))) := by
    have : ¬ (i : Int) < 0 := by omega
    simp only [Op.shift, this, if_false]; rfl
  have h3 : (a : Int).fdiv (2 ^ (min (i : Int).toNat 32)) = ((a / 2 ^ i : Nat) : Int) := by
    have : min (i : Int).toNat 32 = i := by omega
    rw [this, Int.fdiv_eq_ediv_of_nonneg _ (by exact Int.pow_nonneg (by decide))]
    simp
  rw [h3] at h1
  simp [binPV, PV.plain?, eqGuard, binOp]
  rfl
end

def bits (p : Nat → Bool) : Nat → Nat
  | 0 => 0
  | k + 1 => bits p k + (if p k then 2 ^ k else 0)
theorem bits_lt (p : Nat → Bool) : ∀ k, bits p k < 2 ^ k := by
  intro k
  induction k with
  | zero => simp [bits]
  | succ k ih => simp only [bits]; rw [Nat.pow_succ]; split <;> omega
theorem bits_or (p : Nat → Bool) (k : Nat) : bits p k ||| 2 ^ k = bits p k + 2 ^ k := by
  have := Nat.two_pow_add_eq_or_of_lt (bits_lt p k) 1
  rw [Nat.mul_one] at this
  rw [Nat.or_comm, ← this, Nat.add_comm]
theorem bits_testBit (p : Nat → Bool) : ∀ (k i : Nat), (bits p k).testBit i = (decide (i < k) && p i) := by
  intro k
  induction k with
  | zero => intro i; simp [bits]
  | succ k ih =>
    intro i
    simp only [bits]
    by_cases hp : p k = true
    · simp only [hp, if_true]
      rw [← bits_or, Nat.testBit_or, ih, Nat.testBit_two_pow]
      by_cases hik : k = i
      · subst hik; simp [hp]
      · by_cases h1 : i < k
        · simp [h1, hik, show i < k + 1 by omega]
        · simp [h1, hik, show ¬ i < k + 1 by omega]
    · simp only [hp, Bool.false_eq_true, if_false, Nat.add_zero]
      rw [ih]
      by_cases hik : k = i
      · subst hik; simp [hp]
      · by_cases h1 : i < k
        · simp [h1, show i < k + 1 by omega]
        · simp [h1, show ¬ i < k + 1 by omega]
/-! # the reference's sets -/
theorem u50 : Tryd.prog.underlying 22 = some (.slice 3) := by kernel_rfl
@[simp] theorem ia50 (c : Bool) (xs : List PV) (i : Nat) : indexAddrPV Tryd.prog 22 (.list 0 c xs) (I i) = (xs[i]?).map (.ro 0) := indexAddr_list u50 y3 c xs i
@[simp] theorem ln50 (c : Bool) (xs : List PV) : (lenPV Tryd.prog 22 (.list 0 c xs)).map (fun n => PV.sc (goInt n)) = some (I xs.length) := len_list u50 c xs
theorem inf3 : (Tryd.prog.info? 3).map (·.bytes) = some 8 := by kernel_rfl
theorem zero3 : zeroPV Tryd.prog 3 = some (I 0) := by kernel_rfl
theorem app50 (xs ys : List PV) (c : Bool) (h : (xs.length + ys.length) * 8 ≤ appendRoom) : appendTo Tryd.prog 22 22 0 xs (.list 0 c ys) = some (xs ++ ys) := by
  have := inf3
  cases hi : Tryd.prog.info? 3 with
  | none => rw [hi] at this; simp at this
  | some i =>
    rw [hi] at this
    simp only [Option.map_some, Option.some.injEq] at this
    have hz : PV.hasLay 0 (I 0) = true := rfl
    simp [appendTo, u50, y3, hi, zero3, this, hz, width, layPV, elemsPV?, h]
theorem bs50 (s : Int) : buildSliceAV Tryd.prog 22 1 [(0, I s)] = some (.list 0 true [I s]) := by
  simp [buildSliceAV, u50, y3, zero3, width, PV.hasLay, PV.isCell, setAll]

section
variable {L m : Nat}
theorem l50 {R : Type} (C : Kallee) (ke : PV → PV → Option R) (i : Nat) (hi : i ≤ 32) : ∀ (d N k s : Nat), k + d = i → d < N → s < 2 ^ 32 → d23_1i C L ke N (U s) (I i) (I k) = ke (U (s / 2 ^ d)) (I i) := by
  intro d
  induction d with
  | zero =>
    intro N k s h hN hs
    obtain ⟨N, rfl⟩ : ∃ n, N = n + 1 := ⟨N - 1, by omega⟩
    have h2 : ¬ (k : Int) < i := by omega
    simp [d23_1i, d23_2, h2]
  | succ d ih =>
    intro N k s h hN hs
    obtain ⟨N, rfl⟩ : ∃ n, N = n + 1 := ⟨N - 1, by omega⟩
    have h5 : (k : Int) < i := by omega
    have := ih N (k + 1) (s / 2) (by omega) (by omega) (by omega)
    simp only [d23_1i, d23_2, lss_int, ob_some, cb_bool, decide_eq_true_eq, h5, if_true, quo_u _ _ _ _ _ hs, add_int, wrap_succ (show k < 9223372036854775807 by omega), this]
    rw [Nat.div_div_eq_div_mul, Nat.pow_succ, Nat.mul_comm]
theorem c50 (hm : 2 ≤ m) (hL : 40 < L) (s i : Nat) (hs : s < 2 ^ 32) (hi : i < 32) : callP Tryd.prog hh L m 23 [U s, I i] = some (Bo (s.testBit i)) := by
  obtain ⟨n, rfl⟩ : ∃ n, m = n + 1 + 1 := ⟨m - 2, by omega⟩
  refine callP_of (by kernel_rfl) ?_
  rw [r23]
  have := l50 (L := L) (kk L (n + 1)) (fun v w => d23_3 (kk L (n + 1)) L v w) i (by omega) i L 0 s (by omega) (by omega) hs
  simp only [d23_0, g23_0, d23_1]
  rw [show (PV.sc (Value.int IntKind.i64 0)) = I ((0 : Nat) : Int) from rfl, this]
  have e1 : (0 : Int) ≤ i := by omega
  have e2 : (i : Int) < 32 := by omega
  have e3 : (((s / 2 ^ i % 2 : Nat) : Int) = 1) = (s / 2 ^ i % 2 = 1) := by apply propext; omega
  simp only [d23_3, geq_int, ob_some, gcase_t, e1, lss_int, e2, rem_u, eql_int, decide_true, if_true, Nat.testBit_eq_decide_div_mod_eq, e3]
theorem l68 {R : Type} (C : Kallee) (ke : PV → Option R) (i : Nat) (hi : i < 32) : ∀ (d N k : Nat), k + d = i → d < N → d24_1i C L ke N (I i) (U (2 ^ k)) (I k) = ke (U (2 ^ i)) := by
  intro d
  induction d with
  | zero =>
    intro N k h hN
    obtain ⟨N, rfl⟩ : ∃ n, N = n + 1 := ⟨N - 1, by omega⟩
    have h2 : ¬ (k : Int) < i := by omega
    have : k = i := by omega
    subst this
    simp [d24_1i, d24_2]
  | succ d ih =>
    intro N k h hN
    obtain ⟨N, rfl⟩ : ∃ n, N = n + 1 := ⟨N - 1, by omega⟩
    have h5 : (k : Int) < i := by omega
    have := ih N (k + 1) (by omega) (by omega)
    have hp : (2 : Nat) ^ (k + 1) < 2 ^ 32 := Nat.pow_lt_pow_right (by decide) (by omega)
    simp only [d24_1i, d24_2, lss_int, ob_some, cb_bool, decide_eq_true_eq, h5, if_true, mul_u _ _ _ _ (2 ^ k) (by rw [Nat.pow_succ] at hp; exact hp), add_int, wrap_succ (show k < 9223372036854775807 by omega)]
    rw [← Nat.pow_succ, this]
theorem c68 (hm : 2 ≤ m) (hL : 40 < L) (i : Nat) (hi : i < 32) : callP Tryd.prog hh L m 24 [I i] = some (U (2 ^ i)) := by
  obtain ⟨n, rfl⟩ : ∃ n, m = n + 1 + 1 := ⟨m - 2, by omega⟩
  refine callP_of (by kernel_rfl) ?_
  rw [r24]
  have := l68 (L := L) (kk L (n + 1)) (fun v => d24_3 (kk L (n + 1)) L v) i hi i L 0 (by omega) (by omega)
  simp only [d24_0, g24_0, d24_1]
  rw [show (PV.sc (Value.int IntKind.i64 0)) = I ((0 : Nat) : Int) from rfl, show (PV.sc (Value.int IntKind.u32 1)) = U (2 ^ 0) from rfl, this]
  rfl
def ons (p : Nat → Bool) (k : Nat) : List Nat := (List.range k).filter p
theorem ons_succ (p : Nat → Bool) (k : Nat) : ons p (k + 1) = if p k then ons p k ++ [k] else ons p k := by
  simp only [ons, List.range_succ, List.filter_append]
  cases hp : p k <;> simp [hp]
theorem ons_len (p : Nat → Bool) (k : Nat) : (ons p k).length ≤ k := by
  unfold ons
  have := List.length_filter_le p (List.range k)
  simpa using this
abbrev ints (c : Bool) (l : List Nat) : PV := .list 0 c (l.map fun i => I (i : Nat))
def sumB (l : List Nat) : Nat := (l.map (2 ^ ·)).sum
theorem bits_sum (p : Nat → Bool) : ∀ k, sumB (ons p k) = bits p k := by
  intro k
  induction k with
  | zero => rfl
  | succ k ih =>
    rw [ons_succ]
    simp only [bits]
    split
    · simp only [sumB, List.map_append, List.sum_append] at ih ⊢
      rw [ih]; simp
    · rw [ih]; simp
theorem l51 {R : Type} (n : Nat) (hn : 2 ≤ n) (hL : 40 < L) (kr : PV → PV → Option R) (ke : PV → Option R) (c : Bool) (l : List Nat) (hlen : l.length ≤ 32) (hr : l.Pairwise (· < ·)) (hb : ∀ x ∈ l, x < 32) :
    ∀ (r : List Nat) (N i s : Nat), l.drop i = r → r.length < N → (∀ x ∈ r, s < 2 ^ x) → d9_1i (kk L n) L kr ke N (ints c l) (U s) (I i) = ke (U (s + sumB r)) := by
  intro r
  induction r with
  | nil =>
    intro N i s h hN hs
    obtain ⟨N, rfl⟩ : ∃ n, N = n + 1 := ⟨N - 1, by omega⟩
    have := drop_nil' h
    have h2 : ¬ (i : Int) < l.length := by omega
    simp [-goI, d9_1i, d9_2, h2, sumB]
  | cons a r ih =>
    intro N i s h hN hs
    obtain ⟨N, rfl⟩ : ∃ n, N = n + 1 := ⟨N - 1, by omega⟩
    obtain ⟨h1, h2, h3, h4⟩ := drop_cons' h
    have h5 : (i : Int) < l.length := by omega
    simp only [List.length_cons] at hN
    have ha := hb a h4
    have hsa := hs a (by simp)
    have hpa : (2 : Nat) ^ (a + 1) ≤ 2 ^ 32 := Nat.pow_le_pow_right (by decide) ha
    have hpa' : (2 : Nat) ^ (a + 1) = 2 * 2 ^ a := by rw [Nat.pow_succ]; omega
    have hrise : ∀ x ∈ r, a < x := by
      have := hr.sublist (List.drop_sublist i l)
      rw [h] at this
      exact (List.pairwise_cons.1 this).1
    have hrec := ih N (i + 1) (s + 2 ^ a) h3 (by omega) (fun x hx => by
      have := hrise x hx
      have h9 : (2 : Nat) ^ (a + 1) ≤ 2 ^ x := Nat.pow_le_pow_right (by decide) this
      omega)
    have q1 : ¬ (a : Int) < 0 := by omega
    have q2 : ¬ (31 : Int) < a := by omega
    have ht : s.testBit a = false := Nat.testBit_lt_two_pow hsa
    simp only [d9_1i, d9_2, ln50, List.length_map, lss_int, ob_some, cb_bool, decide_eq_true_eq, h5, if_true, ia50, List.getElem?_map, h2, Option.map_some, ld3, q1, decide_false, gcase_f, gtr_int, q2, Bool.false_eq_true, if_false,
      callD_clo, List.nil_append, List.append_nil, c50 (L := L) hn hL s a (by omega) ha, c68 (L := L) hn hL a ha, ht, not_bool, Bool.not_false, add_u _ _ _ _ s (2 ^ a) (by omega)]
    rw [add_int, wrap_succ (show i < 9223372036854775807 by omega)]
    simp only [ob_some, hrec, sumB, List.map_cons, List.sum_cons]
    rw [Nat.add_assoc]
theorem c51 (hm : 3 ≤ m) (hL : 40 < L) (c : Bool) (p : Nat → Bool) (k : Nat) (hk : k ≤ 32) : callP Tryd.prog hh L m 9 [ints c (ons p k)] = some (.tup [U (bits p k), I 0]) := by
  obtain ⟨n, rfl⟩ : ∃ n, m = n + 1 + 1 := ⟨m - 2, by omega⟩
  refine callP_of (by kernel_rfl) ?_
  rw [r9]
  have hlen := ons_len p k
  have := l51 (L := L) (n + 1) (by omega) hL (fun v w => some (.tup [v, w])) (fun v => d9_3 (kk L (n + 1)) L v) c (ons p k) (by omega) ((List.pairwise_lt_range).filter p) (fun x hx => by
    simp only [ons, List.mem_filter, List.mem_range] at hx; omega) (ons p k) L 0 0 rfl (by omega) (fun x _ => Nat.two_pow_pos x)
  simp only [d9_0, g9_0, d9_1]
  rw [show (PV.sc (Value.int IntKind.i64 0)) = I ((0 : Nat) : Int) from rfl, show (PV.sc (Value.int IntKind.u32 0)) = U 0 from rfl, this]
  simp [d9_3, bits_sum]
theorem within_bits (a b : Nat) (ha : a < 2 ^ 32) (hb : b < 2 ^ 32) : (a &&& (2 ^ 32 - 1 - b) = 0) ↔ ∀ i, i < 32 → a.testBit i = true → b.testBit i = true := by
  have hc : ∀ i, i < 32 → (2 ^ 32 - 1 - b).testBit i = !b.testBit i := by
    intro i hi
    rw [show 2 ^ 32 - 1 - b = 2 ^ 32 - (b + 1) by omega, Nat.testBit_two_pow_sub_succ hb]
    simp [hi]
  constructor
  · intro h i hi ha'
    have h1 : (a &&& (2 ^ 32 - 1 - b)).testBit i = false := by rw [h]; exact Nat.zero_testBit i
    rw [Nat.testBit_and, ha', hc i hi] at h1
    simpa using h1
  · intro h
    apply Nat.eq_of_testBit_eq
    intro i
    rw [Nat.testBit_and, Nat.zero_testBit]
    by_cases hi : i < 32
    · rw [hc i hi]
      cases ha' : a.testBit i with
      | false => rfl
      | true => rw [h i hi ha']; rfl
    · have : a < 2 ^ i := Nat.lt_of_lt_of_le ha (Nat.pow_le_pow_right (by decide) (by omega))
      rw [Nat.testBit_lt_two_pow this]; rfl
def within (a b : Nat) : Bool := decide (a &&& (2 ^ 32 - 1 - b) = 0)
theorem l34 {R : Type} (n : Nat) (hn : 2 ≤ n) (hL : 40 < L) (ke : List PV → Option R) (a : Nat) (ha : a < 2 ^ 32) :
    ∀ (d N i : Nat), i + d = 32 → d < N → d12_1i (kk L n) L ke N (U a) (I i) ((ons a.testBit i).map fun i => I (i : Nat)) = ke ((ons a.testBit 32).map fun i => I (i : Nat)) := by
  intro d
  induction d with
  | zero =>
    intro N i h hN
    obtain ⟨N, rfl⟩ : ∃ n, N = n + 1 := ⟨N - 1, by omega⟩
    have : i = 32 := by omega
    subst this
    simp [-goI, d12_1i, d12_2]
  | succ d ih =>
    intro N i h hN
    obtain ⟨N, rfl⟩ : ∃ n, N = n + 1 := ⟨N - 1, by omega⟩
    have h5 : (i : Int) < 32 := by omega
    have := ih N (i + 1) (by omega) (by omega)
    rw [ons_succ] at this
    have hlen := ons_len a.testBit i
    have happ := app50 ((ons a.testBit i).map fun i => I (i : Nat)) [I (i : Nat)] true (by simp [appendRoom]; omega)
    simp only [d12_1i, d12_2, lss_int, ob_some, cb_bool, decide_eq_true_eq, h5, if_true, callD_clo, List.nil_append, List.append_nil, c50 (L := L) hn hL a i ha (by omega), bs50, happ, oxs_some, add_int, wrap_succ (show i < 9223372036854775807 by omega)]
    by_cases q1 : a.testBit i = true
    · simp only [q1, if_true] at this ⊢
      rw [← this]; simp
    · simp only [q1, Bool.false_eq_true, if_false] at this ⊢
      exact this
theorem c34 (hm : 3 ≤ m) (hL : 40 < L) (a : Nat) (ha : a < 2 ^ 32) : callP Tryd.prog hh L m 12 [U a] = some (ints false (ons a.testBit 32)) := by
  obtain ⟨n, rfl⟩ : ∃ n, m = n + 1 + 1 := ⟨m - 2, by omega⟩
  refine callP_of (by kernel_rfl) ?_
  rw [r12]
  have := l34 (L := L) (n + 1) (by omega) hL (fun v => d12_3 (kk L (n + 1)) L v) a ha 32 L 0 (by omega) (by omega)
  simp only [d12_0, g12_0, d12_1]
  rw [show (PV.sc (Value.int IntKind.i64 0)) = I ((0 : Nat) : Int) from rfl]
  exact this
end

end Go.Lite.Pp

namespace Go.Lite.Pp
open Go Go.Proofs Go.Lite
set_option linter.unusedVariables false
set_option linter.unusedSimpArgs false
set_option maxRecDepth 100000
/-! # profiles and asks -/
abbrev prof (p : List (List Ct)) : PV := .list 0 false (p.map (cuts false))
def bpv (b : Blk) : PV := .agg [U b.nodes, I b.fr, I b.to]
abbrev blks (l : List Blk) : PV := .list 4 false (l.map bpv)
def apv (a : Ask) : PV := .agg [I a.count, I a.cores, I a.limit, I a.fr, U a.nodes, blks a.blocks]
theorem putB (v : AV) (b : Blk) : putPV 4 0 4 v (bpv b) = some (bpv b) := by
  have h : (bpv b).hasLay 4 = true := rfl
  simp [putPV, h]
@[simp] theorem at40 (b : Blk) : PV.at_ 4 0 0 (bpv b) = some (U b.nodes) := nonrfl rfl
@[simp] theorem at41 (b : Blk) : PV.at_ 4 1 0 (bpv b) = some (I b.fr) := nonrfl rfl
@[simp] theorem at42 (b : Blk) : PV.at_ 4 2 0 (bpv b) = some (I b.to) := nonrfl rfl
@[simp] theorem at70 (a : Ask) : PV.at_ 7 0 0 (apv a) = some (I a.count) := nonrfl rfl
@[simp] theorem at71 (a : Ask) : PV.at_ 7 1 0 (apv a) = some (I a.cores) := nonrfl rfl
@[simp] theorem at72 (a : Ask) : PV.at_ 7 2 0 (apv a) = some (I a.limit) := nonrfl rfl
@[simp] theorem at73 (a : Ask) : PV.at_ 7 3 0 (apv a) = some (I a.fr) := nonrfl rfl
@[simp] theorem at74 (a : Ask) : PV.at_ 7 4 0 (apv a) = some (U a.nodes) := nonrfl rfl
@[simp] theorem at75 (a : Ask) : PV.at_ 7 5 0 (apv a) = some (blks a.blocks) := nonrfl rfl
@[simp] theorem hl7a (a : Ask) : PV.hasLay 7 (apv a) = true := nonrfl rfl
@[simp] theorem hl4b (b : Blk) : PV.hasLay 4 (bpv b) = true := nonrfl rfl
@[simp] theorem hl0p (p : List (List Ct)) : PV.hasLay 0 (prof p) = true := nonrfl rfl
def ix {α : Type} (p : α → Bool) (l : List α) : Int := match ffrom p 0 l with | some j => j | none => -1
theorem ffrom_any {α : Type} (p : α → Bool) : ∀ (l : List α) (i : Nat), (ffrom p i l).isSome = l.any p
  | [], _ => rfl
  | a :: r, i => by
    simp only [ffrom, List.any_cons]
    cases h : p a
    · simp [ffrom_any p r (i + 1)]
    · simp
theorem ix_any {α : Type} (p : α → Bool) (l : List α) : decide (0 ≤ ix p l) = l.any p := by
  rw [← ffrom_any p l 0, ix]
  cases h : ffrom p 0 l <;> simp
section
variable {L m : Nat}
structure OkP (L : Nat) (p : List (List Ct)) : Prop where
  n : p.length ≤ 40
  c : ∀ s ∈ p, s.length ≤ 3000
  L : 5000 < L
def rightP (p : List (List Ct)) : Bool := decide (1 ≤ p.length) && decide (p.length ≤ 32) && p.all rightS
structure OkQ (a : Ask) : Prop where
  b : a.blocks.length ≤ 100
  n : a.nodes < 2 ^ 32
  bn : ∀ b ∈ a.blocks, b.nodes < 2 ^ 32
def askB (a : Ask) : Bool := decide (1 ≤ a.count) && decide (a.count ≤ 32) && decide (1 ≤ a.cores) && decide (a.cores ≤ 64) && decide (1 ≤ a.limit) && decide (a.limit ≤ 1048576) && decide (0 ≤ a.fr) && decide (a.fr ≤ 1099511627776) && a.blocks.all fun b => winB b.fr b.to
def somB (p : List (List Ct)) (s : Nat) (q : Nat → Bool) (i : Nat) : Bool := decide (i < p.length) && (s.testBit i && q i)
theorem and1_u (t : TypeId) (x y : Operand) (a : Nat) (ha : a < 2 ^ 32) : binPV Tryd.prog .and t x y (U a) (.sc (.int .u32 1)) = some (U (a % 2)) := by
  have := and_u Tryd.prog t x y a 1 ha (by decide)
  rw [show a &&& 1 = a % 2 from Nat.and_one_is_mod a] at this
  exact this
theorem bit_is (s i : Nat) : (decide (((s / 2 ^ i % 2 : Nat) : Int) = 1)) = s.testBit i := by
  have e3 : (((s / 2 ^ i % 2 : Nat) : Int) = 1) = (s / 2 ^ i % 2 = 1) := by apply propext; omega
  rw [Nat.testBit_eq_decide_div_mod_eq, decide_eq_decide, e3]
theorem bits_cong {f g : Nat → Bool} : ∀ {k : Nat}, (∀ i, i < k → f i = g i) → bits f k = bits g k
  | 0, _ => rfl
  | k + 1, h => by simp only [bits]; rw [bits_cong fun i hi => h i (by omega), h k (by omega)]
theorem add_ok (t : TypeId) (x y : Operand) (a b : Int) (h : -9223372036854775808 ≤ a + b) (h' : a + b < 9223372036854775808) : binPV Tryd.prog .add t x y (I a) (I b) = some (I (a + b)) := add_int' _ _ _ _ _ _ ⟨h, h'⟩
def lessB (s : Nat) (a : Ask) (t : Int) : List Blk → Nat
  | [] => s
  | b :: r => lessB (if hits b a t then s &&& (2 ^ 32 - 1 - b.nodes) else s) a t r
theorem lessB_lt {a : Ask} {t : Int} : ∀ {l : List Blk} {s : Nat}, s < 2 ^ 32 → lessB s a t l < 2 ^ 32
  | [], s, h => h
  | b :: r, s, h => by
    simp only [lessB]
    apply lessB_lt
    split
    · exact Nat.lt_of_le_of_lt Nat.and_le_left h
    · exact h
theorem lessB_bit {a : Ask} {t : Int} : ∀ {l : List Blk} {s : Nat}, s < 2 ^ 32 → (∀ b ∈ l, b.nodes < 2 ^ 32) → ∀ i, (lessB s a t l).testBit i = (s.testBit i && l.all fun b => !(hits b a t && b.nodes.testBit i))
  | [], s, _, _, i => by simp [lessB]
  | b :: r, s, h, hb, i => by
    have hbn := hb b (by simp)
    simp only [lessB]
    have hlt : (if hits b a t then s &&& (2 ^ 32 - 1 - b.nodes) else s) < 2 ^ 32 := by split; exact Nat.lt_of_le_of_lt Nat.and_le_left h; exact h
    rw [lessB_bit hlt (fun x hx => hb x (by simp [hx]))]
    simp only [List.all_cons]
    cases hh' : hits b a t with
    | false => simp
    | true =>
      simp only [if_true, Nat.testBit_and, Bool.true_and]
      by_cases hi : i < 32
      · have hc : (2 ^ 32 - 1 - b.nodes).testBit i = !b.nodes.testBit i := by
          rw [show 2 ^ 32 - 1 - b.nodes = 2 ^ 32 - (b.nodes + 1) by omega, Nat.testBit_two_pow_sub_succ hbn]
          simp [hi]
        rw [hc, Bool.and_assoc]
      · have : s < 2 ^ i := Nat.lt_of_lt_of_le h (Nat.pow_le_pow_right (by decide) (by omega))
        rw [Nat.testBit_lt_two_pow this]; simp
theorem callD1u (cp : FuncId → List PV → Option PV) (g : FuncId) (a b xs : List PV) (n : Nat) (h : cp g (a ++ xs ++ b) = some (U n)) : callD cp (.clo g a b) xs 1 = some (U n) := by
  simp only [callD, h]; rfl
theorem rightP_in {p : List (List Ct)} (h : rightP p = true) : 1 ≤ p.length ∧ p.length ≤ 32 ∧ ∀ s ∈ p, rightS s = true := by
  simp only [rightP, Bool.and_eq_true, decide_eq_true_eq, List.all_eq_true] at h
  exact ⟨h.1.1, h.1.2, h.2⟩
def cutsN (p : List (List Ct)) : Nat := (p.map List.length).sum
def bigB (p : List (List Ct)) : Bool := decide (3000 < cutsN p) || decide (40 < p.length)
end
theorem zeroed_len {xs : List PV} {lo n : Nat} {z : PV} (h : lo + n ≤ xs.length) : (zeroed xs lo n z).length = xs.length := by
  simp [zeroed]; omega
theorem zeroed_take {xs : List PV} {lo n : Nat} {z : PV} (h : lo + n ≤ xs.length) : (zeroed xs lo n z).take lo = xs.take lo := by
  unfold zeroed
  rw [List.take_append_of_le_length (by simp; omega), List.take_take, Nat.min_self]
section
variable {R : Type}
theorem oo_s (d : List OV) (f : List OV → Option R) : oo (some d) f = f d := nonrfl rfl
theorem oa_s (lay : Nat) (xs : List PV) (r : List OV) (f : List PV → List OV → Option R) : oa lay (.a lay xs :: r) f = f xs r := by simp [oa, ckB]
theorem onil_s (x : Option R) : onil [] x = x := nonrfl rfl
end
theorem cutsN_mem : ∀ {p : List (List Ct)} {s : List Ct}, s ∈ p → s.length ≤ cutsN p
  | x :: r, s, h => by
    have e : cutsN (x :: r) = x.length + cutsN r := by simp [cutsN]
    rw [e]
    rcases List.mem_cons.1 h with rfl | h
    · omega
    · have := cutsN_mem h; omega
def freeB (p : List (List Ct)) (s : Nat) (fr to c : Int) (i : Nat) : Bool := match p[i]? with | some x => s.testBit i && decide (c ≤ leastR x fr to) | none => false
def freePV (p : List (List Ct)) (s : Nat) (fr to c : Int) : PV := if (rightP p && winB fr to) = true then .tup [U (bits (freeB p s fr to c) p.length), I 0] else .tup [U 0, I 2]
theorem u9 : Tryd.prog.underlying 9 = some .string := by kernel_rfl
def tab : ByteArray := ⟨#[0, 1, 1, 2, 1, 2, 2, 3, 1, 2, 2, 3, 2, 3, 3, 4, 1, 2, 2, 3, 2, 3, 3, 4, 2, 3, 3, 4, 3, 4, 4, 5, 1, 2, 2, 3, 2, 3, 3, 4, 2, 3, 3, 4, 3, 4, 4, 5, 2, 3, 3, 4, 3, 4, 4, 5, 3, 4, 4, 5, 4, 5, 5, 6, 1, 2, 2, 3, 2, 3, 3, 4, 2, 3, 3, 4, 3, 4, 4, 5, 2, 3, 3, 4, 3, 4, 4, 5, 3, 4, 4, 5, 4, 5, 5, 6, 2, 3, 3, 4, 3, 4, 4, 5, 3, 4, 4, 5, 4, 5, 5, 6, 3, 4, 4, 5, 4, 5, 5, 6, 4, 5, 5, 6, 5, 6, 6, 7, 1, 2, 2, 3, 2, 3, 3, 4, 2, 3, 3, 4, 3, 4, 4, 5, 2, 3, 3, 4, 3, 4, 4, 5, 3, 4, 4, 5, 4, 5, 5, 6, 2, 3, 3, 4, 3, 4, 4, 5, 3, 4, 4, 5, 4, 5, 5, 6, 3, 4, 4, 5, 4, 5, 5, 6, 4, 5, 5, 6, 5, 6, 6, 7, 2, 3, 3, 4, 3, 4, 4, 5, 3, 4, 4, 5, 4, 5, 5, 6, 3, 4, 4, 5, 4, 5, 5, 6, 4, 5, 5, 6, 5, 6, 6, 7, 3, 4, 4, 5, 4, 5, 5, 6, 4, 5, 5, 6, 5, 6, 6, 7, 4, 5, 5, 6, 5, 6, 6, 7, 5, 6, 6, 7, 6, 7, 7, 8]⟩
def popN (v : Nat) : Nat := (List.range 8).countP v.testBit
theorem tab_size : tab.size = 256 := by decide +kernel
theorem tab_get : ∀ v : Fin 256, (tab.data[v.val]?).map (·.toNat) = some (popN v.val) := by decide +kernel
theorem index_tab (v : Nat) (h : v < 256) : indexPV Tryd.prog 9 (.sc (.string tab)) (U v) = some (.sc (.int .u8 (popN v : Nat))) := by
  have hs : v < tab.size := by rw [tab_size]; exact h
  have hv := tab_get ⟨v, h⟩
  have hb : tab[(v : Int).toNat]? = some (tab.data[v]'hs) := by
    show tab[v]? = _
    rw [getElem?_pos tab v hs]; rfl
  have hd : tab.data[v]? = some (tab.data[v]'hs) := Array.getElem?_eq_getElem hs
  simp only [hd, Option.map_some, Option.some.injEq] at hv
  have hu : ∀ (α : Type) (k : TypeDesc → Sem α), pureRun Tryd.prog (underlying 9 >>= k) = pureRun Tryd.prog (k .string) := by
    intro α k
    have : underlying 9 >>= k = Sem.program fun P => (match P.underlying 9 with | some d => pure d | none => stuck "no such type") >>= k := rfl
    rw [this, pureRun, u9]; rfl
  have : pureRun Tryd.prog (Instr.index 9 (.string tab) (.int .u32 v)) = some (.int .u8 (tab.data[v]'hs).toNat) := by
    unfold Instr.index
    show pureRun Tryd.prog (underlying 9 >>= fun d => _) = _
    rw [hu]
    simp only [Int.natCast_nonneg, if_true, hb]
    rfl
  simp only [indexPV, this, Option.map_some, hv]
theorem popN_le (v : Nat) : popN v ≤ 8 := by
  have := List.countP_le_length (p := v.testBit) (l := List.range 8)
  simpa [popN] using this
theorem pop_byte (a q : Nat) : (List.range 8).countP (fun j => a.testBit (8 * q + j)) = popN (a / 2 ^ (8 * q) % 256) := by
  unfold popN
  apply List.countP_congr
  intro j hj
  simp only [List.mem_range] at hj
  rw [show 256 = 2 ^ 8 from rfl, Nat.testBit_mod_two_pow, Nat.testBit_div_two_pow, Nat.add_comm j]
  simp [hj]
theorem range32 : List.range 32 = List.range 8 ++ (List.range 8).map (8 + ·) ++ (List.range 8).map (16 + ·) ++ (List.range 8).map (24 + ·) := by decide
theorem pop_all (a : Nat) (h : a < 2 ^ 32) : (ons a.testBit 32).length = popN (a / 2 ^ 24) + popN (a / 2 ^ 16 % 256) + popN (a / 2 ^ 8 % 256) + popN (a % 256) := by
  have h24 : a / 2 ^ 24 = a / 2 ^ 24 % 256 := by omega
  have e : (ons a.testBit 32).length = (List.range 32).countP a.testBit := by rw [ons, List.countP_eq_length_filter]
  have p0 : (List.range 8).countP a.testBit = popN (a % 256) := by have := pop_byte a 0; simpa using this
  have p1 := pop_byte a 1
  have p2 := pop_byte a 2
  have p3 := pop_byte a 3
  simp only [Nat.mul_one, show 8 * 2 = 16 from rfl, show 8 * 3 = 24 from rfl] at p1 p2 p3
  rw [← h24] at p3
  rw [e, range32]
  simp only [List.countP_append, List.countP_map, Function.comp_def]
  rw [p0, p1, p2, p3]
  omega
noncomputable def e43 (T : ByteArray) (v0 : PV) : Option PV := (ob (binPV Tryd.prog .shr 23 (.tmp 3) (.const (.int Go.IntKind.u64 24)) v0 (.sc (.int Go.IntKind.u64 24))) fun v102 => (ob (indexPV Tryd.prog 9 (.sc (.string T)) v102) fun v103 => (ob (binPV Tryd.prog .shr 23 (.tmp 6) (.const (.int Go.IntKind.u64 16)) v0 (.sc (.int Go.IntKind.u64 16))) fun v104 => (ob (binPV Tryd.prog .and 23 (.tmp 7) (.const (.int Go.IntKind.u32 255)) v104 (.sc (.int Go.IntKind.u32 255))) fun v105 => (ob (indexPV Tryd.prog 9 (.sc (.string T)) v105) fun v106 => (ob (binPV Tryd.prog .add 5 (.tmp 5) (.tmp 9) v103 v106) fun v107 => (ob (binPV Tryd.prog .shr 23 (.tmp 11) (.const (.int Go.IntKind.u64 8)) v0 (.sc (.int Go.IntKind.u64 8))) fun v108 => (ob (binPV Tryd.prog .and 23 (.tmp 12) (.const (.int Go.IntKind.u32 255)) v108 (.sc (.int Go.IntKind.u32 255))) fun v109 => (ob (indexPV Tryd.prog 9 (.sc (.string T)) v109) fun v110 => (ob (binPV Tryd.prog .add 5 (.tmp 10) (.tmp 14) v107 v110) fun v111 => (ob (binPV Tryd.prog .and 23 (.tmp 16) (.const (.int Go.IntKind.u32 255)) v0 (.sc (.int Go.IntKind.u32 255))) fun v112 => (ob (indexPV Tryd.prog 9 (.sc (.string T)) v112) fun v113 => (ob (binPV Tryd.prog .add 5 (.tmp 15) (.tmp 18) v111 v113) fun v114 => (ob (convPV Tryd.prog 5 3 v114) fun v115 => (some v115)))))))))))))))
theorem d43_eq (C : Kallee) (L : Nat) (v0 : PV) : d25_0 C L v0 = e43 tab v0 := by kernel_rfl
section
variable {L m : Nat}
variable (t : TypeId) (x y : Operand)
theorem shr64 (a i : Nat) (h : i < 32) : binPV Tryd.prog .shr t x y (U a) (.sc (.int .u64 i)) = some (U (a / 2 ^ i)) := by
  have h1 : pureRun Tryd.prog (Op.shift .shr .u32 (a : Int) .u64 (i : Int)) = some (.int .u32 ((a : Int).fdiv (2 ^ (min (i : Int).toNat 32)))) := by
    have : ¬ (i : Int) < 0 := by omega
    simp only [Op.shift, this, if_false]; rfl
  have h3 : (a : Int).fdiv (2 ^ (min (i : Int).toNat 32)) = ((a / 2 ^ i : Nat) : Int) := by
    have : min (i : Int).toNat 32 = i := by omega
    rw [this, Int.fdiv_eq_ediv_of_nonneg _ (by exact Int.pow_nonneg (by decide))]
    simp
  rw [h3] at h1
  simp [binPV, PV.plain?, eqGuard, binOp]
  rfl
theorem and255 (a : Nat) (h : a < 2 ^ 32) : binPV Tryd.prog .and t x y (U a) (.sc (.int .u32 255)) = some (U (a % 256)) := by
  have := and_u Tryd.prog t x y a 255 h (by decide)
  rw [show a &&& 255 = a % 256 from Nat.and_two_pow_sub_one_eq_mod a 8] at this
  exact this
theorem add8 (a b : Nat) (h : a + b < 256) : binPV Tryd.prog .add t x y (.sc (.int .u8 (a : Nat))) (.sc (.int .u8 (b : Nat))) = some (.sc (.int .u8 ((a + b : Nat) : Int))) := by
  rw [add_int]
  have e1 : (2 ^ IntKind.u8.bits : Int) = 256 := by rfl
  have e3 : IntKind.u8.signed = false := rfl
  have : IntKind.u8.wrap ((a : Int) + b) = ((a + b : Nat) : Int) := by
    simp only [IntKind.wrap, e1, e3, Bool.false_and]
    simp; omega
  rw [this]
theorem conv53 (n : Int) : convPV Tryd.prog 5 3 (.sc (.int .u8 n)) = some (I (IntKind.i64.wrap n)) := by kernel_rfl
theorem c43 (hm : 2 ≤ m) (a : Nat) (ha : a < 2 ^ 32) : callP Tryd.prog hh L m 25 [U a] = some (I ((ons a.testBit 32).length : Nat)) := by
  obtain ⟨n, rfl⟩ : ∃ n, m = n + 1 + 1 := ⟨m - 2, by omega⟩
  refine callP_of (by kernel_rfl) ?_
  rw [r25]
  have l1 := popN_le (a / 2 ^ 24)
  have l2 := popN_le (a / 2 ^ 16 % 256)
  have l3 := popN_le (a / 2 ^ 8 % 256)
  have l4 := popN_le (a % 256)
  have hp := pop_all a ha
  have s24 := fun x y => shr64 23 x y a 24 (by decide)
  have s16 := fun x y => shr64 23 x y a 16 (by decide)
  have s8 := fun x y => shr64 23 x y a 8 (by decide)
  simp only [Int.cast_ofNat_Int] at s24 s16 s8
  have h16 : a / 2 ^ 16 < 2 ^ 32 := by omega
  have h8 : a / 2 ^ 8 < 2 ^ 32 := by omega
  rw [d43_eq]
  simp only [e43, s24, s16, s8, ob_some, index_tab (a / 2 ^ 24) (by omega), and255 _ _ _ (a / 2 ^ 16) h16, index_tab (a / 2 ^ 16 % 256) (by omega), add8 _ _ _ (popN (a / 2 ^ 24)) (popN (a / 2 ^ 16 % 256)) (by omega),
    and255 _ _ _ (a / 2 ^ 8) h8, index_tab (a / 2 ^ 8 % 256) (by omega), add8 _ _ _ (popN (a / 2 ^ 24) + popN (a / 2 ^ 16 % 256)) (popN (a / 2 ^ 8 % 256)) (by omega), and255 _ _ _ a ha, index_tab (a % 256) (by omega),
    add8 _ _ _ (popN (a / 2 ^ 24) + popN (a / 2 ^ 16 % 256) + popN (a / 2 ^ 8 % 256)) (popN (a % 256)) (by omega), conv53]
  rw [wrap64 (by omega) (by omega), hp]
theorem c18 (hm : 3 ≤ m) (a : Nat) (ha : a < 2 ^ 32) : callP Tryd.prog hh L m 13 [U a] = some (I ((ons a.testBit 32).length : Nat)) := by
  obtain ⟨n, rfl⟩ : ∃ n, m = n + 1 + 1 := ⟨m - 2, by omega⟩
  refine callP_of (by kernel_rfl) ?_
  rw [r13]
  simp only [d13_0, callD_clo, List.nil_append, List.append_nil, c43 (L := L) (show 2 ≤ n + 1 by omega) a ha, ob_some]
end
/-! # the lowest nodes -/
theorem low_bit {s a : Nat} (hs : s < 2 ^ 32) (ha : s.testBit a = true) (hz : ∀ j, j < a → s.testBit j = false) : s &&& (2 ^ 32 - s) = 2 ^ a := by
  have hs0 : 0 < s := by
    rcases Nat.eq_zero_or_pos s with h | h
    · subst h; simp at ha
    · exact h
  have ha32 : a < 32 := by
    rcases Nat.lt_or_ge a 32 with h | h
    · exact h
    · rw [Nat.testBit_lt_two_pow (Nat.lt_of_lt_of_le hs (Nat.pow_le_pow_right (by decide) h))] at ha; cases ha
  have hmod : s % 2 ^ a = 0 := by
    apply Nat.eq_of_testBit_eq
    intro i
    rw [Nat.testBit_mod_two_pow, Nat.zero_testBit]
    by_cases hi : i < a
    · simp [hz i hi]
    · simp [hi]
  have hq : s = 2 ^ a * (s / 2 ^ a) := by have := Nat.div_add_mod s (2 ^ a); omega
  have hodd : (s / 2 ^ a) % 2 = 1 := by
    rw [Nat.testBit_eq_decide_div_mod_eq] at ha
    simpa using ha
  obtain ⟨q, hqq⟩ : ∃ q, s / 2 ^ a = 2 * q + 1 := ⟨s / 2 ^ a / 2, by omega⟩
  have hpa : 0 < 2 ^ a := Nat.two_pow_pos a
  have h1 : s - 1 = 2 ^ a * (2 * q) + (2 ^ a - 1) := by
    rw [hq, hqq, Nat.mul_add]; omega
  have h2 : 2 ^ 32 - s = 2 ^ 32 - (s - 1 + 1) := by omega
  apply Nat.eq_of_testBit_eq
  intro i
  rw [Nat.testBit_and, h2, Nat.testBit_two_pow_sub_succ (by omega), h1, Nat.testBit_two_pow_mul_add _ (by omega), Nat.testBit_two_pow]
  by_cases hi : i < a
  · simp only [if_pos hi, Nat.testBit_two_pow_sub_one, hi, decide_true, Bool.not_true, Bool.and_false]
    simp; omega
  · simp only [if_neg hi]
    by_cases hia : a = i
    · subst hia
      have : (2 * q).testBit (a - a) = false := by rw [Nat.sub_self]; simp
      simp [ha, ha32]
    · have hgt : a < i := by omega
      obtain ⟨d, rfl⟩ : ∃ d, i = a + (d + 1) := ⟨i - a - 1, by omega⟩
      have e1 : s.testBit (a + (d + 1)) = q.testBit d := by
        rw [Nat.add_comm a (d + 1), ← Nat.testBit_div_two_pow, hqq, Nat.testBit_succ]
        congr 1; omega
      have e2 : (2 * q).testBit (a + (d + 1) - a) = q.testBit d := by
        rw [show a + (d + 1) - a = d + 1 by omega, Nat.testBit_succ]
        congr 1; omega
      rw [e1, e2]
      have : ¬ a = a + (d + 1) := by omega
      cases q.testBit d <;> simp [this]
theorem ons_mem {p : Nat → Bool} {k i : Nat} : i ∈ ons p k ↔ i < k ∧ p i = true := by simp [ons]
theorem ons_pair (p : Nat → Bool) (k : Nat) : (ons p k).Pairwise (· < ·) := List.pairwise_lt_range.filter p
theorem ons_cong {p q : Nat → Bool} {k : Nat} (h : ∀ i, i < k → p i = q i) : ons p k = ons q k := by
  unfold ons
  apply List.filter_congr
  intro i hi
  exact h i (by simpa using hi)
theorem ons_cons {p : Nat → Bool} {k a : Nat} {r : List Nat} (h : ons p k = a :: r) : p a = true ∧ a < k ∧ (∀ j, j < a → p j = false) ∧ ons (fun i => p i && !decide (i = a)) k = r := by
  have hp := ons_pair p k
  rw [h] at hp
  obtain ⟨h1, h2⟩ := List.pairwise_cons.1 hp
  have ha : a ∈ ons p k := by rw [h]; simp
  obtain ⟨h3, h4⟩ := ons_mem.1 ha
  refine ⟨h4, h3, fun j hj => ?_, ?_⟩
  · cases hpj : p j with
    | false => rfl
    | true =>
      have : j ∈ ons p k := ons_mem.2 ⟨by omega, hpj⟩
      rw [h] at this
      rcases List.mem_cons.1 this with rfl | hr
      · omega
      · have := h1 j hr; omega
  · have : ons (fun i => p i && !decide (i = a)) k = (ons p k).filter fun i => !decide (i = a) := by
      unfold ons
      rw [List.filter_filter]
      congr 1
      funext i
      rw [Bool.and_comm]
    rw [this, h, List.filter_cons]
    simp only [decide_true, Bool.not_true, Bool.false_eq_true, if_false]
    apply List.filter_eq_self.2
    intro i hi
    have := h1 i hi
    simp; omega
theorem neg_u (a : Nat) (ha : 0 < a) (ha2 : a < 2 ^ 32) : unPV Tryd.prog .neg (U a) = some (U (2 ^ 32 - a)) := by
  have h : unPV Tryd.prog .neg (U a) = some (.sc (.int .u32 (IntKind.u32.wrap (0 - (a : Int))))) := by kernel_rfl
  rw [h]
  have e1 : (2 ^ IntKind.u32.bits : Int) = 4294967296 := by rfl
  have e3 : IntKind.u32.signed = false := rfl
  have : IntKind.u32.wrap (0 - (a : Int)) = ((2 ^ 32 - a : Nat) : Int) := by
    simp only [IntKind.wrap, e1, e3, Bool.false_and]
    simp; omega
  rw [this]
section
variable {L m : Nat}
def firstN (s : Nat) (n : Nat) : Nat := sumB ((ons s.testBit 32).take n)
theorem sumB_lt : ∀ {l : List Nat} {k b : Nat}, l.Pairwise (· < ·) → (∀ x ∈ l, b ≤ x) → (∀ x ∈ l, x < k) → b ≤ k → sumB l + 2 ^ b ≤ 2 ^ k
  | [], k, b, _, _, _, h => by simpa [sumB] using Nat.pow_le_pow_right (show 0 < 2 by decide) h
  | a :: r, k, b, hp, hb, hk, h => by
    obtain ⟨h1, h2⟩ := List.pairwise_cons.1 hp
    have ha := hk a (by simp)
    have hba := hb a (by simp)
    have := sumB_lt (b := a + 1) h2 (fun x hx => h1 x hx) (fun x hx => hk x (by simp [hx])) ha
    have e : sumB (a :: r) = 2 ^ a + sumB r := by simp [sumB]
    have e2 : 2 ^ (a + 1) = 2 * 2 ^ a := by rw [Nat.pow_succ]; omega
    have e3 : 2 ^ b ≤ 2 ^ a := Nat.pow_le_pow_right (by decide) hba
    rw [e]; omega
theorem c51' (hm : 4 ≤ m) (hL : 40 < L) (c : Bool) (l : List Nat) (hl : l.length ≤ 32) (hp : l.Pairwise (· < ·)) (hb : ∀ x ∈ l, x < 32) : callP Tryd.prog hh L m 9 [ints c l] = some (.tup [U (sumB l), I 0]) := by
  obtain ⟨n, rfl⟩ : ∃ n, m = n + 1 + 1 := ⟨m - 2, by omega⟩
  refine callP_of (by kernel_rfl) ?_
  rw [r9]
  have := l51 (L := L) (n + 1) (by omega) hL (fun v w => some (.tup [v, w])) (fun v => d9_3 (kk L (n + 1)) L v) c l hl hp hb l L 0 0 rfl (by omega) (fun x _ => Nat.two_pow_pos x)
  simp only [d9_0, g9_0, d9_1]
  rw [show (PV.sc (Value.int IntKind.i64 0)) = I ((0 : Nat) : Int) from rfl, show (PV.sc (Value.int IntKind.u32 0)) = U 0 from rfl, this]
  simp [d9_3]
theorem low_rest {s a : Nat} {r : List Nat} (hs : s < 2 ^ 32) (h : ons s.testBit 32 = a :: r) : s &&& (2 ^ 32 - s) = 2 ^ a ∧ ons (s &&& (2 ^ 32 - 1 - 2 ^ a)).testBit 32 = r := by
  obtain ⟨h1, h2, h3, h4⟩ := ons_cons h
  refine ⟨low_bit hs h1 h3, ?_⟩
  rw [← h4]
  apply ons_cong
  intro i hi
  have hp : (2 : Nat) ^ a < 2 ^ 32 := Nat.pow_lt_pow_right (by decide) h2
  rw [Nat.testBit_and, show 2 ^ 32 - 1 - 2 ^ a = 2 ^ 32 - (2 ^ a + 1) by omega, Nat.testBit_two_pow_sub_succ hp, Nat.testBit_two_pow]
  have : (decide (a = i)) = decide (i = a) := by rw [decide_eq_decide]; omega
  simp [hi, this]
theorem or_rise {o a : Nat} (h : o < 2 ^ a) : o ||| 2 ^ a = o + 2 ^ a := by
  have := Nat.two_pow_add_eq_or_of_lt h 1
  rw [Nat.mul_one] at this
  rw [Nat.or_comm, ← this, Nat.add_comm]
theorem l31 {R : Type} (C : Kallee) (ke : PV → Option R) (n : Nat) :
    ∀ (d N i s o : Nat) (l : List Nat), i + d = n → d < N → s < 2 ^ 32 → ons s.testBit 32 = l → d ≤ l.length → (∀ x ∈ l, o < 2 ^ x) → n ≤ 64 → d16_1i C L ke N (U s) (U o) (I n) (I i) = ke (U (o + sumB (l.take d))) := by
  intro d
  induction d with
  | zero =>
    intro N i s o l h hN hs hl hd ho hn
    obtain ⟨N, rfl⟩ : ∃ n, N = n + 1 := ⟨N - 1, by omega⟩
    have h2 : ¬ (i : Int) < n := by omega
    simp [d16_1i, d16_2, h2, sumB]
  | succ d ih =>
    intro N i s o l h hN hs hl hd ho hn
    obtain ⟨N, rfl⟩ : ∃ n, N = n + 1 := ⟨N - 1, by omega⟩
    have h5 : (i : Int) < n := by omega
    cases l with
    | nil => simp at hd
    | cons a r =>
      obtain ⟨g1, g2⟩ := low_rest hs hl
      obtain ⟨g3, g4, _, _⟩ := ons_cons hl
      have hs0 : 0 < s := by
        rcases Nat.eq_zero_or_pos s with h | h
        · subst h; simp at g3
        · exact h
      have hp : (2 : Nat) ^ a < 2 ^ 32 := Nat.pow_lt_pow_right (by decide) g4
      have hoa := ho a (by simp)
      have hpp := ons_pair s.testBit 32
      rw [hl] at hpp
      have hrise := (List.pairwise_cons.1 hpp).1
      have := ih N (i + 1) (s &&& (2 ^ 32 - 1 - 2 ^ a)) (o + 2 ^ a) r (by omega) (by omega) (Nat.lt_of_le_of_lt Nat.and_le_left hs) g2 (by simpa using hd) (fun x hx => by
        have := hrise x hx
        have h9 : (2 : Nat) ^ (a + 1) ≤ 2 ^ x := Nat.pow_le_pow_right (by decide) this
        rw [Nat.pow_succ] at h9; omega) hn
      simp only [d16_1i, d16_2, lss_int, ob_some, cb_bool, decide_eq_true_eq, h5, if_true, neg_u s hs0 hs, and_u _ _ _ _ s (2 ^ 32 - s) hs (by omega), g1, or_u _ _ _ _ o (2 ^ a) (by omega) hp, or_rise hoa, andNot_u _ _ _ _ s (2 ^ a) hs hp, add_int, wrap_succ (show i < 9223372036854775807 by omega), this]
      rw [List.take_succ_cons]
      simp only [sumB, List.map_cons, List.sum_cons]
      rw [Nat.add_assoc]
def firstPV (s : Nat) (n : Int) : PV := if 0 ≤ n ∧ n ≤ ((ons s.testBit 32).length : Nat) then .tup [U (firstN s n.toNat), Bo true] else .tup [U 0, Bo false]
theorem c31 (hm : 5 ≤ m) (hL : 100 < L) (s : Nat) (hs : s < 2 ^ 32) (n : Int) : callP Tryd.prog hh L m 16 [U s, I n] = some (firstPV s n) := by
  obtain ⟨k, rfl⟩ : ∃ n, m = n + 1 + 1 := ⟨m - 2, by omega⟩
  refine callP_of (by kernel_rfl) ?_
  rw [r16]
  have hlen := ons_len s.testBit 32
  simp only [d16_0, g16_0, d16_1, lss_int, ob_some, gcase_f, decide_eq_true_eq, callD_clo, List.nil_append, List.append_nil, c18 (L := L) (show 3 ≤ k + 1 by omega) s hs, gtr_int, cb_bool, firstPV]
  by_cases q1 : n < 0
  · have : ¬ (0 ≤ n ∧ n ≤ ((ons s.testBit 32).length : Nat)) := by omega
    simp [q1, this]
  by_cases q2 : ((ons s.testBit 32).length : Int) < n
  · have : ¬ (0 ≤ n ∧ n ≤ ((ons s.testBit 32).length : Nat)) := by omega
    simp [q1, q2, this]
  · have : 0 ≤ n ∧ n ≤ ((ons s.testBit 32).length : Nat) := by omega
    obtain ⟨n', rfl⟩ : ∃ k : Nat, n = k := ⟨n.toNat, by omega⟩
    have hl := l31 (L := L) (kk L (k + 1)) (fun v => d16_3 (kk L (k + 1)) L v) n' n' L 0 s 0 _ (by omega) (by omega) hs rfl (by omega) (fun x _ => Nat.two_pow_pos x) (by omega)
    simp only [q1, q2, if_false, this, and_self, if_true]
    rw [show (PV.sc (Value.int IntKind.i64 0)) = I ((0 : Nat) : Int) from rfl, show (PV.sc (Value.int IntKind.u32 0)) = U 0 from rfl, hl]
    simp [d16_3, firstN]
end
/-! # slices.Compact -/
def compT : Int → List Int → List Int
  | _, [] => []
  | p, a :: r => if a = p then compT a r else a :: compT a r
def comp : List Int → List Int
  | [] => []
  | a :: r => a :: compT a r
abbrev is (l : List Int) : List PV := l.map fun n => I n
theorem idxArr_n {n i : Nat} (h : i < n) : idxArr 0 0 n (I i) = some i := by
  simp [idxArr, intPV?]; omega
theorem idxSub_n {a n i : Nat} (h : i < n) : idxSub 0 0 a n (I i) = some (a + i) := by
  simp [idxSub, intPV?]; omega
@[simp] theorem at00 (n : Int) : PV.at_ 0 0 0 (I n) = some (I n) := nonrfl rfl
theorem get_is {l : List Int} {i : Nat} {a : Int} (h : l[i]? = some a) : ((is l)[i]?).bind (fun x => x.at_ 0 0 0) = some (I a) := by
  simp [h]
theorem put0 (v : AV) (n : Int) : putPV 0 0 0 v (I n) = some (I n) := by
  have h : (I n).hasLay 0 = true := rfl
  simp [putPV, h]
theorem set_is {l : List Int} {i : Nat} {a : Int} (h : i < l.length) : ((is l)[i]?).bind (fun y => (putPV 0 0 0 (.pv y) (I a)).map fun z => List.set (is l) i z) = some (is (l.set i a)) := by
  have h2 : l[i]? = some l[i] := List.getElem?_eq_getElem h
  simp [h2, put0, List.map_set]
abbrev kr30 : Nat → Nat → List PV → List PV → Option (List OV) := fun n0 n1 x2 x3 => some [OV.a 0 (List.take n1 (List.drop n0 x2))]
section
variable {L m : Nat}
theorem compT_mem {x : Int} : ∀ {r : List Int} {p : Int}, (x = p ∨ x ∈ compT p r) ↔ (x = p ∨ x ∈ r)
  | [], p => by simp [compT]
  | a :: r, p => by
    have := compT_mem (x := x) (r := r) (p := a)
    simp only [compT]
    split
    · rename_i h; subst h
      rw [this]; simp
    · simp only [List.mem_cons]
      rw [this]
theorem comp_mem {x : Int} {l : List Int} : x ∈ comp l ↔ x ∈ l := by
  cases l with
  | nil => simp [comp]
  | cons a r => simp only [comp, List.mem_cons]; exact compT_mem
theorem compT_sub : ∀ {r : List Int} {p : Int}, (compT p r).Sublist r
  | [], p => by simp [compT]
  | a :: r, p => by
    simp only [compT]
    split
    · exact (compT_sub (r := r) (p := a)).cons a
    · exact (compT_sub (r := r) (p := a)).cons_cons a
theorem comp_sub {l : List Int} : (comp l).Sublist l := by
  cases l with
  | nil => simp [comp]
  | cons a r => exact compT_sub.cons_cons a
end
/-! # the earliest place: the program -/
def tn (s : Nat) : Nat → List (List Ct) → List Int
  | _, [] => []
  | i, c :: r => (if s.testBit i then c.map (·.1) else []) ++ tn s (i + 1) r
theorem tn_len (s : Nat) : ∀ (r : List (List Ct)) (i : Nat), (tn s i r).length ≤ cutsN r
  | [], i => by simp [tn]
  | c :: r, i => by
    have := tn_len s r (i + 1)
    have e : cutsN (c :: r) = c.length + cutsN r := by simp [cutsN]
    simp only [tn, List.length_append, e]
    split <;> simp <;> omega
def timesP (p : List (List Ct)) (a : Ask) : List Int := a.fr :: tn a.nodes 0 p ++ a.blocks.map (·.to)
theorem tn_mem {s : Nat} {t : Int} : ∀ {r : List (List Ct)} {k : Nat}, t ∈ tn s k r ↔ ∃ (i : Nat) (c : List Ct), r[i]? = some c ∧ s.testBit (k + i) = true ∧ ∃ x ∈ c, x.1 = t
  | [], k => by simp [tn]
  | c :: r, k => by
    simp only [tn, List.mem_append, tn_mem (r := r)]
    constructor
    · rintro (h | ⟨i, c', h1, h2, h3⟩)
      · split at h
        · rename_i hb
          simp only [List.mem_map] at h
          exact ⟨0, c, rfl, by simpa using hb, h⟩
        · simp at h
      · exact ⟨i + 1, c', by simpa using h1, by rw [show k + (i + 1) = k + 1 + i by omega]; exact h2, h3⟩
    · rintro ⟨i, c', h1, h2, h3⟩
      cases i with
      | zero =>
        simp at h1; subst h1
        left
        rw [if_pos (by simpa using h2)]
        simpa using h3
      | succ i => exact .inr ⟨i, c', by simpa using h1, by rw [show k + 1 + i = k + (i + 1) by omega]; exact h2, h3⟩
theorem times_seen (p : List (List Ct)) (a : Ask) (t : Int) : t ∈ timesP p a ↔ Seen p a t := by
  unfold timesP Seen
  simp only [List.cons_append, List.mem_cons, List.mem_append, List.mem_map, tn_mem, Nat.zero_add]
def lookP (p : List (List Ct)) (a : Ask) : List Int := comp (isort (timesP p a))
theorem look_mem {p : List (List Ct)} {a : Ask} {t : Int} : t ∈ lookP p a ↔ Seen p a t := by
  rw [lookP, comp_mem, (isort_perm _).mem_iff, times_seen]
theorem look_sorted (p : List (List Ct)) (a : Ask) : (lookP p a).Pairwise (· ≤ ·) := (isort_sorted _).sublist comp_sub
theorem ons_bits (f : Nat → Bool) : ons (bits f 32).testBit 32 = ons f 32 := ons_cong fun i hi => by rw [bits_testBit]; simp [hi]
theorem onsN_ons (f : Nat → Bool) : onsN f = (ons f 32).length := rfl
def fitP (p : List (List Ct)) (a : Ask) : Option Int := (lookP p a).find? (fits p a)
def onP (p : List (List Ct)) (a : Ask) (t : Int) : Nat := firstN (bits (opn p a t) 32) a.count.toNat
def fitPV (p : List (List Ct)) (a : Ask) : PV :=
  if (askB a && rightP p) = true then (match fitP p a with
    | some t => .tup [I t, U (onP p a t), I 0]
    | none => .tup [I 0, U 0, I 120])
  else .tup [I 0, U 0, I 2]
theorem fitP_first (p : List (List Ct)) (a : Ask) : IsFirst (fits p a) (fitP p a) := first_of (fun t h => look_mem.2 h) (by
  have := find_first (f := fits p a) (look_sorted p a)
  exact this)
section
variable {L m : Nat}
theorem askB_in {a : Ask} (h : askB a = true) : 1 ≤ a.count ∧ a.count ≤ 32 ∧ 1 ≤ a.limit ∧ a.limit ≤ 1048576 ∧ 0 ≤ a.fr ∧ a.fr ≤ 1099511627776 ∧ 1 ≤ a.cores ∧ a.cores ≤ 64 ∧ ∀ b ∈ a.blocks, winB b.fr b.to = true := by
  simp only [askB, Bool.and_eq_true, decide_eq_true_eq, List.all_eq_true] at h
  obtain ⟨⟨⟨⟨⟨⟨⟨⟨h1, h2⟩, h3⟩, h4⟩, h5⟩, h6⟩, h7⟩, h8⟩, h9⟩ := h
  exact ⟨h1, h2, h5, h6, h7, h8, h3, h4, h9⟩
theorem cutsN_le {p : List (List Ct)} (h1 : p.length ≤ 40) (h2 : ∀ s ∈ p, s.length ≤ 3000) : cutsN p ≤ 120000 := by
  have : ∀ {q : List (List Ct)}, (∀ s ∈ q, s.length ≤ 3000) → cutsN q ≤ 3000 * q.length := by
    intro q
    induction q with
    | nil => intro _; simp [cutsN]
    | cons s r ih =>
      intro h
      have e : cutsN (s :: r) = s.length + cutsN r := by simp [cutsN]
      have := ih (fun x hx => h x (by simp [hx]))
      have := h s (by simp)
      rw [e, List.length_cons]; omega
  have := this h2
  omega
end

end Go.Lite.Pp

namespace Go.Lite.Pp
open Go Go.Proofs Go.Lite
set_option linter.unusedVariables false
set_option linter.unusedSimpArgs false
set_option maxRecDepth 100000
/-! # the document's answer -/
section
variable {L m : Nat}
/-! ## the ask -/
/-! ## sets -/
def lessR (s : Nat) (a : Ask) (t : Int) : List Blk → Nat
  | [] => s
  | b :: r => lessR (if hits b a t then bits (fun i => s.testBit i && !b.nodes.testBit i) 32 else s) a t r
theorem lessR_lt {a : Ask} {t : Int} : ∀ {l : List Blk} {s : Nat}, s < 2 ^ 32 → lessR s a t l < 2 ^ 32
  | [], s, h => h
  | b :: r, s, h => by
    simp only [lessR]
    apply lessR_lt
    split
    · exact bits_lt _ 32
    · exact h
theorem lessR_bit {a : Ask} {t : Int} : ∀ {l : List Blk} {s : Nat}, s < 2 ^ 32 → ∀ i, (lessR s a t l).testBit i = (s.testBit i && l.all fun b => !(hits b a t && b.nodes.testBit i))
  | [], s, _, i => by simp [lessR]
  | b :: r, s, h, i => by
    simp only [lessR]
    have hlt : (if hits b a t then bits (fun i => s.testBit i && !b.nodes.testBit i) 32 else s) < 2 ^ 32 := by split; exact bits_lt _ 32; exact h
    rw [lessR_bit hlt]
    simp only [List.all_cons]
    cases hh' : hits b a t with
    | false => simp
    | true =>
      simp only [if_true, bits_testBit, Bool.true_and]
      by_cases hi : i < 32
      · simp [hi, Bool.and_assoc]
      · have : s < 2 ^ i := Nat.lt_of_lt_of_le h (Nat.pow_le_pow_right (by decide) (by omega))
        rw [Nat.testBit_lt_two_pow this]; simp
theorem c36 (hm : 5 ≤ m) (hL : 100 < L) (s : Nat) (hs : s < 2 ^ 32) (n : Int) : callP Tryd.prog hh L m 17 [U s, I n] = some (firstPV s n) := by
  obtain ⟨k, rfl⟩ : ∃ n, m = n + 1 + 1 := ⟨m - 2, by omega⟩
  refine callP_of (by kernel_rfl) ?_
  rw [r17]
  have hlen := ons_len s.testBit 32
  simp only [d17_0, lss_int, ob_some, gcase_f, decide_eq_true_eq, callD_clo, List.nil_append, List.append_nil, c34 (L := L) (show 3 ≤ k + 1 by omega) (by omega) s hs, gtr_int, cb_bool, firstPV, ln50, List.length_map]
  by_cases q1 : n < 0
  · have : ¬ (0 ≤ n ∧ n ≤ ((ons s.testBit 32).length : Nat)) := by omega
    simp [q1, this]
  by_cases q2 : ((ons s.testBit 32).length : Int) < n
  · have : ¬ (0 ≤ n ∧ n ≤ ((ons s.testBit 32).length : Nat)) := by omega
    simp [q1, q2, this]
  · have : 0 ≤ n ∧ n ≤ ((ons s.testBit 32).length : Nat) := by omega
    obtain ⟨n', rfl⟩ : ∃ k : Nat, n = k := ⟨n.toNat, by omega⟩
    have hsl : slicePVd Tryd.prog 22 (ints false (ons s.testBit 32)) none (some (I n')) none = some (ints false ((ons s.testBit 32).take n')) := by
      have := slice_to u50 y3 ((ons s.testBit 32).map fun i => I (i : Nat)) n' (by simp; omega)
      rw [this]; simp [ints, List.map_take]
    have ht : ((ons s.testBit 32).take n').Sublist (ons s.testBit 32) := List.take_sublist _ _
    simp only [q1, q2, if_false, this, and_self, if_true, hsl, ob_some, c51' (L := L) (m := k + 1) (by omega) (by omega) false ((ons s.testBit 32).take n') (by rw [List.length_take]; omega) ((ons_pair _ _).sublist ht) (fun x hx => (ons_mem.1 (ht.subset hx)).1), extract_tup, List.getElem?_cons_zero, List.getElem?_cons_succ, firstN, Int.toNat_natCast]
end
/-! # the earliest place: the document -/
def timesR (p : List (List Ct)) (a : Ask) : List Int := a.fr :: p.flatMap (fun s => s.map (·.1)) ++ a.blocks.map (·.to)
theorem timesR_seen {p : List (List Ct)} {a : Ask} {t : Int} (h : Seen p a t) : t ∈ timesR p a := by
  unfold timesR
  simp only [List.cons_append, List.mem_cons, List.mem_append, List.mem_map, List.mem_flatMap]
  rcases h with h | ⟨i, s, h1, _, c, h3, h4⟩ | ⟨b, h1, h2⟩
  · exact .inl h
  · exact .inr (.inl ⟨s, List.mem_of_getElem? h1, c, h3, h4⟩)
  · exact .inr (.inr ⟨b, h1, h2⟩)
def bestR (p : List (List Ct)) (a : Ask) : Int := best (fits p a) (-1) (timesR p a)
theorem best_fit {p : List (List Ct)} {a : Ask} (hq : askB a = true) : (0 ≤ bestR p a → fitP p a = some (bestR p a)) ∧ (bestR p a < 0 → fitP p a = none) := by
  obtain ⟨_, _, _, _, g5, _⟩ := askB_in hq
  have hb := best_first (f := fits p a) (fun t ht => by
    simp only [fits, Bool.and_eq_true, decide_eq_true_eq] at ht; omega) (l := timesR p a) (b := -1) (seen := []) (fun h => by omega) (fun _ u hu => by simp at hu)
  simp only [List.nil_append] at hb
  constructor
  · intro h
    obtain ⟨h1, h2⟩ := hb.1 h
    exact (fitP_first p a).eq (o' := some (bestR p a)) (first_of (l := timesR p a) (fun t ht => timesR_seen ht) ⟨h1, h2⟩)
  · intro h
    exact (fitP_first p a).eq (o' := none) (first_of (l := timesR p a) (fun t ht => timesR_seen ht) (hb.2 h))
theorem ln50i (c : Bool) (l : List Nat) : (lenPV Tryd.prog 22 (ints c l)).map (fun n => I n) = some (I l.length) := by
  have := ln50 c (l.map fun i => I (i : Nat))
  simpa using this
section
variable {L m : Nat}
/-! # the statement's function -/
theorem put70 (v : AV) (a : Ask) : putPV 7 0 7 v (apv a) = some (apv a) := by
  have h : (apv a).hasLay 7 = true := rfl
  simp [putPV, h]
theorem put75 (a : Ask) : putPV 7 5 0 (.pv (apv a)) (blks a.blocks) = some (apv a) := nonrfl rfl
theorem fitPV_form (p : List (List Ct)) (a : Ask) : ∃ (t : Int) (s : Nat) (e : Int), fitPV p a = .tup [I t, U s, I e] := by
  unfold fitPV
  split
  · cases fitP p a with
    | none => exact ⟨0, 0, 120, rfl⟩
    | some t => exact ⟨t, _, 0, rfl⟩
  · exact ⟨0, 0, 2, rfl⟩
end

end Go.Lite.Pp

namespace Go.Lite.Pq
open Go Go.Proofs Go.Lite Go.Lite.Pp
set_option linter.unusedVariables false
set_option linter.unusedSimpArgs false
set_option maxRecDepth 100000
section
variable {L m : Nat}
theorem c31 (hm : 2 ≤ m) (a b : Nat) (ha : a < 2 ^ 32) (hb : b < 2 ^ 32) : callP Tryd.prog hh L m 14 [U a, U b] = some (Bo (within a b)) := by
  obtain ⟨n, rfl⟩ : ∃ n, m = n + 1 := ⟨m - 1, by omega⟩
  refine callP_of' (by omega) (by kernel_rfl) ?_
  rw [r14]
  have e3 : (((a &&& (2 ^ 32 - 1 - b) : Nat) : Int) = 0) = (a &&& (2 ^ 32 - 1 - b) = 0) := by apply propext; omega
  simp only [d14_0, andNot_u _ _ _ _ a b ha hb, ob_some, eql_int, within, e3]
def wfrom (a b i d : Nat) : Bool := (List.range' i d).all fun j => !a.testBit j || b.testBit j
theorem l38 {R : Type} (n : Nat) (hn : 2 ≤ n) (hL : 40 < L) (kr : PV → Option R) (ke : Option R) (a b : Nat) (ha : a < 2 ^ 32) (hb : b < 2 ^ 32) :
    ∀ (d N i : Nat), i + d = 32 → d < N → d15_1i (kk L n) L kr ke N (U a) (U b) (I i) = if wfrom a b i d then ke else kr (Bo false) := by
  intro d
  induction d with
  | zero =>
    intro N i h hN
    obtain ⟨N, rfl⟩ : ∃ n, N = n + 1 := ⟨N - 1, by omega⟩
    have h2 : ¬ (i : Int) < 32 := by omega
    simp [d15_1i, d15_2, h2, wfrom]
  | succ d ih =>
    intro N i h hN
    obtain ⟨N, rfl⟩ : ∃ n, N = n + 1 := ⟨N - 1, by omega⟩
    have h5 : (i : Int) < 32 := by omega
    have := ih N (i + 1) (by omega) (by omega)
    have hw : wfrom a b i (d + 1) = ((!a.testBit i || b.testBit i) && wfrom a b (i + 1) d) := by simp [wfrom, List.range'_succ]
    simp only [d15_1i, d15_2, lss_int, ob_some, cb_bool, decide_eq_true_eq, h5, if_true, callD_clo, List.nil_append, List.append_nil, c50 (L := L) hn hL a i ha (by omega), c50 (L := L) hn hL b i hb (by omega), gcase_t, not_bool, add_int, wrap_succ (show i < 9223372036854775807 by omega), this, hw]
    cases a.testBit i <;> cases b.testBit i <;> simp
theorem c38 (hm : 3 ≤ m) (hL : 40 < L) (a b : Nat) (ha : a < 2 ^ 32) (hb : b < 2 ^ 32) : callP Tryd.prog hh L m 15 [U a, U b] = some (Bo (within a b)) := by
  obtain ⟨n, rfl⟩ : ∃ n, m = n + 1 := ⟨m - 1, by omega⟩
  refine callP_of' (by omega) (by kernel_rfl) ?_
  rw [r15]
  have := l38 (L := L) n (by omega) hL (fun v => some v) (d15_3 (kk L n) L) a b ha hb 32 L 0 (by omega) (by omega)
  simp only [d15_0, g15_0, d15_1]
  rw [show (PV.sc (Value.int IntKind.i64 0)) = I ((0 : Nat) : Int) from rfl, this]
  have hw : wfrom a b 0 32 = within a b := by
    rw [Bool.eq_iff_iff]
    simp only [within, decide_eq_true_eq]
    rw [within_bits a b ha hb]
    simp only [wfrom, List.all_eq_true, List.mem_range'_1, Bool.or_eq_true, Bool.not_eq_true']
    constructor
    · intro h i hi h1
      rcases h i ⟨by omega, by omega⟩ with h2 | h2
      · rw [h1] at h2; cases h2
      · exact h2
    · intro h i hi
      cases h1 : a.testBit i with
      | false => exact .inl rfl
      | true => exact .inr (h i (by omega) h1)
  rw [hw]
  cases within a b <;> simp [d15_3]
end
end Go.Lite.Pq

namespace Go.Lite.Pp
open Go Go.Proofs Go.Lite
set_option linter.unusedVariables false
set_option linter.unusedSimpArgs false
set_option maxRecDepth 100000
section
variable {L m : Nat}
theorem eq1_u (t : TypeId) (x y : Operand) (a : Nat) : binPV Tryd.prog .eql t x y (U a) (.sc (.int .u32 1)) = some (Bo (decide (a = 1))) := by
  have h : binPV Tryd.prog .eql t x y (U a) (.sc (.int .u32 1)) = some (Bo (decide ((a : Int) = 1))) := by
    simp [binPV, PV.plain?, eqGuard, binOp]; rfl
  rw [h]
  congr 3
  apply propext; omega
theorem bit_mod (a i : Nat) : decide (a / 2 ^ i % 2 = 1) = a.testBit i := by
  rw [Nat.testBit_eq_decide_div_mod_eq]
theorem l11 {R : Type} (n : Nat) (ke : List PV → Option R) (a : Nat) (ha : a < 2 ^ 32) :
    ∀ (d N i : Nat), i + d = 32 → d < N → d11_1i (kk L n) L ke N (U a) (I i) ((ons a.testBit i).map fun i => I (i : Nat)) = ke ((ons a.testBit 32).map fun i => I (i : Nat)) := by
  intro d
  induction d with
  | zero =>
    intro N i h hN
    obtain ⟨N, rfl⟩ : ∃ n, N = n + 1 := ⟨N - 1, by omega⟩
    have : i = 32 := by omega
    subst this
    simp [-goI, d11_1i, d11_2]
  | succ d ih =>
    intro N i h hN
    obtain ⟨N, rfl⟩ : ∃ n, N = n + 1 := ⟨N - 1, by omega⟩
    have h5 : (i : Int) < 32 := by omega
    have := ih N (i + 1) (by omega) (by omega)
    rw [ons_succ] at this
    have hlen := ons_len a.testBit i
    have happ := app50 ((ons a.testBit i).map fun i => I (i : Nat)) [I (i : Nat)] true (by simp [appendRoom]; omega)
    have hlt : a / 2 ^ i < 2 ^ 32 := Nat.lt_of_le_of_lt (Nat.div_le_self _ _) ha
    simp only [d11_1i, d11_2, lss_int, ob_some, cb_bool, decide_eq_true_eq, h5, if_true, shr_u _ _ _ _ a i (by omega), and1_u _ _ _ _ hlt, eq1_u, bit_mod, bs50, happ, oxs_some, add_int, wrap_succ (show i < 9223372036854775807 by omega)]
    by_cases q1 : a.testBit i = true
    · simp only [q1, if_true] at this ⊢
      rw [← this]; simp
    · simp only [q1, Bool.false_eq_true, if_false] at this ⊢
      exact this
theorem k11 (hm : 1 ≤ m) (hL : 40 < L) (a : Nat) (ha : a < 2 ^ 32) : callP Tryd.prog hh L (m + 1) 11 [U a] = some (ints false (ons a.testBit 32)) := by
  refine callP_of' hm (by kernel_rfl) ?_
  rw [r11]
  have := l11 (L := L) m (fun v => d11_3 (kk L m) L v) a ha 32 L 0 (by omega) (by omega)
  simp only [d11_0, g11_0, d11_1]
  rw [show (PV.sc (Value.int IntKind.i64 0)) = I ((0 : Nat) : Int) from rfl]
  exact this
end
end Go.Lite.Pp

namespace Go.Lite.Pp
open Go Go.Proofs Go.Lite
set_option linter.unusedVariables false
/-! # plain: rising lists are what sets list -/
theorem rising_eq : ∀ {l r : List Nat}, l.Pairwise (· < ·) → r.Pairwise (· < ·) → (∀ x, x ∈ l ↔ x ∈ r) → l = r
  | [], [], _, _, _ => rfl
  | [], b :: r, _, _, h => by have := (h b).2 (by simp); simp at this
  | a :: l, [], _, _, h => by have := (h a).1 (by simp); simp at this
  | a :: l, b :: r, hl, hr, h => by
    rw [List.pairwise_cons] at hl hr
    have hab : a = b := by
      have h1 := (h a).1 (by simp)
      have h2 := (h b).2 (by simp)
      rw [List.mem_cons] at h1 h2
      rcases h1 with h1 | h1
      · exact h1
      · rcases h2 with h2 | h2
        · exact h2.symm
        · have := hr.1 a h1; have := hl.1 b h2; omega
    subst hab
    rw [rising_eq hl.2 hr.2 fun x => ?_]
    constructor
    · intro hx
      have := (h x).1 (by simp [hx])
      rw [List.mem_cons] at this
      rcases this with rfl | this
      · have := hl.1 x hx; omega
      · exact this
    · intro hx
      have := (h x).2 (by simp [hx])
      rw [List.mem_cons] at this
      rcases this with rfl | this
      · have := hr.1 x hx; omega
      · exact this
theorem rising_ons {l : List Nat} {k : Nat} (hp : l.Pairwise (· < ·)) (hb : ∀ x ∈ l, x < k) : ons (fun i => decide (i ∈ l)) k = l :=
  rising_eq (ons_pair _ _) hp fun x => by
    rw [ons_mem]; simp only [decide_eq_true_eq]
    exact ⟨fun h => h.2, fun h => ⟨hb x h, h⟩⟩
theorem ons_sumB {l : List Nat} (hp : l.Pairwise (· < ·)) (hb : ∀ x ∈ l, x < 32) : ons (sumB l).testBit 32 = l := by
  have h := rising_ons hp hb
  have h1 : sumB l = bits (fun i => decide (i ∈ l)) 32 := by rw [← bits_sum, h]
  rw [h1, ons_bits, h]
theorem ons_firstN (s n : Nat) : ons (firstN s n).testBit 32 = (ons s.testBit 32).take n :=
  ons_sumB ((ons_pair _ _).sublist (List.take_sublist _ _)) fun x hx => (ons_mem.1 (List.mem_of_mem_take hx)).1
theorem ons_rest (s n : Nat) (hs : s < 2 ^ 32) : ons (s &&& (2 ^ 32 - 1 - firstN s n)).testBit 32 = (ons s.testBit 32).drop n := by
  have hl := ons_pair s.testBit 32
  have hsplit := List.take_append_drop n (ons s.testBit 32)
  refine rising_eq (ons_pair _ _) (hl.sublist (List.drop_sublist _ _)) fun x => ?_
  have hF : firstN s n < 2 ^ 32 := by
    have h1 : firstN s n = bits (fun i => decide (i ∈ (ons s.testBit 32).take n)) 32 := by
      rw [← bits_sum, rising_ons (hl.sublist (List.take_sublist _ _)) fun x hx => (ons_mem.1 (List.mem_of_mem_take hx)).1]; rfl
    rw [h1]; exact bits_lt _ _
  have hf : ∀ i, i < 32 → ((firstN s n).testBit i = true ↔ i ∈ (ons s.testBit 32).take n) := fun i hi => by
    rw [← ons_firstN, ons_mem]; simp [hi]
  have hnd : ((ons s.testBit 32).take n ++ (ons s.testBit 32).drop n).Pairwise (· < ·) := by rw [hsplit]; exact hl
  rw [List.pairwise_append] at hnd
  have hmem : ∀ y, y ∈ ons s.testBit 32 ↔ y ∈ (ons s.testBit 32).take n ∨ y ∈ (ons s.testBit 32).drop n := fun y => by
    rw [← List.mem_append, hsplit]
  rw [ons_mem, Nat.testBit_and, show 2 ^ 32 - 1 - firstN s n = 2 ^ 32 - (firstN s n + 1) by omega, Nat.testBit_two_pow_sub_succ hF]
  constructor
  · rintro ⟨h1, h2⟩
    simp only [Bool.and_eq_true, Bool.not_eq_true', decide_eq_true_eq] at h2
    rcases (hmem x).1 (ons_mem.2 ⟨h1, h2.1⟩) with h3 | h3
    · rw [(hf x h1).2 h3] at h2; exact absurd h2.2.2 (by simp)
    · exact h3
  · intro hx
    obtain ⟨h1, h2⟩ := ons_mem.1 ((hmem x).2 (.inr hx))
    refine ⟨h1, ?_⟩
    have h3 : (firstN s n).testBit x = false := by
      rw [← Bool.not_eq_true]
      intro h4
      have := hnd.2.2 x ((hf x h1).1 h4) x hx
      omega
    simp [h1, h2, h3]
end Go.Lite.Pp

namespace Go.Lite.Pp
open Go Go.Proofs Go.Lite
set_option linter.unusedVariables false
set_option linter.unusedSimpArgs false
set_option maxRecDepth 100000
theorem firstN_lt (s n : Nat) : firstN s n < 2 ^ 32 := by
  have h1 : firstN s n = bits (fun i => decide (i ∈ (ons s.testBit 32).take n)) 32 := by
    rw [← bits_sum, rising_ons ((ons_pair _ _).sublist (List.take_sublist _ _)) fun x hx => (ons_mem.1 (List.mem_of_mem_take hx)).1]; rfl
  rw [h1]; exact bits_lt _ _
theorem within_firstN (s n : Nat) (hs : s < 2 ^ 32) : within (firstN s n) s = true := by
  simp only [within, decide_eq_true_eq]
  rw [within_bits _ _ (firstN_lt s n) hs]
  intro i hi h
  have : i ∈ ons (firstN s n).testBit 32 := ons_mem.2 ⟨hi, h⟩
  rw [ons_firstN] at this
  exact (ons_mem.1 (List.mem_of_mem_take this)).2
end Go.Lite.Pp

namespace Go.Lite.Pp
open Go Go.Proofs Go.Lite
set_option linter.unusedVariables false
set_option linter.unusedSimpArgs false
set_option maxRecDepth 100000
section
variable {L m : Nat}
theorem last_first {l : List Nat} (hp : l.Pairwise (· < ·)) {n a b : Nat} (h1 : (l.take n)[(l.take n).length - 1]? = some a) (h2 : (l.drop n)[0]? = some b) : a < b := by
  have h := List.take_append_drop n l
  rw [← h, List.pairwise_append] at hp
  exact hp.2.2 a (List.mem_of_getElem? h1) b (List.mem_of_getElem? h2)
theorem k4 (hm : 6 ≤ m) (hL : 100 < L) (s : Nat) (hs : s < 2 ^ 32) (n : Int) (haw : callP Tryd.prog hh L m 18 [] = some (Bo true)) : callP Tryd.prog hh L (m + 1) 4 [U s, I n] = some (Bo true) := by
  refine callP_of' (by omega) (by kernel_rfl) ?_
  rw [r4]
  have hc := ons_len s.testBit 32
  by_cases q : 0 ≤ n ∧ n ≤ ((ons s.testBit 32).length : Nat)
  · obtain ⟨n', rfl⟩ : ∃ k : Nat, n = k := ⟨n.toNat, by omega⟩
    have q' : n' ≤ (ons s.testBit 32).length := by omega
    have hF := firstN_lt s n'
    have hR : s &&& (2 ^ 32 - 1 - firstN s n') < 2 ^ 32 := Nat.lt_of_le_of_lt Nat.and_le_left hs
    have e1 : ((ons (firstN s n').testBit 32).length : Nat) = n' := by rw [ons_firstN, List.length_take]; omega
    have e2 : ((ons (s &&& (2 ^ 32 - 1 - firstN s n')).testBit 32).length : Nat) = (ons s.testBit 32).length - n' := by rw [ons_rest s n' hs, List.length_drop]
    have f1 := c31 (L := L) (show 5 ≤ m by omega) hL s hs (n' : Int)
    rw [firstPV, if_pos q] at f1
    simp only [Int.toNat_natCast] at f1
    have f2 := k11 (L := L) (m := m - 1) (by omega) (by omega) _ hF
    have f3 := k11 (L := L) (m := m - 1) (by omega) (by omega) _ hR
    rw [show m - 1 + 1 = m by omega] at f2 f3
    have f4 := Pq.c31 (L := L) (show 2 ≤ m by omega) (firstN s n') s hF hs
    rw [within_firstN s n' hs] at f4
    have hsub : IntKind.i64.wrap ((((ons s.testBit 32).length : Nat) : Int) - (n' : Int)) = (((ons s.testBit 32).length - n' : Nat) : Int) := by
      rw [show ((((ons s.testBit 32).length : Nat) : Int) - (n' : Int)) = (((ons s.testBit 32).length - n' : Nat) : Int) by omega]
      exact wrap64 (by omega) (by omega)
    simp only [d4_0, callD_clo, List.nil_append, List.append_nil, f1, ob_some, extract_tup, List.getElem?_cons_zero, List.getElem?_cons_succ, not_bool, Bool.not_true, cb_bool, Bool.false_eq_true, if_false, andNot_u _ _ _ _ s _ hs hF, c18 (L := L) (show 3 ≤ m by omega) _ hF, c18 (L := L) (show 3 ≤ m by omega) _ hR, c18 (L := L) (show 3 ≤ m by omega) _ hs, e1, e2, neq_int, ne_eq, not_true_eq_false, decide_false, gcase_f, f4, sub_int0, hsub, f2, f3, ln50, List.length_map, eql_int, haw]
    by_cases z1 : n' = 0
    · simp [z1]
    by_cases z2 : (ons s.testBit 32).length - n' = 0
    · simp [z2]
    rw [ons_firstN, ons_rest s n' hs]
    have hlt : (List.take n' (ons s.testBit 32)).length = n' := by rw [List.length_take]; omega
    have hld : (List.drop n' (ons s.testBit 32)).length = (ons s.testBit 32).length - n' := by rw [List.length_drop]
    have hw : IntKind.i64.wrap ((n' : Int) - 1) = ((n' - 1 : Nat) : Int) := by
      rw [show ((n' : Int) - 1) = ((n' - 1 : Nat) : Int) by omega]
      exact wrap64 (by omega) (by omega)
    obtain ⟨a, ha⟩ : ∃ a, (List.take n' (ons s.testBit 32))[n' - 1]? = some a := ⟨_, List.getElem?_eq_getElem (by omega)⟩
    obtain ⟨b, hb⟩ : ∃ a, (List.drop n' (ons s.testBit 32))[0]? = some a := ⟨_, List.getElem?_eq_getElem (by omega)⟩
    have hlt := last_first (ons_pair s.testBit 32) (show (List.take n' (ons s.testBit 32))[(List.take n' (ons s.testBit 32)).length - 1]? = some a by rw [hlt]; exact ha) hb
    have i1 := ia50 false ((List.take n' (ons s.testBit 32)).map fun i => I (i : Nat)) (n' - 1)
    have i2 : indexAddrPV Tryd.prog 22 (ints false (List.drop n' (ons s.testBit 32))) (.sc (.int .i64 0)) = (((List.drop n' (ons s.testBit 32)).map fun i => I (i : Nat))[0]?).map (.ro 0) := ia50 false ((List.drop n' (ons s.testBit 32)).map fun i => I (i : Nat)) 0
    simp only [List.getElem?_map, ha, hb, Option.map_some] at i1 i2
    have z1' : ¬ (n' : Int) = 0 := by omega
    have z2' : ¬ (((ons s.testBit 32).length - n' : Nat) : Int) = 0 := by omega
    have hlt' : (a : Int) < (b : Int) := by omega
    simp [z1', z2', hw, i1, i2, hlt', load_ro y3]
  · have f1 := c31 (L := L) (show 5 ≤ m by omega) hL s hs n
    rw [firstPV, if_neg q] at f1
    simp only [d4_0, callD_clo, List.nil_append, List.append_nil, f1, ob_some, extract_tup, List.getElem?_cons_zero, List.getElem?_cons_succ, not_bool, Bool.not_false, cb_bool, if_true, lss_int, gcase_f, decide_eq_true_eq, c18 (L := L) (show 3 ≤ m by omega) _ hs, gtr_int, gcase_t, eql_int, haw]
    by_cases q1 : n < 0
    · simp [q1]
    · have : ((ons s.testBit 32).length : Int) < n := by omega
      simp [q1, this]
end
end Go.Lite.Pp

namespace Go.Lite.Pp
open Go Go.Proofs Go.Lite
set_option linter.unusedVariables false
set_option linter.unusedSimpArgs false
set_option maxRecDepth 100000
theorem or_off {s a : Nat} (hs : s < 2 ^ 32) (ha : a < 32) (h : s.testBit a = false) : s ||| 2 ^ a = s + 2 ^ a := by
  have hp : (2 : Nat) ^ a < 2 ^ 32 := Nat.pow_lt_pow_right (by decide) ha
  have hd : s &&& 2 ^ a = 0 := by
    apply Nat.eq_of_testBit_eq
    intro i
    rw [Nat.testBit_and, Nat.testBit_two_pow, Nat.zero_testBit]
    by_cases hi : a = i
    · subst hi; simp [h]
    · simp [hi]
  have e1 : (BitVec.ofNat 33 s).toNat = s := by rw [BitVec.toNat_ofNat]; exact Nat.mod_eq_of_lt (by omega)
  have e2 : (BitVec.ofNat 33 (2 ^ a)).toNat = 2 ^ a := by rw [BitVec.toNat_ofNat]; exact Nat.mod_eq_of_lt (by omega)
  have := BitVec.add_eq_or_of_and_eq_zero (BitVec.ofNat 33 s) (BitVec.ofNat 33 (2 ^ a)) (by apply BitVec.eq_of_toNat_eq; rw [BitVec.toNat_and, e1, e2, hd]; rfl)
  have := congrArg BitVec.toNat this
  rw [BitVec.toNat_add, BitVec.toNat_or, e1, e2, Nat.mod_eq_of_lt (by omega)] at this
  exact this.symm
theorem or_on {s a : Nat} (h : s.testBit a = true) : s ||| 2 ^ a = s := by
  apply Nat.eq_of_testBit_eq
  intro i
  rw [Nat.testBit_or, Nat.testBit_two_pow]
  by_cases hi : a = i
  · subst hi; simp [h]
  · simp [hi]
theorem or_lt {s a : Nat} (hs : s < 2 ^ 32) (ha : a < 32) : s ||| 2 ^ a < 2 ^ 32 := Nat.or_lt_two_pow hs (Nat.pow_lt_pow_right (by decide) ha)
def ofL (s : Nat) : List Int → Option Nat
  | [] => some s
  | a :: r => if 0 ≤ a ∧ a < 32 then ofL (s ||| 2 ^ a.toNat) r else none
def ofPV (s : Nat) (l : List Int) : PV := match ofL s l with | some t => .tup [U t, I 0] | none => .tup [U 0, I 2]
theorem ofL_lt : ∀ {l : List Int} {s t : Nat}, s < 2 ^ 32 → ofL s l = some t → t < 2 ^ 32
  | [], s, t, hs, h => by simp only [ofL, Option.some.injEq] at h; omega
  | a :: r, s, t, hs, h => by
    simp only [ofL] at h
    split at h
    · rename_i q; exact ofL_lt (or_lt hs (by omega)) h
    · cases h
abbrev il (c : Bool) (l : List Int) : PV := .list 0 c (l.map fun i => I i)
section
variable {L m : Nat}
theorem l8 {R : Type} (C : Kallee) (kr : PV → PV → Option R) (ke : PV → Option R) (c : Bool) (l : List Int) (hlen : l.length < 9223372036854775807) :
    ∀ (r : List Int) (N i s : Nat), l.drop i = r → r.length < N → s < 2 ^ 32 → d8_1i C L kr ke N (U s) (il c l) (I l.length) (I i) = match ofL s r with | some t => ke (U t) | none => kr (U 0) (I 2) := by
  intro r
  induction r with
  | nil =>
    intro N i s h hN hs
    obtain ⟨N, rfl⟩ : ∃ n, N = n + 1 := ⟨N - 1, by omega⟩
    have := drop_nil' h
    have h2 : ¬ (i : Int) < l.length := by omega
    simp [-goI, d8_1i, d8_2, h2, ofL]
  | cons a r ih =>
    intro N i s h hN hs
    obtain ⟨N, rfl⟩ : ∃ n, N = n + 1 := ⟨N - 1, by omega⟩
    obtain ⟨h1, h2, h3, h4⟩ := drop_cons' h
    have h5 : (i : Int) < l.length := by omega
    simp only [List.length_cons] at hN
    simp only [d8_1i, d8_2, lss_int, ob_some, cb_bool, decide_eq_true_eq, h5, if_true, ia50, List.getElem?_map, h2, Option.map_some, load_ro y3, gcase_f, geq_int, ofL]
    by_cases q1 : a < 0
    · have q : ¬ (0 ≤ a ∧ a < 32) := by omega
      simp [q1, q]; rfl
    by_cases q2 : 32 ≤ a
    · have q : ¬ (0 ≤ a ∧ a < 32) := by omega
      simp [q1, q2, q]; rfl
    · have q : (0 ≤ a ∧ a < 32) := by omega
      obtain ⟨b, rfl⟩ : ∃ b : Nat, a = b := ⟨a.toNat, by omega⟩
      have hb : b < 32 := by omega
      have hp : (2 : Nat) ^ b < 2 ^ 32 := Nat.pow_lt_pow_right (by decide) hb
      rw [if_neg q1, if_neg q2, if_pos q]
      simp only [shl_u _ _ _ _ b hb, ob_some, or_u _ _ _ _ s (2 ^ b) hs hp, Int.toNat_natCast]
      rw [add_int, wrap_succ (show i < 9223372036854775807 by omega)]
      simp only [ob_some]
      exact ih N (i + 1) (s ||| 2 ^ b) h3 (by omega) (or_lt hs hb)
theorem c8 (hm : 2 ≤ m) (c : Bool) (l : List Int) (hl : l.length < L) (hlen : l.length < 9223372036854775807) : callP Tryd.prog hh L m 8 [il c l] = some (ofPV 0 l) := by
  obtain ⟨n, rfl⟩ : ∃ n, m = n + 1 := ⟨m - 1, by omega⟩
  refine callP_of' (by omega) (by kernel_rfl) ?_
  rw [r8]
  have := l8 (L := L) (kk L n) (fun v w => some (.tup [v, w])) (fun v => d8_3 (kk L n) L v) c l hlen l L 0 0 rfl hl (by omega)
  simp only [d8_0, g8_0, d8_1, ln50, ob_some, List.length_map]
  rw [show (PV.sc (Value.int IntKind.i64 0)) = I ((0 : Nat) : Int) from rfl, show (PV.sc (Value.int IntKind.u32 0)) = U 0 from rfl, this]
  simp only [ofPV, d8_3]
  cases ofL 0 l <;> rfl
theorem l9 {R : Type} (n : Nat) (hn : 2 ≤ n) (hL : 40 < L) (kr : PV → PV → Option R) (ke : PV → Option R) (c : Bool) (l : List Int) (hlen : l.length < 9223372036854775807) :
    ∀ (r : List Int) (N i s : Nat), l.drop i = r → r.length < N → s < 2 ^ 32 → d9_1i (kk L n) L kr ke N (il c l) (U s) (I i) = match ofL s r with | some t => ke (U t) | none => kr (U 0) (I 2) := by
  intro r
  induction r with
  | nil =>
    intro N i s h hN hs
    obtain ⟨N, rfl⟩ : ∃ n, N = n + 1 := ⟨N - 1, by omega⟩
    have := drop_nil' h
    have h2 : ¬ (i : Int) < l.length := by omega
    simp [-goI, d9_1i, d9_2, h2, ofL]
  | cons a r ih =>
    intro N i s h hN hs
    obtain ⟨N, rfl⟩ : ∃ n, N = n + 1 := ⟨N - 1, by omega⟩
    obtain ⟨h1, h2, h3, h4⟩ := drop_cons' h
    have h5 : (i : Int) < l.length := by omega
    simp only [List.length_cons] at hN
    simp only [d9_1i, d9_2, ln50, List.length_map, lss_int, ob_some, cb_bool, decide_eq_true_eq, h5, if_true, ia50, List.getElem?_map, h2, Option.map_some, load_ro y3, gcase_f, gtr_int, ofL]
    by_cases q1 : a < 0
    · have q : ¬ (0 ≤ a ∧ a < 32) := by omega
      simp [q1, q]; rfl
    by_cases q2 : 31 < a
    · have q : ¬ (0 ≤ a ∧ a < 32) := by omega
      simp [q1, q2, q]; rfl
    · have q : (0 ≤ a ∧ a < 32) := by omega
      obtain ⟨b, rfl⟩ : ∃ b : Nat, a = b := ⟨a.toNat, by omega⟩
      have hb : b < 32 := by omega
      have hp : (2 : Nat) ^ b < 2 ^ 32 := Nat.pow_lt_pow_right (by decide) hb
      rw [if_neg q1, if_neg q2, if_pos q]
      simp only [callD_clo, List.nil_append, List.append_nil, c50 (L := L) hn hL s b hs hb, c68 (L := L) hn hL b hb, ob_some, not_bool, Int.toNat_natCast, cb_bool]
      cases ht : s.testBit b with
      | false =>
        have hlt := or_lt hs hb
        rw [or_off hs hb ht] at hlt ⊢
        simp only [Bool.not_false, if_true, add_u _ _ _ _ s (2 ^ b) hlt, ob_some]
        rw [add_int, wrap_succ (show i < 9223372036854775807 by omega)]
        simp only [ob_some]
        exact ih N (i + 1) (s + 2 ^ b) h3 (by omega) hlt
      | true =>
        rw [or_on ht]
        simp only [Bool.not_true, Bool.false_eq_true, if_false]
        rw [add_int, wrap_succ (show i < 9223372036854775807 by omega)]
        simp only [ob_some]
        exact ih N (i + 1) s h3 (by omega) hs
theorem c9 (hm : 3 ≤ m) (hL : 40 < L) (c : Bool) (l : List Int) (hl : l.length < L) (hlen : l.length < 9223372036854775807) : callP Tryd.prog hh L m 9 [il c l] = some (ofPV 0 l) := by
  obtain ⟨n, rfl⟩ : ∃ n, m = n + 1 := ⟨m - 1, by omega⟩
  refine callP_of' (by omega) (by kernel_rfl) ?_
  rw [r9]
  have := l9 (L := L) n (by omega) hL (fun v w => some (.tup [v, w])) (fun v => d9_3 (kk L n) L v) c l hlen l L 0 0 rfl hl (by omega)
  simp only [d9_0, g9_0, d9_1]
  rw [show (PV.sc (Value.int IntKind.i64 0)) = I ((0 : Nat) : Int) from rfl, show (PV.sc (Value.int IntKind.u32 0)) = U 0 from rfl, this]
  simp only [ofPV, d9_3]
  cases ofL 0 l <;> rfl
theorem l7 {R : Type} (C : Kallee) (ke : List PV → Option R) (c : Bool) (l : List Int) (hlen : l.length * 8 ≤ appendRoom) :
    ∀ (r : List Int) (N i : Nat), l.drop i = r → r.length < N → d7_1i C L ke N (il c l) (I i) ((l.take i).map fun i => I i) = ke (l.map fun i => I i) := by
  have hroom : appendRoom = 140737488355328 := by decide
  intro r
  induction r with
  | nil =>
    intro N i h hN
    obtain ⟨N, rfl⟩ : ∃ n, N = n + 1 := ⟨N - 1, by omega⟩
    have := drop_nil' h
    have h2 : ¬ (i : Int) < l.length := by omega
    rw [List.take_of_length_le (by omega)]
    simp [-goI, d7_1i, d7_2, h2]
  | cons a r ih =>
    intro N i h hN
    obtain ⟨N, rfl⟩ : ∃ n, N = n + 1 := ⟨N - 1, by omega⟩
    obtain ⟨h1, h2, h3, h4⟩ := drop_cons' h
    have h5 : (i : Int) < l.length := by omega
    simp only [List.length_cons] at hN
    have hrec := ih N (i + 1) h3 (by omega)
    rw [List.take_add_one, h2] at hrec
    have happ := app50 ((l.take i).map fun i => I i) [I a] true (by simp only [List.length_map, List.length_take, List.length_cons, List.length_nil]; omega)
    simp only [d7_1i, d7_2, ln50, List.length_map, lss_int, ob_some, cb_bool, decide_eq_true_eq, h5, if_true, ia50, List.getElem?_map, h2, Option.map_some, load_ro y3, bs50, happ, oxs_some]
    rw [add_int, wrap_succ (show i < 9223372036854775807 by omega)]
    simp only [ob_some]
    rw [← hrec]; simp
theorem c7 (hm : 2 ≤ m) (c : Bool) (l : List Int) (hl : l.length < L) (hlen : l.length * 8 ≤ appendRoom) : callP Tryd.prog hh L m 7 [il c l] = some (il false l) := by
  obtain ⟨n, rfl⟩ : ∃ n, m = n + 1 := ⟨m - 1, by omega⟩
  refine callP_of' (by omega) (by kernel_rfl) ?_
  rw [r7]
  have := l7 (L := L) (kk L n) (fun x => d7_3 (kk L n) L x) c l hlen l L 0 rfl hl
  simp only [d7_0, g7_0, d7_1]
  rw [show (PV.sc (Value.int IntKind.i64 0)) = I ((0 : Nat) : Int) from rfl]
  exact this
theorem l10 {R : Type} (C : Kallee) (kr : PV → Option R) (ke : Option R) (c d : Bool) (l : List Int) (hlen : l.length < 9223372036854775807) :
    ∀ (r : List Int) (N i : Nat), l.drop i = r → r.length < N → d10_1i C L kr ke N (il c l) (il d l) (I i) = ke := by
  intro r
  induction r with
  | nil =>
    intro N i h hN
    obtain ⟨N, rfl⟩ : ∃ n, N = n + 1 := ⟨N - 1, by omega⟩
    have := drop_nil' h
    have h2 : ¬ (i : Int) < l.length := by omega
    simp [-goI, d10_1i, d10_2, h2]
  | cons a r ih =>
    intro N i h hN
    obtain ⟨N, rfl⟩ : ∃ n, N = n + 1 := ⟨N - 1, by omega⟩
    obtain ⟨h1, h2, h3, h4⟩ := drop_cons' h
    have h5 : (i : Int) < l.length := by omega
    simp only [List.length_cons] at hN
    have hrec := ih N (i + 1) h3 (by omega)
    simp only [d10_1i, d10_2, ln50, List.length_map, lss_int, ob_some, cb_bool, decide_eq_true_eq, h5, if_true, ia50, List.getElem?_map, h2, Option.map_some, load_ro y3, neq_int, ne_eq, not_true_eq_false, if_false]
    rw [add_int, wrap_succ (show i < 9223372036854775807 by omega)]
    simp only [ob_some]
    exact hrec
theorem c10 (hm : 2 ≤ m) (c d : Bool) (l : List Int) (hl : l.length < L) (hlen : l.length < 9223372036854775807) : callP Tryd.prog hh L m 10 [il c l, il d l] = some (Bo true) := by
  obtain ⟨n, rfl⟩ : ∃ n, m = n + 1 := ⟨m - 1, by omega⟩
  refine callP_of' (by omega) (by kernel_rfl) ?_
  rw [r10]
  have := l10 (L := L) (kk L n) (fun x => some x) (d10_3 (kk L n) L) c d l hlen l L 0 rfl hl
  simp only [d10_0, g10_0, d10_1, ln50, ob_some, List.length_map, neq_int, ne_eq, not_true_eq_false, decide_false, cb_bool, Bool.false_eq_true, if_false]
  rw [show (PV.sc (Value.int IntKind.i64 0)) = I ((0 : Nat) : Int) from rfl, this]
  rfl
theorem neq_bo (x y : Operand) (a b : Bool) : binPV Tryd.prog .neq 4 x y (Bo a) (Bo b) = some (Bo (a != b)) := by
  cases a <;> cases b <;> kernel_rfl
theorem l3 {R : Type} (n : Nat) (hn : 5 ≤ n) (hL : 100 < L) (kr : PV → Option R) (ke : Option R) (a : Nat) (ha : a < 2 ^ 32) :
    ∀ (d N : Nat) (i : Int), i + (d : Int) = 34 → -1 ≤ i → d < N → d3_1i (kk L n) L kr ke N (U a) (I i) = ke := by
  intro d
  induction d with
  | zero =>
    intro N i h h1 hN
    obtain ⟨N, rfl⟩ : ∃ n, N = n + 1 := ⟨N - 1, by omega⟩
    have h2 : ¬ i ≤ 33 := by omega
    simp [-goI, d3_1i, d3_2, h2]
  | succ d ih =>
    intro N i h h1 hN
    obtain ⟨N, rfl⟩ : ∃ n, N = n + 1 := ⟨N - 1, by omega⟩
    have h2 : i ≤ 33 := by omega
    have hrec := ih N (i + 1) (by omega) (by omega) (by omega)
    obtain ⟨s, b, hf⟩ : ∃ (s : Nat) (b : Bool), firstPV a i = .tup [U s, Bo b] := by
      unfold firstPV; split
      · exact ⟨_, _, rfl⟩
      · exact ⟨0, _, rfl⟩
    simp only [d3_1i, d3_2, leq_int, ob_some, cb_bool, decide_eq_true_eq, h2, if_true, callD_clo, List.nil_append, List.append_nil, c31 (L := L) hn hL a ha i, c36 (L := L) hn hL a ha i, hf, extract_tup, List.getElem?_cons_zero, List.getElem?_cons_succ,
      neq_int, ne_eq, not_true_eq_false, decide_false, gcase_f, Bool.false_eq_true, if_false, neq_bo, bne_self_eq_false]
    rw [add_int, wrap64 (by omega) (by omega)]
    simp only [ob_some]
    exact hrec
theorem k3 (hm : 6 ≤ m) (hL : 100 < L) (l : List Int) (hl : l.length < L) (hlen : l.length * 8 ≤ appendRoom) (a b : Nat) (ha : a < 2 ^ 32) (hb : b < 2 ^ 32) (haw : callP Tryd.prog hh L m 18 [] = some (Bo true)) :
    callP Tryd.prog hh L (m + 1) 3 [il false l, U a, U b] = some (Bo true) := by
  refine callP_of' (by omega) (by kernel_rfl) ?_
  rw [rq3]
  have hroom : appendRoom = 140737488355328 := by decide
  have h63 : l.length < 9223372036854775807 := by omega
  obtain ⟨s, e, hof⟩ : ∃ (s : Nat) (e : Int), ofPV 0 l = .tup [U s, I e] := by
    unfold ofPV; split
    · exact ⟨_, _, rfl⟩
    · exact ⟨0, _, rfl⟩
  have hons := ons_len a.testBit 32
  have f11 := k11 (L := L) (m := m - 1) (by omega) (by omega) a ha
  rw [show m - 1 + 1 = m by omega] at f11
  have f10 := c10 (L := L) (m := m) (by omega) false false ((ons a.testBit 32).map fun i : Nat => (i : Int)) (by rw [List.length_map]; omega) (by rw [List.length_map]; omega)
  have eil : il false ((ons a.testBit 32).map fun i : Nat => (i : Int)) = ints false (ons a.testBit 32) := by simp [il, ints]
  rw [eil] at f10
  have hloop := l3 (L := L) m (by omega) hL (fun v => some v) (d3_3 (kk L m) L) a ha 35 L (-1) (by omega) (by omega) (by omega)
  simp only [d3_0, g3_0, d3_1, callD_clo, List.nil_append, List.append_nil, c7 (L := L) (m := m) (by omega) false l hl hlen, c8 (L := L) (m := m) (by omega) false l hl h63, c9 (L := L) (m := m) (by omega) (by omega) false l hl h63, hof, ob_some, extract_tup, List.getElem?_cons_zero, List.getElem?_cons_succ,
    neq_int, ne_eq, not_true_eq_false, decide_false, gcase_f, Bool.false_eq_true, if_false, c10 (L := L) (m := m) (by omega) false false l hl h63, not_bool, Bool.not_true, f11, c34 (L := L) (show 3 ≤ m by omega) (by omega) a ha, f10, c18 (L := L) (show 3 ≤ m by omega) a ha, ln50, List.length_map,
    Pq.c31 (L := L) (show 2 ≤ m by omega) a b ha hb, Pq.c38 (L := L) (show 3 ≤ m by omega) (by omega) a b ha hb, neq_bo, bne_self_eq_false, cb_bool]
  rw [hloop]
  simp only [d3_3, callD_clo, List.nil_append, List.append_nil, haw, ob_some]
end
end Go.Lite.Pp

namespace Go.Lite.Tx
open Go Go.Lite
set_option linter.unusedVariables false
set_option linter.unusedSimpArgs false
/-! # plain: texts of sets -/
abbrev Bs := List UInt8
def dig (n : Nat) : Bs := if n < 10 then [UInt8.ofNat (48 + n)] else [UInt8.ofNat (48 + n / 10), UInt8.ofNat (48 + n % 10)]
theorem dig_dec (n : Nat) (h : n < 100) : Lib.decDigits n = dig n := by
  unfold Lib.decDigits dig
  by_cases h1 : n < 10
  · rw [dif_pos h1, if_pos h1]
  · rw [dif_neg h1, if_neg h1]
    unfold Lib.decDigits
    rw [dif_pos (by omega)]; rfl
/-! ## cutting at a byte -/
def spl (c : UInt8) : Bs → List Bs
  | [] => [[]]
  | b :: l => if b = c then [] :: spl c l else (match spl c l with | p :: r => (b :: p) :: r | [] => [[b]])
theorem spl_ne (c : UInt8) : ∀ l, ∃ p r, spl c l = p :: r
  | [] => ⟨[], [], rfl⟩
  | b :: l => by
    simp only [spl]
    split
    · exact ⟨_, _, rfl⟩
    · obtain ⟨p, r, h⟩ := spl_ne c l
      rw [h]; exact ⟨_, _, rfl⟩
theorem spl_none {c : UInt8} : ∀ {p : Bs}, c ∉ p → spl c p = [p]
  | [], _ => rfl
  | b :: p, h => by
    have h1 : b ≠ c := fun e => h (by simp [e])
    simp only [spl, h1, if_false, spl_none (fun hm => h (List.mem_cons_of_mem _ hm))]
theorem spl_app {c : UInt8} : ∀ {p : Bs} (l : Bs), c ∉ p → spl c (p ++ c :: l) = p :: spl c l
  | [], l, _ => by simp [spl]
  | b :: p, l, h => by
    have h1 : b ≠ c := fun e => h (by simp [e])
    simp only [List.cons_append, spl, h1, if_false, spl_app l (fun hm => h (List.mem_cons_of_mem _ hm))]
theorem first_occ (c : UInt8) : ∀ l : Bs, c ∉ l ∨ ∃ p r, c ∉ p ∧ l = p ++ c :: r
  | [] => .inl (by simp)
  | b :: l => by
    by_cases h : b = c
    · subst h; exact .inr ⟨[], l, by simp, rfl⟩
    · rcases first_occ c l with h1 | ⟨p, r, h1, rfl⟩
      · exact .inl (by simp [h1, Ne.symm h])
      · exact .inr ⟨b :: p, r, by simp [h1, Ne.symm h], rfl⟩
theorem index_none {c : UInt8} : ∀ {l : Bs}, c ∉ l → Lib.index l [c] = -1
  | [], _ => rfl
  | b :: l, h => by
    have h1 : c ≠ b := fun e => h (by simp [e])
    have hp : ([c] : Bs).isPrefixOf (b :: l) = false := by simp [List.isPrefixOf, h1]
    rw [Lib.index, hp, index_none (fun hm => h (List.mem_cons_of_mem _ hm))]; rfl
theorem index_at {c : UInt8} : ∀ {p : Bs} (r : Bs), c ∉ p → Lib.index (p ++ c :: r) [c] = (p.length : Int)
  | [], r, _ => by
    have hp : ([c] : Bs).isPrefixOf (c :: r) = true := by simp [List.isPrefixOf]
    rw [List.nil_append, Lib.index, hp]; rfl
  | b :: p, r, h => by
    have h1 : c ≠ b := fun e => h (by simp [e])
    have hp : ([c] : Bs).isPrefixOf (b :: (p ++ c :: r)) = false := by simp [List.isPrefixOf, h1]
    rw [List.cons_append, Lib.index, hp, index_at r (fun hm => h (List.mem_cons_of_mem _ hm))]
    have : ((p.length : Int) == -1) = false := by simp
    rw [this]; simp
theorem splitK_spl (c : UInt8) : ∀ (k : Nat) (l : Bs), l.count c = k → Lib.splitK [c] 0 k l = spl c l
  | 0, l, h => by
    have : c ∉ l := List.count_eq_zero.1 h
    rw [spl_none this]; rfl
  | k + 1, l, h => by
    rcases first_occ c l with h1 | ⟨p, r, h1, rfl⟩
    · rw [List.count_eq_zero.2 h1] at h; cases h
    · have hc : r.count c = k := by
        rw [List.count_append, List.count_eq_zero.2 h1, List.count_cons_self] at h; omega
      rw [Lib.splitK, index_at r h1]
      have : ¬ (((p.length : Int) == -1) = true) := by simp
      rw [if_neg this, spl_app r h1, ← splitK_spl c k r hc]
      congr 1
      · simp
      · simp only [List.length_cons, List.length_nil, Int.toNat_natCast]
        rw [show p.length + (0 + 1) = (p ++ [c]).length by simp, show p ++ c :: r = (p ++ [c]) ++ r by simp, List.drop_left]
theorem join_spl (c : UInt8) : ∀ l : Bs, Lib.join (spl c l) [c] = l := by
  intro l
  have key : ∀ n (l : Bs), l.count c = n → Lib.join (spl c l) [c] = l := by
    intro n
    induction n with
    | zero =>
      intro l h
      rw [spl_none (List.count_eq_zero.1 h), Lib.join_one]
    | succ n ih =>
      intro l h
      rcases first_occ c l with h1 | ⟨p, r, h1, rfl⟩
      · rw [spl_none h1, Lib.join_one]
      · have hc : r.count c = n := by
          rw [List.count_append, List.count_eq_zero.2 h1, List.count_cons_self] at h; omega
        rw [spl_app r h1]
        have := ih r hc
        obtain ⟨q, t, hq⟩ := spl_ne c r
        rw [hq] at this ⊢
        rw [Lib.join_cons] at this ⊢
        simp only [Lib.joinTail, List.map_cons, List.flatten_cons] at this ⊢
        rw [← this]; simp
  exact key _ l rfl
theorem spl_join {c : UInt8} : ∀ {r : List Bs} {p : Bs}, (∀ q ∈ p :: r, c ∉ q) → spl c (Lib.join (p :: r) [c]) = p :: r
  | [], p, h => by rw [Lib.join_one, spl_none (h p (by simp))]
  | q :: r, p, h => by
    have ih := spl_join (r := r) (p := q) (fun x hx => h x (List.mem_cons_of_mem _ hx))
    rw [Lib.join_cons] at ih ⊢
    have e : p ++ Lib.joinTail [c] (q :: r) = p ++ c :: (q ++ Lib.joinTail [c] r) := by simp [Lib.joinTail]
    rw [e, spl_app _ (h p (by simp)), ih]
theorem cut_none {c : UInt8} {l : Bs} (h : c ∉ l) : Lib.cut l [c] = (l, [], false) := by
  unfold Lib.cut; rw [index_none h, if_neg (by omega)]
theorem cut_at {c : UInt8} {p : Bs} (r : Bs) (h : c ∉ p) : Lib.cut (p ++ c :: r) [c] = (p, r, true) := by
  unfold Lib.cut; rw [index_at r h, if_pos (by omega)]
  have e : ((p.length : Int)).toNat + ([c] : Bs).length = (p ++ [c]).length := by simp
  rw [e, show p ++ c :: r = (p ++ [c]) ++ r by simp, List.drop_left]
  simp
/-! ## numbers -/
def num (l : Bs) : Int := match (List.range 32).find? (fun k => dig k == l) with | some k => (k : Nat) | none => -1
theorem num_dig {k : Nat} (h : k < 32) : num (dig k) = k := by
  have : ∀ k : Fin 32, num (dig k.val) = k.val := by decide
  exact this ⟨k, h⟩
theorem num_inv {l : Bs} (h : 0 ≤ num l) : ∃ k, k < 32 ∧ l = dig k ∧ num l = k := by
  unfold num at h ⊢
  split at h
  · rename_i k hk
    have h1 := List.find?_some hk
    have h2 := List.mem_of_find?_eq_some hk
    exact ⟨k, List.mem_range.1 h2, (eq_of_beq h1).symm, rfl⟩
  · omega
theorem dig_no {k : Nat} (h : k < 32) : (45 : UInt8) ∉ dig k ∧ (44 : UInt8) ∉ dig k := by
  have : ∀ k : Fin 32, (45 : UInt8) ∉ dig k.val ∧ (44 : UInt8) ∉ dig k.val := by decide
  exact this ⟨k, h⟩
theorem dig_hd {k : Nat} (h : k < 32) : ∃ a r, dig k = a :: r ∧ a ≠ 110 := by
  have : ∀ k : Fin 32, (dig k.val).head? ≠ none ∧ (dig k.val).head? ≠ some 110 := by decide
  have h1 := this ⟨k, h⟩
  cases hd : dig k with
  | nil => simp [hd] at h1
  | cons a r => exact ⟨a, r, rfl, fun e => by simp [hd, e] at h1⟩
/-! ## runs -/
def rt (p : Nat × Nat) : Bs := if p.1 < p.2 then dig p.1 ++ 45 :: dig p.2 else dig p.1
def orR (s a : Nat) : Nat → Nat
  | 0 => s
  | d + 1 => orR (s ||| 2 ^ a) (a + 1) d
theorem orR_bit : ∀ (d s a j : Nat), (orR s a d).testBit j = (s.testBit j || (decide (a ≤ j) && decide (j < a + d)))
  | 0, s, a, j => by
    have e : (decide (a ≤ j) && decide (j < a + 0)) = false := by
      by_cases h : a ≤ j
      · have : decide (j < a + 0) = false := by simp; omega
        rw [this, Bool.and_false]
      · simp [h]
    rw [e, Bool.or_false]; rfl
  | d + 1, s, a, j => by
    rw [orR, orR_bit d, Nat.testBit_or, Nat.testBit_two_pow]
    by_cases h1 : a = j
    · subst h1; simp
    · have e1 : decide (a = j) = false := by simp [h1]
      have e2 : decide (a + 1 ≤ j) = decide (a ≤ j) := by congr 1; apply propext; omega
      have e3 : decide (j < a + 1 + d) = decide (j < a + (d + 1)) := by congr 1; apply propext; omega
      rw [e1, e2, e3]; simp
theorem orR_lt : ∀ (d s a : Nat), s < 2 ^ 32 → a + d ≤ 32 → orR s a d < 2 ^ 32
  | 0, s, a, h, _ => h
  | d + 1, s, a, h, hd => orR_lt d _ _ (Nat.or_lt_two_pow h (Nat.pow_lt_pow_right (by decide) (by omega))) (by omega)
def val : Nat → List (Nat × Nat) → Prop
  | _, [] => True
  | n, p :: r => n ≤ p.1 ∧ p.1 ≤ p.2 ∧ p.2 < 32 ∧ val (p.2 + 2) r
def setR (s : Nat) : List (Nat × Nat) → Nat
  | [] => s
  | p :: r => setR (orR s p.1 (p.2 - p.1 + 1)) r
def inR (R : List (Nat × Nat)) (j : Nat) : Bool := R.any fun p => decide (p.1 ≤ j) && decide (j ≤ p.2)
theorem setR_bit : ∀ {R : List (Nat × Nat)} {n s : Nat}, val n R → ∀ j, (setR s R).testBit j = (s.testBit j || inR R j)
  | [], n, s, _, j => by simp [setR, inR]
  | p :: r, n, s, h, j => by
    obtain ⟨h1, h2, h3, h4⟩ := h
    rw [setR, setR_bit h4, orR_bit]
    have e : decide (j < p.1 + (p.2 - p.1 + 1)) = decide (j ≤ p.2) := by congr 1; apply propext; omega
    rw [e]; simp [inR, Bool.or_assoc]
theorem setR_lt : ∀ {R : List (Nat × Nat)} {n s : Nat}, val n R → s < 2 ^ 32 → setR s R < 2 ^ 32
  | [], n, s, _, hs => hs
  | p :: r, n, s, h, hs => by
    obtain ⟨h1, h2, h3, h4⟩ := h
    exact setR_lt (R := r) (s := orR s p.1 (p.2 - p.1 + 1)) h4 (orR_lt _ _ _ hs (by omega))
theorem val_mono : ∀ {R : List (Nat × Nat)} {n m : Nat}, m ≤ n → val n R → val m R
  | [], _, _, _, _ => trivial
  | p :: r, n, m, hm, h => ⟨by have := h.1; omega, h.2⟩
theorem inR_low : ∀ {R : List (Nat × Nat)} {n j : Nat}, val n R → j < n → inR R j = false
  | [], _, _, _, _ => rfl
  | p :: r, n, j, h, hj => by
    obtain ⟨h1, h2, h3, h4⟩ := h
    have e : decide (p.1 ≤ j) = false := by simp; omega
    have := inR_low h4 (show j < p.2 + 2 by omega)
    simp only [inR, List.any_cons, e, Bool.false_and, Bool.false_or] at this ⊢
    exact this
/-! ## the text's set -/
def go : Nat → Nat → List Bs → Option Nat
  | s, _, [] => some s
  | s, n, p :: r =>
    if num (Lib.cut p [45]).1 < n ∨ (if (Lib.cut p [45]).2.2 = true then num (Lib.cut p [45]).2.1 else num (Lib.cut p [45]).1) < num (Lib.cut p [45]).1 ∨
      ((Lib.cut p [45]).2.2 = true ∧ (if (Lib.cut p [45]).2.2 = true then num (Lib.cut p [45]).2.1 else num (Lib.cut p [45]).1) = num (Lib.cut p [45]).1) then none
    else go (orR s (num (Lib.cut p [45]).1).toNat ((if (Lib.cut p [45]).2.2 = true then num (Lib.cut p [45]).2.1 else num (Lib.cut p [45]).1).toNat - (num (Lib.cut p [45]).1).toNat + 1))
      ((if (Lib.cut p [45]).2.2 = true then num (Lib.cut p [45]).2.1 else num (Lib.cut p [45]).1).toNat + 2) r
theorem go_sound : ∀ {ps : List Bs} {s n z : Nat}, go s n ps = some z → ∃ R, val n R ∧ ps = R.map rt ∧ z = setR s R
  | [], s, n, z, h => ⟨[], trivial, rfl, by simp only [go, Option.some.injEq] at h; exact h.symm⟩
  | p :: r, s, n, z, h => by
    rcases first_occ 45 p with h1 | ⟨x, y, h1, rfl⟩
    · simp only [go, cut_none h1, Bool.false_eq_true, if_false, false_and, or_false] at h
      split at h
      · cases h
      · rename_i hq
        have h2 : (n : Int) ≤ num p := by omega
        obtain ⟨k, hk, rfl, hn⟩ := num_inv (show 0 ≤ num p by omega)
        rw [hn] at h h2
        simp only [Int.toNat_natCast] at h
        obtain ⟨R, a1, a2, a3⟩ := go_sound h
        exact ⟨(k, k) :: R, ⟨by simp only; omega, Nat.le_refl _, hk, a1⟩, by rw [a2]; simp [rt], a3⟩
    · simp only [go, cut_at y h1, if_true, true_and] at h
      split at h
      · cases h
      · rename_i hq
        have h2 : (n : Int) ≤ num x := by omega
        have h3 : num x ≤ num y := by omega
        have h4 : num y ≠ num x := by omega
        obtain ⟨k, hk, rfl, hn⟩ := num_inv (show 0 ≤ num x by omega)
        obtain ⟨j, hj, rfl, hm⟩ := num_inv (show 0 ≤ num y by omega)
        rw [hn, hm] at h h3 h4
        rw [hn] at h2
        simp only [Int.toNat_natCast] at h
        obtain ⟨R, a1, a2, a3⟩ := go_sound h
        have hlt : k < j := by omega
        exact ⟨(k, j) :: R, ⟨by simp only; omega, by simp only; omega, hj, a1⟩, by rw [a2]; simp [rt, hlt], a3⟩
theorem go_complete : ∀ {R : List (Nat × Nat)} {s n : Nat}, val n R → go s n (R.map rt) = some (setR s R)
  | [], s, n, _ => rfl
  | (a, b) :: R, s, n, h => by
    obtain ⟨h1, h2, h3, h4⟩ := h
    simp only at h1 h2 h3 h4
    have ha := num_dig (show a < 32 by omega)
    have hb := num_dig h3
    by_cases hlt : a < b
    · have e : rt (a, b) = dig a ++ 45 :: dig b := by simp [rt, hlt]
      have g1 : ¬ ((a : Int) < (n : Int) ∨ (b : Int) < (a : Int) ∨ (b : Int) = (a : Int)) := by omega
      simp only [List.map_cons, e, go, cut_at (dig b) (dig_no (show a < 32 by omega)).1, ha, hb, if_true, true_and, g1, if_false, Int.toNat_natCast]
      exact go_complete h4
    · have hab : a = b := by omega
      subst hab
      have e : rt (a, a) = dig a := by simp [rt]
      have g1 : ¬ ((a : Int) < (n : Int) ∨ (a : Int) < (a : Int) ∨ False) := by
        rintro (h | h | h)
        · omega
        · omega
        · exact h
      simp only [List.map_cons, e, go, cut_none (dig_no (show a < 32 by omega)).1, ha, Bool.false_eq_true, if_false, false_and, g1, Int.toNat_natCast]
      exact go_complete h4
/-! ## the set's runs -/
def ones (s i : Nat) : Nat → Nat
  | 0 => 0
  | d + 1 => if s.testBit i then 1 + ones s (i + 1) d else 0
theorem ones_le (s : Nat) : ∀ d i, ones s i d ≤ d
  | 0, _ => Nat.le_refl _
  | d + 1, i => by simp only [ones]; split; have := ones_le s d (i + 1); omega; omega
theorem ones_on (s : Nat) : ∀ d i j, j < ones s i d → s.testBit (i + j) = true
  | 0, i, j, h => by simp [ones] at h
  | d + 1, i, j, h => by
    simp only [ones] at h
    split at h
    · rename_i hb
      cases j with
      | zero => exact hb
      | succ j => rw [show i + (j + 1) = i + 1 + j by omega]; exact ones_on s d (i + 1) j (by omega)
    · omega
theorem ones_off (s : Nat) : ∀ d i, ones s i d < d → s.testBit (i + ones s i d) = false
  | 0, i, h => by omega
  | d + 1, i, h => by
    simp only [ones] at h ⊢
    split at h
    · rename_i hb
      rw [if_pos hb, show i + (1 + ones s (i + 1) d) = i + 1 + ones s (i + 1) d by omega]
      exact ones_off s d (i + 1) (by omega)
    · rename_i hb
      rw [if_neg hb]; simpa using hb
theorem ones_is (s : Nat) {d i n : Nat} (hn : n ≤ d) (h1 : ∀ j, j < n → s.testBit (i + j) = true) (h2 : n < d → s.testBit (i + n) = false) : ones s i d = n := by
  have a := ones_le s d i
  rcases Nat.lt_trichotomy (ones s i d) n with h | h | h
  · have b := ones_off s d i (by omega)
    rw [h1 _ h] at b; cases b
  · exact h
  · have b := ones_on s d i n h
    rw [h2 (by omega)] at b; cases b
def runs (s : Nat) : Nat → Nat → List (Nat × Nat)
  | 0, _ => []
  | N + 1, i => if 32 ≤ i then [] else if ones s i (32 - i) = 0 then runs s N (i + 1) else (i, i + ones s i (32 - i) - 1) :: runs s N (i + ones s i (32 - i))
theorem runs_of : ∀ {N i z : Nat} {R : List (Nat × Nat)}, val i R → (∀ j, i ≤ j → j < 32 → z.testBit j = inR R j) → 32 - i < N → runs z N i = R
  | 0, i, z, R, _, _, h => by omega
  | N + 1, i, z, R, hv, hb, hN => by
    rw [runs]
    by_cases hi : 32 ≤ i
    · rw [if_pos hi]
      cases R with
      | nil => rfl
      | cons p r => obtain ⟨h1, h2, h3, _⟩ := hv; omega
    rw [if_neg hi]
    have off : inR R i = false → val (i + 1) R → runs z (N + 1) i = R := fun h0 hv1 => by
      have e : ones z i (32 - i) = 0 := by
        refine ones_is z (Nat.zero_le _) (fun j hj => by omega) fun _ => ?_
        rw [Nat.add_zero, hb i (Nat.le_refl _) (by omega)]; exact h0
      rw [runs, if_neg hi, if_pos e]
      exact runs_of hv1 (fun j h1 h2 => hb j (by omega) h2) (by omega)
    cases R with
    | nil =>
      have := off rfl trivial
      rw [runs, if_neg hi] at this; exact this
    | cons p r =>
      obtain ⟨h1, h2, h3, h4⟩ := hv
      by_cases hlt : i < p.1
      · have := off (inR_low (n := p.1) ⟨Nat.le_refl _, h2, h3, h4⟩ hlt) ⟨by omega, h2, h3, h4⟩
        rw [runs, if_neg hi] at this; exact this
      · have hip : i = p.1 := by omega
        subst hip
        have e : ones z p.1 (32 - p.1) = p.2 - p.1 + 1 := by
          refine ones_is z (by omega) (fun j hj => ?_) fun h => ?_
          · rw [hb _ (by omega) (by omega)]
            have a1 : decide (p.1 ≤ p.1 + j) = true := by simp
            have a2 : decide (p.1 + j ≤ p.2) = true := by simp; omega
            simp only [inR, List.any_cons, a1, a2, Bool.and_self, Bool.true_or]
          · rw [hb _ (by omega) (by omega), show p.1 + (p.2 - p.1 + 1) = p.2 + 1 by omega]
            have a2 : decide (p.2 + 1 ≤ p.2) = false := by simp
            have a3 := inR_low h4 (show p.2 + 1 < p.2 + 2 by omega)
            simp only [inR, List.any_cons, a2, Bool.and_false, Bool.false_or] at a3 ⊢
            exact a3
        rw [e, if_neg (by omega), show p.1 + (p.2 - p.1 + 1) = p.2 + 1 by omega, runs_of (val_mono (by omega) h4) (fun j g1 g2 => ?_) (by omega)]
        · simp
        · rw [hb j (by omega) g2]
          have a2 : decide (j ≤ p.2) = false := by simp; omega
          simp only [inR, List.any_cons, a2, Bool.and_false, Bool.false_or]
theorem runs_val (s : Nat) : ∀ N i, val i (runs s N i) ∧ (s.testBit i = false ∨ 32 ≤ i → val (i + 1) (runs s N i)) ∧ ∀ j, i ≤ j → j < 32 → 32 - i < N → s.testBit j = inR (runs s N i) j
  | 0, i => ⟨trivial, fun _ => trivial, fun j _ _ h => by omega⟩
  | N + 1, i => by
    simp only [runs]
    by_cases hi : 32 ≤ i
    · simp only [if_pos hi]
      exact ⟨trivial, fun _ => trivial, fun j h1 h2 => by omega⟩
    simp only [if_neg hi]
    have ho := ones_le s (32 - i) i
    by_cases h0 : ones s i (32 - i) = 0
    · simp only [if_pos h0]
      obtain ⟨a1, a2, a3⟩ := runs_val s N (i + 1)
      have hoff := ones_off s (32 - i) i (by omega)
      rw [h0, Nat.add_zero] at hoff
      refine ⟨val_mono (by omega) a1, fun _ => a1, fun j h1 h2 h3 => ?_⟩
      by_cases hj : j = i
      · subst hj; rw [hoff, inR_low a1 (by omega)]
      · exact a3 j (by omega) h2 (by omega)
    · simp only [if_neg h0]
      obtain ⟨a1, a2, a3⟩ := runs_val s N (i + ones s i (32 - i))
      have hend : s.testBit (i + ones s i (32 - i)) = false ∨ 32 ≤ i + ones s i (32 - i) := by
        rcases Nat.lt_or_ge (ones s i (32 - i)) (32 - i) with h | h
        · exact .inl (ones_off s (32 - i) i h)
        · exact .inr (by omega)
      have a4 := a2 hend
      have hon := ones_on s (32 - i) i
      refine ⟨⟨Nat.le_refl _, by simp only; omega, by simp only; omega, val_mono (by simp only; omega) a4⟩, fun h => ?_, fun j h1 h2 h3 => ?_⟩
      · rcases h with h | h
        · have := hon 0 (by omega); rw [Nat.add_zero, h] at this; cases this
        · omega
      · simp only [inR, List.any_cons]
        by_cases hj : j < i + ones s i (32 - i)
        · have := hon (j - i) (by omega)
          rw [show i + (j - i) = j by omega] at this
          have b1 : decide (i ≤ j) = true := by simp [h1]
          have b2 : decide (j ≤ i + ones s i (32 - i) - 1) = true := by simp; omega
          rw [this, b1, b2]; simp
        · have b2 : decide (j ≤ i + ones s i (32 - i) - 1) = false := by simp; omega
          rw [b2, Bool.and_false, Bool.false_or]
          exact a3 j (by omega) h2 (by omega)
def rs (z : Nat) : List (Nat × Nat) := runs z 33 0
theorem rs_val (z : Nat) : val 0 (rs z) := (runs_val z 33 0).1
theorem rs_set {z : Nat} (hz : z < 2 ^ 32) : setR 0 (rs z) = z := by
  apply Nat.eq_of_testBit_eq
  intro j
  rw [setR_bit (rs_val z), Nat.zero_testBit, Bool.false_or]
  rcases Nat.lt_or_ge j 32 with h | h
  · exact ((runs_val z 33 0).2.2 j (by omega) h (by omega)).symm
  · have h1 : z.testBit j = false := Nat.testBit_lt_two_pow (Nat.lt_of_lt_of_le hz (Nat.pow_le_pow_right (by decide) h))
    have h2 : (setR 0 (rs z)).testBit j = false := Nat.testBit_lt_two_pow (Nat.lt_of_lt_of_le (setR_lt (rs_val z) (by decide)) (Nat.pow_le_pow_right (by decide) h))
    rw [setR_bit (rs_val z), Nat.zero_testBit, Bool.false_or] at h2
    rw [h1, h2]
theorem rs_uniq {R : List (Nat × Nat)} (h : val 0 R) : rs (setR 0 R) = R :=
  runs_of h (fun j _ _ => by rw [setR_bit h, Nat.zero_testBit, Bool.false_or]) (by omega)
/-! ## the document's text -/
def none4 : Bs := [110, 111, 110, 101]
def txt (z : Nat) : Bs := if z = 0 then none4 else Lib.join ((rs z).map rt) [44]
def parseL (t : Bs) : Option Nat := if t = none4 then some 0 else go 0 0 (spl 44 t)
theorem rt_no {p : Nat × Nat} (h1 : p.1 < 32) (h2 : p.2 < 32) : (44 : UInt8) ∉ rt p := by
  have := (dig_no h1).2; have := (dig_no h2).2
  simp only [rt]; split <;> simp [*]
theorem rt_hd {p : Nat × Nat} (h1 : p.1 < 32) : ∃ a r, rt p = a :: r ∧ a ≠ 110 := by
  obtain ⟨a, r, h, ha⟩ := dig_hd h1
  simp only [rt, h]; split
  · exact ⟨a, _, rfl, ha⟩
  · exact ⟨a, _, rfl, ha⟩
theorem val_all : ∀ {R : List (Nat × Nat)} {n : Nat}, val n R → ∀ p ∈ R, p.1 < 32 ∧ p.2 < 32
  | [], _, _, p, hp => by simp at hp
  | q :: r, n, h, p, hp => by
    obtain ⟨h1, h2, h3, h4⟩ := h
    rw [List.mem_cons] at hp
    rcases hp with rfl | hp
    · exact ⟨by omega, h3⟩
    · exact val_all h4 p hp
theorem rs_ne {z : Nat} (hz : z < 2 ^ 32) (h : z ≠ 0) : ∃ p r, rs z = p :: r := by
  cases hr : rs z with
  | nil => have := rs_set hz; rw [hr] at this; exact absurd this.symm h
  | cons p r => exact ⟨p, r, rfl⟩
theorem txt_spl {z : Nat} (hz : z < 2 ^ 32) (h : z ≠ 0) : spl 44 (txt z) = (rs z).map rt ∧ txt z ≠ none4 := by
  obtain ⟨p, r, hr⟩ := rs_ne hz h
  have hv := val_all (rs_val z)
  rw [hr] at hv
  rw [txt, if_neg h, hr, List.map_cons]
  refine ⟨spl_join fun q hq => ?_, fun e => ?_⟩
  · rw [← List.map_cons, List.mem_map] at hq
    obtain ⟨x, hx, rfl⟩ := hq
    exact rt_no (hv x hx).1 (hv x hx).2
  · obtain ⟨a, t, ha, hne⟩ := rt_hd (hv p (by simp)).1
    rw [Lib.join_cons, ha, none4, List.cons_append, List.cons.injEq] at e
    exact hne e.1
theorem parse_txt {z : Nat} (hz : z < 2 ^ 32) : parseL (txt z) = some z := by
  by_cases h : z = 0
  · subst h; rfl
  · obtain ⟨h1, h2⟩ := txt_spl hz h
    rw [parseL, if_neg h2, h1, go_complete (rs_val z), rs_set hz]
theorem txt_parse {t : Bs} {z : Nat} (h : parseL t = some z) : z < 2 ^ 32 ∧ txt z = t := by
  unfold parseL at h
  split at h
  · rename_i e; simp only [Option.some.injEq] at h; subst h; exact ⟨by decide, by rw [e]; rfl⟩
  · obtain ⟨R, h1, h2, rfl⟩ := go_sound h
    have hz := setR_lt h1 (show 0 < 2 ^ 32 by decide)
    refine ⟨hz, ?_⟩
    obtain ⟨p, r, hp⟩ := spl_ne 44 t
    have hR : setR 0 R ≠ 0 := fun e => by
      have := rs_uniq h1
      rw [e] at this
      have e0 : rs 0 = [] := by decide
      rw [e0] at this; rw [← this] at h2; rw [hp] at h2; cases h2
    rw [txt, if_neg hR, rs_uniq h1, ← h2, join_spl]
theorem txt_inj {a b : Nat} (ha : a < 2 ^ 32) (hb : b < 2 ^ 32) (h : txt a = txt b) : a = b := by
  have := parse_txt ha
  rw [h, parse_txt hb] at this; exact (Option.some.inj this).symm
end Go.Lite.Tx

namespace Go.Lite.Tx
open Go Go.Lite Go.Lib
set_option linter.unusedVariables false
set_option linter.unusedSimpArgs false
/-! # plain: TrimFunc of digits -/
theorem digN_eq {x : Nat} (h : digN x = true) : 48 ≤ x ∧ x ≤ 57 := by simpa [digN] using h
theorem digN_of {x : Nat} (h : 48 ≤ x) (h' : x ≤ 57) : digN x = true := by simp [digN, h, h']
theorem decN_dig {n b0 b1 b2 b3 : Nat} (h : digN (decodeN n b0 b1 b2 b3).1 = true) : digN b0 = true ∧ (decodeN n b0 b1 b2 b3).2 = 1 := by
  have h1 := digN_eq h
  by_cases hb : b0 < 128
  · have e : decodeN n b0 b1 b2 b3 = (b0, 1) := by unfold decodeN; rw [if_pos hb]
    rw [e] at h ⊢; exact ⟨h, rfl⟩
  · exfalso
    unfold decodeN at h1
    rw [if_neg hb] at h1
    split at h1
    · split at h1 <;> (simp only at h1; omega)
    · split at h1
      · split at h1 <;> (simp only at h1; omega)
      · split at h1
        · split at h1 <;> (simp only at h1; omega)
        · simp only at h1; omega
theorem decN_of {n b0 b1 b2 b3 : Nat} (h : digN b0 = true) : decodeN n b0 b1 b2 b3 = (b0, 1) := by
  have := digN_eq h
  unfold decodeN; rw [if_pos (by omega)]
def allD (l : Bs) : Bool := l.all fun b => digN b.toNat
theorem last_dig {l : Bs} (hl : 0 < l.length) (h : digN (decodeLastL l).1 = true) : digN (l.getD (l.length - 1) 0).toNat = true ∧ (decodeLastL l).2 = 1 := by
  have hne : l ≠ [] := List.length_pos_iff.1 hl
  unfold decodeLastL at h ⊢
  rw [if_neg hne] at h ⊢
  by_cases h1 : (l.getD (l.length - 1) 0).toNat < 128
  · rw [if_pos h1] at h ⊢; exact ⟨h, rfl⟩
  · rw [if_neg h1] at h ⊢
    simp only at h ⊢
    by_cases h2 : lastStart l + (decodeL (l.drop (lastStart l))).2 = l.length
    · rw [if_pos h2] at h ⊢
      rw [decodeL_N] at h h2 ⊢
      obtain ⟨a1, a2⟩ := decN_dig h
      rw [a2] at h2
      have e : (l.drop (lastStart l)).getD 0 0 = l.getD (l.length - 1) 0 := by
        simp only [List.getD_eq_getElem?_getD, List.getElem?_drop]
        rw [show lastStart l + 0 = l.length - 1 by omega]
      rw [e] at a1
      have := digN_eq a1
      omega
    · rw [if_neg h2] at h
      exact absurd (digN_eq h).2 (by decide)
theorem lastIdx_of (s : ByteArray) : ∀ (f i : Nat), i ≤ f → i ≤ s.data.toList.length → (∃ j, j < i ∧ digN (s.data.toList.getD j 0).toNat = false) → 0 ≤ lastIdxFuncFrom digN false s f i ∧ lastIdxFuncFrom digN false s f i < i
  | 0, i, hf, _, ⟨j, hj, _⟩ => by omega
  | f + 1, i, hf, hi, ⟨j, hj, hd⟩ => by
    have hlen : (s.data.toList.take i).length = i := by rw [List.length_take]; omega
    have hw := decodeLastL_width (s.data.toList.take i) (by omega)
    rw [hlen] at hw
    rw [lastIdxFuncFrom, if_pos (by omega)]
    cases hp : digN (decodeLastL (s.data.toList.take i)).1 with
    | false => rw [if_pos rfl]; omega
    | true =>
      rw [if_neg (by simp)]
      obtain ⟨a1, a2⟩ := last_dig (by omega) hp
      rw [a2]
      rw [hlen] at a1
      have e : (s.data.toList.take i).getD (i - 1) 0 = s.data.toList.getD (i - 1) 0 := by
        simp only [List.getD_eq_getElem?_getD]
        rw [List.getElem?_take_of_lt (by omega)]
      rw [e] at a1
      have hji : j < i - 1 := by
        rcases Nat.lt_or_ge j (i - 1) with h | h
        · exact h
        · have : j = i - 1 := by omega
          rw [this, a1] at hd; cases hd
      have := lastIdx_of s f (i - 1) (by omega) (by omega) ⟨j, hji, hd⟩
      omega
theorem idx_none (s : ByteArray) : ∀ (f pos : Nat), s.data.toList.length - pos ≤ f → idxFuncFrom digN false s f pos = -1 → ∀ j, pos ≤ j → j < s.data.toList.length → digN (s.data.toList.getD j 0).toNat = true
  | 0, pos, hf, _, j, h1, h2 => by omega
  | f + 1, pos, hf, h, j, h1, h2 => by
    have hsz : s.size = s.data.toList.length := rfl
    rw [idxFuncFrom, if_pos (by omega)] at h
    cases hp : digN (Utf8.decode s pos).1 with
    | false => rw [hp, if_pos rfl] at h; omega
    | true =>
      rw [hp, if_neg (by simp)] at h
      rw [decode_N] at hp h
      obtain ⟨a1, a2⟩ := decN_dig hp
      rw [a2] at h
      by_cases hj : j = pos
      · rw [hj]; exact a1
      · exact idx_none s f (pos + 1) (by omega) h j (by omega) h2
theorem idx_some (s : ByteArray) : ∀ (f pos : Nat), idxFuncFrom digN false s f pos ≠ -1 → 0 ≤ idxFuncFrom digN false s f pos ∧ idxFuncFrom digN false s f pos < s.size ∧ digN (s.data.toList.getD (idxFuncFrom digN false s f pos).toNat 0).toNat = false
  | 0, pos, h => absurd rfl h
  | f + 1, pos, h => by
    rw [idxFuncFrom] at h ⊢
    by_cases hpos : pos < s.size
    · rw [if_pos hpos] at h ⊢
      cases hp : digN (Utf8.decode s pos).1 with
      | false =>
        rw [if_pos rfl]
        refine ⟨by omega, by omega, ?_⟩
        rw [decode_N] at hp
        rw [Int.toNat_natCast]
        cases hb : digN (s.data.toList.getD pos 0).toNat with
        | false => rfl
        | true => rw [decN_of hb, hb] at hp; cases hp
      | true =>
        rw [hp, if_neg (by simp)] at h
        rw [if_neg (by simp)]
        exact idx_some s f _ h
    · rw [if_neg hpos] at h; exact absurd rfl h
/-- what is trimmed to nothing is all digits -/
theorem trim_dig (s : ByteArray) (h : (trimF digN s).size = 0) : allD s.data.toList = true := by
  have hsz : s.size = s.data.toList.length := rfl
  by_cases hi : idxFunc digN false s = -1
  · have := idx_none s s.size 0 (by omega) hi
    rw [allD, List.all_eq_true]
    intro b hb
    obtain ⟨j, hj, rfl⟩ := List.getElem_of_mem hb
    have := this j (by omega) hj
    rwa [List.getD_eq_getElem?_getD, List.getElem?_eq_getElem hj] at this
  · exfalso
    obtain ⟨a1, a2, a3⟩ := idx_some s s.size 0 hi
    have a1' : 0 ≤ idxFunc digN false s := a1
    have a2' : idxFunc digN false s < s.size := a2
    have a3' : digN (s.data.toList.getD (idxFunc digN false s).toNat 0).toNat = false := a3
    generalize hI : (idxFunc digN false s).toNat = I at a3'
    have hIs : I < s.size := by omega
    have e1 : trimLeftF digN s = s.extract I s.size := by rw [trimLeftF, if_neg hi, hI]
    unfold trimF at h
    rw [e1] at h
    generalize ht : s.extract I s.size = t at h
    have htl : t.data.toList = s.data.toList.drop I := by
      rw [← ht, extract_data]
      rw [show s.size = s.data.toList.length from rfl, List.take_of_length_le (by rw [List.length_drop]; omega)]
    have hts : t.size = s.size - I := by
      show t.data.toList.length = _
      rw [htl, List.length_drop]; rfl
    have htsz : t.size = t.data.toList.length := rfl
    obtain ⟨b1, b2⟩ := lastIdx_of t t.size t.size (Nat.le_refl _) (by omega) ⟨0, by omega, by
      rw [htl]; simp only [List.getD_eq_getElem?_getD, List.getElem?_drop, Nat.add_zero] at a3' ⊢; exact a3'⟩
    have b1' : 0 ≤ lastIdxFunc digN false t := b1
    have b2' : lastIdxFunc digN false t < t.size := b2
    have hne : ¬ (t.extract (lastIdxFunc digN false t).toNat t.size).size = 0 := by rw [ByteArray.size_extract]; omega
    have hw := width_pos (t.extract (lastIdxFunc digN false t).toNat t.size) 0
    unfold trimRightF rightEndF at h
    rw [if_pos b1', decodeGoB, if_neg hne, ByteArray.size_extract] at h
    omega
end Go.Lite.Tx

namespace Go.Lite.Pp
open Go Go.Proofs Go.Lite Go.Lite.Tx
set_option linter.unusedVariables false
set_option linter.unusedSimpArgs false
set_option maxRecDepth 100000
abbrev T (l : Bs) : PV := .sc (.string ⟨l.toArray⟩)
theorem callP_prim {P : Program} {h : Hints} {L n : Nat} {f : FuncId} {q : List PV → Option PV} (hq : h.prim f = some q) (args : List PV) : callP P h L n f args = q args := by
  cases n <;> simp only [callP, hq]
theorem noK_prim {h : Hints} {f : FuncId} {q : List PV → Option PV} (hq : h.prim f = some q) (args : List PV) : (noK h).pure f args = q args := by
  simp only [noK, hq]
theorem p26 : hh.prim 26 = some splitQ := by kernel_rfl
theorem p27 : hh.prim 27 = some cutQ := by kernel_rfl
theorem p30 : hh.prim 30 = some itoaQ := by kernel_rfl
theorem p32 : hh.prim 32 = some joinQ := by kernel_rfl
theorem p36 : hh.prim 36 = some trimQ37 := by kernel_rfl
theorem p38 : hh.prim 38 = some atoiQ := by kernel_rfl
theorem ln9 (s : ByteArray) : (lenPV Tryd.prog 9 (.sc (.string s))).map (fun n => PV.sc (goInt n)) = some (I s.size) := len_str u9 s
theorem size_mk (l : Bs) : (⟨l.toArray⟩ : ByteArray).size = l.length := rfl
theorem str_ext {a b : Bs} : ((⟨a.toArray⟩ : ByteArray) = ⟨b.toArray⟩) ↔ a = b := by
  constructor
  · intro h
    have h1 := congrArg (fun s : ByteArray => s.data.toList) h
    simpa using h1
  · rintro rfl; rfl
theorem index_str (s : ByteArray) (k : IntKind) (i : Nat) (h : i < s.size) : indexPV Tryd.prog 9 (.sc (.string s)) (.sc (.int k (i : Int))) = some (.sc (.int .u8 ((s.data[i]'h).toNat : Nat))) := by
  have hb : s[(i : Int).toNat]? = some (s.data[i]'h) := by
    show s[i]? = _
    rw [getElem?_pos s i h]; rfl
  have hu : ∀ (α : Type) (k : TypeDesc → Sem α), pureRun Tryd.prog (underlying 9 >>= k) = pureRun Tryd.prog (k .string) := by
    intro α k
    have : underlying 9 >>= k = Sem.program fun P => (match P.underlying 9 with | some d => pure d | none => stuck "no such type") >>= k := rfl
    rw [this, pureRun, u9]; rfl
  have : pureRun Tryd.prog (Instr.index 9 (.string s) (.int k i)) = some (.int .u8 (s.data[i]'h).toNat) := by
    unfold Instr.index
    show pureRun Tryd.prog (underlying 9 >>= fun d => _) = _
    rw [hu]
    simp only [Int.natCast_nonneg, if_true, hb]
    rfl
  simp only [indexPV, this, Option.map_some]
theorem cat_str (x y : Operand) (a b : ByteArray) (h : a.size + b.size ≤ 9223372036854775807) : binPV Tryd.prog .add 9 x y (.sc (.string a)) (.sc (.string b)) = some (.sc (.string (a ++ b))) := by
  have h1 : ¬ (((a.size + b.size : Nat) : Int) > IntKind.i64.max) := by
    have : IntKind.i64.max = 9223372036854775807 := rfl
    omega
  have h2 : Op.stringOp .add a b = pure (.string (a ++ b)) := by simp only [Op.stringOp, h1, if_false]
  simp [binPV, PV.plain?, eqGuard, binOp]
  rw [h2]; rfl
theorem cat_T (x y : Operand) (a b : Bs) (h : a.length + b.length ≤ 9223372036854775807) : binPV Tryd.prog .add 9 x y (T a) (T b) = some (T (a ++ b)) := by
  have := cat_str x y ⟨a.toArray⟩ ⟨b.toArray⟩ h
  rw [this]
  congr 3
theorem min_int (a b : Int) : minPV Tryd.prog [I a, I b] = some (I (min a b)) := by
  have : pureRun Tryd.prog (Builtin.min_ #[] 0 #[Value.int .i64 a, Value.int .i64 b]) = some (.int .i64 (if b < a then b else a)) := rfl
  simp [minPV, PV.scalar?, this]
  omega
theorem xor_u (a : Nat) (ha : a < 2 ^ 32) : unPV Tryd.prog .xor (U a) = some (U (2 ^ 32 - 1 - a)) := by
  have h : unPV Tryd.prog .xor (U a) = some (.sc (.int .u32 (IntKind.u32.wrap ((BitVec.ofInt IntKind.u32.bits 4294967295 ^^^ BitVec.ofInt IntKind.u32.bits (a : Int)).toNat : Int)))) := by kernel_rfl
  have h2 : (BitVec.ofInt IntKind.u32.bits 4294967295 ^^^ BitVec.ofInt IntKind.u32.bits (a : Int)).toNat = 2 ^ 32 - 1 - a := by
    rw [ofInt_nat]
    have e : BitVec.ofInt IntKind.u32.bits 4294967295 = BitVec.allOnes 32 := BitVec.eq_of_toNat_eq rfl
    rw [e]
    show (BitVec.allOnes 32 ^^^ BitVec.ofNat 32 a).toNat = _
    rw [BitVec.allOnes_xor, BitVec.toNat_not, BitVec.toNat_ofNat, Nat.mod_eq_of_lt ha]
  rw [h2, wrapU (by omega) (by omega)] at h
  exact h
noncomputable def tzR (v104 : PV) : Option PV := (ob (binPV Tryd.prog .mul 23 (.tmp 8) (.const (.int Go.IntKind.u32 125613361)) v104 (.sc (.int Go.IntKind.u32 125613361))) fun v105 => (ob (binPV Tryd.prog .shr 23 (.tmp 9) (.const (.int Go.IntKind.u64 27)) v105 (.sc (.int Go.IntKind.u64 27))) fun v106 => (ob (indexAddrPV Tryd.prog 60 (gl 0) v106) fun v107 => (ob (loadPV Tryd.prog 5 v107) fun v108 => (ob (convPV Tryd.prog 5 3 v108) fun v109 => (some v109))))))
theorem tzR_at : ∀ n, n < 32 → tzR (U (2 ^ n)) = some (I (n : Nat))
  | 0, _ => by kernel_rfl
  | 1, _ => by kernel_rfl
  | 2, _ => by kernel_rfl
  | 3, _ => by kernel_rfl
  | 4, _ => by kernel_rfl
  | 5, _ => by kernel_rfl
  | 6, _ => by kernel_rfl
  | 7, _ => by kernel_rfl
  | 8, _ => by kernel_rfl
  | 9, _ => by kernel_rfl
  | 10, _ => by kernel_rfl
  | 11, _ => by kernel_rfl
  | 12, _ => by kernel_rfl
  | 13, _ => by kernel_rfl
  | 14, _ => by kernel_rfl
  | 15, _ => by kernel_rfl
  | 16, _ => by kernel_rfl
  | 17, _ => by kernel_rfl
  | 18, _ => by kernel_rfl
  | 19, _ => by kernel_rfl
  | 20, _ => by kernel_rfl
  | 21, _ => by kernel_rfl
  | 22, _ => by kernel_rfl
  | 23, _ => by kernel_rfl
  | 24, _ => by kernel_rfl
  | 25, _ => by kernel_rfl
  | 26, _ => by kernel_rfl
  | 27, _ => by kernel_rfl
  | 28, _ => by kernel_rfl
  | 29, _ => by kernel_rfl
  | 30, _ => by kernel_rfl
  | 31, _ => by kernel_rfl
  | n + 32, h => by omega

theorem c28d : ∀ k, k < 32 → callP Tryd.prog hh 1 2 28 [T (dig k)] = some (I (k : Nat))
  | 0, _ => by kernel_rfl
  | 1, _ => by kernel_rfl
  | 2, _ => by kernel_rfl
  | 3, _ => by kernel_rfl
  | 4, _ => by kernel_rfl
  | 5, _ => by kernel_rfl
  | 6, _ => by kernel_rfl
  | 7, _ => by kernel_rfl
  | 8, _ => by kernel_rfl
  | 9, _ => by kernel_rfl
  | 10, _ => by kernel_rfl
  | 11, _ => by kernel_rfl
  | 12, _ => by kernel_rfl
  | 13, _ => by kernel_rfl
  | 14, _ => by kernel_rfl
  | 15, _ => by kernel_rfl
  | 16, _ => by kernel_rfl
  | 17, _ => by kernel_rfl
  | 18, _ => by kernel_rfl
  | 19, _ => by kernel_rfl
  | 20, _ => by kernel_rfl
  | 21, _ => by kernel_rfl
  | 22, _ => by kernel_rfl
  | 23, _ => by kernel_rfl
  | 24, _ => by kernel_rfl
  | 25, _ => by kernel_rfl
  | 26, _ => by kernel_rfl
  | 27, _ => by kernel_rfl
  | 28, _ => by kernel_rfl
  | 29, _ => by kernel_rfl
  | 30, _ => by kernel_rfl
  | 31, _ => by kernel_rfl
  | n + 32, h => by omega

section
variable {L m : Nat}
theorem c31z (hm : 2 ≤ m) : callP Tryd.prog hh L m 31 [U 0] = some (I 32) := by
  obtain ⟨n, rfl⟩ : ∃ n, m = n + 1 := ⟨m - 1, by omega⟩
  refine callP_of' (by omega) (by kernel_rfl) ?_
  rw [r31]; kernel_rfl
theorem c31a (hm : 2 ≤ m) (t k : Nat) (ht : t < 2 ^ 32) (hk : k < 32) (h1 : t.testBit k = true) (h2 : ∀ j, j < k → t.testBit j = false) : callP Tryd.prog hh L m 31 [U t] = some (I (k : Nat)) := by
  obtain ⟨n, rfl⟩ : ∃ n, m = n + 1 := ⟨m - 1, by omega⟩
  refine callP_of' (by omega) (by kernel_rfl) ?_
  rw [r31]
  have h0 : 0 < t := Nat.pos_of_ne_zero fun e => by rw [e, Nat.zero_testBit] at h1; cases h1
  have h0' : ¬ (t : Int) = 0 := by omega
  have hl := low_bit ht h1 h2
  have hp : (2 : Nat) ^ k < 2 ^ 32 := Nat.pow_lt_pow_right (by decide) hk
  have hneg := neg_u t h0 ht
  simp only [d31_0, eql_int, ob_some, cb_bool, decide_eq_true_eq, h0', if_false, hneg, and_u _ _ _ _ t (2 ^ 32 - t) ht (by omega), hl]
  exact tzR_at k hk
theorem num_none {l : Bs} (h : ∀ k, k < 32 → l ≠ dig k) : num l = -1 := by
  unfold num
  split
  · rename_i k hk
    have h1 := List.find?_some hk
    have h2 := List.mem_of_find?_eq_some hk
    exact absurd (eq_of_beq h1).symm (h k (List.mem_range.1 h2))
  · rfl
theorem u8_dig {b : UInt8} (h : digN b.toNat = true) : ∃ d, d < 10 ∧ b = UInt8.ofNat (48 + d) := by
  have := digN_eq h
  refine ⟨b.toNat - 48, by omega, ?_⟩
  apply UInt8.toNat_inj.1
  rw [UInt8.toNat_ofNat']
  omega
theorem atoi1 : ∀ a : Fin 10, Lib.atoi [UInt8.ofNat (48 + a.val)] = some (a.val : Int) := by decide
theorem atoi2 : ∀ a b : Fin 10, Lib.atoi [UInt8.ofNat (48 + a.val), UInt8.ofNat (48 + b.val)] = some ((10 * a.val + b.val : Nat) : Int) := by decide
theorem dig_two : ∀ a b : Fin 10, a.val ≠ 0 → [UInt8.ofNat (48 + a.val), UInt8.ofNat (48 + b.val)] = dig (10 * a.val + b.val) := by decide
theorem dig_one : ∀ a : Fin 10, [UInt8.ofNat (48 + a.val)] = dig a.val := by decide
theorem short_cases {l : Bs} (h0 : l ≠ []) (h2 : ¬ 2 < l.length) (hd : allD l = true) (hno : ∀ k, k < 32 → l ≠ dig k) :
    ∃ d e, d < 10 ∧ e < 10 ∧ l = [UInt8.ofNat (48 + d), UInt8.ofNat (48 + e)] ∧ (d = 0 ∨ 32 ≤ 10 * d + e) := by
  cases l with
  | nil => exact absurd rfl h0
  | cons a l => cases l with
    | nil =>
      have ha : digN a.toNat = true := by simpa [allD] using hd
      obtain ⟨d, hd1, rfl⟩ := u8_dig ha
      exact absurd (dig_one ⟨d, hd1⟩) (hno d (by omega))
    | cons b l => cases l with
      | nil =>
        have hab : digN a.toNat = true ∧ digN b.toNat = true := by simpa [allD] using hd
        obtain ⟨d, hd1, rfl⟩ := u8_dig hab.1
        obtain ⟨e, he1, rfl⟩ := u8_dig hab.2
        refine ⟨d, e, hd1, he1, rfl, ?_⟩
        by_cases hz : d = 0
        · exact .inl hz
        · refine .inr ?_
          rcases Nat.lt_or_ge (10 * d + e) 32 with h | h
          · exact absurd (dig_two ⟨d, hd1⟩ ⟨e, he1⟩ hz) (hno _ h)
          · exact h
      | cons c l => simp at h2
theorem at_two {n d e : Nat} (hd1 : d < 10) (he1 : e < 10) : callP Tryd.prog hh L n 38 [T [UInt8.ofNat (48 + d), UInt8.ofNat (48 + e)]] = some (.tup [I ((10 * d + e : Nat) : Int), .sc .nilIface]) := by
  have := atoi2 ⟨d, hd1⟩ ⟨e, he1⟩
  rw [callP_prim p38]
  have hs : Nat.ble (⟨[UInt8.ofNat (48 + d), UInt8.ofNat (48 + e)].toArray⟩ : ByteArray).size 18 = true := by rw [size_mk]; rfl
  simp only [atoiQ, hs, cond_true]
  simp only [this]
theorem ix_two (d e : Nat) (hd1 : d < 10) : indexPV Tryd.prog 9 (T [UInt8.ofNat (48 + d), UInt8.ofNat (48 + e)]) (.sc (.int .i64 0)) = some (.sc (.int .u8 ((48 + d : Nat) : Int))) := by
  have hi := index_str ⟨[UInt8.ofNat (48 + d), UInt8.ofNat (48 + e)].toArray⟩ .i64 0 (by rw [size_mk]; simp)
  have hv : (UInt8.ofNat (48 + d)).toNat = 48 + d := by rw [UInt8.toNat_ofNat']; omega
  exact hi.trans (congrArg (fun n : Nat => some (PV.sc (Value.int .u8 (n : Int)))) hv)
theorem q36 {n : Nat} (l : Bs) (h : l.length ≤ 9223372036854775807) : callP Tryd.prog hh L n 36 [T l, .clo 37 [] []] = some (.sc (.string (Lib.trimF digN ⟨l.toArray⟩))) := by
  rw [callP_prim p36]
  have hs : Nat.ble (⟨l.toArray⟩ : ByteArray).size 9223372036854775807 = true := Nat.ble_eq_true_of_le h
  simp only [trimQ37, trimQ, hs, Nat.beq_refl, Bool.and_self, cond_true]
theorem c28 (hm : 2 ≤ m) (hL : 1 ≤ L) (l : Bs) : callP Tryd.prog hh L m 28 [T l] = some (I (num l)) := by
  by_cases hk : ∃ k, k < 32 ∧ l = dig k
  · obtain ⟨k, hk, rfl⟩ := hk
    rw [num_dig hk]
    exact callP_mono (L := 1) (n := 2) hL hm (c28d k hk)
  have hno : ∀ k, k < 32 → l ≠ dig k := fun k h1 h2 => hk ⟨k, h1, h2⟩
  rw [num_none hno]
  obtain ⟨n, rfl⟩ : ∃ n, m = n + 1 := ⟨m - 1, by omega⟩
  refine callP_of' (by omega) (by kernel_rfl) ?_
  rw [r28]
  by_cases h0 : l = []
  · subst h0; kernel_rfl
  have h0' : ¬ ((⟨l.toArray⟩ : ByteArray) = ⟨#[]⟩) := fun h => h0 ((str_ext (a := l) (b := [])).1 h)
  simp only [d28_0, eql_str, h0', decide_false, ob_some, gcase_f, Bool.false_eq_true, if_false, ln9, size_mk, gtr_int]
  by_cases h2 : 2 < l.length
  · have : (2 : Int) < (l.length : Nat) := by omega
    simp only [this, decide_true, if_true]
  have h2' : ¬ (2 : Int) < (l.length : Nat) := by omega
  simp only [h2', decide_false, Bool.false_eq_true, if_false, callD_clo, List.nil_append, List.append_nil, q36 (L := L) (n := n) l (by omega), ob_some, neq_str]
  by_cases h3 : Lib.trimF digN ⟨l.toArray⟩ = ⟨#[]⟩
  case neg => simp only [h3, decide_false, Bool.not_false, gcase_f, if_true]
  simp only [h3, decide_true, Bool.not_true, gcase_f, Bool.false_eq_true, if_false]
  obtain ⟨d, e, hd1, he1, rfl, hz⟩ := short_cases h0 h2 (trim_dig ⟨l.toArray⟩ (by rw [h3]; rfl)) hno
  simp only [List.length_cons, List.length_nil, eql_int, ob_some, gcase_t, ix_two d e hd1, at_two (L := L) (n := n) hd1 he1, cb_bool, extract_tup, List.getElem?_cons_zero, List.getElem?_cons_succ, geq_int, decide_eq_true_eq]
  rcases hz with rfl | hz
  · rfl
  · have e2 : (32 : Int) ≤ ((10 * d + e : Nat) : Int) := by omega
    have e1 : ((0 + 1 + 1 : Nat) : Int) = 2 := rfl
    simp only [e1, if_true, e2]
    split <;> rfl
end
end Go.Lite.Pp

namespace Go.Lite.Pp
open Go Go.Proofs Go.Lite Go.Lite.Tx
set_option linter.unusedVariables false
set_option linter.unusedSimpArgs false
set_option maxRecDepth 100000
theorem u44 : Tryd.prog.underlying 44 = some (.slice 9) := by kernel_rfl
theorem y9 : layOf Tryd.prog 9 = some 0 := by kernel_rfl
theorem ia44 (c : Bool) (xs : List PV) (i : Nat) : indexAddrPV Tryd.prog 44 (.list 0 c xs) (I i) = (xs[i]?).map (.ro 0) := indexAddr_list u44 y9 c xs i
theorem ln44 (c : Bool) (xs : List PV) : (lenPV Tryd.prog 44 (.list 0 c xs)).map (fun n => PV.sc (goInt n)) = some (I xs.length) := len_list u44 c xs
theorem inf9 : (Tryd.prog.info? 9).map (·.bytes) = some 16 := by kernel_rfl
theorem zero9 : zeroPV Tryd.prog 9 = some (T []) := by kernel_rfl
theorem app44 (xs ys : List PV) (c : Bool) (h : (xs.length + ys.length) * 16 ≤ appendRoom) : appendTo Tryd.prog 44 44 0 xs (.list 0 c ys) = some (xs ++ ys) := by
  have := inf9
  cases hi : Tryd.prog.info? 9 with
  | none => rw [hi] at this; simp at this
  | some i =>
    rw [hi] at this
    simp only [Option.map_some, Option.some.injEq] at this
    have hz : PV.hasLay 0 (T []) = true := rfl
    simp [appendTo, u44, y9, hi, zero9, this, hz, width, layPV, elemsPV?, h]
theorem bs44 (s : Bs) : buildSliceAV Tryd.prog 44 1 [(0, T s)] = some (.list 0 true [T s]) := by
  simp [buildSliceAV, u44, y9, zero9, width, PV.hasLay, PV.isCell, setAll]
/-! ## what the library answers -/
theorem strOf_T (l : Bs) : PV.sc (strOf l) = T l := rfl
theorem split_spl (l : Bs) (h : l.length < 4294967281) : splitQ [T l, T [44]] = some (.list 0 true ((spl 44 l).map T)) := by
  have h1 : (Nat.blt (⟨l.toArray⟩ : ByteArray).size 4294967281 && Nat.blt 0 (⟨([44] : Bs).toArray⟩ : ByteArray).size) = true := by
    have : Nat.blt (⟨l.toArray⟩ : ByteArray).size 4294967281 = true := Nat.ble_eq_true_of_le h
    rw [this]; rfl
  simp only [splitQ, h1, cond_true]
  congr 2
  have e := Lib.splitB_data ⟨([44] : Bs).toArray⟩ 0 (Lib.countB ⟨l.toArray⟩ ⟨([44] : Bs).toArray⟩) ⟨l.toArray⟩
  have ec : Lib.countB ⟨l.toArray⟩ ⟨([44] : Bs).toArray⟩ = l.count 44 := Lib.count_one 44 l
  rw [ec] at e ⊢
  have e2 : Lib.splitK ((⟨([44] : Bs).toArray⟩ : ByteArray).data.toList) 0 (l.count 44) ((⟨l.toArray⟩ : ByteArray).data.toList) = spl 44 l := splitK_spl 44 _ l rfl
  rw [e2] at e
  rw [← e, List.map_map]
  rfl
theorem cut_T (p : Bs) (h : p.length < 4294967281) : cutQ [T p, T [45]] = some (.tup [T (Lib.cut p [45]).1, T (Lib.cut p [45]).2.1, Bo (Lib.cut p [45]).2.2]) := by
  have h1 : Nat.blt (⟨p.toArray⟩ : ByteArray).size 4294967281 = true := Nat.ble_eq_true_of_le h
  simp only [cutQ, h1, cond_true]
  rfl
theorem itoa_T (i : Nat) (h : i < 100) : itoaQ [I (i : Nat)] = some (T (dig i)) := by
  have h1 : Nat.blt i 100 = true := Nat.ble_eq_true_of_le h
  show (bif Nat.blt i 100 then some (PV.sc (strOf (Lib.decDigits i))) else none) = _
  rw [h1, dig_dec i h]; rfl
theorem strs_T : ∀ l : List Bs, strs? (l.map T) = some (l.map fun b => ⟨b.toArray⟩)
  | [] => rfl
  | b :: l => by simp [strs?, strs_T l]
theorem join_T (p : Bs) (r : List Bs) (h1 : r.length < 1000) (h2 : (Lib.join (p :: r) [44]).length ≤ 1000000) : joinQ [.list 0 false ((p :: r).map T), T [44]] = some (T (Lib.join (p :: r) [44])) := by
  have e := strs_T (p :: r)
  have e2 : ((p :: r).map fun b => (⟨b.toArray⟩ : ByteArray)).map (·.data.toList) = p :: r := by
    rw [List.map_map]
    have : ((fun x : ByteArray => x.data.toList) ∘ fun b : Bs => (⟨b.toArray⟩ : ByteArray)) = id := by funext b; rfl
    rw [this, List.map_id]
  rw [List.map_cons] at e ⊢
  simp only [joinQ, e]
  rw [e2]
  have b1 : Nat.ble ((p :: r).map fun b => (⟨b.toArray⟩ : ByteArray)).length 140737488355328 = true := Nat.ble_eq_true_of_le (by simp only [List.length_map, List.length_cons]; omega)
  have b2 : Nat.ble (Lib.join (p :: r) [44]).length 140737488355328 = true := Nat.ble_eq_true_of_le (by omega)
  rw [b1, b2]; rfl
theorem spl_len {c : UInt8} : ∀ {l : Bs} {p : Bs}, p ∈ spl c l → p.length ≤ l.length
  | [], p, h => by simp [spl] at h; subst h; simp
  | b :: l, p, h => by
    simp only [spl] at h
    split at h
    · rw [List.mem_cons] at h
      rcases h with rfl | h
      · simp
      · have := spl_len h; simp only [List.length_cons]; omega
    · obtain ⟨q, r, hq⟩ := spl_ne c l
      have h9 : ∀ x ∈ q :: r, x.length ≤ l.length := fun x hx => spl_len (by rw [hq]; exact hx)
      rw [hq] at h
      rw [List.mem_cons] at h
      rcases h with rfl | h
      · have := h9 q (by simp); simp only [List.length_cons]; omega
      · have := h9 p (by simp [h]); simp only [List.length_cons]; omega
theorem spl_count {c : UInt8} : ∀ {l : Bs}, (spl c l).length ≤ l.length + 1
  | [] => by simp [spl]
  | b :: l => by
    have ih := spl_count (c := c) (l := l)
    simp only [spl]
    split
    · simp only [List.length_cons]; omega
    · obtain ⟨q, r, hq⟩ := spl_ne c l
      rw [hq] at ih ⊢
      simp only [List.length_cons] at ih ⊢; omega
section
variable {L m : Nat}
/-! ## Parse -/
theorem l19a {R : Type} (C : Kallee) (ke : PV → PV → PV → PV → PV → Option R) (t : Nat) (ht : t < 32) (A B D : PV) : ∀ (d N i s : Nat), i + d = t + 1 → d < N → s < 2 ^ 32 → d19_5i C L ke N (U s) (I t) (I i) A B D = ke (U (orR s i d)) (I t) A B D := by
  intro d
  induction d with
  | zero =>
    intro N i s h hN hs
    obtain ⟨N, rfl⟩ : ∃ n, N = n + 1 := ⟨N - 1, by omega⟩
    have h2 : ¬ (i : Int) ≤ t := by omega
    simp [d19_5i, d19_6, h2, orR]
  | succ d ih =>
    intro N i s h hN hs
    obtain ⟨N, rfl⟩ : ∃ n, N = n + 1 := ⟨N - 1, by omega⟩
    have h5 : (i : Int) ≤ t := by omega
    have hp : (2 : Nat) ^ i < 2 ^ 32 := Nat.pow_lt_pow_right (by decide) (by omega)
    simp only [d19_5i, d19_6, leq_int, ob_some, cb_bool, decide_eq_true_eq, h5, if_true, shl_u _ _ _ _ i (show i < 32 by omega), or_u _ _ _ _ s (2 ^ i) hs hp]
    rw [add_int, wrap_succ (show i < 9223372036854775807 by omega)]
    simp only [ob_some]
    rw [ih N (i + 1) (s ||| 2 ^ i) (by omega) (by omega) (Nat.or_lt_two_pow hs hp), orR]
theorem l19b {R : Type} (C : Kallee) (ke : PV → PV → PV → PV → PV → Option R) (t : Nat) (ht : t < 32) (A B D : PV) : ∀ (d N i s : Nat), i + d = t + 1 → d < N → s < 2 ^ 32 → d19_7i C L ke N (U s) (I t) (I i) A B D = ke (U (orR s i d)) (I t) A B D := by
  intro d
  induction d with
  | zero =>
    intro N i s h hN hs
    obtain ⟨N, rfl⟩ : ∃ n, N = n + 1 := ⟨N - 1, by omega⟩
    have h2 : ¬ (i : Int) ≤ t := by omega
    simp [d19_7i, d19_8, h2, orR]
  | succ d ih =>
    intro N i s h hN hs
    obtain ⟨N, rfl⟩ : ∃ n, N = n + 1 := ⟨N - 1, by omega⟩
    have h5 : (i : Int) ≤ t := by omega
    have hp : (2 : Nat) ^ i < 2 ^ 32 := Nat.pow_lt_pow_right (by decide) (by omega)
    simp only [d19_7i, d19_8, leq_int, ob_some, cb_bool, decide_eq_true_eq, h5, if_true, shl_u _ _ _ _ i (show i < 32 by omega), or_u _ _ _ _ s (2 ^ i) hs hp]
    rw [add_int, wrap_succ (show i < 9223372036854775807 by omega)]
    simp only [ob_some]
    rw [ih N (i + 1) (s ||| 2 ^ i) (by omega) (by omega) (Nat.or_lt_two_pow hs hp), orR]
theorem c27 {n : Nat} (p : Bs) (h : p.length < 4294967281) : callP Tryd.prog hh L n 27 [T p, T [45]] = some (.tup [T (Lib.cut p [45]).1, T (Lib.cut p [45]).2.1, Bo (Lib.cut p [45]).2.2]) := by
  rw [callP_prim p27, cut_T p h]
theorem l19 {R : Type} (n : Nat) (hn : 2 ≤ n) (hL : 40 < L) (ke : PV → Option R) (kr : PV → PV → Option R) (ps : List Bs) (hps : ∀ p ∈ ps, p.length < 4294967281) (hlen : ps.length < 9223372036854775807) :
    ∀ (r : List Bs) (N i s x : Nat), ps.drop i = r → r.length < N → s < 2 ^ 32 → x < 40 → d19_1i (kk L n) L ke kr N (U s) (I x) (.list 0 true (ps.map T)) (I ps.length) (I i) = match go s x r with | some z => ke (U z) | none => kr (U 0) (I 100) := by
  intro r
  induction r with
  | nil =>
    intro N i s x h hN hs hx
    obtain ⟨N, rfl⟩ : ∃ n, N = n + 1 := ⟨N - 1, by omega⟩
    have := drop_nil' h
    have h2 : ¬ (i : Int) < ps.length := by omega
    simp [-goI, d19_1i, d19_2, g19_2, h2, go]
  | cons p r ih =>
    intro N i s x h hN hs hx
    obtain ⟨N, rfl⟩ : ∃ n, N = n + 1 := ⟨N - 1, by omega⟩
    obtain ⟨h1, h2, h3, h4⟩ := drop_cons' h
    have h5 : (i : Int) < ps.length := by omega
    simp only [List.length_cons] at hN
    have hcut := c27 (L := L) (n := n) p (hps p h4)
    simp only [d19_1i, d19_2, g19_2, lss_int, ob_some, cb_bool, decide_eq_true_eq, h5, if_true, ia44, List.getElem?_map, h2, Option.map_some, load_ro y9, callD_clo, List.nil_append, List.append_nil]
    rw [show (PV.sc (Value.string ⟨#[45]⟩)) = T [45] from rfl, hcut]
    simp only [ob_some, extract_tup, List.getElem?_cons_zero, List.getElem?_cons_succ, c28 (L := L) hn (show 1 ≤ L by omega), d19_3, cb_bool, callD_clo, List.nil_append, List.append_nil]
    have fin : ∀ (f t : Int), (x : Int) ≤ f → f ≤ t → t < 32 →
        d19_5i (kk L n) L (fun v0 v1 v2 v3 v4 => d19_9 (kk L n) L (fun v0 v1 v2 v3 v4 => d19_1i (kk L n) L ke kr N v0 v1 v2 v3 v4) v0 v1 v2 v3 v4) L (U s) (I t) (I f) (.list 0 true (ps.map T)) (I ps.length) (I i) =
          (match go (orR s f.toNat (t.toNat - f.toNat + 1)) (t.toNat + 2) r with | some z => ke (U z) | none => kr (U 0) (I 100)) ∧
        d19_7i (kk L n) L (fun v0 v1 v2 v3 v4 => d19_10 (kk L n) L (fun v0 v1 v2 v3 v4 => d19_1i (kk L n) L ke kr N v0 v1 v2 v3 v4) v0 v1 v2 v3 v4) L (U s) (I t) (I f) (.list 0 true (ps.map T)) (I ps.length) (I i) =
          (match go (orR s f.toNat (t.toNat - f.toNat + 1)) (t.toNat + 2) r with | some z => ke (U z) | none => kr (U 0) (I 100)) := by
      intro f t g1 g2 g3
      obtain ⟨f, rfl⟩ : ∃ k : Nat, f = k := ⟨f.toNat, by omega⟩
      obtain ⟨t, rfl⟩ : ∃ k : Nat, t = k := ⟨t.toNat, by omega⟩
      simp only [Int.toNat_natCast]
      have hs' : orR s f (t - f + 1) < 2 ^ 32 := orR_lt _ _ _ hs (by omega)
      have hrec := ih N (i + 1) (orR s f (t - f + 1)) (t + 2) h3 (by omega) hs' (by omega)
      have hadd : binPV Tryd.prog .add 3 (.tmp 61) (.const (.int Go.IntKind.i64 2)) (I (t : Nat)) (.sc (.int Go.IntKind.i64 2)) = some (I ((t + 2 : Nat) : Int)) := by
        rw [add_int, wrap64 (by omega) (by omega)]; rfl
      have hadd' : ∀ a b, binPV Tryd.prog .add 3 a b (I (t : Nat)) (.sc (.int Go.IntKind.i64 2)) = some (I ((t + 2 : Nat) : Int)) := fun a b => by
        rw [add_int, wrap64 (by omega) (by omega)]; rfl
      have hone : ∀ a b, binPV Tryd.prog .add 3 a b (I (i : Nat)) (.sc (.int Go.IntKind.i64 1)) = some (I ((i + 1 : Nat) : Int)) := fun a b => by
        rw [add_int, wrap_succ (show i < 9223372036854775807 by omega)]
      refine ⟨?_, ?_⟩
      · rw [l19a (L := L) (kk L n) _ t (by omega) _ _ _ (t - f + 1) L f s (by omega) (by omega) hs]
        simp only [d19_9, hadd', hone, ob_some]
        exact hrec
      · rw [l19b (L := L) (kk L n) _ t (by omega) _ _ _ (t - f + 1) L f s (by omega) (by omega) hs]
        simp only [d19_10, hadd', hone, ob_some]
        exact hrec
    have nlt : ∀ l : Bs, num l < 32 := fun l => by
      by_cases h : num l < 0
      · omega
      · obtain ⟨k, hk, _, e⟩ := num_inv (show 0 ≤ num l by omega); omega
    simp only [go]
    generalize hc : Lib.cut p [45] = c
    obtain ⟨a, b, two⟩ := c
    cases two with
    | false =>
      simp only [Bool.false_eq_true, if_false, false_and, or_false, d19_4, g19_4, lss_int, ob_some, gcase_f, decide_eq_true_eq, gcase_t, d19_5, d19_7]
      by_cases q1 : num a < x
      · simp only [q1, if_true, true_or]; first | rfl | (split <;> rfl)
      · have q2 : ¬ num a < num a := by omega
        simp only [q1, if_false, q2, false_or]
        exact (fin (num a) (num a) (by omega) (by omega) (nlt a)).2
    | true =>
      simp only [if_true, true_and, d19_4, g19_4, lss_int, ob_some, gcase_f, decide_eq_true_eq, gcase_t, eql_int, cb_bool, d19_5, d19_7]
      by_cases q1 : num a < x
      · simp only [q1, if_true, true_or]; first | rfl | (split <;> rfl)
      by_cases q2 : num b < num a
      · simp only [q1, q2, if_true, if_false, true_or, or_true]; first | rfl | (split <;> rfl)
      by_cases q3 : num b = num a
      · simp only [q1, q2, q3, if_true, if_false, or_true]; first | rfl | (split <;> rfl)
      · simp only [q1, q2, q3, if_false, or_false, or_self]
        exact (fin (num a) (num b) (by omega) (by omega) (nlt b)).1
def parsePV (l : Bs) : PV := match parseL l with | some z => .tup [U z, I 0] | none => .tup [U 0, I 100]
theorem c19 (hm : 3 ≤ m) (l : Bs) (hL : 40 + l.length < L) (hl : l.length < 4294967281) : callP Tryd.prog hh L m 19 [T l] = some (parsePV l) := by
  obtain ⟨n, rfl⟩ : ∃ n, m = n + 1 := ⟨m - 1, by omega⟩
  refine callP_of' (by omega) (by kernel_rfl) ?_
  rw [r19]
  simp only [d19_0, g19_0]
  rw [show (PV.sc (Value.string ⟨#[110, 111, 110, 101]⟩)) = T none4 from rfl, show (PV.sc (Value.string ⟨#[44]⟩)) = T [44] from rfl, eql_str]
  simp only [ob_some, cb_bool, decide_eq_true_eq, str_ext, parsePV, parseL]
  by_cases h0 : l = none4
  · rw [if_pos h0, if_pos h0]; rfl
  rw [if_neg h0, if_neg h0]
  have hcount := spl_count (c := 44) (l := l)
  have hloop := l19 (L := L) n (by omega) (by omega) (fun v0 => d19_11 (kk L n) L v0) (fun v0 v1 => some (.tup [v0, v1])) (spl 44 l) (fun p hp => by have := spl_len hp; omega) (by omega) (spl 44 l) L 0 0 0 rfl (by omega) (by decide) (by omega)
  simp only [callD_clo, List.nil_append, List.append_nil, callP_prim p26, split_spl l hl, ob_some, ln44, List.length_map, d19_1]
  refine Eq.trans hloop ?_
  cases go 0 0 (spl 44 l) <;> rfl
end
end Go.Lite.Pp

namespace Go.Lite.Pp
open Go Go.Proofs Go.Lite Go.Lite.Tx
set_option linter.unusedVariables false
set_option linter.unusedSimpArgs false
set_option maxRecDepth 100000
section
variable {L m : Nat}
/-! ## Print -/
theorem inv_bit {s i j : Nat} (hs : s < 2 ^ 32) (hj : j < 32) : (2 ^ 32 - 1 - s / 2 ^ i).testBit j = !s.testBit (i + j) := by
  have hq : s / 2 ^ i < 2 ^ 32 := Nat.lt_of_le_of_lt (Nat.div_le_self _ _) hs
  rw [show 2 ^ 32 - 1 - s / 2 ^ i = 2 ^ 32 - (s / 2 ^ i + 1) by omega, Nat.testBit_two_pow_sub_succ hq, Nat.testBit_div_two_pow]
  simp [hj, Nat.add_comm]
theorem c31n (hm : 2 ≤ m) (s i : Nat) (hs : s < 2 ^ 32) (hi : i < 32) : callP Tryd.prog hh L m 31 [U (2 ^ 32 - 1 - s / 2 ^ i)] = some (I (ones s i (32 - i) : Nat)) := by
  have hle := ones_le s (32 - i) i
  have hon := ones_on s (32 - i) i
  have hq : s / 2 ^ i < 2 ^ 32 := Nat.lt_of_le_of_lt (Nat.div_le_self _ _) hs
  generalize hQ : s / 2 ^ i = Q at hq
  by_cases h32 : ones s i (32 - i) < 32
  · refine c31a hm _ _ (by omega) h32 ?_ fun j hj => ?_
    · rw [← hQ, inv_bit hs h32]
      rcases Nat.lt_or_ge (ones s i (32 - i)) (32 - i) with h | h
      · rw [ones_off s (32 - i) i h]; rfl
      · have : s < 2 ^ (i + ones s i (32 - i)) := Nat.lt_of_lt_of_le hs (Nat.pow_le_pow_right (by decide) (by omega))
        rw [Nat.testBit_lt_two_pow this]; rfl
    · rw [← hQ, inv_bit hs (by omega), hon j hj]; rfl
  · have hi0 : i = 0 := by omega
    subst hi0
    have e : ones s 0 (32 - 0) = 32 := by omega
    have h1 : s = 2 ^ 32 - 1 := by
      apply Nat.eq_of_testBit_eq
      intro j
      rw [Nat.testBit_two_pow_sub_one]
      rcases Nat.lt_or_ge j 32 with h | h
      · have := hon j (by omega); rw [Nat.zero_add] at this; rw [this]; simp [h]
      · rw [Nat.testBit_lt_two_pow (Nat.lt_of_lt_of_le hs (Nat.pow_le_pow_right (by decide) h))]
        simp; omega
    rw [e]
    have := c31z (L := L) hm
    rw [Nat.pow_zero, Nat.div_one] at hQ
    rw [show (2 ^ 32 - 1 - Q) = 0 by omega]
    exact this
theorem l21 {R : Type} (n : Nat) (hn : 2 ≤ n) (ke : List PV → Option R) (s : Nat) (hs : s < 2 ^ 32) :
    ∀ (F N i : Nat) (xs : List PV), 32 - i < F → F ≤ N → i ≤ 32 → xs.length ≤ i → d21_1i (kk L n) L ke N (U s) (I i) xs = ke (xs ++ (runs s F i).map fun p => T (rt p)) := by
  intro F
  induction F with
  | zero => intro N i xs h; omega
  | succ F ih =>
    intro N i xs hF hN hi hx
    obtain ⟨N, rfl⟩ : ∃ n, N = n + 1 := ⟨N - 1, by omega⟩
    by_cases h5 : 32 ≤ i
    · have h2 : ¬ (i : Int) < 32 := by omega
      simp [d21_1i, d21_2, h2, runs, h5]
    have h2 : (i : Int) < 32 := by omega
    have hd : s / 2 ^ i < 2 ^ 32 := Nat.lt_of_le_of_lt (Nat.div_le_self _ _) hs
    have hone : ∀ a b, binPV Tryd.prog .add 3 a b (I (i : Nat)) (.sc (.int Go.IntKind.i64 1)) = some (I ((i + 1 : Nat) : Int)) := fun a b => by
      rw [add_int, wrap_succ (show i < 9223372036854775807 by omega)]
    simp only [d21_1i, d21_2, lss_int, ob_some, cb_bool, decide_eq_true_eq, h2, if_true, shr_u _ _ _ _ s i (show i < 32 by omega), xor_u _ hd, callD_clo, List.nil_append, List.append_nil, c31n (L := L) hn s i hs (show i < 32 by omega), eql_int]
    rw [runs, if_neg h5]
    have hle := ones_le s (32 - i) i
    generalize ho : ones s i (32 - i) = o at hle
    by_cases h0 : o = 0
    · subst h0
      simp only [Int.natCast_eq_zero, if_true, hone, ob_some]
      exact ih N (i + 1) xs (by omega) (by omega) (by omega) (by omega)
    have h0' : ¬ ((o : Int) = 0) := by omega
    have e1 : ∀ a b, binPV Tryd.prog .sub 3 a b (.sc (.int Go.IntKind.i64 32)) (I (i : Nat)) = some (I ((32 - i : Nat) : Int)) := fun a b => by
      rw [sub_int0, wrap64 (by omega) (by omega)]; congr 4; omega
    have e2 : minPV Tryd.prog [I (o : Nat), I ((32 - i : Nat) : Int)] = some (I (o : Nat)) := by
      rw [min_int]; congr 4; omega
    have e3 : ∀ a b, binPV Tryd.prog .add 3 a b (I (i : Nat)) (I (o : Nat)) = some (I ((i + o : Nat) : Int)) := fun a b => by
      rw [add_int, wrap64 (by omega) (by omega)]; congr 4
    have e4 : ∀ a b, binPV Tryd.prog .sub 3 a b (I ((i + o : Nat) : Int)) (.sc (.int Go.IntKind.i64 1)) = some (I ((i + o - 1 : Nat) : Int)) := fun a b => by
      rw [sub_int0, wrap64 (by omega) (by omega)]; congr 4; omega
    have e5 : (noK hh).pure 30 [I (i : Nat)] = some (T (dig i)) := by rw [noK_prim p30, itoa_T i (by omega)]
    have e6 : (noK hh).pure 30 [I ((i + o - 1 : Nat) : Int)] = some (T (dig (i + o - 1))) := by rw [noK_prim p30, itoa_T _ (by omega)]
    have dl : ∀ k, (dig k).length ≤ 2 := fun k => by unfold dig; split <;> simp
    have dl1 := dl i
    have dl2 := dl (i + o - 1)
    have happ : ∀ b : Bs, appendTo Tryd.prog 44 44 0 xs (.list 0 true [T b]) = some (xs ++ [T b]) := fun b => app44 xs [T b] true (by
      have : appendRoom = 140737488355328 := by decide
      simp only [List.length_cons, List.length_nil]; omega)
    have hrec : ∀ b, d21_1i (kk L n) L ke N (U s) (I ((i + o : Nat) : Int)) (xs ++ [T b]) = ke ((xs ++ [T b]) ++ (runs s F (i + o)).map fun p => T (rt p)) := fun b =>
      ih N (i + o) (xs ++ [T b]) (by omega) (by omega) (by omega) (by simp; omega)
    simp only [h0', if_false, e1, ob_some, e2, e3, e4, e5, gtr_int, h0]
    by_cases hlt : i < i + o - 1
    · have hlt' : (i : Int) < ((i + o - 1 : Nat) : Int) := by omega
      have er : rt (i, i + o - 1) = dig i ++ (45 :: dig (i + o - 1)) := by simp only [rt, hlt, if_true]
      simp only [hlt', decide_true, cb_bool, if_true, e6, ob_some]
      rw [show (PV.sc (Value.string ⟨#[45]⟩)) = T [45] from rfl]
      simp only [cat_T _ _ [45] (dig (i + o - 1)) (by simp only [List.length_cons, List.length_nil]; omega), ob_some]
      simp only [cat_T _ _ (dig i) ([45] ++ dig (i + o - 1)) (by simp only [List.length_append, List.length_cons, List.length_nil]; omega), ob_some, bs44, happ, oxs_some, e3, hrec]
      rw [List.map_cons, er]; simp
    · have hlt' : ¬ (i : Int) < ((i + o - 1 : Nat) : Int) := by omega
      have er : rt (i, i + o - 1) = dig i := by simp only [rt, hlt, if_false]
      simp only [hlt', decide_false, cb_bool, Bool.false_eq_true, if_false, ob_some, bs44, happ, oxs_some, e3, hrec]
      rw [List.map_cons, er]; simp
theorem runs_len (s : Nat) : ∀ F i, (runs s F i).length ≤ F
  | 0, _ => by simp [runs]
  | F + 1, i => by
    simp only [runs]
    split
    · simp
    · split
      · have := runs_len s F (i + 1); omega
      · have := runs_len s F (i + ones s i (32 - i)); simp only [List.length_cons]; omega
theorem rt_len (p : Nat × Nat) : (rt p).length ≤ 5 := by
  have dl : ∀ k, (dig k).length ≤ 2 := fun k => by unfold dig; split <;> simp
  have := dl p.1; have := dl p.2
  unfold rt; split
  · simp only [List.length_append, List.length_cons]; omega
  · omega
theorem lens_le {k : Nat} : ∀ {l : List Bs}, (∀ x ∈ l, x.length ≤ k) → Lib.lens l ≤ k * l.length
  | [], _ => by simp [Lib.lens]
  | a :: l, h => by
    have h1 := h a (by simp)
    have h2 := lens_le (k := k) (l := l) fun x hx => h x (by simp [hx])
    simp only [Lib.lens, List.map_cons, List.sum_cons, List.length_cons, Nat.mul_add] at h2 ⊢
    omega
theorem callD_arr {cp : FuncId → List PV → Option PV} {g : FuncId} {xs : List PV} {l : Bs} (h : cp g xs = some (T l)) : callD cp (.clo g [] []) xs 2 = some (T l) := by
  simp only [callD, List.nil_append, List.append_nil, h, okK]; rfl
theorem c21 (hm : 3 ≤ m) (hL : 40 < L) (s : Nat) (hs : s < 2 ^ 32) : callP Tryd.prog hh L m 21 [U s] = some (T (txt s)) := by
  obtain ⟨n, rfl⟩ : ∃ n, m = n + 1 := ⟨m - 1, by omega⟩
  refine callP_of' (by omega) (by kernel_rfl) ?_
  rw [r21]
  simp only [d21_0, g21_0, eql_int, ob_some, cb_bool, decide_eq_true_eq]
  by_cases h0 : s = 0
  · subst h0; rfl
  have h0' : ¬ ((s : Int) = 0) := by omega
  rw [if_neg h0', txt, if_neg h0]
  have hloop := l21 (L := L) n (by omega) (fun x0 => d21_3 (kk L n) L x0) s hs 33 L 0 [] (by omega) (by omega) (by omega) (by simp)
  rw [show (PV.sc (Value.int IntKind.i64 0)) = I ((0 : Nat) : Int) from rfl]
  refine Eq.trans (b := d21_3 (kk L n) L ([] ++ (runs s 33 0).map fun p => T (rt p))) hloop ?_
  obtain ⟨p, r, hr⟩ := rs_ne hs h0
  have hlen := runs_len s 33 0
  have hr' : runs s 33 0 = p :: r := hr
  rw [hr'] at hlen
  simp only [List.length_cons] at hlen
  have hj : (Lib.join ((p :: r).map rt) [44]).length ≤ 1000000 := by
    rw [List.map_cons, Lib.join_length]
    have := lens_le (k := 5) (l := rt p :: r.map rt) fun x hx => by
      rw [← List.map_cons, List.mem_map] at hx
      obtain ⟨q, _, rfl⟩ := hx; exact rt_len q
    simp only [List.length_cons, List.length_nil, List.length_map] at this ⊢
    omega
  have hq := join_T (rt p) (r.map rt) (by simp; omega) (by rw [← List.map_cons]; exact hj)
  rw [hr, hr', List.nil_append, d21_3, show (PV.sc (Value.string ⟨#[44]⟩)) = T [44] from rfl]
  have e : ((p :: r).map fun p => T (rt p)) = (rt p :: r.map rt).map T := by simp
  rw [e, callD_arr (l := Lib.join (rt p :: r.map rt) [44]) ((callP_prim (L := L) (n := n) p32 _).trans hq)]
  rfl
end
end Go.Lite.Pp

namespace Go.Lite.Pp
open Go Go.Proofs Go.Lite Go.Lite.Tx
set_option linter.unusedVariables false
set_option linter.unusedSimpArgs false
set_option maxRecDepth 100000
theorem txt_len {z : Nat} (hz : z < 2 ^ 32) : (txt z).length ≤ 1000 := by
  by_cases h0 : z = 0
  · subst h0; decide
  rw [txt, if_neg h0]
  obtain ⟨p, r, hr⟩ := rs_ne hz h0
  have hlen := runs_len z 33 0
  have hr' : runs z 33 0 = p :: r := hr
  rw [hr'] at hlen
  simp only [List.length_cons] at hlen
  rw [hr, List.map_cons, Lib.join_length]
  have := lens_le (k := 5) (l := rt p :: r.map rt) fun x hx => by
    rw [← List.map_cons, List.mem_map] at hx
    obtain ⟨q, _, rfl⟩ := hx; exact rt_len q
  simp only [List.length_cons, List.length_nil, List.length_map] at this ⊢
  omega
theorem bits_self {a : Nat} (ha : a < 2 ^ 32) : bits a.testBit 32 = a := by
  apply Nat.eq_of_testBit_eq
  intro j
  rw [bits_testBit]
  rcases Nat.lt_or_ge j 32 with h | h
  · simp [h]
  · rw [Nat.testBit_lt_two_pow (Nat.lt_of_lt_of_le ha (Nat.pow_le_pow_right (by decide) h))]
    simp [Nat.not_lt.2 h]
theorem of_ons {a : Nat} (ha : a < 2 ^ 32) : ofPV 0 ((ons a.testBit 32).map fun i : Nat => (i : Int)) = .tup [U a, I 0] := by
  have hlen := ons_len a.testBit 32
  have h1 := c51 (L := 200) (m := 5) (by omega) (by omega) false a.testBit 32 (by omega)
  have h2 := c9 (L := 200) (m := 5) (by omega) (by omega) false ((ons a.testBit 32).map fun i : Nat => (i : Int)) (by rw [List.length_map]; omega) (by rw [List.length_map]; omega)
  have e : il false ((ons a.testBit 32).map fun i : Nat => (i : Int)) = ints false (ons a.testBit 32) := by simp [il, ints]
  rw [e, h1, bits_self ha] at h2
  exact (Option.some.inj h2).symm
section
variable {L m : Nat}
theorem k6 (hm : 6 ≤ m) (a b : Nat) (ha : a < 2 ^ 32) (hb : b < 2 ^ 32) (t : Bs) (hL : 2000 + t.length < L) (ht : t.length < 4294967281) (haw : callP Tryd.prog hh L m 18 [] = some (Bo true)) :
    callP Tryd.prog hh L (m + 1) 6 [U a, U b, T t] = some (Bo true) := by
  refine callP_of' (by omega) (by kernel_rfl) ?_
  rw [r6]
  have f11 := k11 (L := L) (m := m - 1) (by omega) (by omega) a ha
  rw [show m - 1 + 1 = m by omega] at f11
  have hons := ons_len a.testBit 32
  have f8 := c8 (L := L) (m := m) (by omega) false ((ons a.testBit 32).map fun i : Nat => (i : Int)) (by rw [List.length_map]; omega) (by rw [List.length_map]; omega)
  have eil : il false ((ons a.testBit 32).map fun i : Nat => (i : Int)) = ints false (ons a.testBit 32) := by simp [il, ints]
  rw [eil, of_ons ha] at f8
  have ha1 := txt_len ha
  have f19 := c19 (L := L) (m := m) (by omega) (txt a) (by omega) (by omega)
  rw [parsePV, parse_txt ha] at f19
  simp only at f19
  have g19 := c19 (L := L) (m := m) (by omega) t (by omega) ht
  have hdec : decide ((⟨(txt a).toArray⟩ : ByteArray) = ⟨(txt b).toArray⟩) = decide ((a : Int) = b) := by
    congr 1
    apply propext
    rw [str_ext]
    exact ⟨fun h => by have := txt_inj ha hb h; omega, fun h => by rw [show a = b by omega]⟩
  simp only [d6_0, callD_clo, List.nil_append, List.append_nil, c21 (L := L) (show 3 ≤ m by omega) (show 40 < L by omega) a ha, c21 (L := L) (show 3 ≤ m by omega) (show 40 < L by omega) b hb, f19, ob_some, extract_tup, List.getElem?_cons_zero, List.getElem?_cons_succ, f11, f8,
    neq_int, ne_eq, not_true_eq_false, decide_false, gcase_f, Bool.false_eq_true, if_false, eql_str, eql_int, hdec, neq_bo, bne_self_eq_false, cb_bool, g19]
  cases hp : parseL t with
  | none =>
    simp only [parsePV, hp, extract_tup, List.getElem?_cons_zero, List.getElem?_cons_succ, ob_some, gcase_t, gcase_f, haw]
    rfl
  | some z =>
    obtain ⟨hz, hzt⟩ := txt_parse hp
    simp only [parsePV, hp, extract_tup, List.getElem?_cons_zero, List.getElem?_cons_succ, ob_some, not_true_eq_false, decide_false, gcase_t, gcase_f, Bool.false_eq_true, if_false, decide_true, if_true, c21 (L := L) (show 3 ≤ m by omega) (show 40 < L by omega) z hz, hzt, eql_str, haw, neq_int, eql_int, ne_eq]
end
end Go.Lite.Pp

namespace Go.Lite.Tx
open Go Go.Lite
set_option linter.unusedVariables false
set_option linter.unusedSimpArgs false
/-! # plain: the document's loop over starts of runs -/
def app (out : Bs) : List (Nat × Nat) → Bs
  | [] => out
  | p :: r => app ((if out = [] then [] else out ++ [44]) ++ rt p) r
theorem rt_ne (p : Nat × Nat) : rt p ≠ [] := by
  unfold rt dig; split <;> split <;> simp
theorem app_tail : ∀ (R : List (Nat × Nat)) (out : Bs), out ≠ [] → app out R = out ++ Lib.joinTail [44] (R.map rt)
  | [], out, _ => by simp [app, Lib.joinTail]
  | p :: r, out, h => by
    rw [app, if_neg h, app_tail r _ (by simp)]
    simp [Lib.joinTail]
theorem app_join (p : Nat × Nat) (r : List (Nat × Nat)) : app [] (p :: r) = Lib.join ((p :: r).map rt) [44] := by
  rw [app, if_pos rfl, List.nil_append, app_tail r _ (rt_ne p), List.map_cons, Lib.join_cons]
theorem runs_fuel (s : Nat) {F G i : Nat} (hF : 32 - i < F) (hG : 32 - i < G) : runs s F i = runs s G i := by
  obtain ⟨a1, a2, a3⟩ := runs_val s G i
  exact runs_of a1 (fun j h1 h2 => a3 j h1 h2 hG) hF
/-- what is still to be told at i -/
def rest (s i : Nat) : List (Nat × Nat) := if 0 < i ∧ s.testBit (i - 1) = true then runs s 33 (i + ones s i (32 - i)) else runs s 33 i
theorem rest_end (s : Nat) : rest s 32 = [] := by
  have e : ∀ k, runs s 33 (32 + k) = [] := fun k => by rw [runs, if_pos (by omega)]
  unfold rest; split
  · exact e _
  · exact e 0
theorem rest_off {s i : Nat} (hi : i < 32) (h : s.testBit i = false) : rest s i = rest s (i + 1) := by
  have e0 : ones s i (32 - i) = 0 := ones_is s (Nat.zero_le _) (fun j hj => by omega) fun _ => by rw [Nat.add_zero]; exact h
  have e1 : runs s 33 i = runs s 33 (i + 1) := by
    rw [runs_fuel s (F := 33) (G := 34) (by omega) (by omega), runs, if_neg (by omega), if_pos e0]
  have e2 : rest s (i + 1) = runs s 33 (i + 1) := by
    unfold rest; rw [if_neg (by rw [Nat.add_sub_cancel, h]; simp)]
  rw [e2, ← e1]
  unfold rest; split
  · rw [e0, Nat.add_zero]
  · rfl
theorem ones_cons {s i : Nat} (hi : i < 32) (h : s.testBit i = true) : ones s i (32 - i) = 1 + ones s (i + 1) (32 - (i + 1)) := by
  obtain ⟨d, hd⟩ : ∃ d, 32 - i = d + 1 := ⟨31 - i, by omega⟩
  rw [hd, ones, if_pos h, show 32 - (i + 1) = d by omega]
theorem rest_in {s i : Nat} (hi : i < 32) (h : s.testBit i = true) (h0 : 0 < i ∧ s.testBit (i - 1) = true) : rest s i = rest s (i + 1) := by
  have e2 : rest s (i + 1) = runs s 33 (i + 1 + ones s (i + 1) (32 - (i + 1))) := by
    unfold rest; rw [if_pos ⟨by omega, by rw [Nat.add_sub_cancel]; exact h⟩]
  rw [e2]; unfold rest
  rw [if_pos h0, ones_cons hi h, show i + (1 + ones s (i + 1) (32 - (i + 1))) = i + 1 + ones s (i + 1) (32 - (i + 1)) by omega]
theorem rest_at {s i : Nat} (hi : i < 32) (h : s.testBit i = true) (h0 : ¬ (0 < i ∧ s.testBit (i - 1) = true)) : rest s i = (i, i + ones s (i + 1) (32 - (i + 1))) :: rest s (i + 1) := by
  have e2 : rest s (i + 1) = runs s 33 (i + 1 + ones s (i + 1) (32 - (i + 1))) := by
    unfold rest; rw [if_pos ⟨by omega, by rw [Nat.add_sub_cancel]; exact h⟩]
  have ho := ones_cons hi h
  rw [e2]; unfold rest
  rw [if_neg h0, runs_fuel s (F := 33) (G := 34) (by omega) (by omega), runs, if_neg (by omega), if_neg (by omega), ho]
  rw [show i + (1 + ones s (i + 1) (32 - (i + 1))) = i + 1 + ones s (i + 1) (32 - (i + 1)) by omega, show i + 1 + ones s (i + 1) (32 - (i + 1)) - 1 = i + ones s (i + 1) (32 - (i + 1)) by omega]
end Go.Lite.Tx
namespace Go.Lite.Pp
open Go Go.Proofs Go.Lite Go.Lite.Tx
set_option linter.unusedVariables false
set_option linter.unusedSimpArgs false
set_option maxRecDepth 100000
theorem c33d : ∀ k, k < 32 → callP Tryd.prog hh 1 2 33 [I (k : Nat)] = some (T (dig k))
  | 0, _ => by kernel_rfl
  | 1, _ => by kernel_rfl
  | 2, _ => by kernel_rfl
  | 3, _ => by kernel_rfl
  | 4, _ => by kernel_rfl
  | 5, _ => by kernel_rfl
  | 6, _ => by kernel_rfl
  | 7, _ => by kernel_rfl
  | 8, _ => by kernel_rfl
  | 9, _ => by kernel_rfl
  | 10, _ => by kernel_rfl
  | 11, _ => by kernel_rfl
  | 12, _ => by kernel_rfl
  | 13, _ => by kernel_rfl
  | 14, _ => by kernel_rfl
  | 15, _ => by kernel_rfl
  | 16, _ => by kernel_rfl
  | 17, _ => by kernel_rfl
  | 18, _ => by kernel_rfl
  | 19, _ => by kernel_rfl
  | 20, _ => by kernel_rfl
  | 21, _ => by kernel_rfl
  | 22, _ => by kernel_rfl
  | 23, _ => by kernel_rfl
  | 24, _ => by kernel_rfl
  | 25, _ => by kernel_rfl
  | 26, _ => by kernel_rfl
  | 27, _ => by kernel_rfl
  | 28, _ => by kernel_rfl
  | 29, _ => by kernel_rfl
  | 30, _ => by kernel_rfl
  | 31, _ => by kernel_rfl
  | n + 32, h => by omega

section
variable {L m : Nat}
theorem c33 (hm : 2 ≤ m) (hL : 1 ≤ L) (k : Nat) (hk : k < 32) : callP Tryd.prog hh L m 33 [I (k : Nat)] = some (T (dig k)) := callP_mono (L := 1) (n := 2) hL hm (c33d k hk)
def hasX (s : Nat) (i : Int) : Bool := decide (0 ≤ i) && decide (i < 32) && s.testBit i.toNat
theorem c23x (hm : 2 ≤ m) (hL : 40 < L) (s : Nat) (i : Int) (hs : s < 2 ^ 32) (h1 : -1 ≤ i) (h2 : i ≤ 32) : callP Tryd.prog hh L m 23 [U s, I i] = some (Bo (hasX s i)) := by
  obtain ⟨n, rfl⟩ : ∃ n, m = n + 1 := ⟨m - 1, by omega⟩
  by_cases h : i = -1
  · subst h
    refine callP_of' (by omega) (by kernel_rfl) ?_
    rw [r23]
    obtain ⟨L, rfl⟩ : ∃ k, L = k + 1 := ⟨L - 1, by omega⟩
    simp [d23_0, g23_0, d23_1, d23_1i, d23_2, d23_3, hasX]
  obtain ⟨k, rfl⟩ : ∃ k : Nat, i = k := ⟨i.toNat, by omega⟩
  by_cases h32 : k < 32
  · have e : hasX s (k : Int) = s.testBit k := by simp only [hasX, Int.toNat_natCast]; simp; intro _; omega
    rw [e]; exact c50 (by omega) hL s k hs h32
  · have hk : k = 32 := by omega
    subst hk
    refine callP_of' (by omega) (by kernel_rfl) ?_
    rw [r23]
    have := l50 (L := L) (kk L n) (fun v w => d23_3 (kk L n) L v w) 32 (by omega) 32 L 0 s (by omega) (by omega) hs
    simp only [d23_0, g23_0, d23_1]
    rw [show (PV.sc (Value.int IntKind.i64 0)) = I ((0 : Nat) : Int) from rfl, this]
    simp [d23_3, hasX]
theorem hasX_nat {s k : Nat} (h : k < 32) : hasX s (k : Int) = s.testBit k := by simp only [hasX, Int.toNat_natCast]; simp; intro _; omega
theorem l22a {R : Type} (n : Nat) (hn : 2 ≤ n) (hL : 40 < L) (ke : PV → PV → PV → PV → Option R) (s : Nat) (hs : s < 2 ^ 32) (A B : PV) : ∀ (d N j : Nat), j + d = 31 → d < N → d22_3i (kk L n) L ke N (U s) A B (I j) = ke (U s) A B (I ((j + ones s (j + 1) (32 - (j + 1)) : Nat) : Int)) := by
  intro d
  induction d with
  | zero =>
    intro N j h hN
    obtain ⟨N, rfl⟩ : ∃ n, N = n + 1 := ⟨N - 1, by omega⟩
    have hj : j = 31 := by omega
    subst hj
    have hadd : ∀ a b, binPV Tryd.prog .add 3 a b (I ((31 : Nat) : Int)) (.sc (.int Go.IntKind.i64 1)) = some (I 32) := fun a b => by
      rw [add_int, wrap64 (by omega) (by omega)]; rfl
    have hx : hasX s 32 = false := by simp [hasX]
    simp only [d22_3i, d22_4, hadd, ob_some, callD_clo, List.nil_append, List.append_nil, c23x (L := L) hn hL s 32 hs (by omega) (by omega), hx, cb_bool, Bool.false_eq_true, if_false]
    rfl
  | succ d ih =>
    intro N j h hN
    obtain ⟨N, rfl⟩ : ∃ n, N = n + 1 := ⟨N - 1, by omega⟩
    have hadd : ∀ a b, binPV Tryd.prog .add 3 a b (I (j : Nat)) (.sc (.int Go.IntKind.i64 1)) = some (I ((j + 1 : Nat) : Int)) := fun a b => by
      rw [add_int, wrap_succ (show j < 9223372036854775807 by omega)]
    simp only [d22_3i, d22_4, hadd, ob_some, callD_clo, List.nil_append, List.append_nil, c23x (L := L) hn hL s ((j + 1 : Nat) : Int) hs (by omega) (by omega), hasX_nat (show j + 1 < 32 by omega), cb_bool]
    cases hb : s.testBit (j + 1) with
    | false =>
      have e0 : ones s (j + 1) (32 - (j + 1)) = 0 := ones_is s (Nat.zero_le _) (fun j hj => by omega) fun _ => by rw [Nat.add_zero]; exact hb
      rw [e0]; rfl
    | true =>
      simp only [if_true]
      rw [ih N (j + 1) (by omega) (by omega), ones_cons (show j + 1 < 32 by omega) hb]
      congr 3
      omega
theorem l22 {R : Type} (n : Nat) (hn : 2 ≤ n) (hL : 40 < L) (ke : PV → Option R) (s : Nat) (hs : s < 2 ^ 32) : ∀ (d N i : Nat) (out : Bs), i + d = 32 → d < N → out.length ≤ 10 * i → d22_1i (kk L n) L ke N (U s) (T out) (I i) = ke (T (app out (rest s i))) := by
  intro d
  induction d with
  | zero =>
    intro N i out h hN ho
    obtain ⟨N, rfl⟩ : ∃ n, N = n + 1 := ⟨N - 1, by omega⟩
    have hi : i = 32 := by omega
    subst hi
    simp [-goI, d22_1i, d22_2, g22_2, rest_end, app]
  | succ d ih =>
    intro N i out h hN ho
    obtain ⟨N, rfl⟩ : ∃ n, N = n + 1 := ⟨N - 1, by omega⟩
    have hi : i < 32 := by omega
    have hi' : (i : Int) < 32 := by omega
    have hone : ∀ a b, binPV Tryd.prog .add 3 a b (I (i : Nat)) (.sc (.int Go.IntKind.i64 1)) = some (I ((i + 1 : Nat) : Int)) := fun a b => by
      rw [add_int, wrap_succ (show i < 9223372036854775807 by omega)]
    have hsub : ∀ a b, binPV Tryd.prog .sub 3 a b (I (i : Nat)) (.sc (.int Go.IntKind.i64 1)) = some (I ((i : Int) - 1)) := fun a b => by
      rw [sub_int0, wrap64 (by omega) (by omega)]
    simp only [d22_1i, d22_2, g22_2, lss_int, ob_some, cb_bool, decide_eq_true_eq, hi', if_true, callD_clo, List.nil_append, List.append_nil, c23x (L := L) hn hL s (i : Int) hs (by omega) (by omega), hasX_nat hi, not_bool, gcase_f, hsub, c23x (L := L) hn hL s ((i : Int) - 1) hs (by omega) (by omega), hone]
    cases hb : s.testBit i with
    | false =>
      simp only [Bool.not_false, if_true]
      rw [rest_off hi hb]
      exact ih N (i + 1) out (by omega) (by omega) (by omega)
    | true =>
      simp only [Bool.not_true, Bool.false_eq_true, if_false]
      have hpre : hasX s ((i : Int) - 1) = decide (0 < i ∧ s.testBit (i - 1) = true) := by
        by_cases h0 : i = 0
        · subst h0; simp [hasX]
        · rw [show ((i : Int) - 1) = ((i - 1 : Nat) : Int) by omega, hasX_nat (by omega)]
          have : 0 < i := by omega
          simp [this]
      rw [hpre]
      by_cases h0 : 0 < i ∧ s.testBit (i - 1) = true
      · simp only [h0, and_self, decide_true, if_true]
        rw [rest_in hi hb h0]
        exact ih N (i + 1) out (by omega) (by omega) (by omega)
      · rw [decide_eq_false h0]
        simp only [Bool.false_eq_true, if_false]
        have hle := ones_le s (32 - (i + 1)) (i + 1)
        rw [rest_at hi hb h0, app, d22_3, l22a (L := L) n hn hL _ s hs _ _ (31 - i) L i (by omega) (by omega)]
        generalize ones s (i + 1) (32 - (i + 1)) = o at hle
        have dl : ∀ k, (dig k).length ≤ 2 := fun k => by unfold dig; split <;> simp
        have dl1 := dl i
        have dl2 := dl (i + o)
        simp only [d22_5, g22_5]
        rw [show (PV.sc (Value.string ⟨#[]⟩)) = T [] from rfl, neq_str]
        simp only [ob_some, d22_6, cb_bool]
        have key : ∀ o2 : Bs, o2.length ≤ out.length + 1 → d22_7 (kk L n) L (fun v0 v1 v2 => d22_1i (kk L n) L ke N v0 v1 v2) (U s) (T o2) (I (i : Nat)) (I ((i + o : Nat) : Int)) = ke (T (app (o2 ++ rt (i, i + o)) (rest s (i + 1)))) := by
          intro o2 ho2
          have hrec : ∀ q : Bs, q.length ≤ 10 * (i + 1) → d22_1i (kk L n) L ke N (U s) (T q) (I ((i + 1 : Nat) : Int)) = ke (T (app q (rest s (i + 1)))) := fun q hq => ih N (i + 1) q (by omega) (by omega) hq
          simp only [d22_7, callD_clo, List.nil_append, List.append_nil, c33 (L := L) hn (show 1 ≤ L by omega) i hi, ob_some, cat_T _ _ o2 (dig i) (by omega), gtr_int, cb_bool, decide_eq_true_eq]
          by_cases hlt : i < i + o
          · have hlt' : (i : Int) < ((i + o : Nat) : Int) := by omega
            have er : rt (i, i + o) = dig i ++ 45 :: dig (i + o) := by simp only [rt, hlt, if_true]
            rw [if_pos hlt', show (PV.sc (Value.string ⟨#[45]⟩)) = T [45] from rfl]
            simp only [cat_T _ _ (o2 ++ dig i) [45] (by simp only [List.length_append, List.length_cons, List.length_nil]; omega), ob_some, c33 (L := L) hn (show 1 ≤ L by omega) (i + o) (by omega), cat_T _ _ (o2 ++ dig i ++ [45]) (dig (i + o)) (by simp only [List.length_append, List.length_cons, List.length_nil]; omega), hone]
            rw [hrec _ (by simp only [List.length_append, List.length_cons, List.length_nil]; omega), er]
            simp
          · have hlt' : ¬ (i : Int) < ((i + o : Nat) : Int) := by omega
            have er : rt (i, i + o) = dig i := by simp only [rt, hlt, if_false]
            rw [if_neg hlt']
            simp only [hone, ob_some]
            rw [hrec _ (by simp only [List.length_append]; omega), er]
        by_cases hout : out = []
        · subst hout
          simp only [decide_true, Bool.not_true, Bool.false_eq_true, if_false, if_true]
          exact key [] (by simp)
        · have hne : ¬ ((⟨out.toArray⟩ : ByteArray) = ⟨([] : Bs).toArray⟩) := fun h => hout (str_ext.1 h)
          simp only [hne, decide_false, Bool.not_false, if_true, hout, if_false]
          rw [show (PV.sc (Value.string ⟨#[44]⟩)) = T [44] from rfl]
          simp only [cat_T _ _ out [44] (by simp only [List.length_cons, List.length_nil]; omega), ob_some]
          exact key (out ++ [44]) (by simp)
theorem c22 (hm : 3 ≤ m) (hL : 40 < L) (s : Nat) (hs : s < 2 ^ 32) : callP Tryd.prog hh L m 22 [U s] = some (T (txt s)) := by
  obtain ⟨n, rfl⟩ : ∃ n, m = n + 1 := ⟨m - 1, by omega⟩
  refine callP_of' (by omega) (by kernel_rfl) ?_
  rw [r22]
  have hloop := l22 (L := L) n (by omega) hL (fun v0 => d22_8 (kk L n) L v0) s hs 32 L 0 [] (by omega) (by omega) (by simp)
  simp only [d22_0, g22_0, d22_1]
  rw [show (PV.sc (Value.string ⟨#[]⟩)) = T [] from rfl, show (PV.sc (Value.int IntKind.i64 0)) = I ((0 : Nat) : Int) from rfl]
  refine Eq.trans hloop ?_
  have hr0 : rest s 0 = rs s := by unfold rest; rw [if_neg (by omega)]; rfl
  rw [hr0]
  simp only [d22_8]
  rw [show (PV.sc (Value.string ⟨#[]⟩)) = T [] from rfl, eql_str]
  simp only [ob_some, cb_bool, decide_eq_true_eq, str_ext]
  by_cases h0 : s = 0
  · subst h0
    have e0 : rs 0 = [] := by decide
    rw [e0]; rfl
  · obtain ⟨p, r, hr⟩ := rs_ne hs h0
    rw [txt, if_neg h0, hr, app_join]
    have hne : Lib.join ((p :: r).map rt) [44] ≠ [] := by
      rw [List.map_cons, Lib.join_cons]
      have := rt_ne p
      simp [this]
    rw [if_neg hne]
end
end Go.Lite.Pp

namespace Go.Lite.Tx
open Go Go.Lite Go.Lite.Pp
set_option linter.unusedVariables false
set_option linter.unusedSimpArgs false
/-! # plain: the document's Parse, a machine over bytes -/
def rng (k n : Int) : Nat → List Int
  | 0 => []
  | d + 1 => if k ≤ n ∧ k < 32 then k :: rng (k + 1) n d else []
structure Mc where
  f : Int
  n : Int
  l : List Int
def stp (q : Mc) (c : UInt8) : Mc :=
  if 48 ≤ c.toNat ∧ c.toNat ≤ 57 then { q with n := (q.n * 10 + ((c.toNat : Int) - 48)) % 1000 }
  else if c = 45 then { q with f := q.n, n := 0 }
  else if c = 44 then { f := -1, n := 0, l := q.l ++ rng (if q.f < 0 then q.n else q.f) q.n 33 }
  else q
def run (q : Mc) (t : Bs) : Mc := t.foldl stp q
structure Ok (q : Mc) : Prop where
  n0 : 0 ≤ q.n
  n1 : q.n < 1000
  f0 : -1 ≤ q.f
  f1 : q.f < 1000
  el : ∀ x ∈ q.l, 0 ≤ x ∧ x < 32
theorem rng_in : ∀ {d : Nat} {k n : Int}, 0 ≤ k → ∀ x ∈ rng k n d, 0 ≤ x ∧ x < 32
  | 0, k, n, _, x, hx => by simp [rng] at hx
  | d + 1, k, n, hk, x, hx => by
    simp only [rng] at hx
    split at hx
    · rename_i h
      rw [List.mem_cons] at hx
      rcases hx with rfl | hx
      · omega
      · exact rng_in (by omega) x hx
    · simp at hx
theorem rng_len : ∀ {d : Nat} {k n : Int}, (rng k n d).length ≤ d
  | 0, _, _ => by simp [rng]
  | d + 1, k, n => by
    simp only [rng]; split
    · have := rng_len (d := d) (k := k + 1) (n := n); simp only [List.length_cons]; omega
    · simp
theorem Ok.stp {q : Mc} (h : Ok q) (c : UInt8) : Ok (Tx.stp q c) := by
  have h1 := h.n0; have h2 := h.n1; have h3 := h.f0; have h4 := h.f1
  unfold Tx.stp
  split
  · exact ⟨by simp only; omega, by simp only; omega, h3, h4, h.el⟩
  split
  · exact ⟨by simp only; omega, by simp only; omega, by simp only; omega, h2, h.el⟩
  split
  · refine ⟨by simp only; omega, by simp only; omega, by simp only; omega, by simp only; omega, fun x hx => ?_⟩
    rw [List.mem_append] at hx
    rcases hx with hx | hx
    · exact h.el x hx
    · refine rng_in ?_ x hx
      split <;> omega
  · exact h
theorem stp_len (q : Mc) (c : UInt8) : (stp q c).l.length ≤ q.l.length + 33 := by
  unfold stp; split
  · simp
  split
  · simp
  split
  · have := rng_len (d := 33) (k := if q.f < 0 then q.n else q.f) (n := q.n)
    simp only [List.length_append]; omega
  · simp
def mach (t : Bs) : List Int := (run ⟨-1, 0, []⟩ (t ++ [44])).l
theorem run_app (q : Mc) (a b : Bs) : run q (a ++ b) = run (run q a) b := by simp [run, List.foldl_append]
theorem run_dig {k : Nat} (hk : k < 32) (f : Int) (l : List Int) : run ⟨f, 0, l⟩ (dig k) = ⟨f, (k : Nat), l⟩ := by
  by_cases h : k < 10
  · have e : dig k = [UInt8.ofNat (48 + k)] := by simp [dig, h]
    have hv : (UInt8.ofNat (48 + k)).toNat = 48 + k := by rw [UInt8.toNat_ofNat']; omega
    rw [e]
    simp only [run, List.foldl_cons, List.foldl_nil, stp, hv]
    rw [if_pos (by omega)]
    congr 1
    omega
  · have e : dig k = [UInt8.ofNat (48 + k / 10), UInt8.ofNat (48 + k % 10)] := by simp [dig, h]
    have hv : (UInt8.ofNat (48 + k / 10)).toNat = 48 + k / 10 := by rw [UInt8.toNat_ofNat']; omega
    have hw : (UInt8.ofNat (48 + k % 10)).toNat = 48 + k % 10 := by rw [UInt8.toNat_ofNat']; omega
    rw [e]
    simp only [run, List.foldl_cons, List.foldl_nil, stp, hv, hw]
    rw [if_pos (by omega), if_pos (by omega)]
    refine congrArg (fun n => Mc.mk f n l) ?_
    simp only
    omega
theorem stp45 (q : Mc) : stp q 45 = ⟨q.n, 0, q.l⟩ := by unfold stp; rw [if_neg (by decide), if_pos rfl]
theorem stp44 (q : Mc) : stp q 44 = ⟨-1, 0, q.l ++ rng (if q.f < 0 then q.n else q.f) q.n 33⟩ := by unfold stp; rw [if_neg (by decide), if_neg (by decide), if_pos rfl]
theorem run_rt {a b : Nat} (h : a ≤ b) (hb : b < 32) (l : List Int) : run ⟨-1, 0, l⟩ (rt (a, b) ++ [44]) = ⟨-1, 0, l ++ rng (a : Nat) (b : Nat) 33⟩ := by
  rw [run_app]
  by_cases hlt : a < b
  · have e : rt (a, b) = dig a ++ ([45] ++ dig b) := by simp [rt, hlt]
    rw [e, run_app, run_app, run_dig (by omega)]
    have e2 : run ⟨-1, (a : Nat), l⟩ [45] = ⟨(a : Nat), 0, l⟩ := by simp only [run, List.foldl_cons, List.foldl_nil, stp45]
    rw [e2, run_dig hb]
    simp only [run, List.foldl_cons, List.foldl_nil, stp44]
    rw [if_neg (by omega)]
  · have hab : a = b := by omega
    subst hab
    have e : rt (a, a) = dig a := by simp [rt]
    rw [e, run_dig hb]
    simp only [run, List.foldl_cons, List.foldl_nil, stp44]
    rw [if_pos (by omega)]
theorem run_all : ∀ {R : List (Nat × Nat)} {n : Nat} (p : Nat × Nat) (l : List Int), val n (p :: R) →
    run ⟨-1, 0, l⟩ (Lib.join ((p :: R).map rt) [44] ++ [44]) = ⟨-1, 0, l ++ (p :: R).flatMap fun p => rng (p.1 : Nat) (p.2 : Nat) 33⟩
  | [], n, p, l, h => by
    obtain ⟨h1, h2, h3, h4⟩ := h
    rw [List.map_cons, List.map_nil, Lib.join_one, run_rt h2 h3]
    simp
  | q :: R, n, p, l, h => by
    obtain ⟨h1, h2, h3, h4⟩ := h
    have e : Lib.join ((p :: q :: R).map rt) [44] = (rt p ++ [44]) ++ Lib.join ((q :: R).map rt) [44] := by
      simp only [List.map_cons]
      rw [Lib.join_cons, Lib.join_cons]
      simp [Lib.joinTail]
    rw [e, List.append_assoc, run_app, run_rt h2 h3, run_all q _ h4]
    simp
theorem ofL_app : ∀ (a b : List Int) (s : Nat), ofL s (a ++ b) = (ofL s a).bind fun t => ofL t b
  | [], b, s => rfl
  | x :: a, b, s => by
    simp only [List.cons_append, ofL]; split
    · exact ofL_app a b _
    · rfl
theorem ofL_rng : ∀ (d a b s F : Nat), b + 1 - a = d → b < 32 → d < F → ofL s (rng (a : Nat) (b : Nat) F) = some (orR s a d)
  | 0, a, b, s, F, hd, hb, hF => by
    obtain ⟨F, rfl⟩ : ∃ k, F = k + 1 := ⟨F - 1, by omega⟩
    have : ¬ ((a : Int) ≤ (b : Nat) ∧ (a : Int) < 32) := by omega
    rw [rng, if_neg this]; rfl
  | d + 1, a, b, s, F, hd, hb, hF => by
    obtain ⟨F, rfl⟩ : ∃ k, F = k + 1 := ⟨F - 1, by omega⟩
    have : ((a : Int) ≤ (b : Nat) ∧ (a : Int) < 32) := by omega
    have h2 : (0 : Int) ≤ (a : Nat) ∧ ((a : Nat) : Int) < 32 := by omega
    rw [rng, if_pos this, ofL, if_pos h2, Int.toNat_natCast, orR]
    exact ofL_rng d (a + 1) b _ F (by omega) hb (by omega)
theorem ofL_all : ∀ {R : List (Nat × Nat)} {n : Nat} (s : Nat), val n R → ofL s (R.flatMap fun p => rng (p.1 : Nat) (p.2 : Nat) 33) = some (setR s R)
  | [], n, s, _ => rfl
  | p :: R, n, s, h => by
    obtain ⟨h1, h2, h3, h4⟩ := h
    rw [List.flatMap_cons, ofL_app, ofL_rng (p.2 - p.1 + 1) p.1 p.2 s 33 (by omega) h3 (by omega)]
    exact ofL_all _ h4
theorem ofL_some : ∀ {l : List Int} (s : Nat), (∀ x ∈ l, 0 ≤ x ∧ x < 32) → ∃ t, ofL s l = some t
  | [], s, _ => ⟨s, rfl⟩
  | a :: l, s, h => by
    have ha := h a (by simp)
    rw [ofL, if_pos ha]
    exact ofL_some _ fun x hx => h x (by simp [hx])
theorem run_ok : ∀ (t : Bs) {q : Mc}, Ok q → Ok (run q t)
  | [], _, h => h
  | c :: t, q, h => run_ok t (h.stp c)
theorem ok0 : Ok ⟨-1, 0, []⟩ := ⟨by simp, by simp, by simp, by simp, by simp⟩
def refS (t : Bs) : Nat := if t = none4 then 0 else (ofL 0 (mach t)).getD 0
theorem refS_lt (t : Bs) : refS t < 2 ^ 32 := by
  unfold refS; split
  · decide
  · cases h : ofL 0 (mach t) with
    | none => decide
    | some z => exact ofL_lt (by decide) h
theorem refS_txt {z : Nat} (hz : z < 2 ^ 32) : refS (txt z) = z := by
  by_cases h0 : z = 0
  · subst h0; rfl
  · rw [refS, if_neg (txt_spl hz h0).2]
    obtain ⟨p, r, hr⟩ := rs_ne hz h0
    have hv := rs_val z
    rw [hr] at hv
    have e : mach (txt z) = (p :: r).flatMap fun p => rng (p.1 : Nat) (p.2 : Nat) 33 := by
      rw [mach, txt, if_neg h0, hr, run_all p [] hv]; simp
    rw [e, ofL_all 0 hv, ← hr, rs_set hz]; rfl
/-- both answers are the same -/
theorem ref_is (t : Bs) : (if txt (refS t) = t then some (refS t) else none) = parseL t := by
  cases hp : parseL t with
  | some z =>
    obtain ⟨hz, rfl⟩ := txt_parse hp
    rw [refS_txt hz, if_pos rfl]
  | none =>
    by_cases h : txt (refS t) = t
    · have := parse_txt (refS_lt t)
      rw [h, hp] at this; cases this
    · rw [if_neg h]
end Go.Lite.Tx
namespace Go.Lite.Pp
open Go Go.Proofs Go.Lite Go.Lite.Tx
set_option linter.unusedVariables false
set_option linter.unusedSimpArgs false
set_option maxRecDepth 100000
theorem rem_i (x y : Operand) (a : Int) (h0 : 0 ≤ a) (h1 : a < 1000000) : binPV Tryd.prog .rem 3 x y (I a) (.sc (.int .i64 1000)) = some (I (a % 1000)) := by
  have h : pureRun Tryd.prog (Op.intDiv .rem .i64 a 1000) = some (.int .i64 (a.tmod 1000)) := rfl
  rw [Int.tmod_eq_emod_of_nonneg h0] at h
  simp [binPV, PV.plain?, eqGuard, binOp, h]
theorem mul_i (x y : Operand) (a : Int) (h0 : 0 ≤ a) (h1 : a < 1000000) : binPV Tryd.prog .mul 3 x y (I a) (.sc (.int .i64 10)) = some (I (a * 10)) := by
  have h : binPV Tryd.prog .mul 3 x y (I a) (.sc (.int .i64 10)) = some (I (IntKind.i64.wrap (a * 10))) := by
    simp [binPV, PV.plain?, eqGuard, binOp]; rfl
  rw [h, wrap64 (by omega) (by omega)]
theorem sub8 (x y : Operand) (a : Nat) (h : 48 ≤ a) (h2 : a < 256) : binPV Tryd.prog .sub 5 x y (.sc (.int .u8 (a : Nat))) (.sc (.int .u8 48)) = some (.sc (.int .u8 ((a : Int) - 48))) := by
  rw [sub_int0]
  have e1 : (2 ^ IntKind.u8.bits : Int) = 256 := by rfl
  have e3 : IntKind.u8.signed = false := rfl
  have : IntKind.u8.wrap ((a : Int) - 48) = (a : Int) - 48 := by
    simp only [IntKind.wrap, e1, e3, Bool.false_and]
    simp; omega
  rw [this]
section
variable {L m : Nat}
theorem l20a {R : Type} (C : Kallee) (ke : PV → PV → List PV → Option R) (A B : PV) (n : Int) : ∀ (d N : Nat) (k : Int) (xs : List Int), 0 ≤ k → k < 1000 → n < 1000 → 32 - k ≤ d → d < N → xs.length + d ≤ 100033 →
    d20_17i C L ke N A (I n) B (I k) (xs.map fun i => I i) = ke A B ((xs ++ rng k n d).map fun i => I i) := by
  intro d
  induction d with
  | zero =>
    intro N k xs h0 h1 hn hd hN hx
    obtain ⟨N, rfl⟩ : ∃ n, N = n + 1 := ⟨N - 1, by omega⟩
    have q2 : ¬ k < 32 := by omega
    simp only [d20_17i, d20_18, leq_int, ob_some, gcase_t, decide_eq_true_eq, lss_int, cb_bool, q2, if_false, rng, List.append_nil]
    split <;> rfl
  | succ d ih =>
    intro N k xs h0 h1 hn hd hN hx
    obtain ⟨N, rfl⟩ : ∃ n, N = n + 1 := ⟨N - 1, by omega⟩
    have hroom : appendRoom = 140737488355328 := by decide
    simp only [d20_17i, d20_18, leq_int, ob_some, gcase_t, decide_eq_true_eq, lss_int, cb_bool]
    by_cases q1 : k ≤ n
    · by_cases q2 : k < 32
      · have happ := app50 (xs.map fun i => I i) [I k] true (by simp only [List.length_map, List.length_cons, List.length_nil]; omega)
        have hadd : ∀ a b, binPV Tryd.prog .add 3 a b (I k) (.sc (.int Go.IntKind.i64 1)) = some (I (k + 1)) := fun a b => by
          rw [add_int, wrap64 (by omega) (by omega)]
        simp only [q1, q2, if_true, bs50, ob_some, happ, oxs_some, hadd]
        rw [rng, if_pos ⟨q1, q2⟩]
        have := ih N (k + 1) (xs ++ [k]) (by omega) (by omega) hn (by omega) (by omega) (by simp only [List.length_append, List.length_cons, List.length_nil]; omega)
        simp only [List.map_append, List.map_cons, List.map_nil] at this ⊢
        rw [this]; simp
      · simp only [q1, q2, if_true, if_false]
        rw [rng, if_neg (by omega)]; simp
    · simp only [q1, if_false]
      rw [rng, if_neg (by omega)]; simp
abbrev C8 (c : UInt8) : PV := .sc (.int .u8 (c.toNat : Nat))
theorem u8_eq {c : UInt8} {k : Nat} (hk : k < 256) : ((c.toNat : Int) = (k : Int)) ↔ c = UInt8.ofNat k := by
  constructor
  · intro h
    apply UInt8.toNat_inj.1
    rw [UInt8.toNat_ofNat']; omega
  · rintro rfl
    rw [UInt8.toNat_ofNat']; omega
theorem step20 {R : Type} (C : Kallee) (hL : 40 < L) (kg : PV → PV → PV → PV → List PV → Option R) (A : PV) (q : Mc) (hq : Ok q) (i : Nat) (hi : i < 1000000) (c : UInt8) (hl : q.l.length + 33 ≤ 100033) :
    d20_4 C L kg A (I q.f) (I q.n) (I i) (C8 c) (q.l.map fun i => I i) = kg A (I (stp q c).f) (I (stp q c).n) (I ((i + 1 : Nat) : Int)) ((stp q c).l.map fun i => I i) := by
  have h1 := hq.n0; have h2 := hq.n1; have h3 := hq.f0; have h4 := hq.f1
  have hc : c.toNat < 256 := c.toNat_lt
  have hone : ∀ a b, binPV Tryd.prog .add 3 a b (I (i : Nat)) (.sc (.int Go.IntKind.i64 1)) = some (I ((i + 1 : Nat) : Int)) := fun a b => by
    rw [add_int, wrap_succ (show i < 9223372036854775807 by omega)]
  simp only [d20_4, g20_4, d20_5, geq_int, leq_int, ob_some]
  have rest : (48 ≤ c.toNat ∧ c.toNat ≤ 57) ∨ ¬ (48 ≤ c.toNat ∧ c.toNat ≤ 57) → (48 ≤ c.toNat ∧ c.toNat ≤ 57) ∨ ¬ (48 ≤ c.toNat ∧ c.toNat ≤ 57) := id
  have hno : ¬ (48 ≤ c.toNat ∧ c.toNat ≤ 57) → d20_6 C L kg A (I q.f) (I q.n) (I i) (C8 c) (.sc (.bool false)) (q.l.map fun i => I i) = kg A (I (stp q c).f) (I (stp q c).n) (I ((i + 1 : Nat) : Int)) ((stp q c).l.map fun i => I i) := by
    intro hd
    simp only [d20_6, g20_6, cb_bool, Bool.false_eq_true, if_false, d20_8, eql_int, ob_some, d20_10, g20_10, decide_eq_true_eq]
    by_cases h45 : c = 45
    · subst h45
      have e : (((45 : UInt8).toNat : Nat) : Int) = 45 := by decide
      simp only [e, if_true, hone, ob_some, stp45]
    have h45' : ¬ ((c.toNat : Nat) : Int) = 45 := fun h => h45 ((u8_eq (k := 45) (by omega)).1 h)
    simp only [h45', if_false, d20_11, eql_int, ob_some, d20_12, g20_12, cb_bool, decide_eq_true_eq]
    by_cases h44 : c = 44
    · subst h44
      have e : (((44 : UInt8).toNat : Nat) : Int) = 44 := by decide
      simp only [e, if_true, d20_13, lss_int, ob_some, d20_14, g20_14, d20_15, cb_bool, decide_eq_true_eq, d20_16, g20_16, d20_17, stp44]
      by_cases hf : q.f < 0
      · simp only [hf, if_true]
        rw [l20a (L := L) C _ A _ q.n 33 L q.n q.l (by omega) (by omega) (by omega) (by omega) (by omega) (by omega)]
        simp only [d20_19, hone, ob_some]
      · simp only [hf, if_false]
        rw [l20a (L := L) C _ A _ q.n 33 L q.f q.l (by omega) (by omega) (by omega) (by omega) (by omega) (by omega)]
        simp only [d20_19, hone, ob_some]
    have h44' : ¬ ((c.toNat : Nat) : Int) = 44 := fun h => h44 ((u8_eq (k := 44) (by omega)).1 h)
    have es : stp q c = q := by unfold stp; rw [if_neg hd, if_neg h45, if_neg h44]
    simp only [h44', if_false, hone, ob_some, es]
  by_cases ha : 48 ≤ c.toNat
  · have ha' : (48 : Int) ≤ ((c.toNat : Nat) : Int) := by omega
    simp only [ha', decide_true, gcase_t, if_true]
    by_cases hb : c.toNat ≤ 57
    · have hb' : ((c.toNat : Nat) : Int) ≤ 57 := by omega
      have es : stp q c = { q with n := (q.n * 10 + ((c.toNat : Int) - 48)) % 1000 } := by unfold stp; rw [if_pos ⟨ha, hb⟩]
      simp only [hb', decide_true, d20_6, g20_6, cb_bool, if_true, d20_7, mul_i _ _ q.n h1 (by omega), ob_some, sub8 _ _ c.toNat ha hc, conv53]
      rw [wrap64 (by omega) (by omega)]
      rw [add_int, wrap64 (by omega) (by omega)]
      simp only [ob_some, rem_i _ _ (q.n * 10 + ((c.toNat : Int) - 48)) (by omega) (by omega), d20_9, hone, es]
    · have hb' : ¬ ((c.toNat : Nat) : Int) ≤ 57 := by omega
      simp only [hb', decide_false]
      exact hno (by omega)
  · have ha' : ¬ (48 : Int) ≤ ((c.toNat : Nat) : Int) := by omega
    simp only [ha', decide_false, gcase_t, Bool.false_eq_true, if_false]
    exact hno (by omega)
theorem l20 {R : Type} (C : Kallee) (hL : 40 < L) (ke : PV → List PV → Option R) (t : Bs) (ht : t.length ≤ 300) :
    ∀ (r : Bs) (N i : Nat) (q : Mc), (t ++ [44]).drop i = r → r.length < N → Ok q → q.l.length ≤ 33 * i → i ≤ t.length + 1 → d20_1i C L ke N (T t) (I q.f) (I q.n) (I i) (q.l.map fun i => I i) = ke (T t) ((run q r).l.map fun i => I i) := by
  intro r
  induction r with
  | nil =>
    intro N i q h hN hq hl hi
    obtain ⟨N, rfl⟩ : ∃ n, N = n + 1 := ⟨N - 1, by omega⟩
    have := drop_nil' h
    simp only [List.length_append, List.length_cons, List.length_nil] at this
    have h2 : ¬ (i : Int) ≤ (t.length : Nat) := by omega
    simp only [d20_1i, d20_2, g20_2, ln9, ob_some, size_mk, leq_int, h2, decide_false, cb_bool, Bool.false_eq_true, if_false]
    rfl
  | cons c r ih =>
    intro N i q h hN hq hl hi
    obtain ⟨N, rfl⟩ : ∃ n, N = n + 1 := ⟨N - 1, by omega⟩
    obtain ⟨h1, h2, h3, h4⟩ := drop_cons' h
    simp only [List.length_append, List.length_cons, List.length_nil] at h1
    simp only [List.length_cons] at hN
    have h5 : (i : Int) ≤ (t.length : Nat) := by omega
    have hlen := stp_len q c
    have hrec := ih N (i + 1) (stp q c) h3 (by omega) (hq.stp c) (by omega) (by omega)
    have hst := step20 (L := L) C hL (fun v0 v1 v2 v3 x4 => d20_1i C L ke N v0 v1 v2 v3 x4) (T t) q hq i (by omega) c (by omega)
    rw [show run q (c :: r) = run (stp q c) r from rfl]
    simp only [d20_1i, d20_2, g20_2, ln9, ob_some, size_mk, leq_int, h5, decide_true, cb_bool, if_true, lss_int, d20_3, decide_eq_true_eq]
    by_cases hi2 : i < t.length
    · have hi3 : (i : Int) < (t.length : Nat) := by omega
      have hix := index_str ⟨t.toArray⟩ .i64 i hi2
      have hcv : ((⟨t.toArray⟩ : ByteArray).data[i]'hi2) = c := by
        rw [List.getElem?_append_left hi2, List.getElem?_eq_getElem hi2] at h2
        exact Option.some.inj h2
      rw [hcv] at hix
      rw [if_pos hi3, hix]
      exact hst.trans hrec
    · have hi3 : ¬ (i : Int) < (t.length : Nat) := by omega
      have hie : i = t.length := by omega
      have hc44 : c = 44 := by
        rw [List.getElem?_append_right (by omega), hie, Nat.sub_self] at h2
        exact (Option.some.inj h2).symm
      rw [if_neg hi3]
      have e : (PV.sc (Value.int Go.IntKind.u8 44)) = C8 c := by rw [hc44]; rfl
      rw [e]
      exact hst.trans hrec
theorem neq9 (x y : Operand) (a b : Bs) : binPV Tryd.prog .neq 9 x y (T a) (T b) = some (Bo (!decide (a = b))) := by
  rw [neq_str]; congr 4; simp [str_ext]
theorem run_len : ∀ (t : Bs) (q : Mc), (run q t).l.length ≤ q.l.length + 33 * t.length
  | [], q => by simp [run]
  | c :: t, q => by
    have h1 := run_len t (stp q c)
    have h2 := stp_len q c
    rw [show run q (c :: t) = run (stp q c) t from rfl]
    simp only [List.length_cons]; omega
theorem c20 (hm : 4 ≤ m) (t : Bs) (ht : t.length ≤ 300) (hL : 20000 < L) : callP Tryd.prog hh L m 20 [T t] = some (parsePV t) := by
  obtain ⟨n, rfl⟩ : ∃ n, m = n + 1 := ⟨m - 1, by omega⟩
  refine callP_of' (by omega) (by kernel_rfl) ?_
  rw [r20]
  have hloop := l20 (L := L) (kk L n) (by omega) (fun v0 x1 => d20_20 (kk L n) L v0 x1) t ht (t ++ [44]) L 0 ⟨-1, 0, []⟩ rfl (by simp only [List.length_append, List.length_cons, List.length_nil]; omega) ok0 (by simp) (by omega)
  simp only [d20_0, g20_0, d20_1]
  rw [show (PV.sc (Value.int IntKind.i64 0)) = I ((0 : Nat) : Int) from rfl]
  refine Eq.trans (b := d20_20 (kk L n) L (T t) ((run ⟨-1, 0, []⟩ (t ++ [44])).l.map fun i => I i)) hloop ?_
  have hlen := run_len (t ++ [44]) ⟨-1, 0, []⟩
  simp only [List.length_append, List.length_cons, List.length_nil] at hlen
  have hok := run_ok (t ++ [44]) ok0
  obtain ⟨z, hz⟩ := ofL_some 0 hok.el
  have hm' : (run ⟨-1, 0, []⟩ (t ++ [44])).l = mach t := rfl
  rw [hm'] at hlen hz ⊢
  have h9 := c9 (L := L) (m := n) (by omega) (by omega) false (mach t) (by omega) (by omega)
  rw [ofPV, hz] at h9
  simp only at h9
  simp only [d20_20, g20_20, callD_clo, List.nil_append, List.append_nil, h9, ob_some, extract_tup, List.getElem?_cons_zero, List.getElem?_cons_succ]
  rw [show (PV.sc (Value.string ⟨#[110, 111, 110, 101]⟩)) = T none4 from rfl, eql_str]
  have hS : (if t = none4 then 0 else z) = refS t := by unfold refS; rw [hz]; rfl
  have hd21 : d20_21 (kk L n) L (fun v0 v1 x2 => d20_22 (kk L n) L v0 v1 x2) (T t) (U z) (Bo (decide ((⟨t.toArray⟩ : ByteArray) = ⟨none4.toArray⟩))) ((mach t).map fun i => I i) = d20_22 (kk L n) L (T t) (U (refS t)) ((mach t).map fun i => I i) := by
    rw [← hS]
    simp only [d20_21, cb_bool, decide_eq_true_eq, str_ext]
    by_cases h : t = none4
    · simp only [h, if_true]; rfl
    · simp only [h, if_false]
  simp only [ob_some]
  refine Eq.trans hd21 ?_
  simp only [d20_22, callD_clo, List.nil_append, List.append_nil, c22 (L := L) (show 3 ≤ n by omega) (show 40 < L by omega) _ (refS_lt t), ob_some, neq9, cb_bool, parsePV, ← ref_is t]
  by_cases h : txt (refS t) = t
  · simp only [h, decide_true, Bool.not_true, Bool.false_eq_true, if_false, if_true]
  · simp only [h, decide_false, Bool.not_false, if_true, if_false]; rfl
theorem sl300 (l : Bs) (h : 300 < l.length) : slicePVd Tryd.prog 9 (T l) none (some (.sc (.int .i64 300))) none = some (T (l.take 300)) := by
  have h1 : (300 : Int) ≤ ((⟨l.toArray⟩ : ByteArray).size : Nat) := by rw [size_mk]; omega
  have e : (⟨l.toArray⟩ : ByteArray).extract 0 300 = ⟨(l.take 300).toArray⟩ := by
    have := Lib.extract_from_zero ⟨l.toArray⟩ 300
    apply ByteArray.ext
    apply Array.toList_inj.1
    rw [this]
  simp [slicePVd, u9, optIntPV, intPV?, h1, e]
theorem k5 (hm : 6 ≤ m) (s : Nat) (hs : s < 2 ^ 32) (t : Bs) (hL : 30000 < L) (haw : callP Tryd.prog hh L m 18 [] = some (Bo true)) : callP Tryd.prog hh L (m + 1) 5 [U s, T t] = some (Bo true) := by
  refine callP_of' (by omega) (by kernel_rfl) ?_
  rw [r5]
  have key : ∀ t : Bs, t.length ≤ 300 → d5_2 (kk L m) L (U s) (T t) = some (Bo true) := by
    intro t ht
    obtain ⟨z, e, hp⟩ : ∃ (z : Nat) (e : Int), parsePV t = .tup [U z, I e] := by
      unfold parsePV; split
      · exact ⟨_, _, rfl⟩
      · exact ⟨0, _, rfl⟩
    simp only [d5_2, callD_clo, List.nil_append, List.append_nil, c19 (L := L) (m := m) (by omega) t (by omega) (by omega), c20 (L := L) (m := m) (by omega) t ht (by omega), hp, ob_some, extract_tup, List.getElem?_cons_zero, List.getElem?_cons_succ,
      c21 (L := L) (show 3 ≤ m by omega) (show 40 < L by omega) s hs, c22 (L := L) (show 3 ≤ m by omega) (show 40 < L by omega) s hs, eql_str, decide_true, gcase_t, if_true, eql_int, haw]
  simp only [d5_0, g5_0, ln9, ob_some, size_mk, gtr_int, d5_1, cb_bool, decide_eq_true_eq]
  by_cases h : 300 < t.length
  · have h' : (300 : Int) < (t.length : Nat) := by omega
    rw [if_pos h', sl300 t h]
    exact key _ (by rw [List.length_take]; omega)
  · have h' : ¬ (300 : Int) < (t.length : Nat) := by omega
    rw [if_neg h']
    exact key t (by omega)
end
end Go.Lite.Pp

namespace Go.Lite
open Go Go.Proofs
set_option maxRecDepth 100000
theorem t_awake : callP Tryd.prog hh 200 60 18 [] = some (.sc (.bool true)) := by kernel_rfl
end Go.Lite
