import Derived.Test.YtdeoaagjfpjfaaaRo
set_option linter.unusedVariables false
set_option linter.unusedSimpArgs false

namespace Go.Lite
set_option linter.unusedVariables false
set_option linter.unusedSimpArgs false

/-! # step functions: plain -/
abbrev Ct := Int × Int
def okC (c : Ct) : Bool := decide (c.1 ≤ 2199023255552) && decide (0 ≤ c.2) && decide (c.2 ≤ 1073741824)
def tailOK : Ct → List Ct → Bool
  | _, [] => true
  | p, c :: r => okC c && (decide (p.1 < c.1) && !decide (p.2 = c.2)) && tailOK c r
def rightS : List Ct → Bool
  | [] => false
  | c :: r => decide ((c :: r).length ≤ 4096) && decide (c.1 = 0) && okC c && tailOK c r
def val (s : List Ct) (t : Int) : Int := s.foldl (fun v c => if c.1 ≤ t then c.2 else v) 0
def leastR (s : List Ct) (fr to : Int) : Int := s.foldl (fun v c => if fr < c.1 ∧ c.1 < to ∧ c.2 < v then c.2 else v) (val s fr)
/-- how many cuts hold at t -/
def up (s : List Ct) (t : Int) : Nat := (s.takeWhile (fun c => decide (c.1 ≤ t))).length
def walkMin : Int → Int → List Ct → Int
  | v, _, [] => v
  | v, to, c :: r => if to ≤ c.1 then v else walkMin (min v c.2) to r
def leastP (s : List Ct) (fr to : Int) : Int := match s.drop (up s fr - 1) with
  | [] => 0
  | c :: r => walkMin c.2 to (c :: r)

def Rising (c : Ct) (r : List Ct) : Prop := (c :: r).Pairwise (fun a b => a.1 < b.1)
theorem tailOK_rising : ∀ {c : Ct} {r : List Ct}, tailOK c r = true → Rising c r
  | c, [], _ => by simp [Rising]
  | c, d :: r, h => by
    simp only [tailOK, Bool.and_eq_true, decide_eq_true_eq] at h
    obtain ⟨⟨_, h1, _⟩, h2⟩ := h
    have := tailOK_rising h2
    unfold Rising at this ⊢
    refine List.pairwise_cons.2 ⟨fun x hx => ?_, this⟩
    rcases List.mem_cons.1 hx with rfl | hx
    · exact h1
    · have := (List.pairwise_cons.1 this).1 x hx; omega
theorem tailOK_all : ∀ {c : Ct} {r : List Ct}, tailOK c r = true → ∀ d ∈ r, okC d = true
  | c, [], _, d, hd => by simp at hd
  | c, e :: r, h, d, hd => by
    simp only [tailOK, Bool.and_eq_true] at h
    rcases List.mem_cons.1 hd with rfl | hd
    · exact h.1.1
    · exact tailOK_all h.2 d hd
theorem rightS_cons {s : List Ct} (h : rightS s = true) : ∃ c r, s = c :: r ∧ c.1 = 0 ∧ Rising c r ∧ (∀ d ∈ s, okC d = true) ∧ s.length ≤ 4096 := by
  cases s with
  | nil => cases h
  | cons c r =>
    simp only [rightS, Bool.and_eq_true, decide_eq_true_eq] at h
    obtain ⟨⟨⟨h1, h2⟩, h3⟩, h4⟩ := h
    exact ⟨c, r, rfl, h2, tailOK_rising h4, fun d hd => by
      rcases List.mem_cons.1 hd with rfl | hd
      · exact h3
      · exact tailOK_all h4 d hd, h1⟩

/-! ## the least value of a window -/
def lst (c : Ct) (r : List Ct) (fr to : Int) : Int := match r with
  | [] => c.2
  | d :: r => if d.1 ≤ fr then lst d r fr to else walkMin c.2 to (d :: r)
theorem Rising.tail {c d : Ct} {r : List Ct} (h : Rising c (d :: r)) : Rising d r := by
  unfold Rising at h ⊢; exact (List.pairwise_cons.1 h).2
theorem Rising.lt {c d : Ct} {r : List Ct} (h : Rising c r) (hd : d ∈ r) : c.1 < d.1 := (List.pairwise_cons.1 h).1 d hd
theorem up_cons {c : Ct} {r : List Ct} {t : Int} (h : c.1 ≤ t) : up (c :: r) t = up r t + 1 := by simp [up, h]
theorem up_none {c : Ct} {r : List Ct} {t : Int} (h : ¬ c.1 ≤ t) : up (c :: r) t = 0 := by simp [up, h]
theorem leastP_lst : ∀ {c : Ct} {r : List Ct} {fr to : Int}, c.1 ≤ fr → fr < to → leastP (c :: r) fr to = lst c r fr to
  | c, [], fr, to, h, h' => by
    have : ¬ to ≤ c.1 := by omega
    simp [leastP, up, h, lst, walkMin, this]
  | c, d :: r, fr, to, h, h' => by
    have hn : ¬ to ≤ c.1 := by omega
    by_cases hd : d.1 ≤ fr
    · have := leastP_lst (r := r) hd h'
      simp only [lst, if_pos hd]
      rw [← this]
      simp only [leastP, up_cons h, up_cons hd, Nat.add_sub_cancel, List.drop_succ_cons]
    · simp only [lst, if_neg hd]
      simp only [leastP, up_cons h, up_none hd, Nat.zero_add, Nat.sub_self, List.drop_zero]
      rw [walkMin, if_neg hn, Int.min_self]
theorem foldl_val_gt {t : Int} : ∀ {r : List Ct} {v : Int}, (∀ d ∈ r, t < d.1) → r.foldl (fun v c => if c.1 ≤ t then c.2 else v) v = v
  | [], v, _ => rfl
  | d :: r, v, h => by
    have : ¬ d.1 ≤ t := by have := h d (by simp); omega
    simp only [List.foldl_cons, if_neg this]
    exact foldl_val_gt fun x hx => h x (by simp [hx])
theorem fold_walk {fr to : Int} : ∀ {r : List Ct} {v : Int}, (∀ d ∈ r, fr < d.1) → r.Pairwise (fun a b => a.1 < b.1) → r.foldl (fun v c => if fr < c.1 ∧ c.1 < to ∧ c.2 < v then c.2 else v) v = walkMin v to r
  | [], v, _, _ => rfl
  | d :: r, v, h, hp => by
    have h1 := h d (by simp)
    obtain ⟨h2, h3⟩ := List.pairwise_cons.1 hp
    simp only [List.foldl_cons, walkMin]
    by_cases hd : to ≤ d.1
    · rw [if_neg (by omega), if_pos hd]
      have : ∀ {r : List Ct} {v : Int}, (∀ e ∈ r, to ≤ e.1) → r.foldl (fun v c => if fr < c.1 ∧ c.1 < to ∧ c.2 < v then c.2 else v) v = v := by
        intro r
        induction r with
        | nil => intro v _; rfl
        | cons e r ih =>
          intro v he
          have := he e (by simp)
          simp only [List.foldl_cons]
          rw [if_neg (by omega)]
          exact ih fun x hx => he x (by simp [hx])
      exact this fun e he => by have := h2 e he; omega
    · rw [if_neg hd, fold_walk (fun x hx => h x (by simp [hx])) h3]
      congr 1
      split <;> omega
theorem leastR_lst : ∀ {c : Ct} {r : List Ct} {fr to : Int}, Rising c r → c.1 ≤ fr → fr < to → leastR (c :: r) fr to = lst c r fr to
  | c, [], fr, to, _, h, h' => by
    have : ¬ (fr < c.1) := by omega
    simp [leastR, val, lst, h, this]
  | c, d :: r, fr, to, hr, h, h' => by
    have hn : ¬ fr < c.1 := by omega
    by_cases hd : d.1 ≤ fr
    · have hi := leastR_lst (r := r) hr.tail hd h'
      simp only [lst, if_pos hd]
      rw [← hi]
      simp only [leastR, val, List.foldl_cons, if_pos h, if_pos hd, hn, false_and, if_false]
    · simp only [lst, if_neg hd]
      have hg : ∀ e ∈ d :: r, fr < e.1 := fun e he => by
        rcases List.mem_cons.1 he with rfl | he
        · omega
        · have := hr.tail.lt he; omega
      have hv : val (c :: d :: r) fr = c.2 := by
        unfold val
        rw [List.foldl_cons, if_pos h]
        exact foldl_val_gt hg
      unfold leastR
      rw [hv, List.foldl_cons]
      simp only [hn, false_and, if_false]
      exact fold_walk hg (List.pairwise_cons.1 hr).2
theorem least_eq {s : List Ct} (h : rightS s = true) {fr to : Int} (h0 : 0 ≤ fr) (h1 : fr < to) : leastP s fr to = leastR s fr to := by
  obtain ⟨c, r, rfl, hc, hr, _⟩ := rightS_cons h
  rw [leastP_lst (by omega) h1, leastR_lst hr (by omega) h1]

theorem le_fold {n fr to : Int} : ∀ {r : List Ct} {v : Int}, n ≤ r.foldl (fun v c => if fr < c.1 ∧ c.1 < to ∧ c.2 < v then c.2 else v) v ↔ n ≤ v ∧ ∀ c ∈ r, fr < c.1 → c.1 < to → n ≤ c.2
  | [], v => by simp
  | d :: r, v => by
    rw [List.foldl_cons, le_fold]
    constructor
    · rintro ⟨h1, h2⟩
      split at h1
      · refine ⟨by omega, fun c hc => ?_⟩
        rcases List.mem_cons.1 hc with rfl | hc
        · intros; omega
        · exact h2 c hc
      · refine ⟨h1, fun c hc => ?_⟩
        rcases List.mem_cons.1 hc with rfl | hc
        · intros; omega
        · exact h2 c hc
    · rintro ⟨h1, h2⟩
      refine ⟨?_, fun c hc => h2 c (by simp [hc])⟩
      split
      · rename_i h; exact h2 d (by simp) h.1 h.2.1
      · exact h1
theorem le_leastR {n : Int} {s : List Ct} {fr to : Int} : n ≤ leastR s fr to ↔ n ≤ val s fr ∧ ∀ c ∈ s, fr < c.1 → c.1 < to → n ≤ c.2 := le_fold
theorem val_same {s : List Ct} {t t' : Int} (h : t' ≤ t) (hn : ∀ c ∈ s, ¬ (t' < c.1 ∧ c.1 ≤ t)) : val s t' = val s t := by
  unfold val
  generalize (0 : Int) = v
  induction s generalizing v with
  | nil => rfl
  | cons c s ih =>
    simp only [List.foldl_cons]
    have := hn c (by simp)
    have e : (c.1 ≤ t') = (c.1 ≤ t) := by apply propext; omega
    simp only [e]
    exact ih (fun c hc => hn c (by simp [hc])) _
theorem least_back {n : Int} {s : List Ct} {t t' l : Int} (h : t' ≤ t) (hn : ∀ c ∈ s, ¬ (t' < c.1 ∧ c.1 ≤ t)) (hl : n ≤ leastR s t (t + l)) : n ≤ leastR s t' (t' + l) := by
  rw [le_leastR] at hl ⊢
  refine ⟨by rw [val_same h hn]; exact hl.1, fun c hc h1 h2 => ?_⟩
  have := hn c hc
  exact hl.2 c hc (by omega) (by omega)

/-! # the earliest place -/
structure Blk where
  nodes : Nat
  fr : Int
  to : Int
structure Ask where
  count : Int
  cores : Int
  limit : Int
  nodes : Nat
  fr : Int
  blocks : List Blk
def hits (b : Blk) (a : Ask) (t : Int) : Bool := decide (b.fr < t + a.limit) && decide (t < b.to)
def opn (p : List (List Ct)) (a : Ask) (t : Int) (i : Nat) : Bool := match p[i]? with
  | none => false
  | some s => a.nodes.testBit i && decide (a.cores ≤ leastR s t (t + a.limit)) && a.blocks.all fun b => !(hits b a t && b.nodes.testBit i)
def onsN (f : Nat → Bool) : Nat := ((List.range 32).filter f).length
def good (p : List (List Ct)) (a : Ask) (t : Int) : Bool := decide (a.count ≤ onsN (opn p a t))
theorem onsN_mono {f g : Nat → Bool} (h : ∀ i, f i = true → g i = true) : onsN f ≤ onsN g := by
  unfold onsN
  rw [← List.countP_eq_length_filter, ← List.countP_eq_length_filter]
  exact List.countP_mono_left fun i _ => h i
/-- a time at which the program looks -/
def Seen (p : List (List Ct)) (a : Ask) (t : Int) : Prop := t = a.fr ∨ (∃ (i : Nat) (s : List Ct), p[i]? = some s ∧ a.nodes.testBit i = true ∧ ∃ c ∈ s, c.1 = t) ∨ ∃ b ∈ a.blocks, b.to = t
/-- the last of them up to t -/
theorem last_below (t lo : Int) (Q : Int → Prop) : ∀ n : Nat, (t - lo).toNat = n → Q lo → lo ≤ t → ∃ t', lo ≤ t' ∧ t' ≤ t ∧ Q t' ∧ ∀ u, t' < u → u ≤ t → ¬ Q u := by
  intro n
  induction n using Nat.strongRecOn generalizing lo with
  | _ n ih =>
    intro hn hq hle
    by_cases h : ∃ u, lo < u ∧ u ≤ t ∧ Q u
    · obtain ⟨u, h1, h2, h3⟩ := h
      obtain ⟨t', q1, q2, q3, q4⟩ := ih (t - u).toNat (by omega) u rfl h3 h2
      exact ⟨t', by omega, q2, q3, q4⟩
    · exact ⟨lo, by omega, hle, hq, fun u h1 h2 h3 => h ⟨u, h1, h2, h3⟩⟩
theorem good_back {p : List (List Ct)} {a : Ask} {t : Int} (h : a.fr ≤ t) (hg : good p a t = true) : ∃ t', a.fr ≤ t' ∧ t' ≤ t ∧ Seen p a t' ∧ good p a t' = true := by
  obtain ⟨t', h1, h2, h3, h4⟩ := last_below t a.fr (Seen p a) _ rfl (.inl rfl) h
  refine ⟨t', h1, h2, h3, ?_⟩
  simp only [good, decide_eq_true_eq] at hg ⊢
  refine Int.le_trans hg (Int.ofNat_le.2 (onsN_mono fun i hi => ?_))
  unfold opn at hi ⊢
  cases hp : p[i]? with
  | none => rw [hp] at hi; cases hi
  | some s =>
    rw [hp] at hi
    simp only [Bool.and_eq_true, decide_eq_true_eq, List.all_eq_true, Bool.not_eq_true'] at hi ⊢
    obtain ⟨⟨q1, q2⟩, q3⟩ := hi
    refine ⟨⟨q1, least_back h2 (fun c hc hcc => h4 c.1 hcc.1 hcc.2 (.inr (.inl ⟨i, s, hp, q1, c, hc, rfl⟩))) q2⟩, fun b hb => ?_⟩
    have q4 := q3 b hb
    have q5 : ¬ (t' < b.to ∧ b.to ≤ t) := fun hh => h4 b.to hh.1 hh.2 (.inr (.inr ⟨b, hb, rfl⟩))
    cases hbi : b.nodes.testBit i with
    | false => simp
    | true =>
      rw [hbi] at q4
      simp only [hits, Bool.and_true, Bool.and_eq_false_iff, decide_eq_false_iff_not] at q4 ⊢
      omega
/-- a place is found -/
def fits (p : List (List Ct)) (a : Ask) (t : Int) : Bool := decide (a.fr ≤ t) && decide (t ≤ 1099511627776) && good p a t
/-- the least of a list that fits -/
def IsFirst (f : Int → Bool) (o : Option Int) : Prop := match o with
  | some t => f t = true ∧ ∀ u, f u = true → t ≤ u
  | none => ∀ u, f u = false
theorem IsFirst.eq {f : Int → Bool} {o o' : Option Int} (h : IsFirst f o) (h' : IsFirst f o') : o = o' := by
  cases o with
  | none =>
    cases o' with
    | none => rfl
    | some t => simp only [IsFirst] at h h'; rw [h t] at h'; exact absurd h'.1 (by decide)
  | some t =>
    cases o' with
    | none => simp only [IsFirst] at h h'; rw [h' t] at h; exact absurd h.1 (by decide)
    | some u =>
      simp only [IsFirst] at h h'
      have := h.2 u h'.1
      have := h'.2 t h.1
      congr 1; omega
/-- what is looked for among times that hold all that matter -/
theorem first_of {p : List (List Ct)} {a : Ask} {l : List Int} (hl : ∀ t, Seen p a t → t ∈ l) {o : Option Int} (ho : match o with | some t => fits p a t = true ∧ ∀ u ∈ l, fits p a u = true → t ≤ u | none => ∀ u ∈ l, fits p a u = false) : IsFirst (fits p a) o := by
  have key : ∀ u, fits p a u = true → ∃ u' ∈ l, fits p a u' = true ∧ u' ≤ u := fun u hu => by
    simp only [fits, Bool.and_eq_true, decide_eq_true_eq] at hu
    obtain ⟨u', h1, h2, h3, h4⟩ := good_back hu.1.1 hu.2
    exact ⟨u', hl u' h3, by simp only [fits, Bool.and_eq_true, decide_eq_true_eq]; exact ⟨⟨h1, by omega⟩, h4⟩, h2⟩
  cases o with
  | none =>
    intro u
    cases hf : fits p a u with
    | false => rfl
    | true =>
      obtain ⟨u', h1, h2, _⟩ := key u hf
      rw [ho u' h1] at h2; cases h2
  | some t =>
    refine ⟨ho.1, fun u hu => ?_⟩
    obtain ⟨u', h1, h2, h3⟩ := key u hu
    have := ho.2 u' h1 h2
    omega
/-- the first of a sorted list -/
theorem find_first {f : Int → Bool} {l : List Int} (hs : l.Pairwise (· ≤ ·)) : match l.find? f with | some t => f t = true ∧ ∀ u ∈ l, f u = true → t ≤ u | none => ∀ u ∈ l, f u = false := by
  induction l with
  | nil => simp
  | cons x r ih =>
    obtain ⟨h1, h2⟩ := List.pairwise_cons.1 hs
    simp only [List.find?_cons]
    cases hf : f x with
    | true =>
      refine ⟨hf, fun u hu _ => ?_⟩
      rcases List.mem_cons.1 hu with rfl | hu
      · omega
      · exact h1 u hu
    | false =>
      have := ih h2
      simp only
      cases hr : r.find? f with
      | none =>
        rw [hr] at this
        intro u hu
        rcases List.mem_cons.1 hu with rfl | hu
        · exact hf
        · exact this u hu
      | some t =>
        rw [hr] at this
        refine ⟨this.1, fun u hu hfu => ?_⟩
        rcases List.mem_cons.1 hu with rfl | hu
        · rw [hf] at hfu; cases hfu
        · exact this.2 u hu hfu
/-- the best so far (below 0: none) -/
def best (f : Int → Bool) (b : Int) (l : List Int) : Int := l.foldl (fun b t => if f t = true ∧ ¬ (0 ≤ b ∧ b ≤ t) then t else b) b
theorem best_first {f : Int → Bool} (hf : ∀ t, f t = true → 0 ≤ t) : ∀ {l : List Int} {b : Int} {seen : List Int}, (0 ≤ b → f b = true ∧ ∀ u ∈ seen, f u = true → b ≤ u) → (b < 0 → ∀ u ∈ seen, f u = false) →
    (0 ≤ best f b l → f (best f b l) = true ∧ ∀ u ∈ seen ++ l, f u = true → best f b l ≤ u) ∧ (best f b l < 0 → ∀ u ∈ seen ++ l, f u = false)
  | [], b, seen, h1, h2 => by simpa [best] using ⟨h1, h2⟩
  | t :: l, b, seen, h1, h2 => by
    have e : best f b (t :: l) = best f (if f t = true ∧ ¬ (0 ≤ b ∧ b ≤ t) then t else b) l := rfl
    rw [e, show seen ++ t :: l = (seen ++ [t]) ++ l by simp]
    apply best_first hf
    · intro hb
      split at hb
      · rename_i hc
        rw [if_pos hc]
        refine ⟨hc.1, fun u hu hfu => ?_⟩
        rcases List.mem_append.1 hu with hu | hu
        · by_cases hb0 : 0 ≤ b
          · have := (h1 hb0).2 u hu hfu
            have := hc.2; omega
          · rw [h2 (by omega) u hu] at hfu; cases hfu
        · simp at hu; omega
      · rename_i hc
        rw [if_neg hc]
        refine ⟨(h1 hb).1, fun u hu hfu => ?_⟩
        rcases List.mem_append.1 hu with hu | hu
        · exact (h1 hb).2 u hu hfu
        · simp at hu; subst hu
          have : ¬ ¬ (0 ≤ b ∧ b ≤ u) := fun hh => hc ⟨hfu, hh⟩
          omega
    · intro hb u hu
      split at hb
      · rename_i hc; have := hf t hc.1; omega
      · rename_i hc
        rcases List.mem_append.1 hu with hu | hu
        · exact h2 hb u hu
        · simp at hu; subst hu
          cases hfu : f u with
          | false => rfl
          | true => exact absurd ⟨hfu, by omega⟩ hc
end Go.Lite

namespace Go.Lite.Pp
open Go Go.Proofs Go.Lite
set_option linter.unusedVariables false
set_option linter.unusedSimpArgs false
set_option maxRecDepth 100000
/-! # step functions: the program -/
def cpv (c : Ct) : PV := .agg [I c.1, I c.2]
abbrev cuts (b : Bool) (l : List Ct) : PV := .list 3 b (l.map cpv)
theorem sl52 : SlTy Try.prog 64 73 3 16 := .of (by kernel_rfl) (by kernel_rfl) (by kernel_rfl) (by kernel_rfl) (by kernel_rfl) (by kernel_rfl)
@[simp] theorem ln52 (b : Bool) (l : List Ct) : (lenPV Try.prog 64 (cuts b l)).map (fun n => PV.sc (goInt n)) = some (I l.length) := by have := sl52.lenL (c := b) (xs := l.map cpv); simpa using this
@[simp] theorem ia52 (b : Bool) (l : List Ct) (i : Nat) : indexAddrPV Try.prog 64 (cuts b l) (I i) = (l[i]?).map (fun c => .ro 3 (cpv c)) := by rw [sl52.atL]; simp [Function.comp_def]
@[simp] theorem ia52z (b : Bool) (l : List Ct) : indexAddrPV Try.prog 64 (cuts b l) (I 0) = (l[0]?).map (fun c => .ro 3 (cpv c)) := ia52 b l 0
theorem y54 : layOf Try.prog 73 = some 3 := by kernel_rfl
theorem y2 : layOf Try.prog 2 = some 0 := by kernel_rfl
theorem y3 : layOf Try.prog 3 = some 0 := by kernel_rfl
theorem y52 : layOf Try.prog 64 = some 0 := by kernel_rfl
@[simp] theorem ld54 (d : PV) : loadPV Try.prog 73 (.ro 3 d) = some d := load_ro y54 d
@[simp] theorem ld2 (d : PV) : loadPV Try.prog 2 (.ro 0 d) = some d := load_ro y2 d
@[simp] theorem ld3 (d : PV) : loadPV Try.prog 3 (.ro 0 d) = some d := load_ro y3 d
@[simp] theorem ld52 (d : PV) : loadPV Try.prog 64 (.ro 0 d) = some d := load_ro y52 d
@[simp] theorem fa54a (c : Ct) : fieldAddrPV Try.prog 73 (.ro 3 (cpv c)) 0 = some (.ro 0 (I c.1)) := by kernel_rfl
@[simp] theorem fa54b (c : Ct) : fieldAddrPV Try.prog 73 (.ro 3 (cpv c)) 1 = some (.ro 0 (I c.2)) := by kernel_rfl
theorem putC (v : AV) (c : Ct) : putPV 3 0 3 v (cpv c) = some (cpv c) := by
  have h : (cpv c).hasLay 3 = true := rfl
  simp [putPV, h]
@[simp] theorem at30 (c : Ct) : PV.at_ 3 0 0 (cpv c) = some (I c.1) := nonrfl rfl
@[simp] theorem at31 (c : Ct) : PV.at_ 3 1 0 (cpv c) = some (I c.2) := nonrfl rfl
def tailO : Option Ct → List Ct → Bool
  | none, [] => true
  | none, c :: r => okC c && tailOK c r
  | some p, r => tailOK p r
section
variable {L m : Nat}
theorem idxPred {i : Nat} (h : 0 < i) : IntKind.i64.wrap ((i : Int) - 1) = ((i - 1 : Nat) : Int) ∨ 9223372036854775807 < i := by
  by_cases hi : 9223372036854775807 < i
  · exact .inr hi
  · left; rw [wrap64 (by omega) (by omega)]; omega
theorem l46 {R : Type} (C : Kallee) (kr : PV → Option R) (ke : Option R) (b : Bool) (s : List Ct) (hs : s.length ≤ 9223372036854775807) :
    ∀ (r : List Ct) (N i : Nat) (p : Option Ct), s.drop i = r → r.length < N → (match p with | none => i = 0 | some p => 0 < i ∧ s[i - 1]? = some p) → d54_1i C L kr ke N (cuts b s) (I s.length) (I i) = if tailO p r = true then ke else kr (Bo false) := by
  intro r
  induction r with
  | nil =>
    intro N i p h hN hp
    obtain ⟨N, rfl⟩ : ∃ n, N = n + 1 := ⟨N - 1, by omega⟩
    have := drop_nil' h
    have h2 : ¬ (i : Int) < s.length := by omega
    have : tailO p [] = true := by cases p <;> rfl
    simp [d54_1i, d54_2, h2, this]
  | cons c r ih =>
    intro N i p h hN hp
    obtain ⟨N, rfl⟩ : ∃ n, N = n + 1 := ⟨N - 1, by omega⟩
    obtain ⟨h1, h2, h3, h4⟩ := drop_cons' h
    have h5 : (i : Int) < s.length := by omega
    simp only [List.length_cons] at hN
    have hrec := ih N (i + 1) (some c) h3 (by omega) ⟨by omega, by simpa using h2⟩
    simp only [d54_1i, d54_2, lss_int, ob_some, cb_bool, decide_eq_true_eq, h5, if_true, ia52, h2, Option.map_some, ld54, putC, at30, at31, gtr_int, gcase_f, gcase_t]
    have hadd : binPV Try.prog .add 3 = binPV Try.prog .add 3 := rfl
    have hok : okC c = (!decide (2199023255552 < c.1) && !decide (c.2 < 0) && !decide (1073741824 < c.2)) := by
      simp only [okC, ← decide_not]
      congr 1; congr 1 <;> (rw [decide_eq_decide]; omega)
      rw [decide_eq_decide]; omega
    by_cases q1 : (2199023255552 : Int) < c.1
    · cases p <;> simp [q1, tailO, tailOK, hok]
    by_cases q2 : c.2 < 0
    · cases p <;> simp [q1, q2, tailO, tailOK, hok]
    by_cases q3 : 1073741824 < c.2
    · cases p <;> simp [q1, q2, q3, tailO, tailOK, hok]
    cases p with
    | none =>
      subst hp
      simp only [q1, q2, q3, if_false, Int.natCast_zero, Int.lt_irrefl, decide_false, Bool.false_eq_true, add_int, ob_some, Int.zero_add]
      rw [show IntKind.i64.wrap 1 = ((0 + 1 : Nat) : Int) from rfl, hrec]
      simp [tailO, hok, q1, q2, q3]
      rfl
    | some p =>
      obtain ⟨hi, hpi⟩ := hp
      have hi' : (0 : Int) < i := by omega
      have hpred : IntKind.i64.wrap ((i : Int) - 1) = ((i - 1 : Nat) : Int) := by rcases idxPred hi with h | h <;> omega
      simp only [q1, q2, q3, if_false, hi', decide_true, decide_false, Bool.false_eq_true, if_true, sub_int0, hpred, ob_some, ia52, hpi, Option.map_some, fa54a, fa54b, ld2, ld3, leq_int, eql_int, add_int, wrap_succ (show i < 9223372036854775807 by omega), hrec]
      by_cases q4 : c.1 ≤ p.1
      · have : ¬ p.1 < c.1 := by omega
        simp [q4, tailO, tailOK, this]
      · have : p.1 < c.1 := by omega
        by_cases q5 : c.2 = p.2
        · simp [q4, q5, tailO, tailOK]
        · have : ¬ p.2 = c.2 := fun h => q5 h.symm
          simp [q4, q5, tailO, tailOK, hok, q1, q2, q3, this, *]
          rfl
theorem c46 (hm : 2 ≤ m) (b : Bool) (s : List Ct) (hs : s.length ≤ 9223372036854775807) (hL : s.length < L) : callP Try.prog hh L m 54 [cuts b s] = some (Bo (rightS s)) := by
  obtain ⟨n, rfl⟩ : ∃ n, m = n + 1 + 1 := ⟨m - 2, by omega⟩
  refine callP_of (by kernel_rfl) ?_
  rw [r54]
  have := l46 (L := L) (kk L (n + 1)) (fun v => some v) (d54_3 (kk L (n + 1)) L) b s hs s L 0 none rfl hL rfl
  cases s with
  | nil =>
    simp only [d54_0, g54_0, ln52, ob_some, eql_int, List.length_nil, gcase_f, rightS]
    rfl
  | cons c r =>
    have h0 : ¬ (((c :: r).length : Nat) : Int) = 0 := by simp; omega
    simp only [d54_0, g54_0, d54_1, ln52, ob_some, eql_int, decide_eq_true_eq, h0, decide_false, gcase_f, Bool.false_eq_true, if_false, gtr_int, ia52z, List.getElem?_cons_zero, Option.map_some, fa54a, ld2, neq_int, cb_bool]
    rw [show (PV.sc (Value.int IntKind.i64 0)) = I ((0 : Nat) : Int) from rfl, this]
    by_cases q1 : (4096 : Int) < ((c :: r).length : Nat)
    · have : ¬ (c :: r).length ≤ 4096 := by omega
      simp only [q1, decide_true, if_true, rightS, this, decide_false, Bool.false_and]
    · have q1' : (c :: r).length ≤ 4096 := by omega
      by_cases q2 : c.1 = 0
      · simp only [q1, decide_false, Bool.false_eq_true, if_false, q2, ne_eq, not_true_eq_false, rightS, q1', decide_true, Bool.true_and, d54_3]
        have e : (okC c && tailOK c r) = tailO none (c :: r) := rfl
        rw [e]
        by_cases hq : tailO none (c :: r) = true
        · rw [if_pos hq, hq]
        · rw [if_neg hq, Bool.eq_false_iff.2 hq]
      · simp only [q1, decide_false, Bool.false_eq_true, if_false, q2, ne_eq, not_false_eq_true, decide_true, if_true, rightS, q1', Bool.true_and, Bool.false_and]
def winB (fr to : Int) : Bool := decide (0 ≤ fr) && decide (fr < to) && decide (to ≤ 2199023255552)
theorem c39 (hm : 2 ≤ m) (fr to : Int) : callP Try.prog hh L m 51 [I fr, I to] = some (Bo (winB fr to)) := by
  obtain ⟨n, rfl⟩ : ∃ n, m = n + 1 + 1 := ⟨m - 2, by omega⟩
  refine callP_of (by kernel_rfl) ?_
  rw [r51]
  simp only [d51_0, geq_int, lss_int, leq_int, ob_some, gcase_t, winB]
  by_cases q1 : 0 ≤ fr <;> by_cases q2 : fr < to <;> simp [q1, q2]
theorem c63 (hm : 3 ≤ m) (b : Bool) (s : List Ct) (hs : s.length ≤ 9223372036854775807) (hL : s.length < L) (fr to : Int) : callP Try.prog hh L m 86 [cuts b s, I fr, I to] = some (Bo (winB fr to && rightS s)) := by
  obtain ⟨n, rfl⟩ : ∃ n, m = n + 1 + 1 := ⟨m - 2, by omega⟩
  refine callP_of (by kernel_rfl) ?_
  rw [r86]
  simp only [d86_0, geq_int, lss_int, leq_int, ob_some, gcase_t, winB, callD_clo, List.nil_append, List.append_nil, c46 (L := L) (show 2 ≤ n + 1 by omega) b s hs hL]
  by_cases q1 : 0 ≤ fr <;> by_cases q2 : fr < to <;> by_cases q3 : to ≤ 2199023255552 <;> simp [q1, q2, q3]
/-! ## where a time is -/
theorem conv383 (n : Int) : convPV Try.prog 3 115 (I n) = some (.sc (.int .u64 (IntKind.u64.wrap n))) := by kernel_rfl
theorem conv833 (n : Int) : convPV Try.prog 115 3 (.sc (.int .u64 n)) = some (I (IntKind.i64.wrap n)) := by kernel_rfl
theorem wrapu64 {n : Int} (h : 0 ≤ n) (h' : n < 18446744073709551616) : IntKind.u64.wrap n = n := by
  have e1 : (2 ^ IntKind.u64.bits : Int) = 18446744073709551616 := by rfl
  have e3 : IntKind.u64.signed = false := rfl
  simp only [IntKind.wrap, e1, e3, Bool.false_and]
  simp; omega
theorem shr1 (t : TypeId) (x y : Operand) (a : Nat) : binPV Try.prog .shr t x y (.sc (.int .u64 (a : Int))) (.sc (.int .u64 1)) = some (.sc (.int .u64 ((a / 2 : Nat) : Int))) := by
  have h1 : pureRun Try.prog (Op.shift .shr .u64 (a : Int) .u64 1) = some (.int .u64 ((a : Int).fdiv (2 ^ (min (1 : Int).toNat 64)))) := rfl
  have h3 : (a : Int).fdiv (2 ^ (min (1 : Int).toNat 64)) = ((a / 2 : Nat) : Int) := by
    rw [Int.fdiv_eq_ediv_of_nonneg _ (by exact Int.pow_nonneg (by decide))]
    rfl
  rw [h3] at h1
  simp [binPV, PV.plain?, eqGuard, binOp, h1]
theorem l94 {R : Type} (C : Kallee) (ke : PV → Option R) (d : PV) (n k : Nat) (hn : n ≤ 4611686018427387904) (hd : ∀ i, i < n → callD C.pure d [I (i : Nat)] 0 = some (Bo (decide (k ≤ i)))) :
    ∀ (N i j : Nat), i ≤ k → k ≤ j → j ≤ n → j - i < N → d101_1i C L ke N d (I i) (I j) = ke (I k) := by
  intro N
  induction N with
  | zero => intro i j _ _ _ h; omega
  | succ N ih =>
    intro i j h1 h2 h3 h4
    by_cases hij : i < j
    · have e1 : (i : Int) < j := by omega
      have e2 : IntKind.i64.wrap ((i : Int) + j) = ((i + j : Nat) : Int) := by rw [wrap64 (by omega) (by omega)]; omega
      have e3 : IntKind.u64.wrap ((i + j : Nat) : Int) = ((i + j : Nat) : Int) := wrapu64 (by omega) (by omega)
      have e4 : IntKind.i64.wrap (((i + j) / 2 : Nat) : Int) = (((i + j) / 2 : Nat) : Int) := wrap64 (by omega) (by omega)
      have hh' := hd ((i + j) / 2) (by omega)
      simp only [d101_1i, d101_2, lss_int, ob_some, cb_bool, decide_eq_true_eq, e1, if_true, add_int, e2, conv383, e3, shr1, conv833, e4, hh', not_bool]
      by_cases hk : k ≤ (i + j) / 2
      · simp only [hk, decide_true, Bool.not_true, Bool.false_eq_true, if_false]
        exact ih i ((i + j) / 2) h1 hk (by omega) (by omega)
      · simp only [hk, decide_false, Bool.not_false, if_true]
        rw [wrap_succ (by omega)]
        exact ih ((i + j) / 2 + 1) j (by omega) h2 h3 (by omega)
    · have e1 : ¬ (i : Int) < j := by omega
      have : i = k := by omega
      subst this
      simp [d101_1i, d101_2, e1]
theorem c94 (hm : 2 ≤ m) (d : PV) (n k : Nat) (hn : n ≤ 4611686018427387904) (hk : k ≤ n) (hL : n < L) (hd : ∀ q, m ≤ q + 1 → ∀ i, i < n → callD (callP Try.prog hh L q) d [I (i : Nat)] 0 = some (Bo (decide (k ≤ i)))) :
    callP Try.prog hh L m 101 [I n, d] = some (I k) := by
  obtain ⟨p, rfl⟩ : ∃ n, m = n + 1 + 1 := ⟨m - 2, by omega⟩
  refine callP_of (by kernel_rfl) ?_
  rw [r101]
  simp only [d101_0, g101_0, d101_1]
  rw [show (PV.sc (Value.int IntKind.i64 0)) = I ((0 : Nat) : Int) from rfl, l94 (L := L) (kk L (p + 1)) _ d n k hn (hd (p + 1) (by omega)) L 0 n (by omega) hk (Nat.le_refl _) (by omega)]
  simp [d101_3]
theorem up_spec : ∀ {s : List Ct} {t : Int}, s.Pairwise (fun a b => a.1 < b.1) → up s t ≤ s.length ∧ ∀ (i : Nat) (c : Ct), s[i]? = some c → (decide (t < c.1)) = decide (up s t ≤ i)
  | [], t, _ => by simp [up]
  | c :: r, t, h => by
    obtain ⟨h1, h2⟩ := List.pairwise_cons.1 h
    by_cases hc : c.1 ≤ t
    · rw [up_cons hc]
      obtain ⟨i1, i2⟩ := up_spec (t := t) h2
      refine ⟨by simpa using i1, fun i x hx => ?_⟩
      cases i with
      | zero => simp at hx; subst hx; simp; omega
      | succ i => simp at hx; rw [i2 i x hx, decide_eq_decide]; omega
    · rw [up_none hc]
      refine ⟨by omega, fun i x hx => ?_⟩
      have : t < x.1 := by
        cases i with
        | zero => simp at hx; subst hx; omega
        | succ i => simp at hx; have := h1 x (List.mem_of_getElem? hx); omega
      simp [this]
theorem c95 (hm : 2 ≤ m) (b : Bool) (s : List Ct) (t : Int) (i : Nat) (c : Ct) (hc : s[i]? = some c) : callP Try.prog hh L m 102 [I (i : Nat), .ro 0 (cuts b s), .ro 0 (I t)] = some (Bo (decide (t < c.1))) := by
  obtain ⟨n, rfl⟩ : ∃ n, m = n + 1 + 1 := ⟨m - 2, by omega⟩
  refine callP_of (by kernel_rfl) ?_
  rw [r102]
  simp only [d102_0, ld52, ob_some, ia52, hc, Option.map_some, fa54a, ld2, gtr_int]
@[simp] theorem hl0I (n : Int) : PV.hasLay 0 (I n) = true := rfl
@[simp] theorem hl0c (b : Bool) (s : List Ct) : PV.hasLay 0 (cuts b s) = true := rfl
theorem callD1 (cp : FuncId → List PV → Option PV) (g : FuncId) (a b xs : List PV) (n : Int) (h : cp g (a ++ xs ++ b) = some (I n)) : callD cp (.clo g a b) xs 1 = some (I n) := by
  simp only [callD, h]; rfl
theorem c85 (hm : 4 ≤ m) (b : Bool) (s : List Ct) (t : Int) (hr : s.Pairwise (fun a b => a.1 < b.1)) (hs : s.length ≤ 4611686018427387904) (hL : s.length < L) : callP Try.prog hh L m 98 [cuts b s, I t] = some (I ((up s t : Int) - 1)) := by
  obtain ⟨n, rfl⟩ : ∃ n, m = n + 1 + 1 := ⟨m - 2, by omega⟩
  refine callP_of (by kernel_rfl) ?_
  rw [r98]
  obtain ⟨h1, h2⟩ := up_spec (t := t) hr
  have := c94 (L := L) (m := n + 1) (by omega) (.clo 102 [] [.ro 0 (cuts b s), .ro 0 (I t)]) s.length (up s t) hs h1 hL (fun q hq i hi => by
    rw [callD_clo]
    have hc : s[i]? = some s[i] := List.getElem?_eq_getElem hi
    simp only [List.nil_append, List.cons_append, c95 (L := L) (m := q) (by omega) b s t i _ hc]
    rw [h2 i _ hc])
  simp only [d98_0, hl0c, hl0I, ck_true, ln52, ob_some]
  rw [callD1 _ _ _ _ _ (up s t) (by simpa using this)]
  simp only [ob_some, sub_int0]
  rw [wrap64 (by omega) (by omega)]
theorem l64 {R : Type} (C : Kallee) (ke : PV → Option R) (b : Bool) (s : List Ct) (to : Int) (hs : s.length ≤ 9223372036854775807) :
    ∀ (r : List Ct) (N i : Nat) (v : Int), s.drop i = r → r.length < N → d87_1i C L ke N (I to) (I v) (cuts b s) (I s.length) (I i) = ke (I (walkMin v to r)) := by
  intro r
  induction r with
  | nil =>
    intro N i v h hN
    obtain ⟨N, rfl⟩ : ∃ n, N = n + 1 := ⟨N - 1, by omega⟩
    have := drop_nil' h
    have h2 : ¬ (i : Int) < s.length := by omega
    simp [d87_1i, d87_2, h2, walkMin]
  | cons c r ih =>
    intro N i v h hN
    obtain ⟨N, rfl⟩ : ∃ n, N = n + 1 := ⟨N - 1, by omega⟩
    obtain ⟨h1, h2, h3, h4⟩ := drop_cons' h
    have h5 : (i : Int) < s.length := by omega
    simp only [List.length_cons] at hN
    have hmin : minPV Try.prog [I v, I c.2] = some (I (min v c.2)) := by
      have : pureRun Try.prog (Builtin.min_ #[] 0 #[Value.int .i64 v, Value.int .i64 c.2]) = some (.int .i64 (if c.2 < v then c.2 else v)) := rfl
      simp [minPV, PV.scalar?, this]
      omega
    simp only [d87_1i, d87_2, lss_int, ob_some, cb_bool, decide_eq_true_eq, h5, if_true, ia52, h2, Option.map_some, ld54, putC, at30, at31, geq_int, hmin, add_int, wrap_succ (show i < 9223372036854775807 by omega), ih N (i + 1) _ h3 (by omega), walkMin]
    split <;> rfl
theorem c64 (hm : 5 ≤ m) (b : Bool) (s : List Ct) (fr to : Int) (hr : rightS s = true) (hf : 0 ≤ fr) (hft : fr < to) (hL : s.length < L) : callP Try.prog hh L m 87 [cuts b s, I fr, I to] = some (I (leastR s fr to)) := by
  obtain ⟨n, rfl⟩ : ∃ n, m = n + 1 + 1 := ⟨m - 2, by omega⟩
  refine callP_of (by kernel_rfl) ?_
  rw [r87]
  rw [← least_eq hr hf hft]
  obtain ⟨c, r, rfl, hc, hri, _, hlen⟩ := rightS_cons hr
  have h85 := c85 (L := L) (m := n + 1) (by omega) b (c :: r) fr hri (by omega) hL
  have hup : 1 ≤ up (c :: r) fr := by rw [up_cons (by omega)]; omega
  have hule := (up_spec (t := fr) hri).1
  have e1 : ((up (c :: r) fr : Int) - 1) = ((up (c :: r) fr - 1 : Nat) : Int) := by omega
  rw [e1] at h85
  obtain ⟨i, hi⟩ : ∃ i, up (c :: r) fr - 1 = i := ⟨_, rfl⟩
  rw [hi] at h85
  have hil : i < (c :: r).length := by omega
  have hd : (c :: r).drop i = (c :: r)[i] :: (c :: r).drop (i + 1) := List.drop_eq_getElem_cons hil
  have hsl : slicePVd Try.prog 64 (cuts b (c :: r)) (some (I i)) none none = some (cuts b ((c :: r).drop i)) := by
    have := sl52.from (c := b) (xs := (c :: r).map cpv) (i := i) (by simp at hil ⊢; omega)
    rw [this]; simp
  simp only [d87_0, g87_0, d87_1, callD_clo, List.nil_append, List.append_nil, h85, ob_some, ia52, List.getElem?_eq_getElem hil, Option.map_some, fa54b, ld3, hsl, ln52]
  rw [show (PV.sc (Value.int IntKind.i64 0)) = I ((0 : Nat) : Int) from rfl, l64 (L := L) (kk L (n + 1)) _ b ((c :: r).drop i) to (by rw [List.length_drop]; omega) ((c :: r).drop i) L 0 _ rfl (by rw [List.length_drop]; omega)]
  simp only [d87_3, leastP, hi]
  rw [hd]
theorem c42 (hm : 6 ≤ m) (b : Bool) (s : List Ct) (fr to : Int) (hs : s.length ≤ 9223372036854775807) (hL : s.length < L) : callP Try.prog hh L m 59 [cuts b s, I fr, I to] = some (if (winB fr to && rightS s) = true then .tup [I (leastR s fr to), I 0] else .tup [I 0, I 2]) := by
  obtain ⟨n, rfl⟩ : ∃ n, m = n + 1 + 1 := ⟨m - 2, by omega⟩
  refine callP_of (by kernel_rfl) ?_
  rw [r59]
  simp only [d59_0, callD_clo, List.nil_append, List.append_nil, c63 (L := L) (show 3 ≤ n + 1 by omega) b s hs hL fr to, ob_some, not_bool, cb_bool]
  cases hw : (winB fr to && rightS s) with
  | false => simp
  | true =>
    have hw' := hw
    simp only [winB, Bool.and_eq_true, decide_eq_true_eq] at hw'
    simp only [Bool.not_true, Bool.false_eq_true, if_false, if_true, c64 (L := L) (show 5 ≤ n + 1 by omega) b s fr to hw'.2 hw'.1.1.1 hw'.1.1.2 hL, ob_some]
end
/-! # words of 32 bits -/
abbrev U (a : Nat) : PV := .sc (.int .u32 (a : Int))
theorem wrapU {n : Int} (h : 0 ≤ n) (h' : n < 4294967296) : IntKind.u32.wrap n = n := by
  have e1 : (2 ^ IntKind.u32.bits : Int) = 4294967296 := by rfl
  have e3 : IntKind.u32.signed = false := rfl
  simp only [IntKind.wrap, e1, e3, Bool.false_and]
  simp; omega
theorem ofInt_nat (a : Nat) : BitVec.ofInt IntKind.u32.bits (a : Int) = BitVec.ofNat 32 a := by
  show BitVec.ofInt 32 (a : Int) = _
  exact BitVec.ofInt_natCast 32 a
section
variable (Q : Program) (t : TypeId) (x y : Operand)
theorem and_u (a b : Nat) (ha : a < 2 ^ 32) (hb : b < 2 ^ 32) : binPV Q .and t x y (U a) (U b) = some (U (a &&& b)) := by
  have h : pureRun Q (Op.intBits .and .u32 (a : Int) (b : Int)) = some (.int .u32 (IntKind.u32.wrap ((BitVec.ofInt IntKind.u32.bits (a : Int) &&& BitVec.ofInt IntKind.u32.bits (b : Int)).toNat : Int))) := rfl
  have h2 : (BitVec.ofInt IntKind.u32.bits (a : Int) &&& BitVec.ofInt IntKind.u32.bits (b : Int)).toNat = a &&& b := by
    rw [ofInt_nat, ofInt_nat]
    show (BitVec.ofNat 32 a &&& BitVec.ofNat 32 b).toNat = _
    rw [BitVec.toNat_and, BitVec.toNat_ofNat, BitVec.toNat_ofNat, Nat.mod_eq_of_lt ha, Nat.mod_eq_of_lt hb]
  have hle : a &&& b ≤ a := Nat.and_le_left
  rw [h2, wrapU (by omega) (by omega)] at h
  simp [binPV, PV.plain?, eqGuard, binOp, h]
theorem or_u (a b : Nat) (ha : a < 2 ^ 32) (hb : b < 2 ^ 32) : binPV Q .or t x y (U a) (U b) = some (U (a ||| b)) := by
  have h : pureRun Q (Op.intBits .or .u32 (a : Int) (b : Int)) = some (.int .u32 (IntKind.u32.wrap ((BitVec.ofInt IntKind.u32.bits (a : Int) ||| BitVec.ofInt IntKind.u32.bits (b : Int)).toNat : Int))) := rfl
  have h2 : (BitVec.ofInt IntKind.u32.bits (a : Int) ||| BitVec.ofInt IntKind.u32.bits (b : Int)).toNat = a ||| b := by
    rw [ofInt_nat, ofInt_nat]
    show (BitVec.ofNat 32 a ||| BitVec.ofNat 32 b).toNat = _
    rw [BitVec.toNat_or, BitVec.toNat_ofNat, BitVec.toNat_ofNat, Nat.mod_eq_of_lt ha, Nat.mod_eq_of_lt hb]
  have hle : a ||| b < 2 ^ 32 := Nat.or_lt_two_pow ha hb
  rw [h2, wrapU (by omega) (by omega)] at h
  simp [binPV, PV.plain?, eqGuard, binOp, h]
theorem andNot_u (a b : Nat) (ha : a < 2 ^ 32) (hb : b < 2 ^ 32) : binPV Q .andNot t x y (U a) (U b) = some (U (a &&& (2 ^ 32 - 1 - b))) := by
  have h : pureRun Q (Op.intBits .andNot .u32 (a : Int) (b : Int)) = some (.int .u32 (IntKind.u32.wrap ((BitVec.ofInt IntKind.u32.bits (a : Int) &&& ~~~ BitVec.ofInt IntKind.u32.bits (b : Int)).toNat : Int))) := rfl
  have h2 : (BitVec.ofInt IntKind.u32.bits (a : Int) &&& ~~~ BitVec.ofInt IntKind.u32.bits (b : Int)).toNat = a &&& (2 ^ 32 - 1 - b) := by
    rw [ofInt_nat, ofInt_nat]
    show (BitVec.ofNat 32 a &&& ~~~ BitVec.ofNat 32 b).toNat = _
    rw [BitVec.toNat_and, BitVec.toNat_not, BitVec.toNat_ofNat, BitVec.toNat_ofNat, Nat.mod_eq_of_lt ha, Nat.mod_eq_of_lt hb]
  have hle : a &&& (2 ^ 32 - 1 - b) ≤ a := Nat.and_le_left
  rw [h2, wrapU (by omega) (by omega)] at h
  simp [binPV, PV.plain?, eqGuard, binOp, h]
theorem quo_u (a : Nat) (ha : a < 2 ^ 32) : binPV Q .quo t x y (U a) (.sc (.int .u32 2)) = some (U (a / 2)) := by
  have h : pureRun Q (Op.intDiv .quo .u32 (a : Int) 2) = some (.int .u32 (IntKind.u32.wrap ((a : Int).tdiv 2))) := rfl
  have h2 : (a : Int).tdiv 2 = ((a / 2 : Nat) : Int) := by rw [Int.tdiv_eq_ediv_of_nonneg (by omega)]; omega
  rw [h2, wrapU (by omega) (by omega)] at h
  simp [binPV, PV.plain?, eqGuard, binOp, h]
theorem rem_u (a : Nat) : binPV Q .rem t x y (U a) (.sc (.int .u32 2)) = some (U (a % 2)) := by
  have h : pureRun Q (Op.intDiv .rem .u32 (a : Int) 2) = some (.int .u32 ((a : Int).tmod 2)) := rfl
  have h2 : (a : Int).tmod 2 = ((a % 2 : Nat) : Int) := by rw [Int.tmod_eq_emod_of_nonneg (by omega)]; omega
  rw [h2] at h
  simp [binPV, PV.plain?, eqGuard, binOp, h]
theorem mul_u (a : Nat) (ha : a * 2 < 2 ^ 32) : binPV Q .mul t x y (U a) (.sc (.int .u32 2)) = some (U (a * 2)) := by
  have h : pureRun Q (Op.intArith .mul .u32 (a : Int) 2) = some (.int .u32 (IntKind.u32.wrap ((a : Int) * 2))) := rfl
  rw [wrapU (by omega) (by omega), show (a : Int) * 2 = ((a * 2 : Nat) : Int) by omega] at h
  simp [binPV, PV.plain?, eqGuard, binOp, h]
theorem add_u (a b : Nat) (ha : a + b < 2 ^ 32) : binPV Q .add t x y (U a) (U b) = some (U (a + b)) := by
  rw [add_int, wrapU (by omega) (by omega)]
  rw [show (a : Int) + b = ((a + b : Nat) : Int) by omega]
theorem shl_u (i : Nat) (h : i < 32) : binPV Q .shl t x y (.sc (.int .u32 1)) (I i) = some (U (2 ^ i)) := by
  have h1 : pureRun Q (Op.shift .shl .u32 1 .i64 (i : Int)) = some (.int .u32 (IntKind.u32.wrap (1 * 2 ^ (min (i : Int).toNat 32)))) := by
    have : ¬ (i : Int) < 0 := by omega
    simp only [Op.shift, this, if_false]; rfl
  have h2 : (2 : Nat) ^ i < 2 ^ 32 := Nat.pow_lt_pow_right (by decide) h
  have h3 : (1 * 2 ^ (min (i : Int).toNat 32) : Int) = ((2 ^ i : Nat) : Int) := by
    have : min (i : Int).toNat 32 = i := by omega
    rw [this]; simp
  have h4 : IntKind.u32.wrap (1 * 2 ^ (min (i : Int).toNat 32)) = ((2 ^ i : Nat) : Int) := by
    rw [h3]; exact wrapU (by exact Int.natCast_nonneg _) (by omega)
  rw [h4] at h1
  simp [binPV, PV.plain?, eqGuard, binOp]
  rw [wrapU (by exact Int.pow_nonneg (by decide)) (by have : ((2:Int)^i) = ((2^i : Nat):Int) := by simp
                                                      rw [this]; omega)]; rfl
theorem shr_u (a i : Nat) (h : i < 32) : binPV Q .shr t x y (U a) (I i) = some (U (a / 2 ^ i)) := by
  have h1 : pureRun Q (Op.shift .shr .u32 (a : Int) .i64 (i : Int)) = some (.int .u32 ((a : Int).fdiv (2 ^ (min (i : Int).toNat 32)))) := by
    have : ¬ (i : Int) < 0 := by omega
    simp only [Op.shift, this, if_false]; rfl
  have h3 : (a : Int).fdiv (2 ^ (min (i : Int).toNat 32)) = ((a / 2 ^ i : Nat) : Int) := by
    have : min (i : Int).toNat 32 = i := by omega
    rw [this, Int.fdiv_eq_ediv_of_nonneg _ (by exact Int.pow_nonneg (by decide))]
    simp
  rw [h3] at h1
  simp [binPV, PV.plain?, eqGuard, binOp]
  rfl
end

def bits (p : Nat → Bool) : Nat → Nat
  | 0 => 0
  | k + 1 => bits p k + (if p k then 2 ^ k else 0)
theorem bits_lt (p : Nat → Bool) : ∀ k, bits p k < 2 ^ k := by
  intro k
  induction k with
  | zero => simp [bits]
  | succ k ih => simp only [bits]; rw [Nat.pow_succ]; split <;> omega
theorem bits_or (p : Nat → Bool) (k : Nat) : bits p k ||| 2 ^ k = bits p k + 2 ^ k := by
  have := Nat.two_pow_add_eq_or_of_lt (bits_lt p k) 1
  rw [Nat.mul_one] at this
  rw [Nat.or_comm, ← this, Nat.add_comm]
theorem bits_testBit (p : Nat → Bool) : ∀ (k i : Nat), (bits p k).testBit i = (decide (i < k) && p i) := by
  intro k
  induction k with
  | zero => intro i; simp [bits]
  | succ k ih =>
    intro i
    simp only [bits]
    by_cases hp : p k = true
    · simp only [hp, if_true]
      rw [← bits_or, Nat.testBit_or, ih, Nat.testBit_two_pow]
      by_cases hik : k = i
      · subst hik; simp [hp]
      · by_cases h1 : i < k
        · simp [h1, hik, show i < k + 1 by omega]
        · simp [h1, hik, show ¬ i < k + 1 by omega]
    · simp only [hp, Bool.false_eq_true, if_false, Nat.add_zero]
      rw [ih]
      by_cases hik : k = i
      · subst hik; simp [hp]
      · by_cases h1 : i < k
        · simp [h1, show i < k + 1 by omega]
        · simp [h1, show ¬ i < k + 1 by omega]
/-! # the reference's sets -/
theorem u50 : Try.prog.underlying 22 = some (.slice 3) := by kernel_rfl
@[simp] theorem ia50 (c : Bool) (xs : List PV) (i : Nat) : indexAddrPV Try.prog 22 (.list 0 c xs) (I i) = (xs[i]?).map (.ro 0) := indexAddr_list u50 y3 c xs i
@[simp] theorem ln50 (c : Bool) (xs : List PV) : (lenPV Try.prog 22 (.list 0 c xs)).map (fun n => PV.sc (goInt n)) = some (I xs.length) := len_list u50 c xs
theorem inf3 : (Try.prog.info? 3).map (·.bytes) = some 8 := by kernel_rfl
theorem zero3 : zeroPV Try.prog 3 = some (I 0) := by kernel_rfl
theorem app50 (xs ys : List PV) (c : Bool) (h : (xs.length + ys.length) * 8 ≤ appendRoom) : appendTo Try.prog 22 22 0 xs (.list 0 c ys) = some (xs ++ ys) := by
  have := inf3
  cases hi : Try.prog.info? 3 with
  | none => rw [hi] at this; simp at this
  | some i =>
    rw [hi] at this
    simp only [Option.map_some, Option.some.injEq] at this
    have hz : PV.hasLay 0 (I 0) = true := rfl
    simp [appendTo, u50, y3, hi, zero3, this, hz, width, layPV, elemsPV?, h]
theorem bs50 (s : Int) : buildSliceAV Try.prog 22 1 [(0, I s)] = some (.list 0 true [I s]) := by
  simp [buildSliceAV, u50, y3, zero3, width, PV.hasLay, PV.isCell, setAll]

section
variable {L m : Nat}
def ons (p : Nat → Bool) (k : Nat) : List Nat := (List.range k).filter p
theorem ons_succ (p : Nat → Bool) (k : Nat) : ons p (k + 1) = if p k then ons p k ++ [k] else ons p k := by
  simp only [ons, List.range_succ, List.filter_append]
  cases hp : p k <;> simp [hp]
theorem ons_len (p : Nat → Bool) (k : Nat) : (ons p k).length ≤ k := by
  unfold ons
  have := List.length_filter_le p (List.range k)
  simpa using this
abbrev ints (c : Bool) (l : List Nat) : PV := .list 0 c (l.map fun i => I (i : Nat))
def sumB (l : List Nat) : Nat := (l.map (2 ^ ·)).sum
theorem bits_sum (p : Nat → Bool) : ∀ k, sumB (ons p k) = bits p k := by
  intro k
  induction k with
  | zero => rfl
  | succ k ih =>
    rw [ons_succ]
    simp only [bits]
    split
    · simp only [sumB, List.map_append, List.sum_append] at ih ⊢
      rw [ih]; simp
    · rw [ih]; simp
theorem within_bits (a b : Nat) (ha : a < 2 ^ 32) (hb : b < 2 ^ 32) : (a &&& (2 ^ 32 - 1 - b) = 0) ↔ ∀ i, i < 32 → a.testBit i = true → b.testBit i = true := by
  have hc : ∀ i, i < 32 → (2 ^ 32 - 1 - b).testBit i = !b.testBit i := by
    intro i hi
    rw [show 2 ^ 32 - 1 - b = 2 ^ 32 - (b + 1) by omega, Nat.testBit_two_pow_sub_succ hb]
    simp [hi]
  constructor
  · intro h i hi ha'
    have h1 : (a &&& (2 ^ 32 - 1 - b)).testBit i = false := by rw [h]; exact Nat.zero_testBit i
    rw [Nat.testBit_and, ha', hc i hi] at h1
    simpa using h1
  · intro h
    apply Nat.eq_of_testBit_eq
    intro i
    rw [Nat.testBit_and, Nat.zero_testBit]
    by_cases hi : i < 32
    · rw [hc i hi]
      cases ha' : a.testBit i with
      | false => rfl
      | true => rw [h i hi ha']; rfl
    · have : a < 2 ^ i := Nat.lt_of_lt_of_le ha (Nat.pow_le_pow_right (by decide) (by omega))
      rw [Nat.testBit_lt_two_pow this]; rfl
def within (a b : Nat) : Bool := decide (a &&& (2 ^ 32 - 1 - b) = 0)
end

end Go.Lite.Pp

namespace Go.Lite.Pp
open Go Go.Proofs Go.Lite
set_option linter.unusedVariables false
set_option linter.unusedSimpArgs false
set_option maxRecDepth 100000
/-! # profiles and asks -/
abbrev prof (p : List (List Ct)) : PV := .list 0 false (p.map (cuts true))
def bpv (b : Blk) : PV := .agg [U b.nodes, I b.fr, I b.to]
def blks (l : List Blk) : PV := match l with | [] => nilSlice | b :: r => .list 4 false ((b :: r).map bpv)
theorem blks_is (l : List Blk) : IsL 4 (blks l) (l.map bpv) := by cases l with | nil => exact .nil | cons b r => exact .list
def apv (a : Ask) : PV := .agg [I a.count, I a.cores, I a.limit, I a.fr, U a.nodes, blks a.blocks]
theorem sl22 : SlTy Try.prog 36 64 0 24 := .of (by kernel_rfl) (by kernel_rfl) (by kernel_rfl) (by kernel_rfl) (by kernel_rfl) (by kernel_rfl)
theorem sl25 : SlTy Try.prog 48 75 4 24 := .of (by kernel_rfl) (by kernel_rfl) (by kernel_rfl) (by kernel_rfl) (by kernel_rfl) (by kernel_rfl)
@[simp] theorem ln22 (l : List (List Ct)) : (lenPV Try.prog 36 (prof l)).map (fun n => PV.sc (goInt n)) = some (I l.length) := by have := sl22.lenL (c := false) (xs := l.map (cuts true)); simpa using this
@[simp] theorem ia22 (l : List (List Ct)) (i : Nat) : indexAddrPV Try.prog 36 (prof l) (I i) = (l[i]?).map (fun c => .ro 0 (cuts true c)) := by rw [sl22.atL]; simp [Function.comp_def]
@[simp] theorem ln25 (l : List Blk) : (lenPV Try.prog 48 (blks l)).map (fun n => PV.sc (goInt n)) = some (I l.length) := by have := sl25.len (blks_is l); simpa using this
@[simp] theorem ia25 (l : List Blk) (i : Nat) : indexAddrPV Try.prog 48 (blks l) (I i) = (l[i]?).map (fun c => .ro 4 (bpv c)) := by cases l with | nil => kernel_rfl | cons b r => exact (sl25.atL (c := false) (xs := (b :: r).map bpv) (i := i)).trans (by rw [List.getElem?_map, Option.map_map]; rfl)
theorem y46 : layOf Try.prog 75 = some 4 := by kernel_rfl
@[simp] theorem ld46 (d : PV) : loadPV Try.prog 75 (.ro 4 d) = some d := load_ro y46 d
theorem y22 : layOf Try.prog 36 = some 0 := by kernel_rfl
@[simp] theorem ld22 (d : PV) : loadPV Try.prog 36 (.ro 0 d) = some d := load_ro y22 d
theorem putB (v : AV) (b : Blk) : putPV 4 0 4 v (bpv b) = some (bpv b) := by
  have h : (bpv b).hasLay 4 = true := rfl
  simp [putPV, h]
@[simp] theorem at40 (b : Blk) : PV.at_ 4 0 0 (bpv b) = some (U b.nodes) := nonrfl rfl
@[simp] theorem at41 (b : Blk) : PV.at_ 4 1 0 (bpv b) = some (I b.fr) := nonrfl rfl
@[simp] theorem at42 (b : Blk) : PV.at_ 4 2 0 (bpv b) = some (I b.to) := nonrfl rfl
@[simp] theorem at70 (a : Ask) : PV.at_ 7 0 0 (apv a) = some (I a.count) := nonrfl rfl
@[simp] theorem at71 (a : Ask) : PV.at_ 7 1 0 (apv a) = some (I a.cores) := nonrfl rfl
@[simp] theorem at72 (a : Ask) : PV.at_ 7 2 0 (apv a) = some (I a.limit) := nonrfl rfl
@[simp] theorem at73 (a : Ask) : PV.at_ 7 3 0 (apv a) = some (I a.fr) := nonrfl rfl
@[simp] theorem at74 (a : Ask) : PV.at_ 7 4 0 (apv a) = some (U a.nodes) := nonrfl rfl
@[simp] theorem at75 (a : Ask) : PV.at_ 7 5 0 (apv a) = some (blks a.blocks) := nonrfl rfl
@[simp] theorem hl7a (a : Ask) : PV.hasLay 7 (apv a) = true := nonrfl (by obtain ⟨_, _, _, _, _, bl⟩ := a; cases bl <;> rfl)
@[simp] theorem hl4b (b : Blk) : PV.hasLay 4 (bpv b) = true := nonrfl rfl
@[simp] theorem hl0p (p : List (List Ct)) : PV.hasLay 0 (prof p) = true := nonrfl rfl
def ix {α : Type} (p : α → Bool) (l : List α) : Int := match ffrom p 0 l with | some j => j | none => -1
theorem ffrom_any {α : Type} (p : α → Bool) : ∀ (l : List α) (i : Nat), (ffrom p i l).isSome = l.any p
  | [], _ => rfl
  | a :: r, i => by
    simp only [ffrom, List.any_cons]
    cases h : p a
    · simp [ffrom_any p r (i + 1)]
    · simp
theorem ix_any {α : Type} (p : α → Bool) (l : List α) : decide (0 ≤ ix p l) = l.any p := by
  rw [← ffrom_any p l 0, ix]
  cases h : ffrom p 0 l <;> simp
section
variable {L m : Nat}
theorem l65 {R : Type} (C : Kallee) (kr : PV → Option R) (ke : Option R) (clo : PV) (p : (List Ct) → Bool) (l : List (List Ct)) (hl : l.length ≤ 4611686018427387904) (hcl : ∀ a ∈ l, callD C.pure clo [cuts true a] 0 = some (Bo (p a))) :
    ∀ (r : List (List Ct)) (N i : Nat), l.drop i = r → r.length < N → d74_1i C L kr ke N (prof l) clo (I l.length) (I i) = (match ffrom p i r with | some j => kr (I j) | none => ke) := by
  intro r
  induction r with
  | nil =>
    intro N i h hN
    obtain ⟨N, rfl⟩ : ∃ n, N = n + 1 := ⟨N - 1, by omega⟩
    have := drop_nil' h
    have h2 : ¬ (i : Int) < l.length := by omega
    simp [d74_1i, d74_2, h2, ffrom]
  | cons a r ih =>
    intro N i h hN
    obtain ⟨N, rfl⟩ : ∃ n, N = n + 1 := ⟨N - 1, by omega⟩
    obtain ⟨h1, h2, h3, h4⟩ := drop_cons' h
    have h5 : (i : Int) < l.length := by omega
    simp only [List.length_cons] at hN
    have := ih N (i + 1) h3 (by omega)
    simp only [d74_1i, d74_2, lss_int, ob_some, cb_bool, decide_eq_true_eq, h5, if_true, ia22, List.getElem?_map, h2, Option.map_some, ld52, hcl a h4, add_int, wrap_succ (show i < 9223372036854775807 by omega), this, ffrom]
    cases p a <;> simp
theorem c65 (hm : 2 ≤ m) (clo : PV) (p : (List Ct) → Bool) (l : List (List Ct)) (hl : l.length ≤ 4611686018427387904) (hL : l.length < L) (hcl : ∀ k, m ≤ k + 1 → ∀ a ∈ l, callD (callP Try.prog hh L k) clo [cuts true a] 0 = some (Bo (p a))) :
    callP Try.prog hh L m 74 [prof l, clo] = some (I (ix p l)) := by
  obtain ⟨n, rfl⟩ : ∃ n, m = n + 1 + 1 := ⟨m - 2, by omega⟩
  refine callP_of (by kernel_rfl) ?_
  rw [r74]
  have := l65 (L := L) (kk L (n + 1)) (fun v => some v) (d74_3 (kk L (n + 1)) L) clo p l hl (hcl (n + 1) (by omega)) l L 0 rfl hL
  simp only [d74_0, g74_0, d74_1, ln22, ob_some, List.length_map]
  rw [show (PV.sc (Value.int IntKind.i64 0)) = I ((0 : Nat) : Int) from rfl, this, ix]
  cases ffrom p 0 l <;> rfl
theorem c44 (hm : 3 ≤ m) (clo : PV) (p : (List Ct) → Bool) (l : List (List Ct)) (hl : l.length ≤ 4611686018427387904) (hL : l.length < L) (hcl : ∀ k, m ≤ k + 2 → ∀ a ∈ l, callD (callP Try.prog hh L k) clo [cuts true a] 0 = some (Bo (p a))) :
    callP Try.prog hh L m 52 [prof l, clo] = some (Bo (l.any p)) := by
  obtain ⟨n, rfl⟩ : ∃ n, m = n + 1 + 1 := ⟨m - 2, by omega⟩
  refine callP_of (by kernel_rfl) ?_
  rw [r52]
  simp only [d52_0, callD_clo, List.nil_append, List.append_nil, c65 (L := L) (m := n + 1) (by omega) clo p l hl hL (fun k hk => hcl k (by omega)), ob_some, geq_int, ix_any]
theorem l70 {R : Type} (C : Kallee) (kr : PV → Option R) (ke : Option R) (clo : PV) (p : Blk → Bool) (l : List Blk) (hl : l.length ≤ 4611686018427387904) (hcl : ∀ a ∈ l, callD C.pure clo [bpv a] 0 = some (Bo (p a))) :
    ∀ (r : List Blk) (N i : Nat), l.drop i = r → r.length < N → d73_1i C L kr ke N (blks l) clo (I l.length) (I i) = (match ffrom p i r with | some j => kr (I j) | none => ke) := by
  intro r
  induction r with
  | nil =>
    intro N i h hN
    obtain ⟨N, rfl⟩ : ∃ n, N = n + 1 := ⟨N - 1, by omega⟩
    have := drop_nil' h
    have h2 : ¬ (i : Int) < l.length := by omega
    simp [d73_1i, d73_2, h2, ffrom]
  | cons a r ih =>
    intro N i h hN
    obtain ⟨N, rfl⟩ : ∃ n, N = n + 1 := ⟨N - 1, by omega⟩
    obtain ⟨h1, h2, h3, h4⟩ := drop_cons' h
    have h5 : (i : Int) < l.length := by omega
    simp only [List.length_cons] at hN
    have := ih N (i + 1) h3 (by omega)
    simp only [d73_1i, d73_2, lss_int, ob_some, cb_bool, decide_eq_true_eq, h5, if_true, ia25, List.getElem?_map, h2, Option.map_some, ld46, hcl a h4, add_int, wrap_succ (show i < 9223372036854775807 by omega), this, ffrom]
    cases p a <;> simp
theorem c70 (hm : 2 ≤ m) (clo : PV) (p : Blk → Bool) (l : List Blk) (hl : l.length ≤ 4611686018427387904) (hL : l.length < L) (hcl : ∀ k, m ≤ k + 1 → ∀ a ∈ l, callD (callP Try.prog hh L k) clo [bpv a] 0 = some (Bo (p a))) :
    callP Try.prog hh L m 73 [blks l, clo] = some (I (ix p l)) := by
  obtain ⟨n, rfl⟩ : ∃ n, m = n + 1 + 1 := ⟨m - 2, by omega⟩
  refine callP_of (by kernel_rfl) ?_
  rw [r73]
  have := l70 (L := L) (kk L (n + 1)) (fun v => some v) (d73_3 (kk L (n + 1)) L) clo p l hl (hcl (n + 1) (by omega)) l L 0 rfl hL
  simp only [d73_0, g73_0, d73_1, ln25, ob_some, List.length_map]
  rw [show (PV.sc (Value.int IntKind.i64 0)) = I ((0 : Nat) : Int) from rfl, this, ix]
  cases ffrom p 0 l <;> rfl
theorem c55 (hm : 3 ≤ m) (clo : PV) (p : Blk → Bool) (l : List Blk) (hl : l.length ≤ 4611686018427387904) (hL : l.length < L) (hcl : ∀ k, m ≤ k + 2 → ∀ a ∈ l, callD (callP Try.prog hh L k) clo [bpv a] 0 = some (Bo (p a))) :
    callP Try.prog hh L m 49 [blks l, clo] = some (Bo (l.any p)) := by
  obtain ⟨n, rfl⟩ : ∃ n, m = n + 1 + 1 := ⟨m - 2, by omega⟩
  refine callP_of (by kernel_rfl) ?_
  rw [r49]
  simp only [d49_0, callD_clo, List.nil_append, List.append_nil, c70 (L := L) (m := n + 1) (by omega) clo p l hl hL (fun k hk => hcl k (by omega)), ob_some, geq_int, ix_any]
theorem c45 (hm : 3 ≤ m) (s : List Ct) (hs : s.length ≤ 9223372036854775807) (hL : s.length < L) : callP Try.prog hh L m 53 [cuts true s] = some (Bo (!rightS s)) := by
  obtain ⟨n, rfl⟩ : ∃ n, m = n + 1 + 1 := ⟨m - 2, by omega⟩
  refine callP_of (by kernel_rfl) ?_
  rw [r53]
  simp only [d53_0, callD_clo, List.nil_append, List.append_nil, c46 (L := L) (show 2 ≤ n + 1 by omega) true s hs hL, ob_some, not_bool]
structure OkP (L : Nat) (p : List (List Ct)) : Prop where
  n : p.length ≤ 40
  c : ∀ s ∈ p, s.length ≤ 3000
  L : 5000 < L
def rightP (p : List (List Ct)) : Bool := decide (1 ≤ p.length) && decide (p.length ≤ 32) && p.all rightS
theorem c20' (hm : 6 ≤ m) (p : List (List Ct)) (h1 : p.length ≤ 40) (h2 : ∀ s ∈ p, s.length ≤ 4096) (h3 : 5000 < L) : callP Try.prog hh L m 24 [prof p] = some (Bo (rightP p)) := by
  obtain ⟨n, rfl⟩ : ∃ n, m = n + 1 + 1 := ⟨m - 2, by omega⟩
  refine callP_of (by kernel_rfl) ?_
  rw [r24]
  have := c44 (L := L) (m := n + 1) (by omega) (.clo 53 [] []) (fun s => !rightS s) p (by omega) (by omega) (fun k hk s hs => by
    rw [callD_clo]; exact c45 (by omega) s (by have := h2 s hs; omega) (by have := h2 s hs; omega))
  have e : (p.any fun s => !rightS s) = !p.all rightS := by rw [List.all_eq_not_any_not]; simp
  rw [e] at this
  simp only [d24_0, ln22, ob_some, geq_int, leq_int, gcase_t, callD_clo, List.nil_append, List.append_nil, this, not_bool, Bool.not_not, rightP]
  by_cases q1 : 1 ≤ p.length
  · have q1' : (1 : Int) ≤ p.length := by omega
    by_cases q2 : p.length ≤ 32
    · have q2' : (p.length : Int) ≤ 32 := by omega
      simp [q1, q1', q2, q2']
    · have q2' : ¬ (p.length : Int) ≤ 32 := by omega
      simp [q1, q1', q2, q2']
  · have q1' : ¬ (1 : Int) ≤ p.length := by omega
    simp [q1, q1']
theorem c20 (hm : 6 ≤ m) (p : List (List Ct)) (hp : OkP L p) : callP Try.prog hh L m 24 [prof p] = some (Bo (rightP p)) := c20' hm p hp.n (fun s hs => by have := hp.c s hs; omega) hp.L
theorem c56 (hm : 3 ≤ m) (b : Blk) : callP Try.prog hh L m 50 [bpv b] = some (Bo (!winB b.fr b.to)) := by
  obtain ⟨n, rfl⟩ : ∃ n, m = n + 1 + 1 := ⟨m - 2, by omega⟩
  refine callP_of (by kernel_rfl) ?_
  rw [r50]
  simp only [d50_0, hl4b, ck_true, at41, at42, ob_some, callD_clo, List.nil_append, List.append_nil, c39 (L := L) (show 2 ≤ n + 1 by omega), not_bool]
structure OkQ (a : Ask) : Prop where
  b : a.blocks.length ≤ 100
  n : a.nodes < 2 ^ 32
  bn : ∀ b ∈ a.blocks, b.nodes < 2 ^ 32
def askB (a : Ask) : Bool := decide (1 ≤ a.count) && decide (a.count ≤ 32) && decide (1 ≤ a.cores) && decide (a.cores ≤ 64) && decide (1 ≤ a.limit) && decide (a.limit ≤ 1048576) && decide (0 ≤ a.fr) && decide (a.fr ≤ 1099511627776) && a.blocks.all fun b => winB b.fr b.to
theorem c28 (hm : 6 ≤ m) (hL : 5000 < L) (a : Ask) (ha : OkQ a) : callP Try.prog hh L m 23 [apv a] = some (Bo (askB a)) := by
  obtain ⟨n, rfl⟩ : ∃ n, m = n + 1 + 1 := ⟨m - 2, by omega⟩
  refine callP_of (by kernel_rfl) ?_
  rw [r23]
  have hb := ha.b
  have := c55 (L := L) (m := n + 1) (by omega) (.clo 50 [] []) (fun b => !winB b.fr b.to) a.blocks (by omega) (by omega) (fun k hk s hs => by
    rw [callD_clo]; exact c56 (by omega) s)
  have e : (a.blocks.any fun b => !winB b.fr b.to) = !a.blocks.all fun b => winB b.fr b.to := by rw [List.all_eq_not_any_not]; simp
  rw [e] at this
  have hb' : (a.blocks.length : Int) ≤ 4096 := by omega
  simp only [d23_0, hl7a, ck_true, at70, at71, at72, at73, at75, ln25, ob_some, geq_int, leq_int, lss_int, gtr_int, gcase_t, gcase_f, callD_clo, List.nil_append, List.append_nil, this, not_bool, Bool.not_not, askB, cb_bool, hb', decide_true, if_true]
  by_cases q1 : a.count < 1
  · have : ¬ 1 ≤ a.count := by omega
    simp [q1, this]
  by_cases q2 : 32 < a.count
  · have : ¬ a.count ≤ 32 := by omega
    simp [q1, q2, this]
  by_cases q3 : a.cores < 1
  · have : ¬ 1 ≤ a.cores := by omega
    simp [q1, q2, q3, this]
  by_cases q4 : 64 < a.cores
  · have : ¬ a.cores ≤ 64 := by omega
    simp [q1, q2, q3, q4, this]
  by_cases q5 : a.limit < 1
  · have : ¬ 1 ≤ a.limit := by omega
    simp [q1, q2, q3, q4, q5, this]
  by_cases q6 : 1048576 < a.limit
  · have : ¬ a.limit ≤ 1048576 := by omega
    simp [q1, q2, q3, q4, q5, q6, this]
  have g1 : 1 ≤ a.count := by omega
  have g2 : a.count ≤ 32 := by omega
  have g3 : 1 ≤ a.cores := by omega
  have g4 : a.cores ≤ 64 := by omega
  have g5 : 1 ≤ a.limit := by omega
  have g6 : a.limit ≤ 1048576 := by omega
  by_cases q7 : 0 ≤ a.fr <;> by_cases q8 : a.fr ≤ 1099511627776 <;> simp [q1, q2, q3, q4, q5, q6, g1, g2, g3, g4, g5, g6, q7, q8]
def somB (p : List (List Ct)) (s : Nat) (q : Nat → Bool) (i : Nat) : Bool := decide (i < p.length) && (s.testBit i && q i)
theorem and1_u (t : TypeId) (x y : Operand) (a : Nat) (ha : a < 2 ^ 32) : binPV Try.prog .and t x y (U a) (.sc (.int .u32 1)) = some (U (a % 2)) := by
  have := and_u Try.prog t x y a 1 ha (by decide)
  rw [show a &&& 1 = a % 2 from Nat.and_one_is_mod a] at this
  exact this
theorem bit_is (s i : Nat) : (decide (((s / 2 ^ i % 2 : Nat) : Int) = 1)) = s.testBit i := by
  have e3 : (((s / 2 ^ i % 2 : Nat) : Int) = 1) = (s / 2 ^ i % 2 = 1) := by apply propext; omega
  rw [Nat.testBit_eq_decide_div_mod_eq, decide_eq_decide, e3]
theorem l40 {R : Type} (C : Kallee) (ke : PV → Option R) (clo : PV) (s : Nat) (hs : s < 2 ^ 32) (q : Nat → Bool) (p : List (List Ct)) (hp : p.length ≤ 32) (hcl : ∀ (i : Nat), i < p.length → s.testBit i = true → callD C.pure clo [I i] 0 = some (Bo (q i))) :
    ∀ (d N i : Nat), i + d = p.length → d < N → d57_1i C L ke N (U s) clo (U (bits (fun j => s.testBit j && q j) i)) (I p.length) (I i) = ke (U (bits (fun j => s.testBit j && q j) p.length)) := by
  intro d
  induction d with
  | zero =>
    intro N i h hN
    obtain ⟨N, rfl⟩ : ∃ n, N = n + 1 := ⟨N - 1, by omega⟩
    have h2 : ¬ (i : Int) < p.length := by omega
    have : i = p.length := by omega
    subst this
    simp [d57_1i, d57_2, g57_2]
  | succ d ih =>
    intro N i h hN
    obtain ⟨N, rfl⟩ : ∃ n, N = n + 1 := ⟨N - 1, by omega⟩
    have h5 : (i : Int) < p.length := by omega
    have := ih N (i + 1) (by omega) (by omega)
    have hb : bits (fun j => s.testBit j && q j) i < 2 ^ 32 := Nat.lt_of_lt_of_le (bits_lt _ i) (Nat.pow_le_pow_right (by decide) (by omega))
    have hp2 : (2 : Nat) ^ i < 2 ^ 32 := Nat.pow_lt_pow_right (by decide) (by omega)
    have hsd : s / 2 ^ i < 2 ^ 32 := Nat.lt_of_le_of_lt (Nat.div_le_self _ _) hs
    have e1 : ∀ (t : TypeId) (x y : Operand), binPV Try.prog .shl t x y (.sc (.int .u32 1)) (I (i : Nat)) = some (U (2 ^ i)) := fun t x y => shl_u _ t x y i (by omega)
    simp only [d57_1i, d57_2, g57_2, d57_3, d57_4, lss_int, ob_some, cb_bool, decide_eq_true_eq, h5, if_true, shr_u _ _ _ _ s i (show i < 32 by omega), and1_u _ _ _ _ hsd, eql_int, bit_is, gcase_t]
    simp only [bits] at this
    by_cases hsb : s.testBit i = true
    · simp only [hsb, if_true, hcl i (by omega) hsb, ob_some, e1, or_u _ _ _ _ _ (2 ^ i) hb hp2, bits_or, add_int, wrap_succ (show i < 9223372036854775807 by omega), cb_bool]
      by_cases hq : q i = true
      · simp only [hsb, hq, Bool.and_true, if_true] at this ⊢
        rw [this]
      · simp only [hsb, hq, Bool.and_false, Bool.false_eq_true, if_false, Nat.add_zero, Bool.true_and] at this ⊢
        rw [this]
    · simp only [hsb, Bool.false_eq_true, if_false, cb_bool, add_int, wrap_succ (show i < 9223372036854775807 by omega), ob_some, Bool.false_and, Nat.add_zero] at this ⊢
      rw [this]
theorem bits_cong {f g : Nat → Bool} : ∀ {k : Nat}, (∀ i, i < k → f i = g i) → bits f k = bits g k
  | 0, _ => rfl
  | k + 1, h => by simp only [bits]; rw [bits_cong fun i hi => h i (by omega), h k (by omega)]
theorem c40 (hm : 2 ≤ m) (hL : 40 < L) (clo : PV) (s : Nat) (hs : s < 2 ^ 32) (q : Nat → Bool) (p : List (List Ct)) (hp : p.length ≤ 32) (hcl : ∀ k, m ≤ k + 1 → ∀ (i : Nat), i < p.length → s.testBit i = true → callD (callP Try.prog hh L k) clo [I i] 0 = some (Bo (q i))) :
    callP Try.prog hh L m 57 [prof p, U s, clo] = some (U (bits (fun j => s.testBit j && q j) p.length)) := by
  obtain ⟨n, rfl⟩ : ∃ n, m = n + 1 + 1 := ⟨m - 2, by omega⟩
  refine callP_of (by kernel_rfl) ?_
  rw [r57]
  have := l40 (L := L) (kk L (n + 1)) (fun v => d57_5 (kk L (n + 1)) L v) clo s hs q p hp (hcl (n + 1) (by omega)) p.length L 0 (by omega) (by omega)
  simp only [d57_0, g57_0, ln22, ob_some, d57_1]
  rw [show (PV.sc (Value.int IntKind.i64 0)) = I ((0 : Nat) : Int) from rfl, show (PV.sc (Value.int IntKind.u32 0)) = U (bits (fun j => s.testBit j && q j) 0) from rfl, this]
  simp [d57_5]
@[simp] theorem fa271 (a : Ask) : fieldAddrPV Try.prog 50 (.ro 7 (apv a)) 1 = some (.ro 0 (I a.cores)) := by kernel_rfl
@[simp] theorem fa272 (a : Ask) : fieldAddrPV Try.prog 50 (.ro 7 (apv a)) 2 = some (.ro 0 (I a.limit)) := by kernel_rfl
theorem add_ok (t : TypeId) (x y : Operand) (a b : Int) (h : -9223372036854775808 ≤ a + b) (h' : a + b < 9223372036854775808) : binPV Try.prog .add t x y (I a) (I b) = some (I (a + b)) := add_int' _ _ _ _ _ _ ⟨h, h'⟩
theorem c59 (hm : 7 ≤ m) (p : List (List Ct)) (hp : OkP L p) (a : Ask) (t : Int) (i : Nat) (s : List Ct) (hi : p[i]? = some s) (ht : winB t (t + a.limit) = true) (hr : rightS s = true) :
    callP Try.prog hh L m 58 [I i, .ro 0 (prof p), .ro 0 (I t), .ro 7 (apv a)] = some (Bo (decide (a.cores ≤ leastR s t (t + a.limit)))) := by
  obtain ⟨n, rfl⟩ : ∃ n, m = n + 1 + 1 := ⟨m - 2, by omega⟩
  refine callP_of (by kernel_rfl) ?_
  rw [r58]
  have hs := hp.c s (List.mem_of_getElem? hi)
  have hL := hp.L
  have hw := ht
  simp only [winB, Bool.and_eq_true, decide_eq_true_eq] at hw
  have h42 := c42 (L := L) (show 6 ≤ n + 1 by omega) true s t (t + a.limit) (by omega) (by omega)
  rw [ht, hr] at h42
  simp only [d58_0, ld22, ob_some, ia22, hi, Option.map_some, ld52, ld2, fa272, add_ok _ _ _ t a.limit (by omega) (by omega), callD_clo, List.nil_append, List.append_nil, h42, Bool.and_self, if_true, extract_tup, List.getElem?_cons_zero, List.getElem?_cons_succ, fa271, ld3, geq_int]
def lessB (s : Nat) (a : Ask) (t : Int) : List Blk → Nat
  | [] => s
  | b :: r => lessB (if hits b a t then s &&& (2 ^ 32 - 1 - b.nodes) else s) a t r
theorem lessB_lt {a : Ask} {t : Int} : ∀ {l : List Blk} {s : Nat}, s < 2 ^ 32 → lessB s a t l < 2 ^ 32
  | [], s, h => h
  | b :: r, s, h => by
    simp only [lessB]
    apply lessB_lt
    split
    · exact Nat.lt_of_le_of_lt Nat.and_le_left h
    · exact h
theorem lessB_bit {a : Ask} {t : Int} : ∀ {l : List Blk} {s : Nat}, s < 2 ^ 32 → (∀ b ∈ l, b.nodes < 2 ^ 32) → ∀ i, (lessB s a t l).testBit i = (s.testBit i && l.all fun b => !(hits b a t && b.nodes.testBit i))
  | [], s, _, _, i => by simp [lessB]
  | b :: r, s, h, hb, i => by
    have hbn := hb b (by simp)
    simp only [lessB]
    have hlt : (if hits b a t then s &&& (2 ^ 32 - 1 - b.nodes) else s) < 2 ^ 32 := by split; exact Nat.lt_of_le_of_lt Nat.and_le_left h; exact h
    rw [lessB_bit hlt (fun x hx => hb x (by simp [hx]))]
    simp only [List.all_cons]
    cases hh' : hits b a t with
    | false => simp
    | true =>
      simp only [if_true, Nat.testBit_and, Bool.true_and]
      by_cases hi : i < 32
      · have hc : (2 ^ 32 - 1 - b.nodes).testBit i = !b.nodes.testBit i := by
          rw [show 2 ^ 32 - 1 - b.nodes = 2 ^ 32 - (b.nodes + 1) by omega, Nat.testBit_two_pow_sub_succ hbn]
          simp [hi]
        rw [hc, Bool.and_assoc]
      · have : s < 2 ^ i := Nat.lt_of_lt_of_le h (Nat.pow_le_pow_right (by decide) (by omega))
        rw [Nat.testBit_lt_two_pow this]; simp
theorem l32 {R : Type} (C : Kallee) (ke : PV → PV → PV → PV → Option R) (v4 : PV) (a : Ask) (t : Int) (ht : winB t (t + a.limit) = true) (l : List Blk) (hl : l.length ≤ 1000) (hb : ∀ b ∈ l, b.nodes < 2 ^ 32) :
    ∀ (r : List Blk) (N i s : Nat), l.drop i = r → r.length < N → s < 2 ^ 32 → d28_1i C L ke N (U s) (blks l) (I l.length) (I i) v4 (apv a) (I t) = ke (U (lessB s a t r)) v4 (apv a) (I t) := by
  have hw := ht
  simp only [winB, Bool.and_eq_true, decide_eq_true_eq] at hw
  intro r
  induction r with
  | nil =>
    intro N i s h hN hs
    obtain ⟨N, rfl⟩ : ∃ n, N = n + 1 := ⟨N - 1, by omega⟩
    have := drop_nil' h
    have h2 : ¬ (i : Int) < l.length := by omega
    simp [d28_1i, d28_2, g28_2, h2, lessB]
  | cons b r ih =>
    intro N i s h hN hs
    obtain ⟨N, rfl⟩ : ∃ n, N = n + 1 := ⟨N - 1, by omega⟩
    obtain ⟨h1, h2, h3, h4⟩ := drop_cons' h
    have h5 : (i : Int) < l.length := by omega
    simp only [List.length_cons] at hN
    simp only [d28_1i, d28_2, g28_2, d28_3, d28_4, lss_int, ob_some, cb_bool, decide_eq_true_eq, h5, if_true, ia25, h2, Option.map_some, ld46, putB, at40, at41, at42, at72, add_ok _ _ _ t a.limit (by omega) (by omega), gcase_t, andNot_u _ _ _ _ s b.nodes hs (hb b h4), add_int, wrap_succ (show i < 9223372036854775807 by omega), lessB, hits]
    have hlt : s &&& (2 ^ 32 - 1 - b.nodes) < 2 ^ 32 := Nat.lt_of_le_of_lt Nat.and_le_left hs
    by_cases q1 : b.fr < t + a.limit
    · by_cases q2 : t < b.to
      · simp only [q1, q2, decide_true, if_true, Bool.and_self]
        exact ih N (i + 1) _ h3 (by omega) hlt
      · simp only [q1, q2, decide_true, decide_false, if_true, Bool.and_false, Bool.false_eq_true, if_false]
        exact ih N (i + 1) _ h3 (by omega) hs
    · simp only [q1, decide_false, Bool.false_eq_true, if_false, Bool.false_and, cb_bool]
      exact ih N (i + 1) _ h3 (by omega) hs
theorem callD1u (cp : FuncId → List PV → Option PV) (g : FuncId) (a b xs : List PV) (n : Nat) (h : cp g (a ++ xs ++ b) = some (U n)) : callD cp (.clo g a b) xs 1 = some (U n) := by
  simp only [callD, h]; rfl
theorem rightP_in {p : List (List Ct)} (h : rightP p = true) : 1 ≤ p.length ∧ p.length ≤ 32 ∧ ∀ s ∈ p, rightS s = true := by
  simp only [rightP, Bool.and_eq_true, decide_eq_true_eq, List.all_eq_true] at h
  exact ⟨h.1.1, h.1.2, h.2⟩
theorem c32 (hm : 10 ≤ m) (p : List (List Ct)) (hp : OkP L p) (hr : rightP p = true) (a : Ask) (ha : OkQ a) (t : Int) (ht : winB t (t + a.limit) = true) :
    callP Try.prog hh L m 28 [prof p, apv a, I t] = some (U (bits (opn p a t) 32)) := by
  obtain ⟨n, rfl⟩ : ∃ n, m = n + 1 + 1 := ⟨m - 2, by omega⟩
  refine callP_of (by kernel_rfl) ?_
  rw [r28]
  obtain ⟨q1, q2, q3⟩ := rightP_in hr
  have hL := hp.L
  have hb := ha.b
  have := l32 (L := L) (kk L (n + 1)) (fun v0 v1 v2 v3 => d28_5 (kk L (n + 1)) L v0 v1 v2 v3) (prof p) a t ht a.blocks (by omega) ha.bn a.blocks L 0 a.nodes rfl (by omega) ha.n
  have hlt := lessB_lt (a := a) (t := t) (l := a.blocks) ha.n
  have h40 := c40 (L := L) (m := n + 1) (by omega) (by omega) (.clo 58 [] [.ro 0 (prof p), .ro 0 (I t), .ro 7 (apv a)]) (lessB a.nodes a t a.blocks) hlt (fun i => match p[i]? with | some s => decide (a.cores ≤ leastR s t (t + a.limit)) | none => false) p q2 (fun k hk i hi _ => by
    have hg : p[i]? = some p[i] := List.getElem?_eq_getElem hi
    rw [callD_clo]
    simp only [hg, List.nil_append, List.cons_append]
    exact c59 (by omega) p hp a t i p[i] hg ht (q3 _ (List.getElem_mem hi)))
  simp only [d28_0, g28_0, d28_1, hl0p, hl7a, hl0I, ck_true, at74, at75, ob_some, ln25]
  rw [show (PV.sc (Value.int IntKind.i64 0)) = I ((0 : Nat) : Int) from rfl, this]
  simp only [d28_5]
  rw [callD1u _ _ _ _ _ _ (by simpa using h40)]
  simp only [ob_some, Option.some.injEq, PV.sc.injEq, Value.int.injEq, true_and, Int.natCast_inj]
  apply Nat.eq_of_testBit_eq
  intro i
  rw [bits_testBit, bits_testBit, lessB_bit ha.n ha.bn]
  unfold opn
  by_cases hi : i < p.length
  · have hg : p[i]? = some p[i] := List.getElem?_eq_getElem hi
    have hi2 : i < 32 := by omega
    simp only [hi, hi2, hg, decide_true, Bool.true_and]
    rw [Bool.and_right_comm]
  · have hg : p[i]? = none := List.getElem?_eq_none (by omega)
    simp [hi, hg]
def cutsN (p : List (List Ct)) : Nat := (p.map List.length).sum
def bigB (p : List (List Ct)) : Bool := decide (3000 < cutsN p) || decide (40 < p.length)
end
theorem zeroed_len {xs : List PV} {lo n : Nat} {z : PV} (h : lo + n ≤ xs.length) : (zeroed xs lo n z).length = xs.length := by
  simp [zeroed]; omega
theorem zeroed_take {xs : List PV} {lo n : Nat} {z : PV} (h : lo + n ≤ xs.length) : (zeroed xs lo n z).take lo = xs.take lo := by
  unfold zeroed
  rw [List.take_append_of_le_length (by simp; omega), List.take_take, Nat.min_self]
section
variable {R : Type}
theorem oo_s (d : List OV) (f : List OV → Option R) : oo (some d) f = f d := nonrfl rfl
theorem oa_s (lay : Nat) (xs : List PV) (r : List OV) (f : List PV → List OV → Option R) : oa lay (.a lay xs :: r) f = f xs r := by simp [oa, ckB]
theorem onil_s (x : Option R) : onil [] x = x := nonrfl rfl
end
theorem cutsN_mem : ∀ {p : List (List Ct)} {s : List Ct}, s ∈ p → s.length ≤ cutsN p
  | x :: r, s, h => by
    have e : cutsN (x :: r) = x.length + cutsN r := by simp [cutsN]
    rw [e]
    rcases List.mem_cons.1 h with rfl | h
    · omega
    · have := cutsN_mem h; omega
def freeB (p : List (List Ct)) (s : Nat) (fr to c : Int) (i : Nat) : Bool := match p[i]? with | some x => s.testBit i && decide (c ≤ leastR x fr to) | none => false
def freePV (p : List (List Ct)) (s : Nat) (fr to c : Int) : PV := if (rightP p && winB fr to) = true then .tup [U (bits (freeB p s fr to c) p.length), I 0] else .tup [U 0, I 2]
theorem bs52 (c : Ct) : buildSliceAV Try.prog 64 1 [(0, cpv c)] = some (.list 3 true [cpv c]) := by kernel_rfl
theorem bs22 (s : List Ct) : buildSliceAV Try.prog 36 1 [(0, cuts true s)] = some (.list 0 true [cuts true s]) := by kernel_rfl
theorem bs25 (b : Blk) : buildSliceAV Try.prog 48 1 [(0, bpv b)] = some (.list 4 true [bpv b]) := by kernel_rfl
theorem app52 (l : List Ct) (c : Ct) (h : l.length ≤ 1000000) : appendTo Try.prog 64 64 3 (l.map cpv) (.list 3 true [cpv c]) = some ((l ++ [c]).map cpv) := by
  rw [sl52.appTo sl52 .list (by simp; omega)]; simp
theorem app22 (l : List (List Ct)) (c : List Ct) (h : l.length ≤ 1000000) : appendTo Try.prog 36 36 0 (l.map (cuts true)) (.list 0 true [cuts true c]) = some ((l ++ [c]).map (cuts true)) := by
  rw [sl22.appTo sl22 .list (by simp; omega)]; simp
theorem app25 (l : List Blk) (c : Blk) (h : l.length ≤ 1000000) : appendTo Try.prog 48 48 4 (l.map bpv) (.list 4 true [bpv c]) = some ((l ++ [c]).map bpv) := by
  rw [sl25.appTo sl25 .list (by simp; omega)]; simp
theorem u9 : Try.prog.underlying 9 = some .string := by kernel_rfl
def tab : ByteArray := ⟨#[0, 1, 1, 2, 1, 2, 2, 3, 1, 2, 2, 3, 2, 3, 3, 4, 1, 2, 2, 3, 2, 3, 3, 4, 2, 3, 3, 4, 3, 4, 4, 5, 1, 2, 2, 3, 2, 3, 3, 4, 2, 3, 3, 4, 3, 4, 4, 5, 2, 3, 3, 4, 3, 4, 4, 5, 3, 4, 4, 5, 4, 5, 5, 6, 1, 2, 2, 3, 2, 3, 3, 4, 2, 3, 3, 4, 3, 4, 4, 5, 2, 3, 3, 4, 3, 4, 4, 5, 3, 4, 4, 5, 4, 5, 5, 6, 2, 3, 3, 4, 3, 4, 4, 5, 3, 4, 4, 5, 4, 5, 5, 6, 3, 4, 4, 5, 4, 5, 5, 6, 4, 5, 5, 6, 5, 6, 6, 7, 1, 2, 2, 3, 2, 3, 3, 4, 2, 3, 3, 4, 3, 4, 4, 5, 2, 3, 3, 4, 3, 4, 4, 5, 3, 4, 4, 5, 4, 5, 5, 6, 2, 3, 3, 4, 3, 4, 4, 5, 3, 4, 4, 5, 4, 5, 5, 6, 3, 4, 4, 5, 4, 5, 5, 6, 4, 5, 5, 6, 5, 6, 6, 7, 2, 3, 3, 4, 3, 4, 4, 5, 3, 4, 4, 5, 4, 5, 5, 6, 3, 4, 4, 5, 4, 5, 5, 6, 4, 5, 5, 6, 5, 6, 6, 7, 3, 4, 4, 5, 4, 5, 5, 6, 4, 5, 5, 6, 5, 6, 6, 7, 4, 5, 5, 6, 5, 6, 6, 7, 5, 6, 6, 7, 6, 7, 7, 8]⟩
def popN (v : Nat) : Nat := (List.range 8).countP v.testBit
theorem tab_size : tab.size = 256 := by decide +kernel
theorem tab_get : ∀ v : Fin 256, (tab.data[v.val]?).map (·.toNat) = some (popN v.val) := by decide +kernel
theorem index_tab (v : Nat) (h : v < 256) : indexPV Try.prog 9 (.sc (.string tab)) (U v) = some (.sc (.int .u8 (popN v : Nat))) := by
  have hs : v < tab.size := by rw [tab_size]; exact h
  have hv := tab_get ⟨v, h⟩
  have hb : tab[(v : Int).toNat]? = some (tab.data[v]'hs) := by
    show tab[v]? = _
    rw [getElem?_pos tab v hs]; rfl
  have hd : tab.data[v]? = some (tab.data[v]'hs) := Array.getElem?_eq_getElem hs
  simp only [hd, Option.map_some, Option.some.injEq] at hv
  have hu : ∀ (α : Type) (k : TypeDesc → Sem α), pureRun Try.prog (underlying 9 >>= k) = pureRun Try.prog (k .string) := by
    intro α k
    have : underlying 9 >>= k = Sem.program fun P => (match P.underlying 9 with | some d => pure d | none => stuck "no such type") >>= k := rfl
    rw [this, pureRun, u9]; rfl
  have : pureRun Try.prog (Instr.index 9 (.string tab) (.int .u32 v)) = some (.int .u8 (tab.data[v]'hs).toNat) := by
    unfold Instr.index
    show pureRun Try.prog (underlying 9 >>= fun d => _) = _
    rw [hu]
    simp only [Int.natCast_nonneg, if_true, hb]
    rfl
  simp only [indexPV, this, Option.map_some, hv]
theorem popN_le (v : Nat) : popN v ≤ 8 := by
  have := List.countP_le_length (p := v.testBit) (l := List.range 8)
  simpa [popN] using this
theorem pop_byte (a q : Nat) : (List.range 8).countP (fun j => a.testBit (8 * q + j)) = popN (a / 2 ^ (8 * q) % 256) := by
  unfold popN
  apply List.countP_congr
  intro j hj
  simp only [List.mem_range] at hj
  rw [show 256 = 2 ^ 8 from rfl, Nat.testBit_mod_two_pow, Nat.testBit_div_two_pow, Nat.add_comm j]
  simp [hj]
theorem range32 : List.range 32 = List.range 8 ++ (List.range 8).map (8 + ·) ++ (List.range 8).map (16 + ·) ++ (List.range 8).map (24 + ·) := by decide
theorem pop_all (a : Nat) (h : a < 2 ^ 32) : (ons a.testBit 32).length = popN (a / 2 ^ 24) + popN (a / 2 ^ 16 % 256) + popN (a / 2 ^ 8 % 256) + popN (a % 256) := by
  have h24 : a / 2 ^ 24 = a / 2 ^ 24 % 256 := by omega
  have e : (ons a.testBit 32).length = (List.range 32).countP a.testBit := by rw [ons, List.countP_eq_length_filter]
  have p0 : (List.range 8).countP a.testBit = popN (a % 256) := by have := pop_byte a 0; simpa using this
  have p1 := pop_byte a 1
  have p2 := pop_byte a 2
  have p3 := pop_byte a 3
  simp only [Nat.mul_one, show 8 * 2 = 16 from rfl, show 8 * 3 = 24 from rfl] at p1 p2 p3
  rw [← h24] at p3
  rw [e, range32]
  simp only [List.countP_append, List.countP_map, Function.comp_def]
  rw [p0, p1, p2, p3]
  omega
noncomputable def e43 (T : ByteArray) (v0 : PV) : Option PV := (ob (binPV Try.prog .shr 41 (.tmp 3) (.const (.int Go.IntKind.u64 24)) v0 (.sc (.int Go.IntKind.u64 24))) fun v102 => (ob (indexPV Try.prog 9 (.sc (.string T)) v102) fun v103 => (ob (binPV Try.prog .shr 41 (.tmp 6) (.const (.int Go.IntKind.u64 16)) v0 (.sc (.int Go.IntKind.u64 16))) fun v104 => (ob (binPV Try.prog .and 41 (.tmp 7) (.const (.int Go.IntKind.u32 255)) v104 (.sc (.int Go.IntKind.u32 255))) fun v105 => (ob (indexPV Try.prog 9 (.sc (.string T)) v105) fun v106 => (ob (binPV Try.prog .add 5 (.tmp 5) (.tmp 9) v103 v106) fun v107 => (ob (binPV Try.prog .shr 41 (.tmp 11) (.const (.int Go.IntKind.u64 8)) v0 (.sc (.int Go.IntKind.u64 8))) fun v108 => (ob (binPV Try.prog .and 41 (.tmp 12) (.const (.int Go.IntKind.u32 255)) v108 (.sc (.int Go.IntKind.u32 255))) fun v109 => (ob (indexPV Try.prog 9 (.sc (.string T)) v109) fun v110 => (ob (binPV Try.prog .add 5 (.tmp 10) (.tmp 14) v107 v110) fun v111 => (ob (binPV Try.prog .and 41 (.tmp 16) (.const (.int Go.IntKind.u32 255)) v0 (.sc (.int Go.IntKind.u32 255))) fun v112 => (ob (indexPV Try.prog 9 (.sc (.string T)) v112) fun v113 => (ob (binPV Try.prog .add 5 (.tmp 15) (.tmp 18) v111 v113) fun v114 => (ob (convPV Try.prog 5 3 v114) fun v115 => (some v115)))))))))))))))
theorem d43_eq (C : Kallee) (L : Nat) (v0 : PV) : d46_0 C L v0 = e43 tab v0 := by kernel_rfl
section
variable {L m : Nat}
variable (t : TypeId) (x y : Operand)
theorem shr64 (a i : Nat) (h : i < 32) : binPV Try.prog .shr t x y (U a) (.sc (.int .u64 i)) = some (U (a / 2 ^ i)) := by
  have h1 : pureRun Try.prog (Op.shift .shr .u32 (a : Int) .u64 (i : Int)) = some (.int .u32 ((a : Int).fdiv (2 ^ (min (i : Int).toNat 32)))) := by
    have : ¬ (i : Int) < 0 := by omega
    simp only [Op.shift, this, if_false]; rfl
  have h3 : (a : Int).fdiv (2 ^ (min (i : Int).toNat 32)) = ((a / 2 ^ i : Nat) : Int) := by
    have : min (i : Int).toNat 32 = i := by omega
    rw [this, Int.fdiv_eq_ediv_of_nonneg _ (by exact Int.pow_nonneg (by decide))]
    simp
  rw [h3] at h1
  simp [binPV, PV.plain?, eqGuard, binOp]
  rfl
theorem and255 (a : Nat) (h : a < 2 ^ 32) : binPV Try.prog .and t x y (U a) (.sc (.int .u32 255)) = some (U (a % 256)) := by
  have := and_u Try.prog t x y a 255 h (by decide)
  rw [show a &&& 255 = a % 256 from Nat.and_two_pow_sub_one_eq_mod a 8] at this
  exact this
theorem add8 (a b : Nat) (h : a + b < 256) : binPV Try.prog .add t x y (.sc (.int .u8 (a : Nat))) (.sc (.int .u8 (b : Nat))) = some (.sc (.int .u8 ((a + b : Nat) : Int))) := by
  rw [add_int]
  have e1 : (2 ^ IntKind.u8.bits : Int) = 256 := by rfl
  have e3 : IntKind.u8.signed = false := rfl
  have : IntKind.u8.wrap ((a : Int) + b) = ((a + b : Nat) : Int) := by
    simp only [IntKind.wrap, e1, e3, Bool.false_and]
    simp; omega
  rw [this]
theorem conv53 (n : Int) : convPV Try.prog 5 3 (.sc (.int .u8 n)) = some (I (IntKind.i64.wrap n)) := by kernel_rfl
theorem c43 (hm : 2 ≤ m) (a : Nat) (ha : a < 2 ^ 32) : callP Try.prog hh L m 46 [U a] = some (I ((ons a.testBit 32).length : Nat)) := by
  obtain ⟨n, rfl⟩ : ∃ n, m = n + 1 + 1 := ⟨m - 2, by omega⟩
  refine callP_of (by kernel_rfl) ?_
  rw [r46]
  have l1 := popN_le (a / 2 ^ 24)
  have l2 := popN_le (a / 2 ^ 16 % 256)
  have l3 := popN_le (a / 2 ^ 8 % 256)
  have l4 := popN_le (a % 256)
  have hp := pop_all a ha
  have s24 := fun x y => shr64 41 x y a 24 (by decide)
  have s16 := fun x y => shr64 41 x y a 16 (by decide)
  have s8 := fun x y => shr64 41 x y a 8 (by decide)
  simp only [Int.cast_ofNat_Int] at s24 s16 s8
  have h16 : a / 2 ^ 16 < 2 ^ 32 := by omega
  have h8 : a / 2 ^ 8 < 2 ^ 32 := by omega
  rw [d43_eq]
  simp only [e43, s24, s16, s8, ob_some, index_tab (a / 2 ^ 24) (by omega), and255 _ _ _ (a / 2 ^ 16) h16, index_tab (a / 2 ^ 16 % 256) (by omega), add8 _ _ _ (popN (a / 2 ^ 24)) (popN (a / 2 ^ 16 % 256)) (by omega),
    and255 _ _ _ (a / 2 ^ 8) h8, index_tab (a / 2 ^ 8 % 256) (by omega), add8 _ _ _ (popN (a / 2 ^ 24) + popN (a / 2 ^ 16 % 256)) (popN (a / 2 ^ 8 % 256)) (by omega), and255 _ _ _ a ha, index_tab (a % 256) (by omega),
    add8 _ _ _ (popN (a / 2 ^ 24) + popN (a / 2 ^ 16 % 256) + popN (a / 2 ^ 8 % 256)) (popN (a % 256)) (by omega), conv53]
  rw [wrap64 (by omega) (by omega), hp]
theorem c18 (hm : 3 ≤ m) (a : Nat) (ha : a < 2 ^ 32) : callP Try.prog hh L m 16 [U a] = some (I ((ons a.testBit 32).length : Nat)) := by
  obtain ⟨n, rfl⟩ : ∃ n, m = n + 1 + 1 := ⟨m - 2, by omega⟩
  refine callP_of (by kernel_rfl) ?_
  rw [r16]
  simp only [d16_0, callD_clo, List.nil_append, List.append_nil, c43 (L := L) (show 2 ≤ n + 1 by omega) a ha, ob_some]
end
/-! # the lowest nodes -/
theorem low_bit {s a : Nat} (hs : s < 2 ^ 32) (ha : s.testBit a = true) (hz : ∀ j, j < a → s.testBit j = false) : s &&& (2 ^ 32 - s) = 2 ^ a := by
  have hs0 : 0 < s := by
    rcases Nat.eq_zero_or_pos s with h | h
    · subst h; simp at ha
    · exact h
  have ha32 : a < 32 := by
    rcases Nat.lt_or_ge a 32 with h | h
    · exact h
    · rw [Nat.testBit_lt_two_pow (Nat.lt_of_lt_of_le hs (Nat.pow_le_pow_right (by decide) h))] at ha; cases ha
  have hmod : s % 2 ^ a = 0 := by
    apply Nat.eq_of_testBit_eq
    intro i
    rw [Nat.testBit_mod_two_pow, Nat.zero_testBit]
    by_cases hi : i < a
    · simp [hz i hi]
    · simp [hi]
  have hq : s = 2 ^ a * (s / 2 ^ a) := by have := Nat.div_add_mod s (2 ^ a); omega
  have hodd : (s / 2 ^ a) % 2 = 1 := by
    rw [Nat.testBit_eq_decide_div_mod_eq] at ha
    simpa using ha
  obtain ⟨q, hqq⟩ : ∃ q, s / 2 ^ a = 2 * q + 1 := ⟨s / 2 ^ a / 2, by omega⟩
  have hpa : 0 < 2 ^ a := Nat.two_pow_pos a
  have h1 : s - 1 = 2 ^ a * (2 * q) + (2 ^ a - 1) := by
    rw [hq, hqq, Nat.mul_add]; omega
  have h2 : 2 ^ 32 - s = 2 ^ 32 - (s - 1 + 1) := by omega
  apply Nat.eq_of_testBit_eq
  intro i
  rw [Nat.testBit_and, h2, Nat.testBit_two_pow_sub_succ (by omega), h1, Nat.testBit_two_pow_mul_add _ (by omega), Nat.testBit_two_pow]
  by_cases hi : i < a
  · simp only [if_pos hi, Nat.testBit_two_pow_sub_one, hi, decide_true, Bool.not_true, Bool.and_false]
    simp; omega
  · simp only [if_neg hi]
    by_cases hia : a = i
    · subst hia
      have : (2 * q).testBit (a - a) = false := by rw [Nat.sub_self]; simp
      simp [ha, ha32]
    · have hgt : a < i := by omega
      obtain ⟨d, rfl⟩ : ∃ d, i = a + (d + 1) := ⟨i - a - 1, by omega⟩
      have e1 : s.testBit (a + (d + 1)) = q.testBit d := by
        rw [Nat.add_comm a (d + 1), ← Nat.testBit_div_two_pow, hqq, Nat.testBit_succ]
        congr 1; omega
      have e2 : (2 * q).testBit (a + (d + 1) - a) = q.testBit d := by
        rw [show a + (d + 1) - a = d + 1 by omega, Nat.testBit_succ]
        congr 1; omega
      rw [e1, e2]
      have : ¬ a = a + (d + 1) := by omega
      cases q.testBit d <;> simp [this]
theorem ons_mem {p : Nat → Bool} {k i : Nat} : i ∈ ons p k ↔ i < k ∧ p i = true := by simp [ons]
theorem ons_pair (p : Nat → Bool) (k : Nat) : (ons p k).Pairwise (· < ·) := List.pairwise_lt_range.filter p
theorem ons_cong {p q : Nat → Bool} {k : Nat} (h : ∀ i, i < k → p i = q i) : ons p k = ons q k := by
  unfold ons
  apply List.filter_congr
  intro i hi
  exact h i (by simpa using hi)
theorem ons_cons {p : Nat → Bool} {k a : Nat} {r : List Nat} (h : ons p k = a :: r) : p a = true ∧ a < k ∧ (∀ j, j < a → p j = false) ∧ ons (fun i => p i && !decide (i = a)) k = r := by
  have hp := ons_pair p k
  rw [h] at hp
  obtain ⟨h1, h2⟩ := List.pairwise_cons.1 hp
  have ha : a ∈ ons p k := by rw [h]; simp
  obtain ⟨h3, h4⟩ := ons_mem.1 ha
  refine ⟨h4, h3, fun j hj => ?_, ?_⟩
  · cases hpj : p j with
    | false => rfl
    | true =>
      have : j ∈ ons p k := ons_mem.2 ⟨by omega, hpj⟩
      rw [h] at this
      rcases List.mem_cons.1 this with rfl | hr
      · omega
      · have := h1 j hr; omega
  · have : ons (fun i => p i && !decide (i = a)) k = (ons p k).filter fun i => !decide (i = a) := by
      unfold ons
      rw [List.filter_filter]
      congr 1
      funext i
      rw [Bool.and_comm]
    rw [this, h, List.filter_cons]
    simp only [decide_true, Bool.not_true, Bool.false_eq_true, if_false]
    apply List.filter_eq_self.2
    intro i hi
    have := h1 i hi
    simp; omega
theorem neg_u (a : Nat) (ha : 0 < a) (ha2 : a < 2 ^ 32) : unPV Try.prog .neg (U a) = some (U (2 ^ 32 - a)) := by
  have h : unPV Try.prog .neg (U a) = some (.sc (.int .u32 (IntKind.u32.wrap (0 - (a : Int))))) := by kernel_rfl
  rw [h]
  have e1 : (2 ^ IntKind.u32.bits : Int) = 4294967296 := by rfl
  have e3 : IntKind.u32.signed = false := rfl
  have : IntKind.u32.wrap (0 - (a : Int)) = ((2 ^ 32 - a : Nat) : Int) := by
    simp only [IntKind.wrap, e1, e3, Bool.false_and]
    simp; omega
  rw [this]
section
variable {L m : Nat}
def firstN (s : Nat) (n : Nat) : Nat := sumB ((ons s.testBit 32).take n)
theorem sumB_lt : ∀ {l : List Nat} {k b : Nat}, l.Pairwise (· < ·) → (∀ x ∈ l, b ≤ x) → (∀ x ∈ l, x < k) → b ≤ k → sumB l + 2 ^ b ≤ 2 ^ k
  | [], k, b, _, _, _, h => by simpa [sumB] using Nat.pow_le_pow_right (show 0 < 2 by decide) h
  | a :: r, k, b, hp, hb, hk, h => by
    obtain ⟨h1, h2⟩ := List.pairwise_cons.1 hp
    have ha := hk a (by simp)
    have hba := hb a (by simp)
    have := sumB_lt (b := a + 1) h2 (fun x hx => h1 x hx) (fun x hx => hk x (by simp [hx])) ha
    have e : sumB (a :: r) = 2 ^ a + sumB r := by simp [sumB]
    have e2 : 2 ^ (a + 1) = 2 * 2 ^ a := by rw [Nat.pow_succ]; omega
    have e3 : 2 ^ b ≤ 2 ^ a := Nat.pow_le_pow_right (by decide) hba
    rw [e]; omega
theorem low_rest {s a : Nat} {r : List Nat} (hs : s < 2 ^ 32) (h : ons s.testBit 32 = a :: r) : s &&& (2 ^ 32 - s) = 2 ^ a ∧ ons (s &&& (2 ^ 32 - 1 - 2 ^ a)).testBit 32 = r := by
  obtain ⟨h1, h2, h3, h4⟩ := ons_cons h
  refine ⟨low_bit hs h1 h3, ?_⟩
  rw [← h4]
  apply ons_cong
  intro i hi
  have hp : (2 : Nat) ^ a < 2 ^ 32 := Nat.pow_lt_pow_right (by decide) h2
  rw [Nat.testBit_and, show 2 ^ 32 - 1 - 2 ^ a = 2 ^ 32 - (2 ^ a + 1) by omega, Nat.testBit_two_pow_sub_succ hp, Nat.testBit_two_pow]
  have : (decide (a = i)) = decide (i = a) := by rw [decide_eq_decide]; omega
  simp [hi, this]
theorem or_rise {o a : Nat} (h : o < 2 ^ a) : o ||| 2 ^ a = o + 2 ^ a := by
  have := Nat.two_pow_add_eq_or_of_lt h 1
  rw [Nat.mul_one] at this
  rw [Nat.or_comm, ← this, Nat.add_comm]
theorem l31 {R : Type} (C : Kallee) (ke : PV → Option R) (n : Nat) :
    ∀ (d N i s o : Nat) (l : List Nat), i + d = n → d < N → s < 2 ^ 32 → ons s.testBit 32 = l → d ≤ l.length → (∀ x ∈ l, o < 2 ^ x) → n ≤ 64 → d27_1i C L ke N (U s) (U o) (I n) (I i) = ke (U (o + sumB (l.take d))) := by
  intro d
  induction d with
  | zero =>
    intro N i s o l h hN hs hl hd ho hn
    obtain ⟨N, rfl⟩ : ∃ n, N = n + 1 := ⟨N - 1, by omega⟩
    have h2 : ¬ (i : Int) < n := by omega
    simp [d27_1i, d27_2, h2, sumB]
  | succ d ih =>
    intro N i s o l h hN hs hl hd ho hn
    obtain ⟨N, rfl⟩ : ∃ n, N = n + 1 := ⟨N - 1, by omega⟩
    have h5 : (i : Int) < n := by omega
    cases l with
    | nil => simp at hd
    | cons a r =>
      obtain ⟨g1, g2⟩ := low_rest hs hl
      obtain ⟨g3, g4, _, _⟩ := ons_cons hl
      have hs0 : 0 < s := by
        rcases Nat.eq_zero_or_pos s with h | h
        · subst h; simp at g3
        · exact h
      have hp : (2 : Nat) ^ a < 2 ^ 32 := Nat.pow_lt_pow_right (by decide) g4
      have hoa := ho a (by simp)
      have hpp := ons_pair s.testBit 32
      rw [hl] at hpp
      have hrise := (List.pairwise_cons.1 hpp).1
      have := ih N (i + 1) (s &&& (2 ^ 32 - 1 - 2 ^ a)) (o + 2 ^ a) r (by omega) (by omega) (Nat.lt_of_le_of_lt Nat.and_le_left hs) g2 (by simpa using hd) (fun x hx => by
        have := hrise x hx
        have h9 : (2 : Nat) ^ (a + 1) ≤ 2 ^ x := Nat.pow_le_pow_right (by decide) this
        rw [Nat.pow_succ] at h9; omega) hn
      simp only [d27_1i, d27_2, lss_int, ob_some, cb_bool, decide_eq_true_eq, h5, if_true, neg_u s hs0 hs, and_u _ _ _ _ s (2 ^ 32 - s) hs (by omega), g1, or_u _ _ _ _ o (2 ^ a) (by omega) hp, or_rise hoa, andNot_u _ _ _ _ s (2 ^ a) hs hp, add_int, wrap_succ (show i < 9223372036854775807 by omega), this]
      rw [List.take_succ_cons]
      simp only [sumB, List.map_cons, List.sum_cons]
      rw [Nat.add_assoc]
def firstPV (s : Nat) (n : Int) : PV := if 0 ≤ n ∧ n ≤ ((ons s.testBit 32).length : Nat) then .tup [U (firstN s n.toNat), Bo true] else .tup [U 0, Bo false]
theorem c31 (hm : 5 ≤ m) (hL : 100 < L) (s : Nat) (hs : s < 2 ^ 32) (n : Int) : callP Try.prog hh L m 27 [U s, I n] = some (firstPV s n) := by
  obtain ⟨k, rfl⟩ : ∃ n, m = n + 1 + 1 := ⟨m - 2, by omega⟩
  refine callP_of (by kernel_rfl) ?_
  rw [r27]
  have hlen := ons_len s.testBit 32
  simp only [d27_0, g27_0, d27_1, lss_int, ob_some, gcase_f, decide_eq_true_eq, callD_clo, List.nil_append, List.append_nil, c18 (L := L) (show 3 ≤ k + 1 by omega) s hs, gtr_int, cb_bool, firstPV]
  by_cases q1 : n < 0
  · have : ¬ (0 ≤ n ∧ n ≤ ((ons s.testBit 32).length : Nat)) := by omega
    simp [q1, this]
  by_cases q2 : ((ons s.testBit 32).length : Int) < n
  · have : ¬ (0 ≤ n ∧ n ≤ ((ons s.testBit 32).length : Nat)) := by omega
    simp [q1, q2, this]
  · have : 0 ≤ n ∧ n ≤ ((ons s.testBit 32).length : Nat) := by omega
    obtain ⟨n', rfl⟩ : ∃ k : Nat, n = k := ⟨n.toNat, by omega⟩
    have hl := l31 (L := L) (kk L (k + 1)) (fun v => d27_3 (kk L (k + 1)) L v) n' n' L 0 s 0 _ (by omega) (by omega) hs rfl (by omega) (fun x _ => Nat.two_pow_pos x) (by omega)
    simp only [q1, q2, if_false, this, and_self, if_true]
    rw [show (PV.sc (Value.int IntKind.i64 0)) = I ((0 : Nat) : Int) from rfl, show (PV.sc (Value.int IntKind.u32 0)) = U 0 from rfl, hl]
    simp [d27_3, firstN]
end
/-! # slices.Compact -/
def compT : Int → List Int → List Int
  | _, [] => []
  | p, a :: r => if a = p then compT a r else a :: compT a r
def comp : List Int → List Int
  | [] => []
  | a :: r => a :: compT a r
abbrev is (l : List Int) : List PV := l.map fun n => I n
theorem idxArr_n {n i : Nat} (h : i < n) : idxArr 0 0 n (I i) = some i := by
  simp [idxArr, intPV?]; omega
theorem idxSub_n {a n i : Nat} (h : i < n) : idxSub 0 0 a n (I i) = some (a + i) := by
  simp [idxSub, intPV?]; omega
@[simp] theorem at00 (n : Int) : PV.at_ 0 0 0 (I n) = some (I n) := nonrfl rfl
theorem get_is {l : List Int} {i : Nat} {a : Int} (h : l[i]? = some a) : ((is l)[i]?).bind (fun x => x.at_ 0 0 0) = some (I a) := by
  simp [h]
theorem put0 (v : AV) (n : Int) : putPV 0 0 0 v (I n) = some (I n) := by
  have h : (I n).hasLay 0 = true := rfl
  simp [putPV, h]
theorem set_is {l : List Int} {i : Nat} {a : Int} (h : i < l.length) : ((is l)[i]?).bind (fun y => (putPV 0 0 0 (.pv y) (I a)).map fun z => List.set (is l) i z) = some (is (l.set i a)) := by
  have h2 : l[i]? = some l[i] := List.getElem?_eq_getElem h
  simp [h2, put0, List.map_set]
theorem z58 : zOK Try.prog 2 0 = true := by kernel_rfl
theorem u58 : Try.prog.underlying 71 = some (.slice 2) := by kernel_rfl
theorem clear58 {xs : List PV} {lo n : Nat} (h : lo + n ≤ xs.length) : ∃ z, clearXs Try.prog 71 0 lo n xs = some (zeroed xs lo n z) := by
  have hz := z58
  unfold zOK at hz
  split at hz
  · rename_i z hzz
    exact ⟨z, by simp [clearXs, u58, y2, hzz, hz, h, width]⟩
  · cases hz
abbrev kr30 : Nat → Nat → List PV → List PV → Option (List OV) := fun n0 n1 x2 x3 => some [OV.a 0 (List.take n1 (List.drop n0 x2))]
section
variable {L m : Nat}
theorem f30_5 (C : Kallee) (l : List Int) (k : Nat) (x2 : List PV) (hk : k ≤ l.length) (hl : l.length ≤ 4611686018427387904) :
    d26_5 C L kr30 (I k) (is l) x2 = some [.a 0 (is (l.take k))] := by
  obtain ⟨z, hz⟩ := clear58 (xs := is l) (lo := k) (n := l.length - k) (by simp; omega)
  have h1 : subRange (is l).length (optIntPV 0 (some (I k))) (optIntPV (is l).length none) = some (k, l.length - k) := by
    simp [subRange, optIntPV, intPV?]; omega
  have h2 : subRange (zeroed (is l) k (l.length - k) z).length (optIntPV 0 none) (optIntPV (zeroed (is l) k (l.length - k) z).length (some (I k))) = some (0, k) := by
    rw [zeroed_len (by simp; omega)]
    simp [subRange, optIntPV, intPV?]; omega
  simp only [d26_5, h1, onr, hz, oxs_some, h2, List.drop_zero]
  simp only [kr30, List.drop_zero]
  rw [zeroed_take (by simp; omega), ← List.map_take]
theorem l30b (C : Kallee) (x5 : List PV) (n1 : Nat) : ∀ (r : List Int) (N v3 k : Nat) (l : List Int) (p : Int), r.length < N → l.length ≤ 4611686018427387904 → 1 ≤ v3 → n1 + v3 + r.length = l.length → l.drop (n1 + v3) = r → l[n1 + v3 - 1]? = some p → k + 1 ≤ n1 + v3 →
    d26_3i C L (fun v0 x1 x2 => d26_5 C L kr30 v0 x1 x2) N (I k) n1 (l.length - n1) (I v3) (is l) x5 = some [.a 0 (is (l.take k ++ compT p r))] := by
  intro r
  induction r with
  | nil =>
    intro N v3 k l p hN hl hv hlen hd hp hk
    obtain ⟨N, rfl⟩ : ∃ n, N = n + 1 := ⟨N - 1, by omega⟩
    simp only [List.length_nil, Nat.add_zero] at hlen
    have h2 : ¬ (v3 : Int) < ((l.length - n1 : Nat) : Int) := by omega
    simp only [d26_3i, d26_4, goI, lss_int, ob_some, cb_bool, decide_eq_true_eq, h2, if_false]
    rw [f30_5 C l k x5 (by omega) hl]
    simp [compT]
  | cons a r ih =>
    intro N v3 k l p hN hl hv hlen hd hp hk
    obtain ⟨N, rfl⟩ : ∃ n, N = n + 1 := ⟨N - 1, by omega⟩
    simp only [List.length_cons] at hlen hN
    obtain ⟨g1, g2, g3, g4⟩ := drop_cons' hd
    have h5 : (v3 : Int) < ((l.length - n1 : Nat) : Int) := by omega
    have e1 : IntKind.i64.wrap ((v3 : Int) - 1) = ((v3 - 1 : Nat) : Int) := by rw [wrap64 (by omega) (by omega)]; omega
    have e2 : n1 + (v3 - 1) = n1 + v3 - 1 := by omega
    have w1 : IntKind.i64.wrap ((v3 : Int) + 1) = ((v3 + 1 : Nat) : Int) := wrap_succ (by omega)
    have w2 : IntKind.i64.wrap ((k : Int) + 1) = ((k + 1 : Nat) : Int) := wrap_succ (by omega)
    simp only [d26_3i, d26_4, goI, lss_int, ob_some, cb_bool, decide_eq_true_eq, h5, if_true, idxSub_n (show v3 < l.length - n1 by omega), onat_some, get_is g2, sub_int0, e1, idxSub_n (show v3 - 1 < l.length - n1 by omega), e2, get_is hp, neq_int, ne_eq]
    by_cases q : a = p
    · simp only [q, not_true_eq_false, decide_false, Bool.false_eq_true, if_false, add_int, w1, ob_some]
      subst q
      rw [ih N (v3 + 1) k l a (by omega) hl (by omega) (by omega) (by rw [← Nat.add_assoc]; exact g3) (by rw [show n1 + (v3 + 1) - 1 = n1 + v3 by omega]; exact g2) (by omega)]
      simp [compT]
    · simp only [q, not_false_eq_true, decide_true, if_true, List.length_map, idxArr_n (show k < l.length by omega), onat_some, set_is (show k < l.length by omega), oxs_some, add_int, w1, w2, ob_some]
      have hlen2 : (l.set k a).length = l.length := List.length_set
      have hih := ih N (v3 + 1) (k + 1) (l.set k a) a (by omega) (by omega) (by omega) (by omega) (by
        rw [← Nat.add_assoc, List.drop_set_of_lt (by omega)]; exact g3) (by
        rw [show n1 + (v3 + 1) - 1 = n1 + v3 by omega, List.getElem?_set_ne (by omega)]; exact g2) (by omega)
      rw [hlen2] at hih
      rw [hih]
      have ht : (l.set k a).take (k + 1) = l.take k ++ [a] := by
        rw [List.take_add_one, List.take_set_of_le (Nat.le_refl k)]
        simp [show k < l.length by omega]
      rw [ht]
      simp [compT, q]
theorem compT_mem {x : Int} : ∀ {r : List Int} {p : Int}, (x = p ∨ x ∈ compT p r) ↔ (x = p ∨ x ∈ r)
  | [], p => by simp [compT]
  | a :: r, p => by
    have := compT_mem (x := x) (r := r) (p := a)
    simp only [compT]
    split
    · rename_i h; subst h
      rw [this]; simp
    · simp only [List.mem_cons]
      rw [this]
theorem l30a (C : Kallee) (x2 : List PV) : ∀ (r : List Int) (N : Nat) (A : List Int) (p : Int), (A ++ p :: r).length + r.length < N → (A ++ p :: r).length ≤ 4611686018427387904 → (A ++ p :: r).length < L →
    d26_1i C L (fun x0 x1 => d26_6 C L x0 x1) kr30 N (I ((A.length + 1 : Nat) : Int)) (is (A ++ p :: r)) x2 = some [.a 0 (is (A ++ p :: compT p r))] := by
  intro r
  induction r with
  | nil =>
    intro N A p hN hl hL
    obtain ⟨N, rfl⟩ : ∃ n, N = n + 1 := ⟨N - 1, by omega⟩
    have h2 : ¬ ((A.length + 1 : Nat) : Int) < (((A ++ [p]).length : Nat) : Int) := by simp
    simp only [d26_1i, d26_2, g26_2, goI, List.length_map, lss_int, ob_some, cb_bool, decide_eq_true_eq, h2, if_false, d26_6, compT]
  | cons a r ih =>
    intro N A p hN hl hL
    obtain ⟨N, rfl⟩ : ∃ n, N = n + 1 := ⟨N - 1, by omega⟩
    obtain ⟨l, hle⟩ : ∃ l, l = A ++ p :: a :: r := ⟨_, rfl⟩
    have hlen : l.length = A.length + 1 + (r.length + 1) := by rw [hle]; simp; omega
    rw [← hle] at hN hl hL ⊢
    simp only [List.length_cons] at hN
    have g2 : l[A.length + 1]? = some a := by rw [hle, List.getElem?_append_right (by omega)]; simp
    have g1 : l[A.length]? = some p := by rw [hle, List.getElem?_append_right (by omega)]; simp
    have h5 : ((A.length + 1 : Nat) : Int) < ((l.length : Nat) : Int) := by omega
    have e1 : IntKind.i64.wrap (((A.length + 1 : Nat) : Int) - 1) = (A.length : Int) := by rw [wrap64 (by omega) (by omega)]; omega
    have w1 : IntKind.i64.wrap (((A.length + 1 : Nat) : Int) + 1) = ((A.length + 1 + 1 : Nat) : Int) := wrap_succ (by omega)
    simp only [d26_1i, d26_2, g26_2, goI, List.length_map, lss_int, ob_some, cb_bool, decide_eq_true_eq, h5, if_true, idxArr_n (show A.length + 1 < l.length by omega), onat_some, get_is g2, sub_int0, e1, idxArr_n (show A.length < l.length by omega), get_is g1, eql_int]
    by_cases q : a = p
    · subst q
      have hs : subRange l.length (optIntPV 0 (some (I ((A.length + 1 : Nat) : Int)))) (optIntPV l.length none) = some (A.length + 1, l.length - (A.length + 1)) := by
        simp [subRange, optIntPV, intPV?]; omega
      simp only [decide_true, if_true, hs, onr, d26_3]
      have := l30b (L := L) C x2 (A.length + 1) r L 1 (A.length + 1) l a (by omega) hl (by omega) (by omega) (by rw [hle, show A.length + 1 + 1 = A.length + 2 by omega, List.drop_append]; simp) (by simpa using g2) (by omega)
      rw [show (PV.sc (Value.int IntKind.i64 1)) = I ((1 : Nat) : Int) from rfl, this]
      have ht : l.take (A.length + 1) = A ++ [a] := by
        rw [hle, show A ++ a :: a :: r = (A ++ [a]) ++ (a :: r) by simp]
        exact List.take_left' (by simp)
      rw [ht]
      simp [compT]
    · simp only [q, decide_false, Bool.false_eq_true, if_false, add_int, w1, ob_some]
      have hih := ih N (A ++ [p]) a (by simp at hlen ⊢; omega) (by rw [hle] at hl; simpa using hl) (by rw [hle] at hL; simpa using hL)
      have e : A ++ [p] ++ a :: r = l := by rw [hle]; simp
      rw [e] at hih
      simp only [List.length_append, List.length_cons, List.length_nil, Nat.zero_add] at hih
      rw [hih]
      simp [compT, q]
theorem c30 (hm : 2 ≤ m) (l : List Int) (hl : l.length ≤ 4611686018427387904) (hL : 2 * l.length + 2 < L) : callO Try.prog hh L m 26 [.a 0 (is l)] = some [.a 0 (is (comp l))] := by
  obtain ⟨n, rfl⟩ : ∃ n, m = n + 1 + 1 := ⟨m - 2, by omega⟩
  refine callO_of (sp := ⟨[1], 0, [some 0]⟩) (by kernel_rfl) (by kernel_rfl) ?_
  rw [r26]
  simp only [d26_0, g26_0, goI, List.length_map, lss_int, ob_some, cb_bool, decide_eq_true_eq]
  match l with
  | [] => simp [comp]
  | [a] => simp [comp, compT]
  | a :: b :: r =>
    have h2 : ¬ (((a :: b :: r).length : Nat) : Int) < 2 := by simp; omega
    simp only [h2, if_false, d26_1]
    have := l30a (L := L) (kk L (n + 1)) [] (b :: r) L [] a (by simp at hL ⊢; omega) (by simpa using hl) (by simp at hL ⊢; omega)
    simp only [List.length_nil, Nat.zero_add, List.nil_append] at this
    rw [show (PV.sc (Value.int IntKind.i64 1)) = I ((1 : Nat) : Int) from rfl, this]
    rfl
theorem comp_mem {x : Int} {l : List Int} : x ∈ comp l ↔ x ∈ l := by
  cases l with
  | nil => simp [comp]
  | cons a r => simp only [comp, List.mem_cons]; exact compT_mem
theorem compT_sub : ∀ {r : List Int} {p : Int}, (compT p r).Sublist r
  | [], p => by simp [compT]
  | a :: r, p => by
    simp only [compT]
    split
    · exact (compT_sub (r := r) (p := a)).cons a
    · exact (compT_sub (r := r) (p := a)).cons_cons a
theorem comp_sub {l : List Int} : (comp l).Sublist l := by
  cases l with
  | nil => simp [comp]
  | cons a r => exact compT_sub.cons_cons a
end
/-! # the earliest place: the program -/
theorem sl58 : SlTy Try.prog 71 2 0 8 := .of (by kernel_rfl) (by kernel_rfl) (by kernel_rfl) (by kernel_rfl) (by kernel_rfl) (by kernel_rfl)
theorem bs58 (n : Int) : buildSliceAV Try.prog 71 1 [(0, I n)] = some (.list 0 true [I n]) := by kernel_rfl
theorem bx58 (n : Int) : buildXs Try.prog 71 0 1 [(0, I n)] = some [I n] := by kernel_rfl
theorem app58 (l : List Int) (n : Int) (h : l.length ≤ 1000000) : appendTo Try.prog 71 71 0 (is l) (.list 0 true [I n]) = some (is (l ++ [n])) := by
  rw [sl58.appTo sl58 .list (by simp; omega)]; simp
def tn (s : Nat) : Nat → List (List Ct) → List Int
  | _, [] => []
  | i, c :: r => (if s.testBit i then c.map (·.1) else []) ++ tn s (i + 1) r
theorem tn_len (s : Nat) : ∀ (r : List (List Ct)) (i : Nat), (tn s i r).length ≤ cutsN r
  | [], i => by simp [tn]
  | c :: r, i => by
    have := tn_len s r (i + 1)
    have e : cutsN (c :: r) = c.length + cutsN r := by simp [cutsN]
    simp only [tn, List.length_append, e]
    split <;> simp <;> omega
def timesP (p : List (List Ct)) (a : Ask) : List Int := a.fr :: tn a.nodes 0 p ++ a.blocks.map (·.to)
theorem tn_mem {s : Nat} {t : Int} : ∀ {r : List (List Ct)} {k : Nat}, t ∈ tn s k r ↔ ∃ (i : Nat) (c : List Ct), r[i]? = some c ∧ s.testBit (k + i) = true ∧ ∃ x ∈ c, x.1 = t
  | [], k => by simp [tn]
  | c :: r, k => by
    simp only [tn, List.mem_append, tn_mem (r := r)]
    constructor
    · rintro (h | ⟨i, c', h1, h2, h3⟩)
      · split at h
        · rename_i hb
          simp only [List.mem_map] at h
          exact ⟨0, c, rfl, by simpa using hb, h⟩
        · simp at h
      · exact ⟨i + 1, c', by simpa using h1, by rw [show k + (i + 1) = k + 1 + i by omega]; exact h2, h3⟩
    · rintro ⟨i, c', h1, h2, h3⟩
      cases i with
      | zero =>
        simp at h1; subst h1
        left
        rw [if_pos (by simpa using h2)]
        simpa using h3
      | succ i => exact .inr ⟨i, c', by simpa using h1, by rw [show k + 1 + i = k + (i + 1) by omega]; exact h2, h3⟩
theorem times_seen (p : List (List Ct)) (a : Ask) (t : Int) : t ∈ timesP p a ↔ Seen p a t := by
  unfold timesP Seen
  simp only [List.cons_append, List.mem_cons, List.mem_append, List.mem_map, tn_mem, Nat.zero_add]
def lookP (p : List (List Ct)) (a : Ask) : List Int := comp (isort (timesP p a))
theorem look_mem {p : List (List Ct)} {a : Ask} {t : Int} : t ∈ lookP p a ↔ Seen p a t := by
  rw [lookP, comp_mem, (isort_perm _).mem_iff, times_seen]
theorem look_sorted (p : List (List Ct)) (a : Ask) : (lookP p a).Pairwise (· ≤ ·) := (isort_sorted _).sublist comp_sub
theorem ons_bits (f : Nat → Bool) : ons (bits f 32).testBit 32 = ons f 32 := ons_cong fun i hi => by rw [bits_testBit]; simp [hi]
theorem onsN_ons (f : Nat → Bool) : onsN f = (ons f 32).length := rfl
def fitP (p : List (List Ct)) (a : Ask) : Option Int := (lookP p a).find? (fits p a)
def onP (p : List (List Ct)) (a : Ask) (t : Int) : Nat := firstN (bits (opn p a t) 32) a.count.toNat
def fitPV (p : List (List Ct)) (a : Ask) : PV :=
  if (askB a && rightP p) = true then (match fitP p a with
    | some t => .tup [I t, U (onP p a t), I 0]
    | none => .tup [I 0, U 0, I 120])
  else .tup [I 0, U 0, I 2]
theorem fitP_first (p : List (List Ct)) (a : Ask) : IsFirst (fits p a) (fitP p a) := first_of (fun t h => look_mem.2 h) (by
  have := find_first (f := fits p a) (look_sorted p a)
  exact this)
section
variable {L m : Nat}
theorem askB_in {a : Ask} (h : askB a = true) : 1 ≤ a.count ∧ a.count ≤ 32 ∧ 1 ≤ a.limit ∧ a.limit ≤ 1048576 ∧ 0 ≤ a.fr ∧ a.fr ≤ 1099511627776 ∧ 1 ≤ a.cores ∧ a.cores ≤ 64 ∧ ∀ b ∈ a.blocks, winB b.fr b.to = true := by
  simp only [askB, Bool.and_eq_true, decide_eq_true_eq, List.all_eq_true] at h
  obtain ⟨⟨⟨⟨⟨⟨⟨⟨h1, h2⟩, h3⟩, h4⟩, h5⟩, h6⟩, h7⟩, h8⟩, h9⟩ := h
  exact ⟨h1, h2, h5, h6, h7, h8, h3, h4, h9⟩
theorem l11c {R : Type} (C : Kallee) (ke : PV → PV → PV → PV → PV → List PV → Option R) (v0 v1 v2 v3 v7 : PV) (s : List Ct) (hs : s.length ≤ 3000) :
    ∀ (r : List Ct) (N i : Nat) (l : List Int), s.drop i = r → r.length < N → l.length + r.length ≤ 1000000 → d9_3i C L ke N v0 v1 v2 v3 (cuts true s) (I s.length) (I i) v7 (is l) = ke v0 v1 v2 v3 v7 (is (l ++ r.map (·.1))) := by
  intro r
  induction r with
  | nil =>
    intro N i l h hN hl
    obtain ⟨N, rfl⟩ : ∃ n, N = n + 1 := ⟨N - 1, by omega⟩
    have := drop_nil' h
    have h2 : ¬ (i : Int) < s.length := by omega
    simp [d9_3i, d9_4, h2]
  | cons c r ih =>
    intro N i l h hN hl
    obtain ⟨N, rfl⟩ : ∃ n, N = n + 1 := ⟨N - 1, by omega⟩
    obtain ⟨h1, h2, h3, h4⟩ := drop_cons' h
    have h5 : (i : Int) < s.length := by omega
    simp only [List.length_cons] at hN hl
    simp only [d9_3i, d9_4, lss_int, ob_some, cb_bool, decide_eq_true_eq, h5, if_true, ia52, h2, Option.map_some, ld54, putC, at30, bs58, app58 l c.1 (by omega), oxs_some, add_int, wrap_succ (show i < 9223372036854775807 by omega)]
    rw [ih N (i + 1) (l ++ [c.1]) h3 (by omega) (by simp; omega)]
    simp
theorem l11p {R : Type} (C : Kallee) (ke : PV → PV → List PV → Option R) (a : Ask) (ha : a.nodes < 2 ^ 32) (p : List (List Ct)) (hp : OkP L p) (hp2 : p.length ≤ 32) :
    ∀ (r : List (List Ct)) (N i : Nat) (l : List Int), p.drop i = r → r.length < N → l.length + cutsN r ≤ 1000000 → d9_1i C L ke N (prof p) (prof p) (I p.length) (I i) (apv a) (is l) = ke (prof p) (apv a) (is (l ++ tn a.nodes i r)) := by
  have hL := hp.L
  intro r
  induction r with
  | nil =>
    intro N i l h hN hl
    obtain ⟨N, rfl⟩ : ∃ n, N = n + 1 := ⟨N - 1, by omega⟩
    have := drop_nil' h
    have h2 : ¬ (i : Int) < p.length := by omega
    simp [d9_1i, d9_2, g9_2, h2, tn]
  | cons c r ih =>
    intro N i l h hN hl
    obtain ⟨N, rfl⟩ : ∃ n, N = n + 1 := ⟨N - 1, by omega⟩
    obtain ⟨h1, h2, h3, h4⟩ := drop_cons' h
    have h5 : (i : Int) < p.length := by omega
    have hc := hp.c c h4
    have e : cutsN (c :: r) = c.length + cutsN r := by simp [cutsN]
    simp only [List.length_cons] at hN
    rw [e] at hl
    have hsd : a.nodes / 2 ^ i < 2 ^ 32 := Nat.lt_of_le_of_lt (Nat.div_le_self _ _) ha
    have hbit : (decide (((a.nodes / 2 ^ i % 2 : Nat) : Int) = 0)) = !a.nodes.testBit i := by
      rw [← bit_is]
      have : a.nodes / 2 ^ i % 2 < 2 := Nat.mod_lt _ (by decide)
      by_cases q : ((a.nodes / 2 ^ i % 2 : Nat) : Int) = 0
      · have : ¬ ((a.nodes / 2 ^ i % 2 : Nat) : Int) = 1 := by omega
        simp [q, this]
      · have : ((a.nodes / 2 ^ i % 2 : Nat) : Int) = 1 := by omega
        rw [this]; rfl
    simp only [d9_1i, d9_2, g9_2, lss_int, ob_some, cb_bool, decide_eq_true_eq, h5, if_true, ia22, h2, Option.map_some, ld52, at74, shr_u _ _ _ _ a.nodes i (show i < 32 by omega), and1_u _ _ _ _ hsd, eql_int, hbit, ln52, add_int, wrap_succ (show i < 9223372036854775807 by omega), tn]
    by_cases hb : a.nodes.testBit i = true
    · simp only [hb, Bool.not_true, Bool.false_eq_true, if_false, d9_3, if_true]
      rw [show (PV.sc (Value.int IntKind.i64 0)) = I ((0 : Nat) : Int) from rfl, l11c (L := L) C _ (prof p) (prof p) (I p.length) (I i) (apv a) c hc c L 0 l rfl (by omega) (by omega)]
      simp only [d9_5, add_int, wrap_succ (show i < 9223372036854775807 by omega), ob_some]
      rw [ih N (i + 1) (l ++ c.map (·.1)) h3 (by omega) (by simp; omega)]
      simp
    · simp only [hb, Bool.not_false, if_true, Bool.false_eq_true, if_false, List.nil_append]
      rw [ih N (i + 1) l h3 (by omega) (by omega)]
theorem l11b {R : Type} (C : Kallee) (ke : PV → PV → List PV → Option R) (v0 v4 : PV) (bl : List Blk) (hbl : bl.length ≤ 1000) :
    ∀ (r : List Blk) (N i : Nat) (l : List Int), bl.drop i = r → r.length < N → l.length + r.length ≤ 1000000 → d9_7i C L ke N v0 (blks bl) (I bl.length) (I i) v4 (is l) = ke v0 v4 (is (l ++ r.map (·.to))) := by
  intro r
  induction r with
  | nil =>
    intro N i l h hN hl
    obtain ⟨N, rfl⟩ : ∃ n, N = n + 1 := ⟨N - 1, by omega⟩
    have := drop_nil' h
    have h2 : ¬ (i : Int) < bl.length := by omega
    simp [d9_7i, d9_8, h2]
  | cons b r ih =>
    intro N i l h hN hl
    obtain ⟨N, rfl⟩ : ∃ n, N = n + 1 := ⟨N - 1, by omega⟩
    obtain ⟨h1, h2, h3, h4⟩ := drop_cons' h
    have h5 : (i : Int) < bl.length := by omega
    simp only [List.length_cons] at hN hl
    simp only [d9_7i, d9_8, lss_int, ob_some, cb_bool, decide_eq_true_eq, h5, if_true, ia25, h2, Option.map_some, ld46, putB, at42, bs58, app58 l b.to (by omega), oxs_some, add_int, wrap_succ (show i < 9223372036854775807 by omega)]
    rw [ih N (i + 1) (l ++ [b.to]) h3 (by omega) (by simp; omega)]
    simp
theorem l11f {R : Type} (n : Nat) (hn : 12 ≤ n) (kr : PV → PV → PV → PV → List PV → List PV → Option R) (ke : PV → List PV → List PV → Option R) (p : List (List Ct)) (hp : OkP L p) (hr : rightP p = true) (a : Ask) (ha : OkQ a) (hq : askB a = true) (x4 : List PV) (ts : List Int) (hts : ts.length ≤ 1000000) :
    ∀ (r : List Int) (N i : Nat), ts.drop i = r → r.length < N → d9_14i (kk L n) L kr ke N (prof p) (I ts.length) (I i) (apv a) x4 (is ts) = (match r.find? (fits p a) with | some t => kr (I t) (U (onP p a t)) (I 0) (apv a) x4 (is ts) | none => ke (apv a) x4 (is ts)) := by
  obtain ⟨g1, g2, g3, g4, g5, g6, _, _, _⟩ := askB_in hq
  have hL := hp.L
  intro r
  induction r with
  | nil =>
    intro N i h hN
    obtain ⟨N, rfl⟩ : ∃ n, N = n + 1 := ⟨N - 1, by omega⟩
    have := drop_nil' h
    have h2 : ¬ (i : Int) < ts.length := by omega
    simp [d9_14i, d9_15, h2]
  | cons t r ih =>
    intro N i h hN
    obtain ⟨N, rfl⟩ : ∃ n, N = n + 1 := ⟨N - 1, by omega⟩
    obtain ⟨h1, h2, h3, h4⟩ := drop_cons' h
    have h5 : (i : Int) < ts.length := by omega
    simp only [List.length_cons] at hN
    have hih := ih N (i + 1) h3 (by omega)
    have hw : IntKind.i64.wrap ((i : Int) + 1) = ((i + 1 : Nat) : Int) := wrap_succ (by omega)
    simp only [d9_14i, d9_15, lss_int, ob_some, cb_bool, decide_eq_true_eq, h5, if_true, List.length_map, idxArr_n h1, onat_some, get_is h2, at73, gtr_int, gcase_f, List.find?_cons]
    by_cases q1 : t < a.fr
    · have hf : fits p a t = false := by simp only [fits]; have : ¬ a.fr ≤ t := by omega
                                         simp [this]
      simp only [q1, decide_true, if_true, add_int, hw, ob_some, hf, hih]
    by_cases q2 : (1099511627776 : Int) < t
    · have hf : fits p a t = false := by simp only [fits]; have : ¬ t ≤ 1099511627776 := by omega
                                         simp [this]
      simp only [q1, q2, decide_true, decide_false, Bool.false_eq_true, if_false, if_true, add_int, hw, ob_some, hf, hih]
    have ht : winB t (t + a.limit) = true := by simp only [winB, Bool.and_eq_true, decide_eq_true_eq]; omega
    have hs : bits (opn p a t) 32 < 2 ^ 32 := bits_lt _ 32
    have hfe : fits p a t = decide (a.count ≤ ((ons (opn p a t) 32).length : Nat)) := by
      simp only [fits, good, onsN_ons]
      have e1 : a.fr ≤ t := by omega
      have e2 : t ≤ 1099511627776 := by omega
      simp [e1, e2]
      rfl
    simp only [q1, q2, decide_false, Bool.false_eq_true, if_false, callD_clo, List.nil_append, List.append_nil, c32 (L := L) (show 10 ≤ n by omega) p hp hr a ha t ht, ob_some, at70, c31 (L := L) (show 5 ≤ n by omega) (by omega) _ hs, firstPV, ons_bits]
    by_cases q3 : a.count ≤ ((ons (opn p a t) 32).length : Nat)
    · have q4 : 0 ≤ a.count ∧ a.count ≤ ((ons (opn p a t) 32).length : Nat) := ⟨by omega, q3⟩
      have hf : fits p a t = true := by rw [hfe]; simp [q3]
      simp only [q4, and_self, if_true, extract_tup, List.getElem?_cons_zero, List.getElem?_cons_succ, ob_some, cb_bool, hf, onP]
    · have q4 : ¬ (0 ≤ a.count ∧ a.count ≤ ((ons (opn p a t) 32).length : Nat)) := fun h => q3 h.2
      have hf : fits p a t = false := by rw [hfe]; simp [q3]
      simp only [q4, if_false, extract_tup, List.getElem?_cons_zero, List.getElem?_cons_succ, ob_some, cb_bool, Bool.false_eq_true, add_int, hw, hf, hih]
theorem cutsN_le {p : List (List Ct)} (h1 : p.length ≤ 40) (h2 : ∀ s ∈ p, s.length ≤ 3000) : cutsN p ≤ 120000 := by
  have : ∀ {q : List (List Ct)}, (∀ s ∈ q, s.length ≤ 3000) → cutsN q ≤ 3000 * q.length := by
    intro q
    induction q with
    | nil => intro _; simp [cutsN]
    | cons s r ih =>
      intro h
      have e : cutsN (s :: r) = s.length + cutsN r := by simp [cutsN]
      have := ih (fun x hx => h x (by simp [hx]))
      have := h s (by simp)
      rw [e, List.length_cons]; omega
  have := this h2
  omega
theorem c11 (hm : 14 ≤ m) (p : List (List Ct)) (hp : OkP L p) (a : Ask) (ha : OkQ a) (hL2 : 300000 < L) : callP Try.prog hh L m 9 [prof p, apv a] = some (fitPV p a) := by
  obtain ⟨n, rfl⟩ : ∃ n, m = n + 1 + 1 := ⟨m - 2, by omega⟩
  refine callP_of (by kernel_rfl) ?_
  rw [r9]
  have hL := hp.L
  have hc := cutsN_le hp.n hp.c
  have hb := ha.b
  simp only [d9_0, g9_0, d9_1, hl7a, ck_true, callD_clo, List.nil_append, List.append_nil, c28 (L := L) (show 6 ≤ n + 1 by omega) hL a ha, ob_some, not_bool, gcase_f, c20 (L := L) (show 6 ≤ n + 1 by omega) p hp, cb_bool, at73, bx58, oxs_some, ln22, fitPV]
  cases hq : askB a with
  | false => simp
  | true =>
    cases hr : rightP p with
    | false => simp
    | true =>
      obtain ⟨_, hp2, _⟩ := rightP_in hr
      simp only [Bool.not_true, Bool.false_eq_true, if_false, Bool.and_self, if_true]
      rw [show (PV.sc (Value.int IntKind.i64 0)) = I ((0 : Nat) : Int) from rfl, show [I a.fr] = is [a.fr] from rfl, l11p (L := L) (kk L (n + 1)) _ a ha.n p hp hp2 p L 0 [a.fr] rfl (by omega) (by simp; omega)]
      have ht := tn_len a.nodes p 0
      simp only [d9_6, g9_6, d9_7, at75, ob_some, ln25]
      rw [show (PV.sc (Value.int IntKind.i64 0)) = I ((0 : Nat) : Int) from rfl, l11b (L := L) (kk L (n + 1)) _ (prof p) (apv a) a.blocks (by omega) a.blocks L 0 ([a.fr] ++ tn a.nodes 0 p) rfl (by omega) (by simp; omega)]
      have e : [a.fr] ++ tn a.nodes 0 p ++ a.blocks.map (·.to) = timesP p a := by simp [timesP]
      rw [e]
      have hlen : (timesP p a).length ≤ 130000 := by simp [timesP]; omega
      have hlen2 : (isort (timesP p a)).length = (timesP p a).length := (isort_perm _).length_eq
      have hlen3 : (lookP p a).length ≤ 130000 := by have := (comp_sub (l := isort (timesP p a))).length_le; unfold lookP; omega
      have h29 : callO Try.prog hh L (n + 1) 25 [.a 0 (is (timesP p a))] = some [.a 0 (is (isort (timesP p a)))] := by
        rw [callO_prim (q := sortPO) (by kernel_rfl)]
        exact sortQ_ints _ _ (by omega)
      have h30 : callO Try.prog hh L (n + 1) 26 [.a 0 (is (isort (timesP p a)))] = some [.a 0 (is (lookP p a))] := c30 (by omega) _ (by omega) (by omega)
      simp only [d9_9, g9_9, d9_10, h29, oo_s, oa_s, onil_s, d9_11, g9_11, d9_12, h30, d9_13, g9_13, d9_14, goI, List.length_map]
      rw [show (PV.sc (Value.int IntKind.i64 0)) = I ((0 : Nat) : Int) from rfl, l11f (L := L) (n + 1) (by omega) _ _ p hp hr a ha hq _ (lookP p a) (by omega) (lookP p a) L 0 rfl (by omega), ← fitP]
      cases hfp : fitP p a with
      | none => simp [d9_16]
      | some t => simp
end

end Go.Lite.Pp

namespace Go.Lite.Pp
open Go Go.Proofs Go.Lite
set_option linter.unusedVariables false
set_option linter.unusedSimpArgs false
set_option maxRecDepth 100000
/-! # ProfileFits -/
theorem sumB_bit : ∀ (l : List Nat), l.Pairwise (· < ·) → ∀ i, (sumB l).testBit i = decide (i ∈ l) := by
  intro l
  induction hn : l.length generalizing l with
  | zero =>
    intro _ i
    have : l = [] := List.eq_nil_of_length_eq_zero hn
    subst this
    simp [sumB]
  | succ n ih =>
    intro hp i
    have hne : l ≠ [] := fun h => by subst h; simp at hn
    obtain ⟨r, a, rfl⟩ : ∃ r a, l = r ++ [a] := ⟨l.dropLast, l.getLast hne, (List.dropLast_concat_getLast hne).symm⟩
    obtain ⟨h1, _, h3⟩ := List.pairwise_append.1 hp
    have hr := ih r (by simpa using hn) h1 i
    have hlt : sumB r < 2 ^ a := by
      have := sumB_lt (l := r) (k := a) (b := 0) h1 (fun x _ => Nat.zero_le x) (fun x hx => h3 x hx a (by simp)) (Nat.zero_le a)
      omega
    have e : sumB (r ++ [a]) = sumB r ||| 2 ^ a := by rw [or_rise hlt]; simp [sumB]
    rw [e, Nat.testBit_or, hr, Nat.testBit_two_pow]
    simp only [List.mem_append, List.mem_singleton]
    by_cases q : i = a
    · subst q; simp
    · have : ¬ a = i := fun h => q h.symm
      simp [q, this]
theorem filter_take {l : List Nat} (hp : l.Pairwise (· < ·)) (n : Nat) : l.filter (fun i => decide (i ∈ l.take n)) = l.take n := by
  have e : l = l.take n ++ l.drop n := (List.take_append_drop n l).symm
  have hp2 := hp
  rw [e] at hp2
  obtain ⟨_, _, h3⟩ := List.pairwise_append.1 hp2
  have h1 : (l.take n).filter (fun i => decide (i ∈ l.take n)) = l.take n := List.filter_eq_self.2 fun x hx => by simp [hx]
  have h2 : (l.drop n).filter (fun i => decide (i ∈ l.take n)) = [] := List.filter_eq_nil_iff.2 fun x hx => by
    simp only [decide_eq_true_eq]
    intro hx'
    have := h3 x hx' x hx
    omega
  have : (l.take n ++ l.drop n).filter (fun i => decide (i ∈ l.take n)) = l.take n := by rw [List.filter_append, h1, h2, List.append_nil]
  rw [List.take_append_drop] at this
  exact this
section
variable {p : List (List Ct)} {a : Ask} {t : Int}
theorem onP_bit (i : Nat) : (onP p a t).testBit i = true → i < 32 ∧ opn p a t i = true := by
  intro h
  unfold onP firstN at h
  rw [ons_bits, sumB_bit _ ((ons_pair _ _).sublist (List.take_sublist _ _))] at h
  have := (List.take_sublist _ _).subset (of_decide_eq_true h)
  exact ons_mem.1 this
theorem opn_in {i : Nat} (h : opn p a t i = true) : ∃ s, p[i]? = some s ∧ a.nodes.testBit i = true ∧ a.cores ≤ leastR s t (t + a.limit) ∧ ∀ b ∈ a.blocks, hits b a t = true → b.nodes.testBit i = false := by
  unfold opn at h
  cases hp : p[i]? with
  | none => rw [hp] at h; cases h
  | some s =>
    rw [hp] at h
    simp only [Bool.and_eq_true, decide_eq_true_eq, List.all_eq_true, Bool.not_eq_true'] at h
    exact ⟨s, rfl, h.1.1, h.1.2, fun b hb hh => by
      have := h.2 b hb
      rw [hh] at this
      simpa using this⟩
theorem onP_lt (hp : p.length ≤ 32) : onP p a t < 2 ^ p.length := by
  unfold onP firstN
  rw [ons_bits]
  have := sumB_lt (l := (ons (opn p a t) 32).take a.count.toNat) (k := p.length) (b := 0) ((ons_pair _ _).sublist (List.take_sublist _ _)) (fun x _ => Nat.zero_le x) (fun x hx => by
    have := (List.take_sublist _ _).subset hx
    obtain ⟨_, h2⟩ := ons_mem.1 this
    obtain ⟨s, h3, _⟩ := opn_in h2
    rcases Nat.lt_or_ge x p.length with h' | h'
    · exact h'
    · rw [List.getElem?_eq_none h'] at h3; cases h3) (Nat.zero_le _)
  omega
theorem onP_count (hc : 0 ≤ a.count) (hg : a.count ≤ ((ons (opn p a t) 32).length : Nat)) : (((ons (onP p a t).testBit 32).length : Nat) : Int) = a.count := by
  have e : ons (onP p a t).testBit 32 = (ons (opn p a t) 32).take a.count.toNat := by
    have h1 : ons (onP p a t).testBit 32 = ons (fun i => opn p a t i && decide (i ∈ (ons (opn p a t) 32).take a.count.toNat)) 32 := ons_cong fun i hi => by
      unfold onP firstN
      rw [ons_bits, sumB_bit _ ((ons_pair _ _).sublist (List.take_sublist _ _))]
      cases ho : opn p a t i with
      | true => simp
      | false =>
        simp only [Bool.false_and, decide_eq_false_iff_not]
        intro hx
        have := (ons_mem.1 ((List.take_sublist _ _).subset hx)).2
        rw [ho] at this; cases this
    rw [h1]
    have h2 : ons (fun i => opn p a t i && decide (i ∈ (ons (opn p a t) 32).take a.count.toNat)) 32 = (ons (opn p a t) 32).filter fun i => decide (i ∈ (ons (opn p a t) 32).take a.count.toNat) := by
      unfold ons
      rw [List.filter_filter]
      congr 1
      funext i
      rw [Bool.and_comm]
    rw [h2, filter_take (ons_pair _ _)]
  rw [e, List.length_take]
  omega
end
section
variable {L m : Nat}
def NoHit (a : Ask) (t : Int) (on : Nat) : Prop := ∀ b ∈ a.blocks, hits b a t = true → b.nodes &&& on = 0
end

end Go.Lite.Pp
