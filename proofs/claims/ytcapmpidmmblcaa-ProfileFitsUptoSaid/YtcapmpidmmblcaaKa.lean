import Derived.Test.YtcapmpidmmblcaaBa
set_option linter.unusedVariables false
set_option linter.unusedSimpArgs false

namespace Go.Lite
set_option linter.unusedVariables false
set_option linter.unusedSimpArgs false

/-! # step functions: plain -/
abbrev Ct := Int × Int
def okC (c : Ct) : Bool := decide (c.1 ≤ 2199023255552) && decide (0 ≤ c.2) && decide (c.2 ≤ 1073741824)
def tailOK : Ct → List Ct → Bool
  | _, [] => true
  | p, c :: r => okC c && (decide (p.1 < c.1) && !decide (p.2 = c.2)) && tailOK c r
def rightS : List Ct → Bool
  | [] => false
  | c :: r => decide ((c :: r).length ≤ 4096) && decide (c.1 = 0) && okC c && tailOK c r
def val (s : List Ct) (t : Int) : Int := s.foldl (fun v c => if c.1 ≤ t then c.2 else v) 0
def leastR (s : List Ct) (fr to : Int) : Int := s.foldl (fun v c => if fr < c.1 ∧ c.1 < to ∧ c.2 < v then c.2 else v) (val s fr)
/-- how many cuts hold at t -/
def up (s : List Ct) (t : Int) : Nat := (s.takeWhile (fun c => decide (c.1 ≤ t))).length
def walkMin : Int → Int → List Ct → Int
  | v, _, [] => v
  | v, to, c :: r => if to ≤ c.1 then v else walkMin (min v c.2) to r
def leastP (s : List Ct) (fr to : Int) : Int := match s.drop (up s fr - 1) with
  | [] => 0
  | c :: r => walkMin c.2 to (c :: r)

def Rising (c : Ct) (r : List Ct) : Prop := (c :: r).Pairwise (fun a b => a.1 < b.1)
theorem tailOK_rising : ∀ {c : Ct} {r : List Ct}, tailOK c r = true → Rising c r
  | c, [], _ => by simp [Rising]
  | c, d :: r, h => by
    simp only [tailOK, Bool.and_eq_true, decide_eq_true_eq] at h
    obtain ⟨⟨_, h1, _⟩, h2⟩ := h
    have := tailOK_rising h2
    unfold Rising at this ⊢
    refine List.pairwise_cons.2 ⟨fun x hx => ?_, this⟩
    rcases List.mem_cons.1 hx with rfl | hx
    · exact h1
    · have := (List.pairwise_cons.1 this).1 x hx; omega
theorem tailOK_all : ∀ {c : Ct} {r : List Ct}, tailOK c r = true → ∀ d ∈ r, okC d = true
  | c, [], _, d, hd => by simp at hd
  | c, e :: r, h, d, hd => by
    simp only [tailOK, Bool.and_eq_true] at h
    rcases List.mem_cons.1 hd with rfl | hd
    · exact h.1.1
    · exact tailOK_all h.2 d hd
theorem rightS_cons {s : List Ct} (h : rightS s = true) : ∃ c r, s = c :: r ∧ c.1 = 0 ∧ Rising c r ∧ (∀ d ∈ s, okC d = true) ∧ s.length ≤ 4096 := by
  cases s with
  | nil => cases h
  | cons c r =>
    simp only [rightS, Bool.and_eq_true, decide_eq_true_eq] at h
    obtain ⟨⟨⟨h1, h2⟩, h3⟩, h4⟩ := h
    exact ⟨c, r, rfl, h2, tailOK_rising h4, fun d hd => by
      rcases List.mem_cons.1 hd with rfl | hd
      · exact h3
      · exact tailOK_all h4 d hd, h1⟩

/-! ## the least value of a window -/
def lst (c : Ct) (r : List Ct) (fr to : Int) : Int := match r with
  | [] => c.2
  | d :: r => if d.1 ≤ fr then lst d r fr to else walkMin c.2 to (d :: r)
theorem Rising.tail {c d : Ct} {r : List Ct} (h : Rising c (d :: r)) : Rising d r := by
  unfold Rising at h ⊢; exact (List.pairwise_cons.1 h).2
theorem Rising.lt {c d : Ct} {r : List Ct} (h : Rising c r) (hd : d ∈ r) : c.1 < d.1 := (List.pairwise_cons.1 h).1 d hd
theorem up_cons {c : Ct} {r : List Ct} {t : Int} (h : c.1 ≤ t) : up (c :: r) t = up r t + 1 := by simp [up, h]
theorem up_none {c : Ct} {r : List Ct} {t : Int} (h : ¬ c.1 ≤ t) : up (c :: r) t = 0 := by simp [up, h]
theorem leastP_lst : ∀ {c : Ct} {r : List Ct} {fr to : Int}, c.1 ≤ fr → fr < to → leastP (c :: r) fr to = lst c r fr to
  | c, [], fr, to, h, h' => by
    have : ¬ to ≤ c.1 := by omega
    simp [leastP, up, h, lst, walkMin, this]
  | c, d :: r, fr, to, h, h' => by
    have hn : ¬ to ≤ c.1 := by omega
    by_cases hd : d.1 ≤ fr
    · have := leastP_lst (r := r) hd h'
      simp only [lst, if_pos hd]
      rw [← this]
      simp only [leastP, up_cons h, up_cons hd, Nat.add_sub_cancel, List.drop_succ_cons]
    · simp only [lst, if_neg hd]
      simp only [leastP, up_cons h, up_none hd, Nat.zero_add, Nat.sub_self, List.drop_zero]
      rw [walkMin, if_neg hn, Int.min_self]
theorem foldl_val_gt {t : Int} : ∀ {r : List Ct} {v : Int}, (∀ d ∈ r, t < d.1) → r.foldl (fun v c => if c.1 ≤ t then c.2 else v) v = v
  | [], v, _ => rfl
  | d :: r, v, h => by
    have : ¬ d.1 ≤ t := by have := h d (by simp); omega
    simp only [List.foldl_cons, if_neg this]
    exact foldl_val_gt fun x hx => h x (by simp [hx])
theorem fold_walk {fr to : Int} : ∀ {r : List Ct} {v : Int}, (∀ d ∈ r, fr < d.1) → r.Pairwise (fun a b => a.1 < b.1) → r.foldl (fun v c => if fr < c.1 ∧ c.1 < to ∧ c.2 < v then c.2 else v) v = walkMin v to r
  | [], v, _, _ => rfl
  | d :: r, v, h, hp => by
    have h1 := h d (by simp)
    obtain ⟨h2, h3⟩ := List.pairwise_cons.1 hp
    simp only [List.foldl_cons, walkMin]
    by_cases hd : to ≤ d.1
    · rw [if_neg (by omega), if_pos hd]
      have : ∀ {r : List Ct} {v : Int}, (∀ e ∈ r, to ≤ e.1) → r.foldl (fun v c => if fr < c.1 ∧ c.1 < to ∧ c.2 < v then c.2 else v) v = v := by
        intro r
        induction r with
        | nil => intro v _; rfl
        | cons e r ih =>
          intro v he
          have := he e (by simp)
          simp only [List.foldl_cons]
          rw [if_neg (by omega)]
          exact ih fun x hx => he x (by simp [hx])
      exact this fun e he => by have := h2 e he; omega
    · rw [if_neg hd, fold_walk (fun x hx => h x (by simp [hx])) h3]
      congr 1
      split <;> omega
theorem leastR_lst : ∀ {c : Ct} {r : List Ct} {fr to : Int}, Rising c r → c.1 ≤ fr → fr < to → leastR (c :: r) fr to = lst c r fr to
  | c, [], fr, to, _, h, h' => by
    have : ¬ (fr < c.1) := by omega
    simp [leastR, val, lst, h, this]
  | c, d :: r, fr, to, hr, h, h' => by
    have hn : ¬ fr < c.1 := by omega
    by_cases hd : d.1 ≤ fr
    · have hi := leastR_lst (r := r) hr.tail hd h'
      simp only [lst, if_pos hd]
      rw [← hi]
      simp only [leastR, val, List.foldl_cons, if_pos h, if_pos hd, hn, false_and, if_false]
    · simp only [lst, if_neg hd]
      have hg : ∀ e ∈ d :: r, fr < e.1 := fun e he => by
        rcases List.mem_cons.1 he with rfl | he
        · omega
        · have := hr.tail.lt he; omega
      have hv : val (c :: d :: r) fr = c.2 := by
        unfold val
        rw [List.foldl_cons, if_pos h]
        exact foldl_val_gt hg
      unfold leastR
      rw [hv, List.foldl_cons]
      simp only [hn, false_and, if_false]
      exact fold_walk hg (List.pairwise_cons.1 hr).2
theorem least_eq {s : List Ct} (h : rightS s = true) {fr to : Int} (h0 : 0 ≤ fr) (h1 : fr < to) : leastP s fr to = leastR s fr to := by
  obtain ⟨c, r, rfl, hc, hr, _⟩ := rightS_cons h
  rw [leastP_lst (by omega) h1, leastR_lst hr (by omega) h1]

theorem le_fold {n fr to : Int} : ∀ {r : List Ct} {v : Int}, n ≤ r.foldl (fun v c => if fr < c.1 ∧ c.1 < to ∧ c.2 < v then c.2 else v) v ↔ n ≤ v ∧ ∀ c ∈ r, fr < c.1 → c.1 < to → n ≤ c.2
  | [], v => by simp
  | d :: r, v => by
    rw [List.foldl_cons, le_fold]
    constructor
    · rintro ⟨h1, h2⟩
      split at h1
      · refine ⟨by omega, fun c hc => ?_⟩
        rcases List.mem_cons.1 hc with rfl | hc
        · intros; omega
        · exact h2 c hc
      · refine ⟨h1, fun c hc => ?_⟩
        rcases List.mem_cons.1 hc with rfl | hc
        · intros; omega
        · exact h2 c hc
    · rintro ⟨h1, h2⟩
      refine ⟨?_, fun c hc => h2 c (by simp [hc])⟩
      split
      · rename_i h; exact h2 d (by simp) h.1 h.2.1
      · exact h1
theorem le_leastR {n : Int} {s : List Ct} {fr to : Int} : n ≤ leastR s fr to ↔ n ≤ val s fr ∧ ∀ c ∈ s, fr < c.1 → c.1 < to → n ≤ c.2 := le_fold
theorem val_same {s : List Ct} {t t' : Int} (h : t' ≤ t) (hn : ∀ c ∈ s, ¬ (t' < c.1 ∧ c.1 ≤ t)) : val s t' = val s t := by
  unfold val
  generalize (0 : Int) = v
  induction s generalizing v with
  | nil => rfl
  | cons c s ih =>
    simp only [List.foldl_cons]
    have := hn c (by simp)
    have e : (c.1 ≤ t') = (c.1 ≤ t) := by apply propext; omega
    simp only [e]
    exact ih (fun c hc => hn c (by simp [hc])) _
theorem least_back {n : Int} {s : List Ct} {t t' l : Int} (h : t' ≤ t) (hn : ∀ c ∈ s, ¬ (t' < c.1 ∧ c.1 ≤ t)) (hl : n ≤ leastR s t (t + l)) : n ≤ leastR s t' (t' + l) := by
  rw [le_leastR] at hl ⊢
  refine ⟨by rw [val_same h hn]; exact hl.1, fun c hc h1 h2 => ?_⟩
  have := hn c hc
  exact hl.2 c hc (by omega) (by omega)

/-! # the earliest place -/
structure Blk where
  nodes : Nat
  fr : Int
  to : Int
structure Ask where
  count : Int
  cores : Int
  limit : Int
  nodes : Nat
  fr : Int
  blocks : List Blk
def hits (b : Blk) (a : Ask) (t : Int) : Bool := decide (b.fr < t + a.limit) && decide (t < b.to)
def opn (p : List (List Ct)) (a : Ask) (t : Int) (i : Nat) : Bool := match p[i]? with
  | none => false
  | some s => a.nodes.testBit i && decide (a.cores ≤ leastR s t (t + a.limit)) && a.blocks.all fun b => !(hits b a t && b.nodes.testBit i)
def onsN (f : Nat → Bool) : Nat := ((List.range 32).filter f).length
def good (p : List (List Ct)) (a : Ask) (t : Int) : Bool := decide (a.count ≤ onsN (opn p a t))
theorem onsN_mono {f g : Nat → Bool} (h : ∀ i, f i = true → g i = true) : onsN f ≤ onsN g := by
  unfold onsN
  rw [← List.countP_eq_length_filter, ← List.countP_eq_length_filter]
  exact List.countP_mono_left fun i _ => h i
/-- a time at which the program looks -/
def Seen (p : List (List Ct)) (a : Ask) (t : Int) : Prop := t = a.fr ∨ (∃ (i : Nat) (s : List Ct), p[i]? = some s ∧ a.nodes.testBit i = true ∧ ∃ c ∈ s, c.1 = t) ∨ ∃ b ∈ a.blocks, b.to = t
/-- the last of them up to t -/
theorem last_below (t lo : Int) (Q : Int → Prop) : ∀ n : Nat, (t - lo).toNat = n → Q lo → lo ≤ t → ∃ t', lo ≤ t' ∧ t' ≤ t ∧ Q t' ∧ ∀ u, t' < u → u ≤ t → ¬ Q u := by
  intro n
  induction n using Nat.strongRecOn generalizing lo with
  | _ n ih =>
    intro hn hq hle
    by_cases h : ∃ u, lo < u ∧ u ≤ t ∧ Q u
    · obtain ⟨u, h1, h2, h3⟩ := h
      obtain ⟨t', q1, q2, q3, q4⟩ := ih (t - u).toNat (by omega) u rfl h3 h2
      exact ⟨t', by omega, q2, q3, q4⟩
    · exact ⟨lo, by omega, hle, hq, fun u h1 h2 h3 => h ⟨u, h1, h2, h3⟩⟩
theorem good_back {p : List (List Ct)} {a : Ask} {t : Int} (h : a.fr ≤ t) (hg : good p a t = true) : ∃ t', a.fr ≤ t' ∧ t' ≤ t ∧ Seen p a t' ∧ good p a t' = true := by
  obtain ⟨t', h1, h2, h3, h4⟩ := last_below t a.fr (Seen p a) _ rfl (.inl rfl) h
  refine ⟨t', h1, h2, h3, ?_⟩
  simp only [good, decide_eq_true_eq] at hg ⊢
  refine Int.le_trans hg (Int.ofNat_le.2 (onsN_mono fun i hi => ?_))
  unfold opn at hi ⊢
  cases hp : p[i]? with
  | none => rw [hp] at hi; cases hi
  | some s =>
    rw [hp] at hi
    simp only [Bool.and_eq_true, decide_eq_true_eq, List.all_eq_true, Bool.not_eq_true'] at hi ⊢
    obtain ⟨⟨q1, q2⟩, q3⟩ := hi
    refine ⟨⟨q1, least_back h2 (fun c hc hcc => h4 c.1 hcc.1 hcc.2 (.inr (.inl ⟨i, s, hp, q1, c, hc, rfl⟩))) q2⟩, fun b hb => ?_⟩
    have q4 := q3 b hb
    have q5 : ¬ (t' < b.to ∧ b.to ≤ t) := fun hh => h4 b.to hh.1 hh.2 (.inr (.inr ⟨b, hb, rfl⟩))
    cases hbi : b.nodes.testBit i with
    | false => simp
    | true =>
      rw [hbi] at q4
      simp only [hits, Bool.and_true, Bool.and_eq_false_iff, decide_eq_false_iff_not] at q4 ⊢
      omega
/-- a place is found -/
def fits (p : List (List Ct)) (a : Ask) (t : Int) : Bool := decide (a.fr ≤ t) && decide (t ≤ 1099511627776) && good p a t
/-- the least of a list that fits -/
def IsFirst (f : Int → Bool) (o : Option Int) : Prop := match o with
  | some t => f t = true ∧ ∀ u, f u = true → t ≤ u
  | none => ∀ u, f u = false
theorem IsFirst.eq {f : Int → Bool} {o o' : Option Int} (h : IsFirst f o) (h' : IsFirst f o') : o = o' := by
  cases o with
  | none =>
    cases o' with
    | none => rfl
    | some t => simp only [IsFirst] at h h'; rw [h t] at h'; exact absurd h'.1 (by decide)
  | some t =>
    cases o' with
    | none => simp only [IsFirst] at h h'; rw [h' t] at h; exact absurd h.1 (by decide)
    | some u =>
      simp only [IsFirst] at h h'
      have := h.2 u h'.1
      have := h'.2 t h.1
      congr 1; omega
/-- what is looked for among times that hold all that matter -/
theorem first_of {p : List (List Ct)} {a : Ask} {l : List Int} (hl : ∀ t, Seen p a t → t ∈ l) {o : Option Int} (ho : match o with | some t => fits p a t = true ∧ ∀ u ∈ l, fits p a u = true → t ≤ u | none => ∀ u ∈ l, fits p a u = false) : IsFirst (fits p a) o := by
  have key : ∀ u, fits p a u = true → ∃ u' ∈ l, fits p a u' = true ∧ u' ≤ u := fun u hu => by
    simp only [fits, Bool.and_eq_true, decide_eq_true_eq] at hu
    obtain ⟨u', h1, h2, h3, h4⟩ := good_back hu.1.1 hu.2
    exact ⟨u', hl u' h3, by simp only [fits, Bool.and_eq_true, decide_eq_true_eq]; exact ⟨⟨h1, by omega⟩, h4⟩, h2⟩
  cases o with
  | none =>
    intro u
    cases hf : fits p a u with
    | false => rfl
    | true =>
      obtain ⟨u', h1, h2, _⟩ := key u hf
      rw [ho u' h1] at h2; cases h2
  | some t =>
    refine ⟨ho.1, fun u hu => ?_⟩
    obtain ⟨u', h1, h2, h3⟩ := key u hu
    have := ho.2 u' h1 h2
    omega
/-- the first of a sorted list -/
theorem find_first {f : Int → Bool} {l : List Int} (hs : l.Pairwise (· ≤ ·)) : match l.find? f with | some t => f t = true ∧ ∀ u ∈ l, f u = true → t ≤ u | none => ∀ u ∈ l, f u = false := by
  induction l with
  | nil => simp
  | cons x r ih =>
    obtain ⟨h1, h2⟩ := List.pairwise_cons.1 hs
    simp only [List.find?_cons]
    cases hf : f x with
    | true =>
      refine ⟨hf, fun u hu _ => ?_⟩
      rcases List.mem_cons.1 hu with rfl | hu
      · omega
      · exact h1 u hu
    | false =>
      have := ih h2
      simp only
      cases hr : r.find? f with
      | none =>
        rw [hr] at this
        intro u hu
        rcases List.mem_cons.1 hu with rfl | hu
        · exact hf
        · exact this u hu
      | some t =>
        rw [hr] at this
        refine ⟨this.1, fun u hu hfu => ?_⟩
        rcases List.mem_cons.1 hu with rfl | hu
        · rw [hf] at hfu; cases hfu
        · exact this.2 u hu hfu
/-- the best so far (below 0: none) -/
def best (f : Int → Bool) (b : Int) (l : List Int) : Int := l.foldl (fun b t => if f t = true ∧ ¬ (0 ≤ b ∧ b ≤ t) then t else b) b
theorem best_first {f : Int → Bool} (hf : ∀ t, f t = true → 0 ≤ t) : ∀ {l : List Int} {b : Int} {seen : List Int}, (0 ≤ b → f b = true ∧ ∀ u ∈ seen, f u = true → b ≤ u) → (b < 0 → ∀ u ∈ seen, f u = false) →
    (0 ≤ best f b l → f (best f b l) = true ∧ ∀ u ∈ seen ++ l, f u = true → best f b l ≤ u) ∧ (best f b l < 0 → ∀ u ∈ seen ++ l, f u = false)
  | [], b, seen, h1, h2 => by simpa [best] using ⟨h1, h2⟩
  | t :: l, b, seen, h1, h2 => by
    have e : best f b (t :: l) = best f (if f t = true ∧ ¬ (0 ≤ b ∧ b ≤ t) then t else b) l := rfl
    rw [e, show seen ++ t :: l = (seen ++ [t]) ++ l by simp]
    apply best_first hf
    · intro hb
      split at hb
      · rename_i hc
        rw [if_pos hc]
        refine ⟨hc.1, fun u hu hfu => ?_⟩
        rcases List.mem_append.1 hu with hu | hu
        · by_cases hb0 : 0 ≤ b
          · have := (h1 hb0).2 u hu hfu
            have := hc.2; omega
          · rw [h2 (by omega) u hu] at hfu; cases hfu
        · simp at hu; omega
      · rename_i hc
        rw [if_neg hc]
        refine ⟨(h1 hb).1, fun u hu hfu => ?_⟩
        rcases List.mem_append.1 hu with hu | hu
        · exact (h1 hb).2 u hu hfu
        · simp at hu; subst hu
          have : ¬ ¬ (0 ≤ b ∧ b ≤ u) := fun hh => hc ⟨hfu, hh⟩
          omega
    · intro hb u hu
      split at hb
      · rename_i hc; have := hf t hc.1; omega
      · rename_i hc
        rcases List.mem_append.1 hu with hu | hu
        · exact h2 hb u hu
        · simp at hu; subst hu
          cases hfu : f u with
          | false => rfl
          | true => exact absurd ⟨hfu, by omega⟩ hc
end Go.Lite

namespace Go.Lite
open Go Go.Proofs
set_option linter.unusedVariables false
set_option linter.unusedSimpArgs false
set_option maxRecDepth 100000
theorem tidyTry : TidyF Try.prog := tidyF_of (by kernel_rfl)
theorem primsO_ok : PrimsOOK Try.prog h0.ownF h0.primO := by
  intro g q sp h hsp
  simp only [h0] at h
  cases hg : Nat.beq g 29 with
  | true =>
    rw [hg] at h
    simp only [cond_true, Option.some.injEq] at h
    subst h
    have : g = 29 := Nat.eq_of_beq_eq_true hg
    subst this
    have : sp = ⟨[2], 1, []⟩ := by
      have h1 : h0.ownF 29 = some ⟨[2], 1, []⟩ := by kernel_rfl
      rw [h1] at hsp; cases hsp; rfl
    subst this
    intro cp _ os r hq X B w K m vs hS hd hs hx
    exact sort_ok sorts29 os r hq X B w K m vs hS hd hs hx
  | false =>
    rw [hg] at h
    simp only [cond_false] at h
    cases hg2 : Nat.beq g 93 with
    | false => rw [hg2] at h; simp at h
    | true =>
      rw [hg2] at h
      simp only [cond_true, Option.some.injEq] at h
      subst h
      have : g = 93 := Nat.eq_of_beq_eq_true hg2
      subst this
      have : sp = ⟨[1, 0, 0], 0, [some 3]⟩ := by
        have h1 : h0.ownF 93 = some ⟨[1, 0, 0], 0, [some 3]⟩ := by kernel_rfl
        rw [h1] at hsp; cases hsp; rfl
      subst this
      intro cp _ os r hq X B w K m vs hS hd hs hx
      exact insert_ok ins93 cp os r hq X B w K m vs hS hd hs hx
noncomputable abbrev kk (L n : Nat) : Kallee := ⟨callP Try.prog hh L n, callS Try.prog hh L n, callM Try.prog hh L n, callO Try.prog hh L n, hh.calmB, hh.primS⟩
theorem t_awake : callP Try.prog hh 200 40 8 [] = some (Bo true) := by kernel_rfl
end Go.Lite
