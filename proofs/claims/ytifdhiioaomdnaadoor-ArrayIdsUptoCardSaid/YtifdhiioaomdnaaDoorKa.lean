import Derived.Test.YtifdhiioaomdnaaDoorRn
set_option linter.unusedVariables false
set_option linter.unusedSimpArgs false

namespace Go.Lite
set_option linter.unusedVariables false
set_option linter.unusedSimpArgs false

/-! # step functions: plain -/
abbrev Ct := Int × Int
def okC (c : Ct) : Bool := decide (c.1 ≤ 2199023255552) && decide (0 ≤ c.2) && decide (c.2 ≤ 1073741824)
def tailOK : Ct → List Ct → Bool
  | _, [] => true
  | p, c :: r => okC c && (decide (p.1 < c.1) && !decide (p.2 = c.2)) && tailOK c r
def rightS : List Ct → Bool
  | [] => false
  | c :: r => decide ((c :: r).length ≤ 4096) && decide (c.1 = 0) && okC c && tailOK c r
def val (s : List Ct) (t : Int) : Int := s.foldl (fun v c => if c.1 ≤ t then c.2 else v) 0
def leastR (s : List Ct) (fr tb : Int) : Int := s.foldl (fun v c => if fr < c.1 ∧ c.1 < tb ∧ c.2 < v then c.2 else v) (val s fr)
/-- how many cuts hold at t -/
def up (s : List Ct) (t : Int) : Nat := (s.takeWhile (fun c => decide (c.1 ≤ t))).length
def walkMin : Int → Int → List Ct → Int
  | v, _, [] => v
  | v, tb, c :: r => if tb ≤ c.1 then v else walkMin (min v c.2) tb r
def leastP (s : List Ct) (fr tb : Int) : Int := match s.drop (up s fr - 1) with
  | [] => 0
  | c :: r => walkMin c.2 tb (c :: r)

def Rising (c : Ct) (r : List Ct) : Prop := (c :: r).Pairwise (fun a b => a.1 < b.1)
theorem tailOK_rising : ∀ {c : Ct} {r : List Ct}, tailOK c r = true → Rising c r
  | c, [], _ => by simp [Rising]
  | c, d :: r, h => by
    simp only [tailOK, Bool.and_eq_true, decide_eq_true_eq] at h
    obtain ⟨⟨_, h1, _⟩, h2⟩ := h
    have := tailOK_rising h2
    unfold Rising at this ⊢
    refine List.pairwise_cons.2 ⟨fun x hx => ?_, this⟩
    rcases List.mem_cons.1 hx with rfl | hx
    · exact h1
    · have := (List.pairwise_cons.1 this).1 x hx; omega
theorem tailOK_all : ∀ {c : Ct} {r : List Ct}, tailOK c r = true → ∀ d ∈ r, okC d = true
  | c, [], _, d, hd => by simp at hd
  | c, e :: r, h, d, hd => by
    simp only [tailOK, Bool.and_eq_true] at h
    rcases List.mem_cons.1 hd with rfl | hd
    · exact h.1.1
    · exact tailOK_all h.2 d hd
theorem rightS_cons {s : List Ct} (h : rightS s = true) : ∃ c r, s = c :: r ∧ c.1 = 0 ∧ Rising c r ∧ (∀ d ∈ s, okC d = true) ∧ s.length ≤ 4096 := by
  cases s with
  | nil => cases h
  | cons c r =>
    simp only [rightS, Bool.and_eq_true, decide_eq_true_eq] at h
    obtain ⟨⟨⟨h1, h2⟩, h3⟩, h4⟩ := h
    exact ⟨c, r, rfl, h2, tailOK_rising h4, fun d hd => by
      rcases List.mem_cons.1 hd with rfl | hd
      · exact h3
      · exact tailOK_all h4 d hd, h1⟩

/-! ## the least value of a window -/
def lst (c : Ct) (r : List Ct) (fr tb : Int) : Int := match r with
  | [] => c.2
  | d :: r => if d.1 ≤ fr then lst d r fr tb else walkMin c.2 tb (d :: r)
theorem Rising.tail {c d : Ct} {r : List Ct} (h : Rising c (d :: r)) : Rising d r := by
  unfold Rising at h ⊢; exact (List.pairwise_cons.1 h).2
theorem Rising.lt {c d : Ct} {r : List Ct} (h : Rising c r) (hd : d ∈ r) : c.1 < d.1 := (List.pairwise_cons.1 h).1 d hd
theorem up_cons {c : Ct} {r : List Ct} {t : Int} (h : c.1 ≤ t) : up (c :: r) t = up r t + 1 := by simp [up, h]
theorem up_none {c : Ct} {r : List Ct} {t : Int} (h : ¬ c.1 ≤ t) : up (c :: r) t = 0 := by simp [up, h]
theorem leastP_lst : ∀ {c : Ct} {r : List Ct} {fr tb : Int}, c.1 ≤ fr → fr < tb → leastP (c :: r) fr tb = lst c r fr tb
  | c, [], fr, tb, h, h' => by
    have : ¬ tb ≤ c.1 := by omega
    simp [leastP, up, h, lst, walkMin, this]
  | c, d :: r, fr, tb, h, h' => by
    have hn : ¬ tb ≤ c.1 := by omega
    by_cases hd : d.1 ≤ fr
    · have := leastP_lst (r := r) hd h'
      simp only [lst, if_pos hd]
      rw [← this]
      simp only [leastP, up_cons h, up_cons hd, Nat.add_sub_cancel, List.drop_succ_cons]
    · simp only [lst, if_neg hd]
      simp only [leastP, up_cons h, up_none hd, Nat.zero_add, Nat.sub_self, List.drop_zero]
      rw [walkMin, if_neg hn, Int.min_self]
theorem foldl_val_gt {t : Int} : ∀ {r : List Ct} {v : Int}, (∀ d ∈ r, t < d.1) → r.foldl (fun v c => if c.1 ≤ t then c.2 else v) v = v
  | [], v, _ => rfl
  | d :: r, v, h => by
    have : ¬ d.1 ≤ t := by have := h d (by simp); omega
    simp only [List.foldl_cons, if_neg this]
    exact foldl_val_gt fun x hx => h x (by simp [hx])
theorem fold_walk {fr tb : Int} : ∀ {r : List Ct} {v : Int}, (∀ d ∈ r, fr < d.1) → r.Pairwise (fun a b => a.1 < b.1) → r.foldl (fun v c => if fr < c.1 ∧ c.1 < tb ∧ c.2 < v then c.2 else v) v = walkMin v tb r
  | [], v, _, _ => rfl
  | d :: r, v, h, hp => by
    have h1 := h d (by simp)
    obtain ⟨h2, h3⟩ := List.pairwise_cons.1 hp
    simp only [List.foldl_cons, walkMin]
    by_cases hd : tb ≤ d.1
    · rw [if_neg (by omega), if_pos hd]
      have : ∀ {r : List Ct} {v : Int}, (∀ e ∈ r, tb ≤ e.1) → r.foldl (fun v c => if fr < c.1 ∧ c.1 < tb ∧ c.2 < v then c.2 else v) v = v := by
        intro r
        induction r with
        | nil => intro v _; rfl
        | cons e r ih =>
          intro v he
          have := he e (by simp)
          simp only [List.foldl_cons]
          rw [if_neg (by omega)]
          exact ih fun x hx => he x (by simp [hx])
      exact this fun e he => by have := h2 e he; omega
    · rw [if_neg hd, fold_walk (fun x hx => h x (by simp [hx])) h3]
      congr 1
      split <;> omega
theorem leastR_lst : ∀ {c : Ct} {r : List Ct} {fr tb : Int}, Rising c r → c.1 ≤ fr → fr < tb → leastR (c :: r) fr tb = lst c r fr tb
  | c, [], fr, tb, _, h, h' => by
    have : ¬ (fr < c.1) := by omega
    simp [leastR, val, lst, h, this]
  | c, d :: r, fr, tb, hr, h, h' => by
    have hn : ¬ fr < c.1 := by omega
    by_cases hd : d.1 ≤ fr
    · have hi := leastR_lst (r := r) hr.tail hd h'
      simp only [lst, if_pos hd]
      rw [← hi]
      simp only [leastR, val, List.foldl_cons, if_pos h, if_pos hd, hn, false_and, if_false]
    · simp only [lst, if_neg hd]
      have hg : ∀ e ∈ d :: r, fr < e.1 := fun e he => by
        rcases List.mem_cons.1 he with rfl | he
        · omega
        · have := hr.tail.lt he; omega
      have hv : val (c :: d :: r) fr = c.2 := by
        unfold val
        rw [List.foldl_cons, if_pos h]
        exact foldl_val_gt hg
      unfold leastR
      rw [hv, List.foldl_cons]
      simp only [hn, false_and, if_false]
      exact fold_walk hg (List.pairwise_cons.1 hr).2
theorem least_eq {s : List Ct} (h : rightS s = true) {fr tb : Int} (h0 : 0 ≤ fr) (h1 : fr < tb) : leastP s fr tb = leastR s fr tb := by
  obtain ⟨c, r, rfl, hc, hr, _⟩ := rightS_cons h
  rw [leastP_lst (by omega) h1, leastR_lst hr (by omega) h1]

theorem le_fold {n fr tb : Int} : ∀ {r : List Ct} {v : Int}, n ≤ r.foldl (fun v c => if fr < c.1 ∧ c.1 < tb ∧ c.2 < v then c.2 else v) v ↔ n ≤ v ∧ ∀ c ∈ r, fr < c.1 → c.1 < tb → n ≤ c.2
  | [], v => by simp
  | d :: r, v => by
    rw [List.foldl_cons, le_fold]
    constructor
    · rintro ⟨h1, h2⟩
      split at h1
      · refine ⟨by omega, fun c hc => ?_⟩
        rcases List.mem_cons.1 hc with rfl | hc
        · intros; omega
        · exact h2 c hc
      · refine ⟨h1, fun c hc => ?_⟩
        rcases List.mem_cons.1 hc with rfl | hc
        · intros; omega
        · exact h2 c hc
    · rintro ⟨h1, h2⟩
      refine ⟨?_, fun c hc => h2 c (by simp [hc])⟩
      split
      · rename_i h; exact h2 d (by simp) h.1 h.2.1
      · exact h1
theorem le_leastR {n : Int} {s : List Ct} {fr tb : Int} : n ≤ leastR s fr tb ↔ n ≤ val s fr ∧ ∀ c ∈ s, fr < c.1 → c.1 < tb → n ≤ c.2 := le_fold
theorem val_same {s : List Ct} {t t' : Int} (h : t' ≤ t) (hn : ∀ c ∈ s, ¬ (t' < c.1 ∧ c.1 ≤ t)) : val s t' = val s t := by
  unfold val
  generalize (0 : Int) = v
  induction s generalizing v with
  | nil => rfl
  | cons c s ih =>
    simp only [List.foldl_cons]
    have := hn c (by simp)
    have e : (c.1 ≤ t') = (c.1 ≤ t) := by apply propext; omega
    simp only [e]
    exact ih (fun c hc => hn c (by simp [hc])) _
theorem least_back {n : Int} {s : List Ct} {t t' l : Int} (h : t' ≤ t) (hn : ∀ c ∈ s, ¬ (t' < c.1 ∧ c.1 ≤ t)) (hl : n ≤ leastR s t (t + l)) : n ≤ leastR s t' (t' + l) := by
  rw [le_leastR] at hl ⊢
  refine ⟨by rw [val_same h hn]; exact hl.1, fun c hc h1 h2 => ?_⟩
  have := hn c hc
  exact hl.2 c hc (by omega) (by omega)

/-! # the earliest place -/
structure Blk where
  nodes : Nat
  fr : Int
  tb : Int
structure Ask where
  count : Int
  cores : Int
  limit : Int
  nodes : Nat
  fr : Int
  blocks : List Blk
def hits (b : Blk) (a : Ask) (t : Int) : Bool := decide (b.fr < t + a.limit) && decide (t < b.tb)
def opn (p : List (List Ct)) (a : Ask) (t : Int) (i : Nat) : Bool := match p[i]? with
  | none => false
  | some s => a.nodes.testBit i && decide (a.cores ≤ leastR s t (t + a.limit)) && a.blocks.all fun b => !(hits b a t && b.nodes.testBit i)
def onsN (f : Nat → Bool) : Nat := ((List.range 32).filter f).length
def good (p : List (List Ct)) (a : Ask) (t : Int) : Bool := decide (a.count ≤ onsN (opn p a t))
theorem onsN_mono {f g : Nat → Bool} (h : ∀ i, f i = true → g i = true) : onsN f ≤ onsN g := by
  unfold onsN
  rw [← List.countP_eq_length_filter, ← List.countP_eq_length_filter]
  exact List.countP_mono_left fun i _ => h i
/-- a time at which the program looks -/
def Seen (p : List (List Ct)) (a : Ask) (t : Int) : Prop := t = a.fr ∨ (∃ (i : Nat) (s : List Ct), p[i]? = some s ∧ a.nodes.testBit i = true ∧ ∃ c ∈ s, c.1 = t) ∨ ∃ b ∈ a.blocks, b.tb = t
/-- the last of them up tb t -/
theorem last_below (t lo : Int) (Q : Int → Prop) : ∀ n : Nat, (t - lo).toNat = n → Q lo → lo ≤ t → ∃ t', lo ≤ t' ∧ t' ≤ t ∧ Q t' ∧ ∀ u, t' < u → u ≤ t → ¬ Q u := by
  intro n
  induction n using Nat.strongRecOn generalizing lo with
  | _ n ih =>
    intro hn hq hle
    by_cases h : ∃ u, lo < u ∧ u ≤ t ∧ Q u
    · obtain ⟨u, h1, h2, h3⟩ := h
      obtain ⟨t', q1, q2, q3, q4⟩ := ih (t - u).toNat (by omega) u rfl h3 h2
      exact ⟨t', by omega, q2, q3, q4⟩
    · exact ⟨lo, by omega, hle, hq, fun u h1 h2 h3 => h ⟨u, h1, h2, h3⟩⟩
theorem good_back {p : List (List Ct)} {a : Ask} {t : Int} (h : a.fr ≤ t) (hg : good p a t = true) : ∃ t', a.fr ≤ t' ∧ t' ≤ t ∧ Seen p a t' ∧ good p a t' = true := by
  obtain ⟨t', h1, h2, h3, h4⟩ := last_below t a.fr (Seen p a) _ rfl (.inl rfl) h
  refine ⟨t', h1, h2, h3, ?_⟩
  simp only [good, decide_eq_true_eq] at hg ⊢
  refine Int.le_trans hg (Int.ofNat_le.2 (onsN_mono fun i hi => ?_))
  unfold opn at hi ⊢
  cases hp : p[i]? with
  | none => rw [hp] at hi; cases hi
  | some s =>
    rw [hp] at hi
    simp only [Bool.and_eq_true, decide_eq_true_eq, List.all_eq_true, Bool.not_eq_true'] at hi ⊢
    obtain ⟨⟨q1, q2⟩, q3⟩ := hi
    refine ⟨⟨q1, least_back h2 (fun c hc hcc => h4 c.1 hcc.1 hcc.2 (.inr (.inl ⟨i, s, hp, q1, c, hc, rfl⟩))) q2⟩, fun b hb => ?_⟩
    have q4 := q3 b hb
    have q5 : ¬ (t' < b.tb ∧ b.tb ≤ t) := fun hh => h4 b.tb hh.1 hh.2 (.inr (.inr ⟨b, hb, rfl⟩))
    cases hbi : b.nodes.testBit i with
    | false => simp
    | true =>
      rw [hbi] at q4
      simp only [hits, Bool.and_true, Bool.and_eq_false_iff, decide_eq_false_iff_not] at q4 ⊢
      omega
/-- a place is found -/
def fits (p : List (List Ct)) (a : Ask) (t : Int) : Bool := decide (a.fr ≤ t) && decide (t ≤ 1099511627776) && good p a t
/-- the least of a list that fits -/
def IsFirst (f : Int → Bool) (o : Option Int) : Prop := match o with
  | some t => f t = true ∧ ∀ u, f u = true → t ≤ u
  | none => ∀ u, f u = false
theorem IsFirst.eq {f : Int → Bool} {o o' : Option Int} (h : IsFirst f o) (h' : IsFirst f o') : o = o' := by
  cases o with
  | none =>
    cases o' with
    | none => rfl
    | some t => simp only [IsFirst] at h h'; rw [h t] at h'; exact absurd h'.1 (by decide)
  | some t =>
    cases o' with
    | none => simp only [IsFirst] at h h'; rw [h' t] at h; exact absurd h.1 (by decide)
    | some u =>
      simp only [IsFirst] at h h'
      have := h.2 u h'.1
      have := h'.2 t h.1
      congr 1; omega
/-- what is looked for among times that hold all that matter -/
theorem first_of {p : List (List Ct)} {a : Ask} {l : List Int} (hl : ∀ t, Seen p a t → t ∈ l) {o : Option Int} (ho : match o with | some t => fits p a t = true ∧ ∀ u ∈ l, fits p a u = true → t ≤ u | none => ∀ u ∈ l, fits p a u = false) : IsFirst (fits p a) o := by
  have key : ∀ u, fits p a u = true → ∃ u' ∈ l, fits p a u' = true ∧ u' ≤ u := fun u hu => by
    simp only [fits, Bool.and_eq_true, decide_eq_true_eq] at hu
    obtain ⟨u', h1, h2, h3, h4⟩ := good_back hu.1.1 hu.2
    exact ⟨u', hl u' h3, by simp only [fits, Bool.and_eq_true, decide_eq_true_eq]; exact ⟨⟨h1, by omega⟩, h4⟩, h2⟩
  cases o with
  | none =>
    intro u
    cases hf : fits p a u with
    | false => rfl
    | true =>
      obtain ⟨u', h1, h2, _⟩ := key u hf
      rw [ho u' h1] at h2; cases h2
  | some t =>
    refine ⟨ho.1, fun u hu => ?_⟩
    obtain ⟨u', h1, h2, h3⟩ := key u hu
    have := ho.2 u' h1 h2
    omega
/-- the first of a sorted list -/
theorem find_first {f : Int → Bool} {l : List Int} (hs : l.Pairwise (· ≤ ·)) : match l.find? f with | some t => f t = true ∧ ∀ u ∈ l, f u = true → t ≤ u | none => ∀ u ∈ l, f u = false := by
  induction l with
  | nil => simp
  | cons x r ih =>
    obtain ⟨h1, h2⟩ := List.pairwise_cons.1 hs
    simp only [List.find?_cons]
    cases hf : f x with
    | true =>
      refine ⟨hf, fun u hu _ => ?_⟩
      rcases List.mem_cons.1 hu with rfl | hu
      · omega
      · exact h1 u hu
    | false =>
      have := ih h2
      simp only
      cases hr : r.find? f with
      | none =>
        rw [hr] at this
        intro u hu
        rcases List.mem_cons.1 hu with rfl | hu
        · exact hf
        · exact this u hu
      | some t =>
        rw [hr] at this
        refine ⟨this.1, fun u hu hfu => ?_⟩
        rcases List.mem_cons.1 hu with rfl | hu
        · rw [hf] at hfu; cases hfu
        · exact this.2 u hu hfu
/-- the best so far (below 0: none) -/
def best (f : Int → Bool) (b : Int) (l : List Int) : Int := l.foldl (fun b t => if f t = true ∧ ¬ (0 ≤ b ∧ b ≤ t) then t else b) b
theorem best_first {f : Int → Bool} (hf : ∀ t, f t = true → 0 ≤ t) : ∀ {l : List Int} {b : Int} {seen : List Int}, (0 ≤ b → f b = true ∧ ∀ u ∈ seen, f u = true → b ≤ u) → (b < 0 → ∀ u ∈ seen, f u = false) →
    (0 ≤ best f b l → f (best f b l) = true ∧ ∀ u ∈ seen ++ l, f u = true → best f b l ≤ u) ∧ (best f b l < 0 → ∀ u ∈ seen ++ l, f u = false)
  | [], b, seen, h1, h2 => by simpa [best] using ⟨h1, h2⟩
  | t :: l, b, seen, h1, h2 => by
    have e : best f b (t :: l) = best f (if f t = true ∧ ¬ (0 ≤ b ∧ b ≤ t) then t else b) l := rfl
    rw [e, show seen ++ t :: l = (seen ++ [t]) ++ l by simp]
    apply best_first hf
    · intro hb
      split at hb
      · rename_i hc
        rw [if_pos hc]
        refine ⟨hc.1, fun u hu hfu => ?_⟩
        rcases List.mem_append.1 hu with hu | hu
        · by_cases hb0 : 0 ≤ b
          · have := (h1 hb0).2 u hu hfu
            have := hc.2; omega
          · rw [h2 (by omega) u hu] at hfu; cases hfu
        · simp at hu; omega
      · rename_i hc
        rw [if_neg hc]
        refine ⟨(h1 hb).1, fun u hu hfu => ?_⟩
        rcases List.mem_append.1 hu with hu | hu
        · exact (h1 hb).2 u hu hfu
        · simp at hu; subst hu
          have : ¬ ¬ (0 ≤ b ∧ b ≤ u) := fun hh => hc ⟨hfu, hh⟩
          omega
    · intro hb u hu
      split at hb
      · rename_i hc; have := hf t hc.1; omega
      · rename_i hc
        rcases List.mem_append.1 hu with hu | hu
        · exact h2 hb u hu
        · simp at hu; subst hu
          cases hfu : f u with
          | false => rfl
          | true => exact absurd ⟨hfu, by omega⟩ hc
end Go.Lite

namespace Go.Lite.Pa
open Go Go.Proofs Go.Lite
set_option linter.unusedVariables false
set_option linter.unusedSimpArgs false
set_option maxRecDepth 100000
/-! values of structs, compared -/
theorem pr_bind {α β : Type} (Q : Program) (x : Sem α) (f : α → Sem β) : pureRun Q (x >>= f) = (pureRun Q x).bind fun a => pureRun Q (f a) := by
  show pureRun Q (Sem.bind x f) = _
  induction x <;> simp [Sem.bind, pureRun, *]
theorem pr_underlying {Q : Program} {t : TypeId} {d : TypeDesc} (h : Q.underlying t = some d) : pureRun Q (underlying t) = some d := by
  have : underlying t = Sem.program fun P => (match P.underlying t with | some d => pure d | none => stuck "no such type") := rfl
  rw [this, pureRun, h]; rfl
def eqF (Q : Program) (d : Nat) (xs ys : Array Value) : List Field → Option Bool
  | [] => some true
  | f :: fs =>
    if f.name ≠ "_" then (pureRun Q (part f.type xs f.offset)).bind fun a => (pureRun Q (part f.type ys f.offset)).bind fun b => (pureRun Q (Op.equalIn d f.type a b)).bind fun r => if (!r) = true then some false else eqF Q d xs ys fs
    else eqF Q d xs ys fs
theorem pr_struct {Q : Program} (d : Nat) (t : TypeId) (xs ys : Array Value) (ht : Q.underlying t = some (.struct (Q.fieldsOf t))) (hp : Q.stoodInHeld t = false) :
    pureRun Q (Op.equalIn (d + 1) t (.agg xs) (.agg ys)) = eqF Q d xs ys (Q.fieldsOf t).toList := by
  have hprog : ∀ (β : Type) (k : Program → Sem β), pureRun Q (program >>= k) = pureRun Q (k Q) := fun β k => rfl
  simp only [Op.equalIn, pr_bind, pr_underlying ht, Option.bind_some]
  rw [show pureRun Q program = some Q from rfl]
  simp only [Option.bind_some, hp, Bool.false_eq_true, if_false, pr_bind]
  rw [← Array.forIn_toList]
  generalize (Q.fieldsOf t).toList = fs
  clear ht
  induction fs with
  | nil => simp [eqF, pureRun]; rfl
  | cons f fs ih =>
    simp only [List.forIn_cons, eqF, pr_bind]
    split
    · simp only [pr_bind]
      cases pureRun Q (part f.type xs f.offset) with
      | none => rfl
      | some a =>
        simp only [Option.bind_some]
        cases pureRun Q (part f.type ys f.offset) with
        | none => rfl
        | some b =>
          simp only [Option.bind_some]
          cases pureRun Q (Op.equalIn d f.type a b) with
          | none => rfl
          | some r =>
            cases r
            · rfl
            · simp only [Option.bind_some, Bool.not_true, Bool.false_eq_true, if_false]
              exact ih
    · exact ih
theorem pr_int {Q : Program} (d : Nat) (t : TypeId) (k : IntKind) (a : Int) (h : Q.underlying t = some (.int k)) : pureRun Q (Op.equalIn (d + 1) t (.int k a) (.int k a)) = some true := by
  simp [Op.equalIn, pr_bind, pr_underlying h, pureRun]
  rfl
theorem neq_agg {Q : Program} (t : TypeId) (x y : Operand) (xs : List Value) (cs : List PV) (hcs : cs.mapM PV.scalar? = some xs) (hm : Q.eqGuardType Q.depth t = false) (h : pureRun Q (Op.equalIn (9998 + 2) t (.agg xs.toArray) (.agg xs.toArray)) = some true) :
    binPV Q .neq t x y (.agg cs) (.agg cs) = some (Bo false) := by
  have e1 : (PV.agg cs).plain? = some (.agg xs.toArray) := by simp [PV.plain?, hcs]
  have e2 : pureRun Q (eqGuard .neq t x y (.agg xs.toArray) (.agg xs.toArray)) = some () := by
    have hpr : pureRun Q program = some Q := rfl
    simp only [eqGuard, Bool.not_true, Bool.false_eq_true, if_false, pr_bind, hpr, Option.bind_some, hm, Bool.not_false, if_true]
    rfl
  have e3 : pureRun Q (binOp .neq t (.agg xs.toArray) (.agg xs.toArray)) = some (.bool false) := by
    simp only [binOp, Op.equal, Op.maxDepth, pr_bind]
    rw [show (10000 : Nat) = 9998 + 2 from rfl, h]
    rfl
  simp only [binPV, e1, pr_bind, e2, Option.bind_some, e3, Option.map_some]
end Go.Lite.Pa

namespace Go.Lite.Pa
open Go Go.Proofs Go.Lite
set_option linter.unusedVariables false
set_option linter.unusedSimpArgs false
set_option maxRecDepth 100000
abbrev W8 (n : Int) : PV := .sc (.int .u8 n)
abbrev U (a : Nat) : PV := .sc (.int .u32 (a : Int))
structure Sx where
  user : ByteArray
  acc : ByteArray
  qos : ByteArray
  part : ByteArray
  nodes : Int
  cores : Int
  limit : Int
  deps : List PV
abbrev dps (l : List PV) : PV := .list 3 false l
abbrev Sx.pv (s : Sx) : PV := .agg [Sr s.user, Sr s.acc, Sr s.qos, Sr s.part, I s.nodes, I s.cores, I s.limit, dps s.deps]
abbrev jb (id ofi idx : Int) (s : Sx) (now : Int) : PV := .agg [I id, I ofi, I idx, Sr s.user, Sr s.acc, Sr s.qos, Sr s.part, I s.nodes, I s.cores, I s.limit, dps s.deps, W8 1, I now, I 0, I 0, U 0, I 0]
theorem at97 (s : Sx) : PV.at_ 9 7 0 s.pv = some (dps s.deps) := by kernel_rfl
theorem put97 (s : Sx) : putPV 9 7 0 (.pv s.pv) (dps s.deps) = some s.pv := by kernel_rfl
theorem hl9 (s : Sx) : PV.hasLay 9 s.pv = true := by kernel_rfl
theorem hl18 (a b c : Int) (s : Sx) (now : Int) : PV.hasLay 18 (jb a b c s now) = true := by kernel_rfl
theorem bld (id : Int) (s : Sx) (now : Int) : buildPV Tryd.prog 45 [(0, I id), (3, s.pv), (4, W8 1), (5, I now)] = some (jb id 0 0 s now) := by kernel_rfl
theorem at18_0 (a b c : Int) (s : Sx) (now : Int) : PV.at_ 18 0 0 (jb a b c s now) = some (I a) := by kernel_rfl
theorem at18_1 (a b c : Int) (s : Sx) (now : Int) : PV.at_ 18 1 0 (jb a b c s now) = some (I b) := by kernel_rfl
theorem at18_2 (a b c : Int) (s : Sx) (now : Int) : PV.at_ 18 2 0 (jb a b c s now) = some (I c) := by kernel_rfl
theorem at18_3 (a b c : Int) (s : Sx) (now : Int) : PV.at_ 18 3 9 (jb a b c s now) = some s.pv := by kernel_rfl
theorem at18_7 (a b c : Int) (s : Sx) (now : Int) : PV.at_ 18 7 0 (jb a b c s now) = some (I s.nodes) := by kernel_rfl
theorem at18_11 (a b c : Int) (s : Sx) (now : Int) : PV.at_ 18 11 0 (jb a b c s now) = some (W8 1) := by kernel_rfl
theorem at18_12 (a b c : Int) (s : Sx) (now : Int) : PV.at_ 18 12 0 (jb a b c s now) = some (I now) := by kernel_rfl
theorem at18_13 (a b c : Int) (s : Sx) (now : Int) : PV.at_ 18 13 0 (jb a b c s now) = some (I 0) := by kernel_rfl
theorem at18_14 (a b c : Int) (s : Sx) (now : Int) : PV.at_ 18 14 0 (jb a b c s now) = some (I 0) := by kernel_rfl
theorem at18_15 (a b c : Int) (s : Sx) (now : Int) : PV.at_ 18 15 0 (jb a b c s now) = some (U 0) := by kernel_rfl
theorem at18_16 (a b c : Int) (s : Sx) (now : Int) : PV.at_ 18 16 0 (jb a b c s now) = some (I 0) := by kernel_rfl
theorem at9_0 (s : Sx) : PV.at_ 9 0 0 s.pv = some (Sr s.user) := by kernel_rfl
theorem at9_1 (s : Sx) : PV.at_ 9 1 0 s.pv = some (Sr s.acc) := by kernel_rfl
theorem at9_2 (s : Sx) : PV.at_ 9 2 0 s.pv = some (Sr s.qos) := by kernel_rfl
theorem at9_3 (s : Sx) : PV.at_ 9 3 0 s.pv = some (Sr s.part) := by kernel_rfl
theorem at9_4 (s : Sx) : PV.at_ 9 4 0 s.pv = some (I s.nodes) := by kernel_rfl
theorem at9_5 (s : Sx) : PV.at_ 9 5 0 s.pv = some (I s.cores) := by kernel_rfl
theorem at9_6 (s : Sx) : PV.at_ 9 6 0 s.pv = some (I s.limit) := by kernel_rfl
theorem put9 (v : AV) (s : Sx) : putPV 9 0 9 v s.pv = some s.pv := putPV_all (hl9 s)
theorem put18 (v : AV) (a b c : Int) (s : Sx) (now : Int) : putPV 18 0 18 v (jb a b c s now) = some (jb a b c s now) := putPV_all (hl18 a b c s now)
theorem put18_1 (a b c d : Int) (s : Sx) (now : Int) : putPV 18 1 0 (.pv (jb a b c s now)) (I d) = some (jb a d c s now) := by kernel_rfl
theorem put18_2 (a b c d : Int) (s : Sx) (now : Int) : putPV 18 2 0 (.pv (jb a b c s now)) (I d) = some (jb a b d s now) := by kernel_rfl
theorem callP_prim {P : Program} {h : Hints} {L n : Nat} {f : FuncId} {q : List PV → Option PV} (hq : h.prim f = some q) (args : List PV) : callP P h L n f args = q args := by
  cases n <;> simp only [callP, hq]
theorem p44 : hh.prim 44 = some (cloneQ 3) := by kernel_rfl
theorem ifB {c : Prop} [Decidable c] {x y : Option PV} (hx : ∃ r : Bool, x = some (Bo r)) (hy : ∃ r : Bool, y = some (Bo r)) : ∃ r : Bool, (if c then x else y) = some (Bo r) := by
  split
  · exact hx
  · exact hy
theorem ck_t {R : Type} (x : Option R) : ck true x = x := rfl
section
variable {L m : Nat}
theorem c44 (l : List PV) (hl : l.length ≤ 1048576) : callP Tryd.prog hh L m 44 [dps l] = some (dps l) := by
  rw [callP_prim p44]
  have : decide (l.length ≤ 1099511627776) = true := by simp; omega
  simp only [cloneQ, this]; rfl
theorem c28 (hm : 2 ≤ m) (id : Int) (s : Sx) (now : Int) (hs : s.deps.length ≤ 1048576) : callP Tryd.prog hh L m 28 [I id, s.pv, I now] = some (jb id 0 0 s now) := by
  obtain ⟨n, rfl⟩ : ∃ n, m = n + 1 := ⟨m - 1, by omega⟩
  refine callP_of' (by omega) (by kernel_rfl) ?_
  rw [r28]
  have h := c44 (L := L) (m := n) s.deps hs
  simp only [d28_0, hl9, ck_t, at97, ob_some, callD_clo, List.nil_append, List.append_nil, h, put97]
  rw [show (PV.sc (Value.int IntKind.u8 1)) = W8 1 from rfl, bld]
  simp only [ob_some, put18]
theorem c42 (hm : 2 ≤ m) (a b c : Int) (s : Sx) (now : Int) : ∃ r : Bool, callP Tryd.prog hh L m 42 [jb a b c s now] = some (Bo r) := by
  obtain ⟨n, rfl⟩ : ∃ n, m = n + 1 := ⟨m - 1, by omega⟩
  have key : ∃ r : Bool, d42_0 (kk L n) L (jb a b c s now) = some (Bo r) := by
    simp only [d42_0, hl18, ck_t, at18_0, at18_1, at18_2, at18_3, at18_12, put9, ob_some, lss_int, gtr_int, geq_int, leq_int, gcase_f, gcase_t, cb_bool, at9_4, at9_5, at9_6]
    repeat' first | exact ⟨_, rfl⟩ | apply ifB
  obtain ⟨r, hr⟩ := key
  exact ⟨r, callP_of' (by omega) (by kernel_rfl) (by rw [r42]; exact hr)⟩
theorem c43z : callP Tryd.prog hh 1 3 43 [U 0] = some (I 0) := by kernel_rfl
theorem c27 (hm : 5 ≤ m) (hL : 1 ≤ L) (a : Int) (s : Sx) (now : Int) : ∃ r : Bool, callP Tryd.prog hh L m 27 [jb a 0 0 s now] = some (Bo r) := by
  obtain ⟨n, rfl⟩ : ∃ n, m = n + 1 := ⟨m - 1, by omega⟩
  obtain ⟨b, hb⟩ := c42 (L := L) (m := n) (by omega) a 0 0 s now
  have h43 := callP_mono (L := 1) (L' := L) (n := 3) (n' := n) hL (by omega) c43z
  have k2 : ∀ r : Bool, d27_2 (kk L n) L (Bo r) (jb a 0 0 s now) = some (Bo true) := by
    intro r
    have k3 : ∀ o : Bool, d27_6 (kk L n) L (Bo r) (Bo true) (Bo o) (jb a 0 0 s now) = some (Bo true) := by
      intro o
      simp only [d27_6, g27_6, at18_11, ob_some, d27_7, g27_7, eql_int, decide_true, cb_bool, if_true, gcase_t, at18_14]
    simp only [d27_2, g27_2, d27_3, at18_15, at18_13, at18_16, ob_some, eql_int, decide_true, gcase_t, if_true, d27_4, g27_4, d27_5, at18_14, at18_12, geq_int, leq_int, Int.natCast_zero]
    split
    · exact k3 _
    · exact k3 _
  have key : ∃ r : Bool, d27_0 (kk L n) L (jb a 0 0 s now) = some (Bo r) := by
    simp only [d27_0, g27_0, hl18, ck_t, callD_clo, List.nil_append, List.append_nil, hb, ob_some, not_bool, cb_bool]
    cases b with
    | false => exact ⟨false, rfl⟩
    | true =>
      refine ⟨true, ?_⟩
      simp only [Bool.not_true, Bool.false_eq_true, if_false, d27_1, at18_15, at18_7, at18_13, at18_12, ob_some, callD_clo, List.nil_append, List.append_nil, h43, eql_int, gcase_t, geq_int, leq_int]
      split
      · split
        · exact k2 _
        · exact k2 _
      · exact k2 _
  obtain ⟨r, hr⟩ := key
  exact ⟨r, callP_of' (by omega) (by kernel_rfl) (by rw [r27]; exact hr)⟩
end
end Go.Lite.Pa

namespace Go.Lite.Pa
open Go Go.Proofs Go.Lite
set_option linter.unusedVariables false
set_option linter.unusedSimpArgs false
set_option maxRecDepth 100000
abbrev Dv (p : Int × Int) : PV := .agg [W8 p.1, I p.2]
theorem u3 : Tryd.prog.underlying 3 = some (.int .i64) := by kernel_rfl
theorem s22 : SlTy Tryd.prog 22 3 0 8 := .of (by kernel_rfl) (by kernel_rfl) (by kernel_rfl) (by kernel_rfl) (by kernel_rfl) (by kernel_rfl)
theorem s33 : SlTy Tryd.prog 33 90 3 16 := .of (by kernel_rfl) (by kernel_rfl) (by kernel_rfl) (by kernel_rfl) (by kernel_rfl) (by kernel_rfl)
theorem s38 : SlTy Tryd.prog 38 45 18 184 := .of (by kernel_rfl) (by kernel_rfl) (by kernel_rfl) (by kernel_rfl) (by kernel_rfl) (by kernel_rfl)
theorem ln22 (c : Bool) (xs : List PV) : (lenPV Tryd.prog 22 (.list 0 c xs)).map (fun n => PV.sc (goInt n)) = some (I xs.length) := len_list s22.u c xs
theorem ln33 (c : Bool) (xs : List PV) : (lenPV Tryd.prog 33 (.list 3 c xs)).map (fun n => PV.sc (goInt n)) = some (I xs.length) := len_list s33.u c xs
theorem ln38 (c : Bool) (xs : List PV) : (lenPV Tryd.prog 38 (.list 18 c xs)).map (fun n => PV.sc (goInt n)) = some (I xs.length) := len_list s38.u c xs
theorem ln38n : (lenPV Tryd.prog 38 (.sc (.slice none 0 0))).map (fun n => PV.sc (goInt n)) = some (I 0) := by kernel_rfl
abbrev il (l : List Int) : PV := .list 0 false (l.map fun i => I i)
theorem bsJb (a b c : Int) (s : Sx) (now : Int) : buildSliceAV Tryd.prog 38 1 [(0, jb a b c s now)] = some (.list 18 true [jb a b c s now]) := by kernel_rfl
theorem eqf90 (d : Nat) (k n : Int) : eqF Tryd.prog d #[.int .u8 k, .int .i64 n] #[.int .u8 k, .int .i64 n] (Tryd.prog.fieldsOf 90).toList =
    (pureRun Tryd.prog (Op.equalIn d ((Tryd.prog.fieldsOf 90)[0]!).type (.int .u8 k) (.int .u8 k))).bind fun r => if (!r) = true then some false else
      (pureRun Tryd.prog (Op.equalIn d 3 (.int .i64 n) (.int .i64 n))).bind fun r => if (!r) = true then some false else some true := by kernel_rfl
theorem neq90 (x y : Operand) (p : Int × Int) : binPV Tryd.prog .neq 90 x y (Dv p) (Dv p) = some (Bo false) := by
  refine neq_agg 90 x y [.int .u8 p.1, .int .i64 p.2] [W8 p.1, I p.2] rfl (by kernel_rfl) ?_
  rw [show (9998 + 2 : Nat) = 9998 + 1 + 1 from rfl, pr_struct _ _ _ _ (by kernel_rfl) (by kernel_rfl)]
  refine (eqf90 _ _ _).trans ?_
  rw [pr_int _ _ .u8 _ (by kernel_rfl), pr_int _ _ _ _ u3]; rfl
section
variable {L m : Nat}
theorem l29 {R : Type} (C : Kallee) (kr : PV → Option R) (ke : Option R) (l : List (Int × Int)) (hlen : l.length < 9223372036854775807) :
    ∀ (r : List (Int × Int)) (N i : Nat), l.drop i = r → r.length < N → d29_1i C L kr ke N (dps (l.map Dv)) (dps (l.map Dv)) (I i) = ke := by
  intro r
  induction r with
  | nil =>
    intro N i h hN
    obtain ⟨N, rfl⟩ : ∃ n, N = n + 1 := ⟨N - 1, by omega⟩
    have := drop_nil' h
    have h2 : ¬ (i : Int) < l.length := by omega
    simp [-goI, d29_1i, d29_2, ln33, h2]
  | cons a r ih =>
    intro N i h hN
    obtain ⟨N, rfl⟩ : ∃ n, N = n + 1 := ⟨N - 1, by omega⟩
    obtain ⟨h1, h2, h3, h4⟩ := drop_cons' h
    have h5 : (i : Int) < l.length := by omega
    simp only [List.length_cons] at hN
    have hrec := ih N (i + 1) h3 (by omega)
    simp only [d29_1i, d29_2, ln33, List.length_map, lss_int, ob_some, cb_bool, decide_eq_true_eq, h5, if_true, s33.atL, List.getElem?_map, h2, Option.map_some, load_ro s33.y, neq90, Bool.false_eq_true, if_false]
    rw [add_int, wrap_succ (show i < 9223372036854775807 by omega)]
    simp only [ob_some]
    exact hrec
theorem c29 (hm : 2 ≤ m) (l : List (Int × Int)) (hl : l.length < L) (hlen : l.length < 9223372036854775807) : callP Tryd.prog hh L m 29 [dps (l.map Dv), dps (l.map Dv)] = some (Bo true) := by
  obtain ⟨n, rfl⟩ : ∃ n, m = n + 1 := ⟨m - 1, by omega⟩
  refine callP_of' (by omega) (by kernel_rfl) ?_
  rw [r29]
  have := l29 (L := L) (kk L n) (fun x => some x) (d29_3 (kk L n) L) l hlen l L 0 rfl hl
  simp only [d29_0, g29_0, d29_1, ln33, ob_some, List.length_map, neq_int, ne_eq, not_true_eq_false, decide_false, cb_bool, Bool.false_eq_true, if_false]
  rw [show (PV.sc (Value.int IntKind.i64 0)) = I ((0 : Nat) : Int) from rfl, this]
  rfl
theorem c14 (hm : 3 ≤ m) (s : Sx) (l : List (Int × Int)) (hs : s.deps = l.map Dv) (hl : l.length < L) (hlen : l.length < 9223372036854775807) : callP Tryd.prog hh L m 14 [s.pv, s.pv] = some (Bo true) := by
  obtain ⟨n, rfl⟩ : ∃ n, m = n + 1 := ⟨m - 1, by omega⟩
  refine callP_of' (by omega) (by kernel_rfl) ?_
  rw [r14]
  have h := c29 (L := L) (m := n) (by omega) l hl hlen
  rw [← hs] at h
  simp only [d14_0, hl9, ck_t, at9_0, at9_1, at9_2, at9_3, at9_4, at9_5, at9_6, at97, ob_some, eql_str, eql_int, decide_true, gcase_t, if_true, callD_clo, List.nil_append, List.append_nil, h]
/-! ## listed -/
theorem l22 {R : Type} (C : Kallee) (kr : PV → Option R) (ke : PV → Option R) (l : List Int) (hlen : l.length < 9223372036854775807) :
    ∀ (r : List Int) (N i : Nat), l.drop i = r → r.length < N → d22_1i C L kr ke N (il l) (il l) (I l.length) (I i) = kr (Bo false) ∨ d22_1i C L kr ke N (il l) (il l) (I l.length) (I i) = ke (il l) := by
  intro r
  induction r with
  | nil =>
    intro N i h hN
    obtain ⟨N, rfl⟩ : ∃ n, N = n + 1 := ⟨N - 1, by omega⟩
    have := drop_nil' h
    have h2 : ¬ (i : Int) < l.length := by omega
    right
    simp [-goI, d22_1i, d22_2, h2]
  | cons a r ih =>
    intro N i h hN
    obtain ⟨N, rfl⟩ : ∃ n, N = n + 1 := ⟨N - 1, by omega⟩
    obtain ⟨h1, h2, h3, h4⟩ := drop_cons' h
    have h5 : (i : Int) < l.length := by omega
    simp only [List.length_cons] at hN
    have hrec := ih N (i + 1) h3 (by omega)
    have hadd : ∀ x y, binPV Tryd.prog .add 3 x y (I (i : Nat)) (.sc (.int Go.IntKind.i64 1)) = some (I ((i + 1 : Nat) : Int)) := fun x y => by
      rw [add_int, wrap_succ (show i < 9223372036854775807 by omega)]
    simp only [d22_1i, d22_2, lss_int, ob_some, cb_bool, decide_eq_true_eq, h5, if_true, s22.atL, List.getElem?_map, h2, Option.map_some, load_ro s22.y, gcase_f, gtr_int, gcase_t, hadd]
    by_cases q1 : a < 0
    · left; simp only [q1, if_true]
    by_cases q2 : 9999 < a
    · left; simp only [q1, q2, if_true, if_false]
    simp only [q1, q2, if_false]
    by_cases q3 : (0 : Int) < i
    · obtain ⟨j, rfl⟩ : ∃ j, i = j + 1 := ⟨i - 1, by omega⟩
      have hsub : ∀ x y, binPV Tryd.prog .sub 3 x y (I ((j + 1 : Nat) : Int)) (.sc (.int Go.IntKind.i64 1)) = some (I (j : Nat)) := fun x y => by
        rw [sub_int0, wrap64 (by omega) (by omega)]; congr 4; omega
      obtain ⟨b, hb⟩ : ∃ b, l[j]? = some b := ⟨_, List.getElem?_eq_getElem (by omega)⟩
      simp only [q3, if_true, hsub, ob_some, s22.atL, List.getElem?_map, hb, Option.map_some, load_ro s22.y, leq_int, cb_bool, decide_eq_true_eq]
      by_cases q4 : a ≤ b
      · left; simp only [q4, if_true]
      · simp only [q4, if_false]; exact hrec
    · simp only [q3, if_false]; exact hrec
theorem c22 (hm : 2 ≤ m) (l : List Int) (hl : l.length < L) (hlen : l.length < 9223372036854775807) : ∃ r : Bool, callP Tryd.prog hh L m 22 [il l] = some (Bo r) := by
  obtain ⟨n, rfl⟩ : ∃ n, m = n + 1 := ⟨m - 1, by omega⟩
  have h := l22 (L := L) (kk L n) (fun v0 => some v0) (fun v0 => d22_3 (kk L n) L v0) l hlen l L 0 rfl hl
  have key : ∃ r : Bool, d22_0 (kk L n) L (il l) = some (Bo r) := by
    have e : d22_0 (kk L n) L (il l) = d22_1i (kk L n) L (fun v0 => some v0) (fun v0 => d22_3 (kk L n) L v0) L (il l) (il l) (I l.length) (I ((0 : Nat) : Int)) := by
      simp only [d22_0, g22_0, d22_1, ln22, List.length_map, ob_some]; rfl
    rw [e]
    rcases h with h | h
    · exact ⟨false, h⟩
    · rw [h]
      simp only [d22_3, ln22, List.length_map, ob_some, geq_int, leq_int, gcase_t]
      apply ifB
      · exact ⟨_, rfl⟩
      · exact ⟨_, rfl⟩
  obtain ⟨r, hr⟩ := key
  exact ⟨r, callP_of' (by omega) (by kernel_rfl) (by rw [r22]; exact hr)⟩
/-! ## Expand -/
def jobsK (id : Int) (s : Sx) (now : Int) : Nat → List Int → List PV
  | _, [] => []
  | k, n :: r => jb (id + k) id n s now :: jobsK id s now (k + 1) r
theorem jobsK_get (id : Int) (s : Sx) (now : Int) : ∀ (l : List Int) (k i : Nat), (jobsK id s now k l)[i]? = (l[i]?).map fun n => jb (id + (k + i : Nat)) id n s now
  | [], k, i => by simp [jobsK]
  | n :: r, k, 0 => by simp [jobsK]
  | n :: r, k, i + 1 => by
    rw [jobsK, List.getElem?_cons_succ, jobsK_get id s now r (k + 1) i, List.getElem?_cons_succ, show k + 1 + i = k + (i + 1) by omega]
theorem jobsK_len (id : Int) (s : Sx) (now : Int) : ∀ (l : List Int) (k : Nat), (jobsK id s now k l).length = l.length
  | [], _ => rfl
  | n :: r, k => by simp [jobsK, jobsK_len id s now r]
theorem l13 {R : Type} (n : Nat) (hn : 2 ≤ n) (ke : PV → List PV → Option R) (id : Int) (s : Sx) (now : Int) (hs : s.deps.length ≤ 1048576) (h1 : 1 ≤ id) (h2 : id ≤ 1073741824) (l : List Int) (hlen : l.length ≤ 1048576) :
    ∀ (r : List Int) (N k : Nat) (xs : List PV), l.drop k = r → r.length < N → xs.length ≤ k → d13_1i (kk L n) L ke N (I id) (I now) (il l) (I l.length) (I k) s.pv xs = ke s.pv (xs ++ jobsK id s now k r) := by
  intro r
  induction r with
  | nil =>
    intro N k xs h hN hx
    obtain ⟨N, rfl⟩ : ∃ n, N = n + 1 := ⟨N - 1, by omega⟩
    have := drop_nil' h
    have h2 : ¬ (k : Int) < l.length := by omega
    simp [-goI, d13_1i, d13_2, h2, jobsK]
  | cons a r ih =>
    intro N k xs h hN hx
    obtain ⟨N, rfl⟩ : ∃ n, N = n + 1 := ⟨N - 1, by omega⟩
    obtain ⟨g1, g2, g3, g4⟩ := drop_cons' h
    have h5 : (k : Int) < l.length := by omega
    simp only [List.length_cons] at hN
    have hadd : ∀ x y, binPV Tryd.prog .add 3 x y (I (k : Nat)) (.sc (.int Go.IntKind.i64 1)) = some (I ((k + 1 : Nat) : Int)) := fun x y => by
      rw [add_int, wrap_succ (show k < 9223372036854775807 by omega)]
    have hadd2 : ∀ x y, binPV Tryd.prog .add 3 x y (I id) (I (k : Nat)) = some (I (id + (k : Nat))) := fun x y => by
      rw [add_int, wrap64 (by omega) (by omega)]
    have happ : ∀ j : PV, appendTo Tryd.prog 38 38 18 xs (.list 18 true [j]) = some (xs ++ [j]) := fun j => s38.appTo s38 .list (by simp only [List.length_cons, List.length_nil]; omega)
    have hrec := ih N (k + 1) (xs ++ [jb (id + (k : Nat)) id a s now]) g3 (by omega) (by simp; omega)
    simp only [d13_1i, d13_2, lss_int, ob_some, cb_bool, decide_eq_true_eq, h5, if_true, s22.atL, List.getElem?_map, g2, Option.map_some, load_ro s22.y, hadd2, callD_clo, List.nil_append, List.append_nil, c28 (L := L) hn (id + (k : Nat)) s now hs, put18, put18_1, put18_2, bsJb, happ, oxs_some, hadd]
    rw [hrec, jobsK]; simp
theorem max_int2 (x y : Int) : maxPV Tryd.prog [I x, I y] = some (I (max x y)) := max_int Tryd.prog .i64 x y
theorem c13 (hm : 7 ≤ m) (hL0 : 1 ≤ L) (id : Int) (l : List Int) (s : Sx) (now : Int) (hl : l.length < L) (hlen : l.length ≤ 1048576) (hs : s.deps.length ≤ 1048576) :
    (∃ e : Int, e ≠ 0 ∧ callP Tryd.prog hh L m 13 [I id, il l, s.pv, I now] = some (.tup [.sc (.slice none 0 0), I e])) ∨
    (1 ≤ id ∧ id ≤ 1073741824 ∧ ((l = [] ∧ callP Tryd.prog hh L m 13 [I id, il l, s.pv, I now] = some (.tup [.list 18 true [jb id 0 0 s now], I 0])) ∨
      (l ≠ [] ∧ callP Tryd.prog hh L m 13 [I id, il l, s.pv, I now] = some (.tup [.list 18 false (jobsK id s now 0 l), I 0])))) := by
  obtain ⟨n, rfl⟩ : ∃ n, m = n + 1 := ⟨m - 1, by omega⟩
  have lift : ∀ {x : PV}, d13_0 (kk L n) L (I id) (il l) s.pv (I now) = some x → callP Tryd.prog hh L (n + 1) 13 [I id, il l, s.pv, I now] = some x := fun h => callP_of' (by omega) (by kernel_rfl) (by rw [r13]; exact h)
  obtain ⟨b22, h22⟩ := c22 (L := L) (m := n) (by omega) l hl (by omega)
  obtain ⟨b27, h27⟩ := c27 (L := L) (m := n) (by omega) hL0 1 s now
  have h28 := c28 (L := L) (m := n) (by omega) 1 s now hs
  have h28' := c28 (L := L) (m := n) (by omega) id s now hs
  have e1 : (PV.sc (Value.int IntKind.i64 1)) = I 1 := rfl
  have hsubL : ∀ x y, binPV Tryd.prog .sub 3 x y (I (l.length : Nat)) (.sc (.int Go.IntKind.i64 1)) = some (I ((l.length : Int) - 1)) := fun x y => by
    rw [sub_int0, wrap64 (by omega) (by omega)]
  have hsubM : ∀ x y, binPV Tryd.prog .sub 3 x y (.sc (.int Go.IntKind.i64 1073741824)) (I (max ((l.length : Int) - 1) 0)) = some (I (1073741824 - max ((l.length : Int) - 1) 0)) := fun x y => by
    rw [sub_int0, wrap64 (by omega) (by omega)]
  have hmax : maxPV Tryd.prog [I ((l.length : Int) - 1), .sc (.int Go.IntKind.i64 0)] = some (I (max ((l.length : Int) - 1) 0)) := max_int2 _ _
  have hnil : ∃ e : Int, e ≠ 0 ∧ (some (PV.tup [.sc (.slice none 0 0), .sc (.int Go.IntKind.i64 2)]) : Option PV) = some (.tup [.sc (.slice none 0 0), I e]) := ⟨2, by decide, rfl⟩
  simp only [d13_0, g13_0, hl9, ck_t, lss_int, ob_some, gcase_f, ln22, List.length_map, gtr_int, gcase_t, callD_clo, List.nil_append, List.append_nil, h22, not_bool, e1, h28, h27, cb_bool, hsubL, hmax, hsubM, eql_int, h28', bsJb] at lift
  by_cases q1 : id < 1
  · simp only [q1, decide_true, if_true] at lift
    exact .inl ⟨2, by decide, lift rfl⟩
  simp only [q1, decide_false, Bool.false_eq_true, if_false] at lift
  by_cases q2 : (0 : Int) < (l.length : Nat)
  · simp only [q2, decide_true, if_true] at lift
    cases b22 with
    | false =>
      simp only [Bool.not_false, if_true] at lift
      exact .inl ⟨2, by decide, lift rfl⟩
    | true =>
      simp only [Bool.not_true, Bool.false_eq_true, if_false] at lift
      cases b27 with
      | false =>
        simp only [Bool.not_false, if_true] at lift
        exact .inl ⟨2, by decide, lift rfl⟩
      | true =>
        simp only [Bool.not_true, Bool.false_eq_true, if_false] at lift
        by_cases q3 : 1073741824 - max ((l.length : Int) - 1) 0 < id
        · simp only [q3, decide_true, if_true] at lift
          exact .inl ⟨120, by decide, lift rfl⟩
        · simp only [q3, decide_false, Bool.false_eq_true, if_false] at lift
          have q4 : ¬ ((l.length : Nat) : Int) = 0 := by omega
          simp only [q4, decide_false, Bool.false_eq_true, if_false, d13_1] at lift
          have hloop := l13 (L := L) n (by omega) (fun v0 x1 => d13_5 (kk L n) L v0 x1) id s now hs (by omega) (by omega) l hlen l L 0 [] rfl hl (by simp)
          refine .inr ⟨by omega, by omega, .inr ⟨fun h => by subst h; simp at q2, lift ?_⟩⟩
          refine Eq.trans hloop ?_
          simp only [d13_5, List.nil_append]
  · simp only [q2, decide_false, Bool.false_eq_true, if_false] at lift
    have hl0 : l = [] := List.eq_nil_of_length_eq_zero (by omega)
    cases b27 with
    | false =>
      simp only [Bool.not_false, if_true] at lift
      exact .inl ⟨2, by decide, lift rfl⟩
    | true =>
      simp only [Bool.not_true, Bool.false_eq_true, if_false] at lift
      by_cases q3 : 1073741824 - max ((l.length : Int) - 1) 0 < id
      · simp only [q3, decide_true, if_true] at lift
        exact .inl ⟨120, by decide, lift rfl⟩
      · simp only [q3, decide_false, Bool.false_eq_true, if_false] at lift
        have q4 : ((l.length : Nat) : Int) = 0 := by omega
        simp only [q4, decide_true, if_true, ob_some] at lift
        exact .inr ⟨by omega, by omega, .inl ⟨hl0, lift rfl⟩⟩
end
end Go.Lite.Pa

namespace Go.Lite.Pa
open Go Go.Proofs Go.Lite
set_option linter.unusedVariables false
set_option linter.unusedSimpArgs false
set_option maxRecDepth 100000
abbrev cpv (id : Int) (s : Sx) (now : Int) : PV := .agg [I id, Sr s.user, Sr s.acc, Sr s.qos, Sr s.part, I s.nodes, I s.cores, I s.limit, dps s.deps, I now]
theorem hl11 (id : Int) (s : Sx) (now : Int) : PV.hasLay 11 (cpv id s now) = true := by kernel_rfl
theorem at11_0 (id : Int) (s : Sx) (now : Int) : PV.at_ 11 0 0 (cpv id s now) = some (I id) := by kernel_rfl
theorem at11_1 (id : Int) (s : Sx) (now : Int) : PV.at_ 11 1 9 (cpv id s now) = some s.pv := by kernel_rfl
theorem at11_9 (id : Int) (s : Sx) (now : Int) : PV.at_ 11 9 0 (cpv id s now) = some (I now) := by kernel_rfl
theorem neq_w8 (x y : Operand) : binPV Tryd.prog .neq 41 x y (W8 1) (.sc (.int .u8 1)) = some (Bo false) := neq_int Tryd.prog 41 x y .u8 1 1
section
variable {L m : Nat}
theorem l5 {R : Type} (n : Nat) (hn : 3 ≤ n) (kr : PV → PV → Option R) (ke : PV → Option R) (id : Int) (s : Sx) (now : Int) (h1 : 1 ≤ id) (h2 : id ≤ 1073741824) (ds : List (Int × Int)) (hs : s.deps = ds.map Dv) (hd : ds.length < L) (hdl : ds.length ≤ 1048576) (l : List Int) (hne : l ≠ []) (hlen : l.length ≤ 1048576) :
    ∀ (r : List Int) (N i : Nat), l.drop i = r → r.length < N → d5_1i (kk L n) L kr ke N (il l) (.list 18 false (jobsK id s now 0 l)) (I l.length) (I i) (cpv id s now) = ke (cpv id s now) := by
  intro r
  have hpos : (0 : Int) < (l.length : Nat) := by
    have := List.length_pos_iff.2 hne
    omega
  have hnz : ¬ ((l.length : Nat) : Int) = 0 := by omega
  have h14 := c14 (L := L) (m := n) hn s ds hs hd (by omega)
  induction r with
  | nil =>
    intro N i h hN
    obtain ⟨N, rfl⟩ : ∃ n, N = n + 1 := ⟨N - 1, by omega⟩
    have := drop_nil' h
    have h2 : ¬ (i : Int) < l.length := by omega
    simp [-goI, d5_1i, d5_2, h2]
  | cons a r ih =>
    intro N i h hN
    obtain ⟨N, rfl⟩ : ∃ n, N = n + 1 := ⟨N - 1, by omega⟩
    obtain ⟨g1, g2, g3, g4⟩ := drop_cons' h
    have h5 : (i : Int) < l.length := by omega
    simp only [List.length_cons] at hN
    have hrec := ih N (i + 1) g3 (by omega)
    have hadd : ∀ x y, binPV Tryd.prog .add 3 x y (I (i : Nat)) (.sc (.int Go.IntKind.i64 1)) = some (I ((i + 1 : Nat) : Int)) := fun x y => by
      rw [add_int, wrap_succ (show i < 9223372036854775807 by omega)]
    have hadd2 : ∀ x y, binPV Tryd.prog .add 3 x y (I id) (I (i : Nat)) = some (I (id + (i : Nat))) := fun x y => by
      rw [add_int, wrap64 (by omega) (by omega)]
    have hget : (jobsK id s now 0 l)[i]? = some (jb (id + (i : Nat)) id a s now) := by rw [jobsK_get, g2, Nat.zero_add]; rfl
    simp only [d5_1i, d5_2, lss_int, ob_some, cb_bool, decide_eq_true_eq, h5, if_true, s38.atL, hget, Option.map_some, load_ro s38.y, put18, at18_0, at18_1, at18_2, at18_3, at18_11, at18_12, at11_0, at11_1, at11_9, hadd2, neq_int, ne_eq, not_true_eq_false, decide_false, gcase_f, Bool.false_eq_true, if_false, neq_w8,
      callD_clo, List.nil_append, List.append_nil, h14, not_bool, Bool.not_true, ln22, List.length_map, gtr_int, gcase_t, hpos, s22.atL, List.getElem?_map, g2, load_ro s22.y, eql_int, hnz, hadd]
    exact hrec
theorem l5z {R : Type} (n : Nat) (hn : 3 ≤ n) (kr : PV → PV → Option R) (ke : PV → Option R) (id : Int) (s : Sx) (now : Int) (h1 : 1 ≤ id) (h2 : id ≤ 1073741824) (ds : List (Int × Int)) (hs : s.deps = ds.map Dv) (hd : ds.length < L) (hdl : ds.length ≤ 1048576) (N : Nat) :
    d5_1i (kk L n) L kr ke (N + 2) (il []) (.list 18 true [jb id 0 0 s now]) (I 1) (I 0) (cpv id s now) = ke (cpv id s now) := by
  have h14 := c14 (L := L) (m := n) hn s ds hs hd (by omega)
  have hadd : ∀ x y, binPV Tryd.prog .add 3 x y (I 0) (.sc (.int Go.IntKind.i64 1)) = some (I 1) := fun x y => by
    rw [add_int, wrap64 (by omega) (by omega)]; rfl
  have hadd2 : ∀ x y, binPV Tryd.prog .add 3 x y (I id) (I 0) = some (I id) := fun x y => by
    rw [add_int, wrap64 (by omega) (by omega)]; simp
  have hix : indexAddrPV Tryd.prog 38 (.list 18 true [jb id 0 0 s now]) (I 0) = some (.ro 18 (jb id 0 0 s now)) := s38.atL (i := 0)
  have e01 : (0 : Int) < 1 := by decide
  have e11 : ¬ (1 : Int) < 1 := by decide
  have ez : (PV.sc (Value.int IntKind.i64 0)) = I 0 := rfl
  simp only [d5_1i, d5_2, lss_int, ob_some, cb_bool, decide_eq_true_eq, e01, if_true, hix, load_ro s38.y, put18, at18_0, at18_1, at18_2, at18_3, at18_11, at18_12, at11_0, at11_1, at11_9, hadd2, neq_int, ne_eq, not_true_eq_false, decide_false, gcase_f, Bool.false_eq_true, if_false, neq_w8,
    callD_clo, List.nil_append, List.append_nil, h14, not_bool, Bool.not_true, ln22, List.length_map, List.length_nil, gtr_int, gcase_t, eql_int, hadd, e11]
  simp
theorem k5 (hm : 8 ≤ m) (id : Int) (s : Sx) (now : Int) (l : List Int) (ds : List (Int × Int)) (hs : s.deps = ds.map Dv) (hL : 10 + l.length + ds.length < L) (hlen : l.length ≤ 1048576) (hdl : ds.length ≤ 1048576) (haw : callP Tryd.prog hh L m 12 [] = some (Bo true)) :
    callP Tryd.prog hh L (m + 1) 5 [cpv id s now, il l] = some (Bo true) := by
  refine callP_of' (by omega) (by kernel_rfl) ?_
  rw [r5]
  have hsl : s.deps.length ≤ 1048576 := by rw [hs, List.length_map]; exact hdl
  have hmaxl : maxPV Tryd.prog [.sc (.int Go.IntKind.i64 1), I (l.length : Nat)] = some (I (max 1 (l.length : Int))) := max_int2 _ _
  have hd3 : d5_3 (kk L m) L (cpv id s now) = some (Bo true) := by
    simp only [d5_3, callD_clo, List.nil_append, List.append_nil, haw, ob_some]
  rcases c13 (L := L) (m := m) (by omega) (by omega) id l s now (by omega) hlen hsl with ⟨e, he, h13⟩ | ⟨g1, g2, ⟨rfl, h13⟩ | ⟨hne, h13⟩⟩
  · simp only [d5_0, g5_0, hl11, ck_t, at11_0, at11_1, at11_9, ob_some, callD_clo, List.nil_append, List.append_nil, h13, extract_tup, List.getElem?_cons_zero, List.getElem?_cons_succ, neq_int, ne_eq, he, not_false_eq_true, decide_true, cb_bool, if_true, ln38n, eql_int, gcase_t, haw]
  · have hz := l5z (L := L) m (by omega) (fun v0 v1 => some v0) (fun v0 => d5_3 (kk L m) L v0) id s now g1 g2 ds hs (by omega) hdl (L - 2)
    rw [show L - 2 + 2 = L by omega] at hz
    have hmz : maxPV Tryd.prog [.sc (.int Go.IntKind.i64 1), I ((([] : List Int).length : Nat) : Int)] = some (I 1) := max_int2 1 0
    simp only [d5_0, g5_0, hl11, ck_t, at11_0, at11_1, at11_9, ob_some, callD_clo, List.nil_append, List.append_nil, h13, extract_tup, List.getElem?_cons_zero, List.getElem?_cons_succ, neq_int, ne_eq, not_true_eq_false, decide_false, cb_bool, Bool.false_eq_true, if_false, ln38, ln22, List.length_map, List.length_cons, List.length_nil, hmz, d5_1]
    refine Eq.trans ?_ (hz.trans hd3)
    simp
    intro h; exact absurd (by decide) h
  · have hpos : 1 ≤ l.length := List.length_pos_iff.2 hne
    have hmx : max 1 (l.length : Int) = (l.length : Nat) := by omega
    rw [hmx] at hmaxl
    have hloop := l5 (L := L) m (by omega) (fun v0 v1 => some v0) (fun v0 => d5_3 (kk L m) L v0) id s now g1 g2 ds hs (by omega) hdl l hne hlen l L 0 rfl (by omega)
    simp only [d5_0, g5_0, hl11, ck_t, at11_0, at11_1, at11_9, ob_some, callD_clo, List.nil_append, List.append_nil, h13, extract_tup, List.getElem?_cons_zero, List.getElem?_cons_succ, neq_int, ne_eq, not_true_eq_false, decide_false, cb_bool, Bool.false_eq_true, if_false, ln38, ln22, List.length_map, jobsK_len, hmaxl, d5_1]
    exact hloop.trans hd3
end
end Go.Lite.Pa

namespace Go.Lite
open Go Go.Proofs
set_option maxRecDepth 100000
theorem t_awake : callP Tryd.prog hh 200 60 12 [] = some (.sc (.bool true)) := by kernel_rfl
end Go.Lite
