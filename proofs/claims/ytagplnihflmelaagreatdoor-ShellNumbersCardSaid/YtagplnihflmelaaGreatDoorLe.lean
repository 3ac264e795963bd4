import Derived.Test.YtagplnihflmelaaGreatDoorLd
import Derived.ProofKit
import Derived.Carry
import Derived.ChangeCalls
import Derived.Lib.Strings
import Derived.Maps.OwnSet
import Derived.Lib.SlKeysI
import Derived.KernelRfl
import Derived.Sort.Grow
set_option linter.unusedVariables false
set_option linter.unusedSimpArgs false

namespace Go.Lite
open Go
open Go.RowKit (Below)

/-! # what arguments may be -/
inductive CT where
  | bool
  | int (k : IntKind)
  | str
  | list (lay bytes : Nat) (cts : List CT)

/-- fields that lie one behind the other -/
def fitsF (P : Program) : List Field → List (List CT) → Nat → Bool
  | [], [], _ => true
  | f :: fs, c :: cs, o => f.offset == o && P.cellsOf f.type == c.length && fitsF P fs cs (o + c.length)
  | _, _, _ => false

/-- the cells of a type -/
def ctsOf (P : Program) : Nat → TypeId → Option (List CT)
  | 0, _ => none
  | n + 1, t => match P.underlying t with
    | some .bool => some [.bool]
    | some (.int k) => some [.int k]
    | some .string => some [.str]
    | some (.slice e) => match layOf P e, ctsOf P n e with
      | some lay, some cts => if cts.length = width lay ∧ P.cellsOf e = width lay ∧ 0 < width lay then some [.list lay (P.bytesOf e) cts] else none
      | _, _ => none
    | some (.struct fs) => match fs.toList.mapM fun f => ctsOf P n f.type with
      | some ctss => if fitsF P fs.toList ctss 0 = true ∧ P.cellsOf t = ctss.flatten.length then some ctss.flatten else none
      | none => none
    | _ => none

def rowPV (lay : Nat) (xs : List PV) : PV := if lay = 0 then xs.headD (.sc undef) else .agg xs
def rowV (lay : Nat) (vs : List Value) : Value := if lay = 0 then vs.headD undef else .agg vs.toArray

inductive Typed : CT → PV → Prop
  | bool (b : Bool) : Typed .bool (.sc (.bool b))
  | int {k : IntKind} {n : Int} (h : (Lit.int k n).wf = true) : Typed (.int k) (.sc (.int k n))
  | str {s : ByteArray} (h : s.size ≤ reachBytes) : Typed .str (.sc (.string s))
  | list {lay bytes : Nat} {cts : List CT} (rows : List (List PV)) (hm : rows.length ≤ maxLen) (hb : rows.length * bytes ≤ reachBytes) (hl : ∀ xs ∈ rows, xs.length = cts.length)
      (hx : ∀ xs ∈ rows, ∀ (i : Nat) (ct : CT) (x : PV), cts[i]? = some ct → xs[i]? = some x → Typed ct x) : Typed (.list lay bytes cts) (.list lay false (rows.map (rowPV lay)))

structure RowT (X : Nat) (w : World) (K : Keep) (cts : List CT) (cs : List Value) (xs : List PV) : Prop where
  len : xs.length = cts.length
  lenV : cs.length = cts.length
  typed : ∀ (i : Nat) (ct : CT) (x : PV), cts[i]? = some ct → xs[i]? = some x → Typed ct x
  rel : ∀ (i : Nat) (x : PV) (v : Value), xs[i]? = some x → cs[i]? = some v → PVR X w K x v ∧ v.oneCell' = true

theorem RowT.nil (X : Nat) (w : World) (K : Keep) : RowT X w K [] [] [] := ⟨rfl, rfl, by simp, by simp⟩
theorem RowT.one {X : Nat} {w : World} {K : Keep} {ct : CT} {v : Value} {x : PV} (ht : Typed ct x) (hp : PVR X w K x v) (h1 : v.oneCell' = true) : RowT X w K [ct] [v] [x] := by
  refine ⟨rfl, rfl, fun i ct' x' h h' => ?_, fun i x' v' h h' => ?_⟩ <;> cases i <;> simp at h h'
  · subst h; subst h'; exact ht
  · subst h; subst h'; exact ⟨hp, h1⟩
theorem RowT.append {X : Nat} {w : World} {K : Keep} {c1 c2 : List CT} {v1 v2 : List Value} {x1 x2 : List PV} (h1 : RowT X w K c1 v1 x1) (h2 : RowT X w K c2 v2 x2) : RowT X w K (c1 ++ c2) (v1 ++ v2) (x1 ++ x2) := by
  refine ⟨by simp [h1.len, h2.len], by simp [h1.lenV, h2.lenV], fun i ct x h h' => ?_, fun i x v h h' => ?_⟩
  · by_cases hi : i < c1.length
    · rw [List.getElem?_append_left hi] at h
      rw [List.getElem?_append_left (by rw [h1.len]; exact hi)] at h'
      exact h1.typed i ct x h h'
    · rw [List.getElem?_append_right (by omega)] at h
      rw [List.getElem?_append_right (by rw [h1.len]; omega), h1.len] at h'
      exact h2.typed _ ct x h h'
  · by_cases hi : i < c1.length
    · rw [List.getElem?_append_left (by rw [h1.len]; exact hi)] at h
      rw [List.getElem?_append_left (by rw [h1.lenV]; exact hi)] at h'
      exact h1.rel i x v h h'
    · rw [List.getElem?_append_right (by rw [h1.len]; omega), h1.len] at h
      rw [List.getElem?_append_right (by rw [h1.lenV]; omega), h1.lenV] at h'
      exact h2.rel _ x v h h'

theorem RowT.pvr {X : Nat} {w : World} {K : Keep} {cts : List CT} {cs : List Value} {xs : List PV} {lay : Nat} (h : RowT X w K cts cs xs) (hl : cts.length = width lay) : PVR X w K (rowPV lay xs) (rowV lay cs) := by
  unfold rowPV rowV
  by_cases h0 : lay = 0
  · subst h0
    simp only [if_true]
    have e1 := h.len; have e2 := h.lenV
    simp only [width, if_true] at hl
    cases xs with
    | nil => simp at e1; omega
    | cons x xs => cases cs with
      | nil => simp at e2; omega
      | cons v vs => exact (h.rel 0 x v rfl rfl).1
  · simp only [h0, if_false]
    exact .agg (by simp [h.len, h.lenV]) fun i c v h1 h2 => (h.rel i c v h1 (by simpa using h2)).1

theorem RowT.lay {X : Nat} {w : World} {K : Keep} {cts : List CT} {cs : List Value} {xs : List PV} {lay : Nat} (h : RowT X w K cts cs xs) (hl : cts.length = width lay) :
    Lay lay (rowV lay cs) ∧ (cellsL lay (rowV lay cs)).toList = cs := by
  unfold rowV
  have e1 := h.len; have e2 := h.lenV
  have one : ∀ v ∈ cs, v.oneCell' = true := fun v hv => by
    obtain ⟨i, hi, rfl⟩ := List.getElem_of_mem hv
    have hx : i < xs.length := by omega
    exact (h.rel i xs[i] cs[i] (List.getElem?_eq_getElem hx) (List.getElem?_eq_getElem hi)).2
  by_cases h0 : lay = 0
  · subst h0
    simp only [if_true]
    simp only [width, if_true] at hl
    cases cs with
    | nil => simp at e2; omega
    | cons v vs =>
      have : vs = [] := by
        have : vs.length = 0 := by simp at e2; omega
        simpa using this
      subst this
      refine ⟨⟨.inl rfl, fun j u hj => ?_⟩, by simp [cellsL]⟩
      simp only [cellsL, if_true] at hj
      cases j <;> simp at hj
      subst hj; exact one _ (by simp)
  · simp only [h0, if_false]
    refine ⟨⟨.inr ⟨cs.toArray, rfl, ?_⟩, fun j u hj => ?_⟩, ?_⟩
    · simp only [width, h0, if_false] at hl; simp; omega
    · simp only [cellsL, h0, if_false, Value.cells] at hj
      exact one u (by simpa using Array.mem_of_getElem? hj)
    · simp [cellsL, h0, Value.cells]

theorem mapM_range {α : Type} {f : Nat → Option α} : ∀ {n : Nat} {l : List α}, (List.range n).mapM f = some l → l.length = n ∧ ∀ i, i < n → ∃ x, f i = some x ∧ l[i]? = some x := by
  intro n l h
  obtain ⟨h1, h2, h3⟩ := optM_get h
  refine ⟨by simpa using h1, fun i hi => ?_⟩
  exact h2 i i (by simp [hi])

theorem cells?_some {w : World} {a : Addr} {n : Nat} {vs : List Value} (h : w.cells? 0 a n = some vs) : vs.length = n ∧ ∀ (i : Nat) (v : Value), vs[i]? = some v → w.cell? (a.add i) = some v := by
  unfold World.cells? at h
  rw [if_pos (Nat.zero_le _)] at h
  obtain ⟨h1, h2⟩ := mapM_range h
  refine ⟨h1, fun i v hv => ?_⟩
  have hi : i < n := by
    rcases Nat.lt_or_ge i n with h' | h'
    · exact h'
    · rw [List.getElem?_eq_none (by omega)] at hv; cases hv
  obtain ⟨x, hx, hl⟩ := h2 i hi
  rw [hl] at hv; simp only [Option.some.injEq] at hv; subst hv; exact hx

theorem spot_of_cell {w : World} {a : Addr} {v : Value} (h : w.cell? a = some v) : a = ⟨a.block, a.off, none⟩ := by
  obtain ⟨b, o, s⟩ := a
  cases s with
  | none => rfl
  | some s =>
    unfold World.cell? at h
    split at h <;> simp at h

section
variable {H : Type} {enc : TypeId × Value → H} {P : Program} {w : World} {sp : Nat → Bool}

/-- everything that is there -/
def allK (w : World) : Keep := fun b _ => b < w.heap.size

theorem fields_typed {X : Nat} {K : Keep} {fuel n : Nat} {cs : List Value}
    (ih : ∀ (t : TypeId) (cs : List Value) (d : DataW H) (ps : List MemPlace) (cts : List CT), DataW.trod enc P w 0 sp true fuel t cs = some (d, ps) → (DataW.weights P t d).all (· ≤ reachBytes) = true → ctsOf P n t = some cts → ∃ xs, RowT X w K cts cs xs) :
    ∀ (fs : List Field) (ctss : List (List CT)) (o : Nat) (xs : List (DataW H × List MemPlace)), fs.mapM (fun f => ctsOf P n f.type) = some ctss → fitsF P fs ctss o = true →
      fs.mapM (fun f => DataW.trod enc P w 0 sp true fuel f.type ((cs.drop f.offset).take (P.cellsOf f.type))) = some xs → (DataW.weightsEach P (fs.map (·.type)) (xs.map (·.1))).all (· ≤ reachBytes) = true → ∃ ys, RowT X w K ctss.flatten ((cs.drop o).take ctss.flatten.length) ys := by
  intro fs
  induction fs with
  | nil =>
    intro ctss o xs h1 h2 h3 _
    simp at h1; subst h1
    exact ⟨[], by simpa using RowT.nil X w K⟩
  | cons f fs ihf =>
    intro ctss o xs h1 h2 h3 hwt
    simp only [List.mapM_cons, Option.pure_def, Option.bind_eq_bind, Option.bind_eq_some_iff, Option.some.injEq] at h1 h3
    obtain ⟨c, hc, css, hcss, rfl⟩ := h1
    obtain ⟨⟨d, ps⟩, hd, ds, hds, rfl⟩ := h3
    simp only [fitsF, Bool.and_eq_true, beq_iff_eq] at h2
    obtain ⟨⟨hoff, hsz⟩, hrest⟩ := h2
    simp only [List.map_cons, DataW.weightsEach, List.all_append, Bool.and_eq_true] at hwt
    obtain ⟨y1, hy1⟩ := ih f.type _ d ps c hd hwt.1 hc
    obtain ⟨y2, hy2⟩ := ihf css (o + c.length) ds hcss hrest hds hwt.2
    refine ⟨y1 ++ y2, ?_⟩
    rw [hoff, hsz] at hy1
    have := hy1.append hy2
    simp only [List.flatten_cons, List.length_append]
    rw [List.take_add, List.drop_drop]
    exact this

theorem trod_typed {X : Nat} : ∀ (fuel n : Nat) (t : TypeId) (cs : List Value) (d : DataW H) (ps : List MemPlace) (cts : List CT), (∀ b, sp b = true) →
    DataW.trod enc P w 0 sp true fuel t cs = some (d, ps) → (DataW.weights P t d).all (· ≤ reachBytes) = true → ctsOf P n t = some cts → ∃ xs, RowT X w (allK w) cts cs xs := by
  intro fuel
  induction fuel with
  | zero => intro n t cs d ps cts _ h; simp [DataW.trod] at h
  | succ fuel ih =>
    intro n t cs d ps cts hsp h hwt hc
    cases n with
    | zero => simp [ctsOf] at hc
    | succ n =>
      unfold ctsOf at hc
      unfold DataW.trod at h
      split at hc
      · -- bool
        rename_i hu
        simp only [Option.some.injEq] at hc; subst hc
        rw [hu] at h
        split at h <;> (try (exfalso; clear ih; simp_all; done)) <;> (try (exfalso; clear ih; simp at h; done))
        exact ⟨_, RowT.one (.bool _) (.sc _) rfl⟩
      · rename_i k hu
        simp only [Option.some.injEq] at hc; subst hc
        rw [hu] at h
        split at h <;> (try (exfalso; clear ih; simp_all; done)) <;> (try (exfalso; clear ih; simp at h; done))
        rename_i h1
        simp only [Option.some.injEq, TypeDesc.int.injEq] at h1; subst h1
        split at h
        · rename_i hk
          obtain ⟨rfl, hwf⟩ := hk
          exact ⟨_, RowT.one (.int hwf) (.sc _) rfl⟩
        · simp at h
      · rename_i hu
        simp only [Option.some.injEq] at hc; subst hc
        rw [hu] at h
        split at h <;> (try (exfalso; clear ih; simp_all; done)) <;> (try (exfalso; clear ih; simp at h; done))
        split at h
        · rename_i hk
          simp only [Option.some.injEq, Prod.mk.injEq] at h
          obtain ⟨rfl, _⟩ := h
          simp only [DataW.weights, List.all_cons, Bool.and_eq_true, decide_eq_true_eq] at hwt
          exact ⟨_, RowT.one (.str (by have := hwt.1; simpa using this)) (.sc _) rfl⟩
        · simp at h
      · -- slice
        rename_i e hu
        split at hc
        case h_2 => simp at hc
        rename_i lay cte hlay hcte
        split at hc
        case isFalse => simp at hc
        rename_i hcond
        obtain ⟨hw1, hw2, hw3⟩ := hcond
        simp only [Option.some.injEq] at hc; subst hc
        rw [hu] at h
        split at h <;> (try (exfalso; clear ih; simp_all; done)) <;> (try (exfalso; clear ih; simp at h; done))
        · exact ⟨_, RowT.one (x := .list lay false ([].map (rowPV lay))) (.list [] (by simp) (by simp) (by simp) (by simp)) .empty rfl⟩
        · rename_i a len cap h1
          simp only [Option.some.injEq, TypeDesc.slice.injEq] at h1; subst h1
          split at h
          case isFalse => simp at h
          rename_i hb
          obtain ⟨_, hlc, hmax⟩ := hb
          simp only [hsp, if_true, Option.bind_eq_some_iff, Option.map_eq_some_iff] at h
          obtain ⟨elems, he, rest, hr, hdd⟩ := h
          simp only [Prod.mk.injEq] at hdd
          obtain ⟨rfl, _⟩ := hdd
          simp only [DataW.weights, hu, List.all_cons, List.all_append, Bool.and_eq_true, decide_eq_true_eq, List.length_map] at hwt
          obtain ⟨hwl, hwe, hwr⟩ := hwt
          have wAll : ∀ (l : List (DataW H)), (DataW.weightsAll P e l).all (· ≤ reachBytes) = true → ∀ x ∈ l, (DataW.weights P e x).all (· ≤ reachBytes) = true := by
            intro l
            induction l with
            | nil => intro _ x hx; simp at hx
            | cons y l ihl =>
              intro hy x hx
              simp only [DataW.weightsAll, List.all_append, Bool.and_eq_true] at hy
              rcases List.mem_cons.1 hx with rfl | hx
              · exact hy.1
              · exact ihl hy.2 x hx
          obtain ⟨e1, e2⟩ := mapM_range he
          obtain ⟨r1, r2⟩ := mapM_range hr
          rw [hw2] at e2 r2
          have row : ∀ (i : Nat) (y : DataW H × List MemPlace), ((w.cells? 0 (a.add (i * width lay)) (width lay)).bind (DataW.trod enc P w 0 sp true fuel e)) = some y → (y ∈ elems ∨ y ∈ rest) →
              ∃ vs xs, w.cells? 0 (a.add (i * width lay)) (width lay) = some vs ∧ RowT X w (allK w) cte vs xs := by
            intro i y hy hmem
            simp only [Option.bind_eq_some_iff] at hy
            obtain ⟨vs, hvs, hy⟩ := hy
            obtain ⟨d', ps'⟩ := y
            have hw' : (DataW.weights P e d').all (· ≤ reachBytes) = true := by
              rcases hmem with hmem | hmem
              · exact wAll _ hwe d' (List.mem_map.2 ⟨_, hmem, rfl⟩)
              · exact wAll _ hwr d' (List.mem_map.2 ⟨_, hmem, rfl⟩)
            obtain ⟨xs, hxs⟩ := ih n e vs d' ps' cte hsp hy hw' hcte
            exact ⟨vs, xs, hvs, hxs⟩
          by_cases hcap : cap = 0
          · have hlen : len = 0 := by omega
            subst hlen; subst hcap
            exact ⟨_, RowT.one (x := .list lay false ([].map (rowPV lay))) (.list [] (by simp) (by simp) (by simp) (by simp)) .empty rfl⟩
          · have hspot : a = ⟨a.block, a.off, none⟩ := by
              have : ∃ y, ((w.cells? 0 (a.add (0 * width lay)) (width lay)).bind (DataW.trod enc P w 0 sp true fuel e)) = some y ∧ (y ∈ elems ∨ y ∈ rest) := by
                by_cases hl : len = 0
                · subst hl
                  obtain ⟨y, hy, hm⟩ := r2 0 (by omega)
                  exact ⟨y, by simpa using hy, .inr (List.mem_of_getElem? hm)⟩
                · obtain ⟨y, hy, hm⟩ := e2 0 (by omega)
                  exact ⟨y, hy, .inl (List.mem_of_getElem? hm)⟩
              obtain ⟨y, hy, hm⟩ := this
              obtain ⟨vs, xs, hvs, hxs⟩ := row 0 y hy hm
              obtain ⟨c1, c2⟩ := cells?_some hvs
              have := c2 0 (vs[0]'(by omega)) (List.getElem?_eq_getElem (by omega))
              simp only [Nat.zero_mul, Addr.add, if_true] at this
              exact spot_of_cell this
            generalize a.block = b at hspot
            generalize a.off = off at hspot
            subst hspot
            -- the rows
            have rows : ∀ i, i < len → ∃ vs xs, w.cells? 0 (Addr.add ⟨b, off, none⟩ (i * width lay)) (width lay) = some vs ∧ RowT X w (allK w) cte vs xs := fun i hi => by
              obtain ⟨y, hy, hm⟩ := e2 i hi
              exact row i y hy (.inl (List.mem_of_getElem? hm))
            obtain ⟨F, hF⟩ : ∃ F : Nat → List Value × List PV, ∀ i, i < len → w.cells? 0 (Addr.add ⟨b, off, none⟩ (i * width lay)) (width lay) = some (F i).1 ∧ RowT X w (allK w) cte (F i).1 (F i).2 := by
              refine ⟨fun i => if hi : i < len then (Classical.choose (rows i hi), Classical.choose (Classical.choose_spec (rows i hi))) else ([], []), fun i hi => ?_⟩
              simp only [hi, dif_pos]
              exact Classical.choose_spec (Classical.choose_spec (rows i hi))
            refine ⟨[.list lay false (((List.range len).map fun i => (F i).2).map (rowPV lay))], RowT.one (.list _ ?_ ?_ ?_ ?_) (.list ((List.range len).map fun i => rowV lay (F i).1) ?_ hlc (by simp) ?_ ?_ ?_) rfl⟩
            · simp; exact Nat.le_trans hlc hmax
            · simp only [List.length_map, List.length_range]
              rw [e1] at hwl
              exact Nat.le_trans (Nat.mul_le_mul_right _ (Nat.le_add_right _ _)) hwl
            · intro xs hx
              simp only [List.mem_map, List.mem_range] at hx
              obtain ⟨i, hi, rfl⟩ := hx
              exact (hF i hi).2.len
            · intro xs hx
              simp only [List.mem_map, List.mem_range] at hx
              obtain ⟨i, hi, rfl⟩ := hx
              exact (hF i hi).2.typed
            · simp
            · simp
            · intro i x cv hx hcv
              simp only [List.map_map, List.getElem?_map, Option.map_eq_some_iff] at hx hcv
              obtain ⟨i1, hi1, rfl⟩ := hx
              obtain ⟨i2, hi2, rfl⟩ := hcv
              rw [hi1] at hi2; simp only [Option.some.injEq] at hi2; subst hi2
              have hi : i1 < len := by
                have := List.mem_of_getElem? hi1
                simpa using this
              exact (hF i1 hi).2.pvr hw1
            · intro i cv hcv
              simp only [List.getElem?_map, Option.map_eq_some_iff] at hcv
              obtain ⟨i1, hi1, rfl⟩ := hcv
              have hi : i < len ∧ i1 = i := by
                rcases Nat.lt_or_ge i len with h' | h'
                · rw [List.getElem?_range h'] at hi1; exact ⟨h', by simpa using hi1.symm⟩
                · rw [List.getElem?_eq_none (by simpa using h')] at hi1; cases hi1
              obtain ⟨hi, rfl⟩ := hi
              obtain ⟨l1, l2⟩ := (hF i1 hi).2.lay hw1
              refine ⟨l1, fun j v hj => ?_⟩
              obtain ⟨c1, c2⟩ := cells?_some (hF i1 hi).1
              have hj' : (F i1).1[j]? = some v := by rw [← l2]; simpa using hj
              have := c2 j v hj'
              rw [add_none, add_none] at this
              exact ⟨lt_of_cell this, this⟩
      · -- struct
        rename_i fs hu
        split at hc
        case h_2 => simp at hc
        rename_i ctss hctss
        split at hc
        case isFalse => simp at hc
        rename_i hcond
        simp only [Option.some.injEq] at hc; subst hc
        rw [hu] at h
        split at h <;> (try (exfalso; clear ih; simp_all; done)) <;> (try (exfalso; clear ih; simp at h; done))
        rename_i h1
        simp only [Option.some.injEq, TypeDesc.struct.injEq] at h1; subst h1
        split at h
        case isFalse => simp at h
        rename_i hlen
        simp only [Option.map_eq_some_iff] at h
        obtain ⟨xs, hxs, hdd⟩ := h
        simp only [Prod.mk.injEq] at hdd
        obtain ⟨rfl, _⟩ := hdd
        simp only [DataW.weights, hu] at hwt
        obtain ⟨ys, hys⟩ := fields_typed (X := X) (K := allK w) (fun t cs d ps cts h1 h2 h3 => ih n t cs d ps cts hsp h1 h2 h3) fs.toList ctss 0 xs hctss hcond.1 hxs hwt
        refine ⟨ys, ?_⟩
        rw [List.drop_zero, List.take_of_length_le (by omega)] at hys
        exact hys
      · simp at hc
end
end Go.Lite

namespace Go.Lite
open Go
open Go.RowKit (Below)

/-! # rows -/
def argT (P : Program) (n : Nat) (t : TypeId) : Option (Nat × List CT) :=
  match layOf P t, ctsOf P n t with
  | some lay, some cts => if cts.length = width lay then some (lay, cts) else none
  | _, _ => none

def TypedA (a : Nat × List CT) (d : PV) : Prop := ∃ xs, d = rowPV a.1 xs ∧ xs.length = a.2.length ∧ ∀ (i : Nat) (ct : CT) (x : PV), a.2[i]? = some ct → xs[i]? = some x → Typed ct x

theorem value_row {P : Program} {W : World} {base lay : Nat} {t : TypeId} {v : Value} (hl : layOf P t = some lay) (hok : Value.okWide P W .any base t v) (h1 : lay = 0 → v.cells.toList.length = 1) : v = rowV lay v.cells.toList := by
  unfold layOf at hl
  split at hl
  · rename_i fs i hu hi
    simp only [Option.some.injEq] at hl; subst hl
    unfold Value.okWide at hok
    rw [hu] at hok
    obtain ⟨cs, rfl, _⟩ := hok
    simp [rowV, Value.cells]
  · rename_i m e i hu hi
    simp only [Option.some.injEq] at hl; subst hl
    unfold Value.okWide at hok
    rw [hu] at hok
    obtain ⟨cs, rfl, _⟩ := hok
    simp [rowV, Value.cells]
  · rename_i d i hs ha hu hi
    split at hl
    · simp only [Option.some.injEq] at hl; subst hl
      cases v with
      | agg cs =>
        unfold Value.okWide at hok
        split at hok
        · rename_i h1; exact absurd (hu.symm.trans h1) (by intro hh; simp only [Option.some.injEq] at hh; exact hs _ hh)
        · rename_i h1; exact absurd (hu.symm.trans h1) (by intro hh; simp only [Option.some.injEq] at hh; exact ha _ _ hh)
        · unfold Cell.okWide at hok
          split at hok <;> (try contradiction)
          unfold Cell.ok at hok
          split at hok <;> (first | contradiction | exact hok.elim)
      | _ => simp [rowV, Value.cells]
    · simp at hl
  · simp at hl

section
variable {H : Type} {enc : TypeId × Value → H} {P : Program} {W : World} {base : Nat}

theorem weights_front (P : Program) (us : List TypeId) : ∀ (ts : List TypeId) (ds : List (DataW H)), ts.length = ds.length → DataW.weightsEach P (ts ++ us) (ds ++ []) = DataW.weightsEach P ts ds := by
  intro ts
  induction ts with
  | nil =>
    intro ds h
    cases ds with
    | nil => cases us <;> rfl
    | cons d ds => simp at h
  | cons t ts ih =>
    intro ds h
    cases ds with
    | nil => simp at h
    | cons d ds =>
      simp only [List.cons_append, DataW.weightsEach]
      rw [ih ds (by simpa using h)]
theorem args_typed {X n : Nat} : ∀ (ts : List TypeId) (vs : List Value) (ds : List (DataW H)) (p : List MemPlace) (ats : List (Nat × List CT)), DataW.TrodAll enc P W 0 (fun _ => true) true ts vs ds p → (DataW.weightsEach P ts ds).all (· ≤ reachBytes) = true →
    (∀ (j : Nat) t v, ts[j]? = some t → vs[j]? = some v → Value.okWide P W .any base t v) → ts.mapM (argT P n) = some ats →
    ∃ args : List PV, args.length = vs.length ∧ args.length = ats.length ∧ (∀ (i : Nat) a d, ats[i]? = some a → args[i]? = some d → TypedA a d) ∧ (∀ (i : Nat) d v, args[i]? = some d → vs[i]? = some v → PVR X W (allK W) d v) := by
  intro ts
  induction ts with
  | nil =>
    intro vs ds p ats h _ _ ha
    obtain ⟨rfl, rfl, rfl⟩ := Go.ChangeShapes.trodAll_nil h
    simp at ha; subst ha
    exact ⟨[], rfl, rfl, by simp, by simp⟩
  | cons t ts ih =>
    intro vs ds p ats h hwt hok ha
    simp only [List.mapM_cons, Option.pure_def, Option.bind_eq_bind, Option.bind_eq_some_iff, Option.some.injEq] at ha
    obtain ⟨a, hat, rest, hrest, rfl⟩ := ha
    cases vs with
    | nil => simp [DataW.TrodAll] at h
    | cons v vs =>
      cases ds with
      | nil => simp [DataW.TrodAll] at h
      | cons d ds =>
        simp only [DataW.TrodAll] at h
        obtain ⟨p1, q1, ⟨fuel, ht⟩, hall, rfl⟩ := h
        simp only [DataW.weightsEach, List.all_append, Bool.and_eq_true] at hwt
        unfold argT at hat
        split at hat
        case h_2 => simp at hat
        rename_i lay cts hlay hcts
        split at hat
        case isFalse => simp at hat
        rename_i hw
        simp only [Option.some.injEq] at hat; subst hat
        obtain ⟨xs, hxs⟩ := trod_typed (X := X) fuel n t _ d p1 cts (fun _ => rfl) ht hwt.1 hcts
        obtain ⟨args, e1, e2, e3, e4⟩ := ih vs ds q1 rest hall hwt.2 (fun j t' v' h1 h2 => hok (j + 1) t' v' (by simpa using h1) (by simpa using h2)) hrest
        have hv : v = rowV lay v.cells.toList := value_row hlay (hok 0 t v rfl rfl) fun h0 => by
          subst h0; rw [hxs.lenV, hw]; rfl
        refine ⟨rowPV lay xs :: args, by simp [e1], by simp [e2], fun i a d h1 h2 => ?_, fun i d v' h1 h2 => ?_⟩
        · cases i with
          | zero => simp at h1 h2; subst h1; subst h2; exact ⟨xs, rfl, hxs.len, hxs.typed⟩
          | succ i => exact e3 i a d (by simpa using h1) (by simpa using h2)
        · cases i with
          | zero =>
            simp only [List.getElem?_cons_zero, Option.some.injEq] at h1 h2; subst h1; subst h2
            have := hxs.pvr hw
            rw [← hv] at this
            exact this
          | succ i => exact e4 i d v' (by simpa using h1) (by simpa using h2)

theorem trodAll_below (hl : laidOutB P = true) {W' : World} (hb : Below W.heap.size W W') : ∀ (ts : List TypeId) (vs : List Value) (ds : List (DataW H)) (p : List MemPlace), (∀ t ∈ ts, P.readableRec t = true ∧ t < P.types.size) →
    DataW.TrodAll enc P W 0 (fun _ => true) true ts vs ds p → (∀ x ∈ p, x.block < W.heap.size) → DataW.TrodAll enc P W' 0 (fun b => decide (b < W.heap.size)) true ts vs ds p := by
  intro ts
  induction ts with
  | nil =>
    intro vs ds p _ h _
    obtain ⟨rfl, rfl, rfl⟩ := Go.ChangeShapes.trodAll_nil h
    exact rfl
  | cons t ts ih =>
    intro vs ds p hr h hp
    cases vs with
    | nil => simp [DataW.TrodAll] at h
    | cons v vs =>
      cases ds with
      | nil => simp [DataW.TrodAll] at h
      | cons d ds =>
        simp only [DataW.TrodAll] at h
        obtain ⟨p1, q1, ht, hall, rfl⟩ := h
        exact ⟨p1, q1, Below.trod hl (hr t (by simp)).1 (hr t (by simp)).2 ht hb fun x hx => hp x (by simp [hx]), ih vs ds q1 (fun t' ht' => hr t' (by simp [ht'])) hall fun x hx => hp x (by simp [hx]), rfl⟩
end

section
variable {P : Program} {h : Hints} {L : Nat}

theorem callP_calls (hT : TidyF P) (hp : PrimsOK P h.prim) (hps : PrimsSOK P h.primS) (hpm : PrimsMOK P h.primM) (hpo : PrimsOOK P h.ownF h.primO) {n : Nat} {f : FuncId} {args : List PV} {r : PV} (hpf : h.prim f = none) (hr : callP P h L n f args = some r)
    {X : Nat} {w : World} {K : Keep} {vs : Array Value} (hX : Lo X w.heap.size w) (hk : ∀ b o, K b o → b < w.heap.size) (hs : vs.size = args.length)
    (hx : ∀ (i : Nat) (c : PV) (v : Value), args[i]? = some c → vs[i]? = some v → PVR X w K c v) :
    Calls P f vs w fun e w' => ∃ v, e = .returned v ∧ Ext w K w' (fun b i => K b i ∨ (w.heap.size ≤ b ∧ b < w'.heap.size)) ∧ PVR X w' (fun b i => K b i ∨ (w.heap.size ≤ b ∧ b < w'.heap.size)) r v := by
  cases n with
  | zero => simp [callP, hpf] at hr
  | succ n =>
    simp only [callP, hpf] at hr
    exact (bodyP_sound hT (call_sound hT hp hps hpm hpo n) hr hX hk hs hx).2

/-- a row from a contract that is told how much is handed in -/
theorem handed_sized {H : Type} {enc : TypeId × Value → H} {a : Assume} {C : Checked} {os : Os} {f : FuncId} {fn : Func} {s : ChangeSpec} {conds : List PathCond} {apart fresh handsOn again : Bool}
    (own : ownKnob C.prog.godebug = none) (started : os.Started) (noInit : C.prog.inits.idxOf? f = none) (hfn : C.prog.funcs[f]? = some fn)
    (witness : ∃ (w : World) (tape : Tape) (i : Input), w.os = os ∧ (w.forCall tape i).Shaped C.prog ∧ i.vars = [] ∧ Input.okWide C.prog (w.forCall tape i) .any w.heap.size f i ∧
      s.pre6 enc C.prog fn conds apart (w.forCall tape i).memory i.args ∧ a.holds C.prog (lone (Frame.enter C.prog f i.args .normal) [] (w.forCall tape i)))
    (hk : ∀ (W : World) (args : Array Value) (ds gs : List (DataW H)) (ps : List MemPlace), (∀ (j : Nat) t v, fn.params[j]? = some t → args[j]? = some v → Value.okWide C.prog W .any 0 t v ∨ ∃ base, Value.okWide C.prog W .any base t v) →
      DataW.Whole enc C.prog fn.params.toList s.vars apart W args.toList ds gs ps → (DataW.weightsEach C.prog (fn.params.toList ++ s.plain.varTypes C.prog) (ds ++ gs)).all (· ≤ reachBytes) = true → (∃ base, ∀ (j : Nat) t v, fn.params[j]? = some t → args[j]? = some v → Value.okWide C.prog W .any base t v) →
      Calls C.prog f args W fun e W' => ∃ v, e = .returned v ∧ s.post enc C.prog fn apart fresh handsOn again W args v W') :
    ReturnsInHanded a C os f .any (s.pre6 enc C.prog fn conds apart) (s.post enc C.prog fn apart fresh handsOn again) := by
  refine returnsInHanded_of_calls own started noInit witness fun w tape i _ _ _ hok hpre _ => ?_
  obtain ⟨_, _, _, fn', hfn', _, _, _, _, hval⟩ := hok
  obtain rfl : fn' = fn := Option.some.inj (hfn'.symm.trans hfn)
  obtain ⟨⟨ds, gs, ps, hw, _⟩, hz⟩ := hpre
  have hw' := DataW.Whole.of_heap (w' := w.forCall tape i) (by rfl) hw
  exact (hk _ _ ds gs ps (fun j t v h1 h2 => .inr ⟨_, hval j t v h1 h2⟩) hw' (hz.weights hw) ⟨_, hval⟩).mono fun e W' ⟨v, he, hp⟩ => by subst he; exact ChangeSpec.post_blind hp

/-- What the evaluator's answer says of the call, at a world that holds what is known of the variables. -/
theorem contractP {C : Checked} {f : FuncId} {fn : Func} {s : ChangeSpec} {H : Type} {enc : TypeId × Value → H} {apart fresh handsOn : Bool} {bt : TypeId} {ats : List (Nat × List CT)} {depth : Nat}
    (hT : TidyF C.prog) (hp : PrimsOK C.prog h.prim) (hps : PrimsSOK C.prog h.primS) (hpm : PrimsMOK C.prog h.primM) (hpo : PrimsOOK C.prog h.ownF h.primO) (hpf : h.prim f = none) (hvars : s.vars = [])
    (hs : ∀ ds : List (DataW H), ds.length = fn.params.size → s.fn H ds = { results := [.lit (.bool true)], args := ds })
    (hres : fn.resultTypes = #[bt]) (hbt : C.prog.underlying bt = some .bool) (hlaid : laidOutB C.prog = true) (hpar : fn.params.toList.mapM (argT C.prog depth) = some ats)
    (hread : ∀ t ∈ fn.params.toList, C.prog.readableRec t = true ∧ t < C.prog.types.size)
    (hmain : ∀ args : List PV, args.length = ats.length → (∀ (i : Nat) a d, ats[i]? = some a → args[i]? = some d → TypedA a d) → ∃ L n, callP C.prog h L n f args = some (.sc (.bool true)))
    (W : World) (base : Nat) (args : Array Value) (ds gs : List (DataW H)) (ps : List MemPlace)
    (hval : ∀ (j : Nat) t v, fn.params[j]? = some t → args[j]? = some v → Value.okWide C.prog W .any base t v)
    (hW : DataW.Whole enc C.prog fn.params.toList s.vars apart W args.toList ds gs ps) (hwt : (DataW.weightsEach C.prog (fn.params.toList ++ s.plain.varTypes C.prog) (ds ++ gs)).all (· ≤ reachBytes) = true) (hG : Gl W.heap.size W) :
    Calls C.prog f args W fun e W' => ∃ v, e = .returned v ∧ s.post enc C.prog fn apart fresh handsOn false W args v W' := by
  have hlt := hW.lt
  obtain ⟨p, q, hA, hV, rfl, hfz, hnd⟩ := id hW
  obtain ⟨rfl, rfl⟩ : gs = [] ∧ q = [] := by rw [hvars] at hV; exact Go.ChangeShapes.trodVars_none hV
  have hval' : ∀ (j : Nat) t v, fn.params.toList[j]? = some t → args.toList[j]? = some v → Value.okWide C.prog W .any base t v := fun j t v h1 h2 => hval j t v (by simpa using h1) (by simpa using h2)
  obtain ⟨l1, l2⟩ := trodAll_length hA
  rw [weights_front C.prog _ _ _ (by first | exact l2.symm | omega)] at hwt
  obtain ⟨as, e1, e2, e3, e4⟩ := args_typed (X := W.heap.size) fn.params.toList args.toList ds p ats hA hwt hval' hpar
  obtain ⟨L, n, hr⟩ := hmain as e2 e3
  refine (callP_calls (L := L) hT hp hps hpm hpo hpf hr (K := allK W) (vs := args) ⟨Nat.le_refl _, hG⟩ (fun b o hb => hb) (by simpa using e1.symm) fun i c v h1 h2 => e4 i c v h1 (by simpa using h2)).mono fun e W' ⟨v, he, hx, hv⟩ => ⟨v, he, ?_⟩
  have hb := hx.below
  cases hv
  have hss := hs ds (by simpa using l2)
  have hargs := trodAll_below hlaid hb _ _ _ _ hread hA fun x hx => hlt x (by simp [hx])
  refine ⟨ds, [], p ++ [], [], p, [], hW, ?_, ?_, ?_, ?_, fun h => by cases h⟩
  · rw [List.append_nil, hss, hres]
    refine ⟨[], [], ⟨1, ?_⟩, rfl, rfl⟩
    simp [DataW.trod, hbt, Value.cells]
  · rw [List.append_nil, hss]; exact hargs
  · rw [hvars]; simp only [List.append_nil, hss]; exact rfl
  · exact Below.frame hb _

/-- The row 'it returns true, and what is handed in stays', from the evaluator's answer. -/
theorem lifted {C : Checked} {os : Os} {f : FuncId} {fn : Func} {s : ChangeSpec} {H : Type} {enc : TypeId × Value → H} {conds : List PathCond} {apart fresh handsOn : Bool} {bt : TypeId} {ats : List (Nat × List CT)} {depth : Nat} {a : Assume}
    (own : ownKnob C.prog.godebug = none) (started : os.Started) (noInit : C.prog.inits.idxOf? f = none) (hfn : C.prog.funcs[f]? = some fn)
    (witness : ∃ (w : World) (tape : Tape) (i : Input), w.os = os ∧ (w.forCall tape i).Shaped C.prog ∧ i.vars = [] ∧ Input.okWide C.prog (w.forCall tape i) .any w.heap.size f i ∧
      s.pre6 enc C.prog fn conds apart (w.forCall tape i).memory i.args ∧ a.holds C.prog (lone (Frame.enter C.prog f i.args .normal) [] (w.forCall tape i)))
    (hT : TidyF C.prog) (hp : PrimsOK C.prog h.prim) (hps : PrimsSOK C.prog h.primS) (hpm : PrimsMOK C.prog h.primM) (hpo : PrimsOOK C.prog h.ownF h.primO) (hpf : h.prim f = none) (hvars : s.vars = [])
    (hs : ∀ ds : List (DataW H), ds.length = fn.params.size → s.fn H ds = { results := [.lit (.bool true)], args := ds })
    (hres : fn.resultTypes = #[bt]) (hbt : C.prog.underlying bt = some .bool) (hlaid : laidOutB C.prog = true) (hpar : fn.params.toList.mapM (argT C.prog depth) = some ats)
    (hread : ∀ t ∈ fn.params.toList, C.prog.readableRec t = true ∧ t < C.prog.types.size)
    (hG : ∀ W : World, Gl W.heap.size W)
    (hmain : ∀ args : List PV, args.length = ats.length → (∀ (i : Nat) a d, ats[i]? = some a → args[i]? = some d → TypedA a d) → ∃ L n, callP C.prog h L n f args = some (.sc (.bool true))) :
    ReturnsInHanded a C os f .any (s.pre6 enc C.prog fn conds apart) (s.post enc C.prog fn apart fresh handsOn false) := by
  refine handed_sized (C := C) own started noInit hfn witness ?_
  intro W args ds gs before _ hW hwt ⟨base, hval⟩
  exact contractP hT hp hps hpm hpo hpf hvars hs hres hbt hlaid hpar hread hmain W base args ds gs before hval hW hwt (hG W)
end
end Go.Lite

namespace Go.Lite
open Go

def tidyFn (fn : Func) : Bool := match fn.body with | some c => tidyC fn.ntmps c | none => true
def tidyAll (P : Program) : Bool := P.funcs.toList.all tidyFn
theorem tidyF_of {P : Program} (h : tidyAll P = true) : TidyF P := by
  intro f fn c hf hb
  simp only [tidyAll, List.all_eq_true] at h
  have := h fn (by simpa using Array.mem_of_getElem? hf)
  simpa [tidyFn, hb] using this
/-- the witness: noughts -/
def zeroArgs (P : Program) (fn : Func) : Array Value := fn.params.map fun t => ((P.info? t).bind (·.zero)).getD undef
theorem primsOK_none (P : Program) : PrimsOK P (fun _ => none) := fun g q h => by simp at h
theorem primsMOK_none (P : Program) : PrimsMOK P (fun _ => none) := fun g q h => by simp at h
theorem primsOOK_none (P : Program) (ownF : FuncId → Option OwnSp) : PrimsOOK P ownF (fun _ => none) := fun g q sp h => by simp at h
theorem primsSOK_none (P : Program) : PrimsSOK P (fun _ => none) := fun g q h => by simp at h
def readsOf (P : Program) (fn : Func) : Bool := fn.params.toList.all fun t => P.readableRec t && decide (t < P.types.size)
theorem reads_of {P : Program} {fn : Func} (h : readsOf P fn = true) : ∀ t ∈ fn.params.toList, P.readableRec t = true ∧ t < P.types.size := by
  intro t ht
  simp only [readsOf, List.all_eq_true, Bool.and_eq_true, decide_eq_true_eq] at h
  exact h t ht
end Go.Lite

namespace Go.Lite
open Go

/-! # residual programs: the words they are written in -/
section
variable {R : Type}
def ob (x : Option PV) (f : PV → Option R) : Option R := match x with | some d => f d | none => none
def oxs (x : Option (List PV)) (f : List PV → Option R) : Option R := match x with | some d => f d | none => none
/-- noughts, so many (a name, that simp leaves alone) -/
def zeros (n : Nat) (z : PV) : List PV := List.replicate n z
def oms (x : Option (List (Int × PV))) (f : List (Int × PV) → Option R) : Option R := match x with | some d => f d | none => none
def obs (x : Option ByteArray) (f : ByteArray → Option R) : Option R := match x with | some d => f d | none => none
def onat (x : Option Nat) (f : Nat → Option R) : Option R := match x with | some d => f d | none => none
def onr (x : Option (Nat × Nat)) (f : Nat → Nat → Option R) : Option R := match x with | some r => f r.1 r.2 | none => none
def cb (d : PV) (y n : Option R) : Option R := match boolPV? d with | some true => y | some false => n | none => none
def ck (c : Bool) (y : Option R) : Option R := match c with | true => y | false => none
theorem ob_congr {x : Option PV} {f g : PV → Option R} (h : ∀ d, f d = g d) : ob x f = ob x g := by rw [funext h]
theorem cb_congr {d : PV} {y y' n n' : Option R} (h1 : y = y') (h2 : n = n') : cb d y n = cb d y' n' := by rw [h1, h2]
end

section
variable {α β γ δ ε ζ η : Type}
theorem cg1 (f : α → η) {a a' : α} (h : a = a') : f a = f a' := h ▸ rfl
theorem cg2 (f : α → β → η) {a a' : α} {b b' : β} (h : a = a') (h2 : b = b') : f a b = f a' b' := by subst h; subst h2; rfl
theorem cg3 (f : α → β → γ → η) {a a' : α} {b b' : β} {c c' : γ} (h : a = a') (h2 : b = b') (h3 : c = c') : f a b c = f a' b' c' := by subst h; subst h2; subst h3; rfl
theorem cg4 (f : α → β → γ → δ → η) {a a' : α} {b b' : β} {c c' : γ} {d d' : δ} (h : a = a') (h2 : b = b') (h3 : c = c') (h4 : d = d') : f a b c d = f a' b' c' d' := by
  subst h; subst h2; subst h3; subst h4; rfl
theorem cg5 (f : α → β → γ → δ → ε → η) {a a' : α} {b b' : β} {c c' : γ} {d d' : δ} {e e' : ε} (h : a = a') (h2 : b = b') (h3 : c = c') (h4 : d = d') (h5 : e = e') : f a b c d e = f a' b' c' d' e' := by
  subst h; subst h2; subst h3; subst h4; subst h5; rfl
theorem cg6 (f : α → β → γ → δ → ε → ζ → η) {a a' : α} {b b' : β} {c c' : γ} {d d' : δ} {e e' : ε} {g g' : ζ} (h : a = a') (h2 : b = b') (h3 : c = c') (h4 : d = d') (h5 : e = e') (h6 : g = g') : f a b c d e g = f a' b' c' d' e' g' := by
  subst h; subst h2; subst h3; subst h4; subst h5; subst h6; rfl
end
def loopK {R : Type} (g : Env → Store → Option R) (live : List Tmp) (n : Nat) (K : Ex → Env → Store → Option R) : Ex → Env → Store → Option R :=
  next (fun e S => g ((e.map (trimV n S)).pick live) (trimS n S)) K

/-- a place in the code -/
def cAt : Code → List Nat → Code
  | c, [] => c
  | .seq a _, 0 :: p => cAt a p
  | .seq _ b, _ :: p => cAt b p
  | .cond _ a _, 0 :: p => cAt a p
  | .cond _ _ b, _ :: p => cAt b p
  | .block _ b, _ :: p => cAt b p
  | .loop b, _ :: p => cAt b p
  | .scope b, _ :: p => cAt b p
  | _, _ => .skip
def bodyOf (fn : Func) : Code := fn.body.getD .skip
def endP (P : Program) (fn : Func) : Ex → Env → Store → Option PV := fun x e S =>
  match x with
  | .exit _ => none
  | _ => (match resultsAV P fn e S with | some v => thaw S deep v | none => none)
end Go.Lite

namespace Go.Lite
open Go

/-! # what goes on behind a call changes nothing of the call -/
theorem Out.go_fac {R : Type} {o : Out} {F : AV → Option R} {x : R} (h : o.go F = some x) : ∃ v, (∀ {Q : Type} (G : AV → Option Q), o.go G = G v) ∧ F v = some x := by
  cases o with
  | p y => cases y with
    | none => simp [Out.go] at h
    | some d => exact ⟨_, fun G => rfl, h⟩
  | a y => cases y with
    | none => simp [Out.go] at h
    | some d => exact ⟨_, fun G => rfl, h⟩
  | n y id => cases y with
    | none => simp [Out.go] at h
    | some d => exact ⟨_, fun G => rfl, h⟩
  | s y id => cases y with
    | none => simp [Out.go] at h
    | some d => exact ⟨_, fun G => rfl, h⟩
theorem OutN.go_fac {R : Type} {o : OutN} {F : AV → Ob → Option R} {x : R} (h : o.go F = some x) : ∃ v ob, (∀ {Q : Type} (G : AV → Ob → Option Q), o.go G = G v ob) ∧ F v ob = some x := by
  cases o with
  | chk c v ob => cases c with
    | true => exact ⟨_, _, fun G => rfl, h⟩
    | false => simp [OutN.go] at h
  | arr n lay y => cases y with
    | none => simp [OutN.go] at h
    | some d => exact ⟨_, _, fun G => rfl, h⟩
  | arrX n lay y => cases y with
    | none => simp [OutN.go] at h
    | some d => exact ⟨_, _, fun G => rfl, h⟩
  | sit n y => cases y with
    | none => simp [OutN.go] at h
    | some d => exact ⟨_, _, fun G => rfl, h⟩
  | gen y => cases y with
    | none => simp [OutN.go] at h
    | some d => exact ⟨_, _, fun G => rfl, h⟩
theorem OutM.go_fac {R : Type} {S : Store} {o : OutM} {F : AV → Store → Option R} {x : R} (h : o.go S F = some x) : ∃ v S', (∀ {Q : Type} (G : AV → Store → Option Q), o.go S G = G v S') ∧ F v S' = some x := by
  cases o with
  | mp id y => cases y with
    | none => simp [OutM.go] at h
    | some d => exact ⟨_, _, fun G => rfl, h⟩
  | cellA id l0 c v => cases c with
    | false => simp [OutM.go] at h
    | true => exact ⟨_, _, fun G => rfl, h⟩
  | cell id l0 y => cases y with
    | none => simp [OutM.go] at h
    | some d => exact ⟨_, _, fun G => rfl, h⟩
  | elem id l0 y => cases y with
    | none => simp [OutM.go] at h
    | some d => exact ⟨_, _, fun G => rfl, h⟩
  | gen y => cases y with
    | none => simp [OutM.go] at h
    | some d => exact ⟨_, _, fun G => rfl, h⟩
theorem OutA.go_fac {R : Type} {S : Store} {o : OutA} {F : AV → Store → Option Nat → Option R} {x : R} (h : o.go S F = some x) : ∃ v S' g, (∀ {Q : Type} (G : AV → Store → Option Nat → Option Q), o.go S G = G v S' g) ∧ F v S' g = some x := by
  cases o with
  | own id l0 ex y => cases y with
    | none => simp [OutA.go] at h
    | some d => exact ⟨_, _, _, fun G => rfl, h⟩
  | p y => cases y with
    | none => simp [OutA.go] at h
    | some d => exact ⟨_, _, _, fun G => rfl, h⟩
  | gen y => cases y with
    | none => simp [OutA.go] at h
    | some d => exact ⟨_, _, _, fun G => rfl, h⟩

section
variable {P : Program} {C : Kallee} {hint : Tmp → Option Nat} {shared : FuncId → Bool} {draw : Bool} {ops : Array Oper}
theorem evalOps_fac : ∀ (l : List Oper) (i : Nat) (e : Env) (S : Store) {R : Type} (k : Env → Store → Option R) (x : R), evalOps P C hint shared draw ops l i e S k = some x →
    ∃ e' S', (∀ {Q : Type} (k' : Env → Store → Option Q), evalOps P C hint shared draw ops l i e S k' = k' e' S') ∧ k e' S' = some x := by
  intro l
  induction l with
  | nil => intro i e S R k x h; rw [evalOps] at h; exact ⟨e, S, fun k' => by rw [evalOps], h⟩
  | cons o rest ih =>
    intro i e S R k x h
    rw [evalOps] at h
    split at h
    · rename_i hk
      obtain ⟨v, h1, h2⟩ := Out.go_fac h
      obtain ⟨e', S', h3, h4⟩ := ih _ _ _ _ _ h2
      exact ⟨e', S', fun k' => by rw [evalOps]; simp only [hk]; rw [h1]; exact h3 k', h4⟩
    · rename_i hk
      obtain ⟨v, h1, h2⟩ := Out.go_fac h
      obtain ⟨e', S', h3, h4⟩ := ih _ _ _ _ _ h2
      exact ⟨e', S', fun k' => by rw [evalOps]; simp only [hk]; rw [h1]; exact h3 k', h4⟩
    · rename_i hk
      obtain ⟨v, ob, h1, h2⟩ := OutN.go_fac h
      obtain ⟨e', S', h3, h4⟩ := ih _ _ _ _ _ h2
      exact ⟨e', S', fun k' => by rw [evalOps]; simp only [hk]; rw [h1]; exact h3 k', h4⟩
    · rename_i hk
      split at h
      · cases h
      · rename_i hs
        obtain ⟨v, S1, h1, h2⟩ := OutM.go_fac h
        obtain ⟨e', S', h3, h4⟩ := ih _ _ _ _ _ h2
        exact ⟨e', S', fun k' => by rw [evalOps]; simp only [hk]; rw [if_neg hs, h1]; exact h3 k', h4⟩
    · rename_i hk
      split at h
      · cases h
      · rename_i hs
        obtain ⟨v, S1, g, h1, h2⟩ := OutA.go_fac h
        obtain ⟨e', S', h3, h4⟩ := ih _ _ _ _ _ h2
        exact ⟨e', S', fun k' => by rw [evalOps]; simp only [hk]; rw [if_neg hs, h1]; exact h3 k', h4⟩
    · rename_i hk
      obtain ⟨v, h1, h2⟩ := Out.go_fac h
      obtain ⟨e', S', h3, h4⟩ := ih _ _ _ _ _ h2
      exact ⟨e', S', fun k' => by rw [evalOps]; simp only [hk]; rw [h1]; exact h3 k', h4⟩
    · rename_i hk
      split at h
      · rename_i d xs strict hc
        obtain ⟨v, h1, h2⟩ := Out.go_fac h
        obtain ⟨e', S', h3, h4⟩ := ih _ _ _ _ _ h2
        exact ⟨e', S', fun k' => by rw [evalOps]; simp only [hk, hc]; rw [h1]; exact h3 k', h4⟩
      · rename_i g xs hc
        split at h
        · rename_i q hq
          obtain ⟨v, h1, h2⟩ := Out.go_fac h
          obtain ⟨e', S', h3, h4⟩ := ih _ _ _ _ _ h2
          exact ⟨e', S', fun k' => by rw [evalOps]; simp only [hk, hc, hq]; rw [h1]; exact h3 k', h4⟩
        rename_i hq
        split at h
        · cases h
        rename_i hs
        split at h
        · rename_i v S1 hv
          obtain ⟨e', S', h3, h4⟩ := ih _ _ _ _ _ h
          exact ⟨e', S', fun k' => by rw [evalOps]; simp only [hk, hc, hq]; rw [if_neg hs, hv]; exact h3 k', h4⟩
        · cases h
      · cases h
    · cases h

theorem caseB_fac {R : Type} {a : AV} {y n : Option R} {x : R} (h : caseB a y n = some x) : ((∀ {Q : Type} (y' n' : Option Q), caseB a y' n' = y') ∧ y = some x) ∨ ((∀ {Q : Type} (y' n' : Option Q), caseB a y' n' = n') ∧ n = some x) := by
  unfold caseB at h
  split at h
  · split at h
    · rename_i hb; exact .inl ⟨fun y' n' => by simp [caseB, hb], h⟩
    · rename_i hb; exact .inr ⟨fun y' n' => by simp [caseB, hb], h⟩
    · cases h
  · cases h

theorem exec_fac {h : Hints} {L : Nat} {f : FuncId} : ∀ (c : Code) {R : Type} (e : Env) (S : Store) (k : Ex → Env → Store → Option R) (x : R), exec P C h L f c e S k = some x →
    ∃ t e' S', (∀ {Q : Type} (k' : Ex → Env → Store → Option Q), exec P C h L f c e S k' = k' t e' S') ∧ k t e' S' = some x := by
  have pr : ∀ (J : Option Join) (n : Nat) (t : Ex) (e : Env) (S : Store), ∃ e' S', ∀ {Q : Type} (k : Ex → Env → Store → Option Q), prune J n k t e S = k t e' S' := by
    intro J n t e S
    cases J with
    | none => exact ⟨e, S, fun k => rfl⟩
    | some j => exact ⟨_, _, fun k => rfl⟩
  intro c
  induction c with
  | skip => intro R e S k x he; rw [exec] at he; exact ⟨.normal, e, S, fun k' => by rw [exec], he⟩
  | label l => intro R e S k x he; rw [exec] at he; exact ⟨.normal, e, S, fun k' => by rw [exec], he⟩
  | exit id => intro R e S k x he; rw [exec] at he; exact ⟨.exit id, e, S, fun k' => by rw [exec], he⟩
  | ret => intro R e S k x he; rw [exec] at he; exact ⟨.ret, e, S, fun k' => by rw [exec], he⟩
  | region id ops draw =>
    intro R e S k x he
    rw [exec] at he
    obtain ⟨e1, S1, h1, h2⟩ := evalOps_fac _ _ _ _ _ _ he
    obtain ⟨e2, S2, h3⟩ := pr (h.join f (4 * (id + 1) + 3)) S.length .normal e1 S1
    exact ⟨.normal, e2, S2, fun k' => by rw [exec, h1, h3], by rw [h3] at h2; exact h2⟩
  | seq a b iha ihb =>
    intro R e S k x he
    rw [exec] at he
    obtain ⟨t, e1, S1, h1, h2⟩ := iha _ _ _ _ he
    cases t with
    | normal =>
      obtain ⟨t2, e2, S2, h3, h4⟩ := ihb _ _ _ _ h2
      exact ⟨t2, e2, S2, fun k' => by rw [exec, h1]; exact h3 k', h4⟩
    | exit id => exact ⟨.exit id, e1, S1, fun k' => by rw [exec, h1]; rfl, h2⟩
    | ret => exact ⟨.ret, e1, S1, fun k' => by rw [exec, h1]; rfl, h2⟩
  | cond cnd a b iha ihb =>
    intro R e S k x he
    rw [exec] at he
    rcases caseB_fac he with ⟨h1, h2⟩ | ⟨h1, h2⟩
    · obtain ⟨t, e1, S1, h3, h4⟩ := iha _ _ _ _ h2
      obtain ⟨e2, S2, h5⟩ := pr (h.join f (spotOf (.cond cnd a b))) S.length t e1 S1
      exact ⟨t, e2, S2, fun k' => by rw [exec, h1, h3, h5], by rw [h5] at h4; exact h4⟩
    · obtain ⟨t, e1, S1, h3, h4⟩ := ihb _ _ _ _ h2
      obtain ⟨e2, S2, h5⟩ := pr (h.join f (spotOf (.cond cnd a b))) S.length t e1 S1
      exact ⟨t, e2, S2, fun k' => by rw [exec, h1, h3, h5], by rw [h5] at h4; exact h4⟩
  | block id bd ih =>
    intro R e S k x he
    rw [exec] at he
    obtain ⟨t, e1, S1, h1, h2⟩ := ih _ _ _ _ he
    have lv : ∃ t', ∀ {Q : Type} (k : Ex → Env → Store → Option Q), leaveB id k t e1 S1 = k t' e1 S1 := by
      cases t with
      | normal => exact ⟨.normal, fun k => rfl⟩
      | ret => exact ⟨.ret, fun k => rfl⟩
      | exit i =>
        by_cases hi : i = id
        · exact ⟨.normal, fun k => by simp [leaveB, hi]⟩
        · exact ⟨.exit i, fun k => by simp [leaveB, hi]⟩
    obtain ⟨t', h3⟩ := lv
    obtain ⟨e2, S2, h5⟩ := pr (h.join f (spotOf (.block id bd))) S.length t' e1 S1
    exact ⟨t', e2, S2, fun k' => by rw [exec, h1, h3, h5], by rw [h3, h5] at h2; exact h2⟩
  | loop bd ih =>
    intro R e S k x he
    rw [exec] at he
    have key : ∀ (live : List Tmp) (n : Nat) (J : Option Join) (N : Nat) (e : Env) (S : Store) (k : Ex → Env → Store → Option R), iter (exec P C h L f bd (R := R)) live n (prune J n k) N e S = some x →
        ∃ t e' S', (∀ {Q : Type} (k' : Ex → Env → Store → Option Q), iter (exec P C h L f bd (R := Q)) live n (prune J n k') N e S = k' t e' S') ∧ k t e' S' = some x := by
      intro live n J N
      induction N with
      | zero => intro e S k hi; simp [iter] at hi
      | succ N ihN =>
        intro e S k hi
        rw [iter] at hi
        obtain ⟨t, e1, S1, h1, h2⟩ := ih _ _ _ _ hi
        cases t with
        | normal =>
          obtain ⟨t2, e2, S2, h3, h4⟩ := ihN _ _ _ h2
          exact ⟨t2, e2, S2, fun k' => by rw [iter, h1]; exact h3 k', h4⟩
        | exit id =>
          obtain ⟨e2, S2, h5⟩ := pr J n (.exit id) e1 S1
          exact ⟨.exit id, e2, S2, fun k' => by rw [iter, h1]; exact h5 k', by simp only [next] at h2; rw [h5] at h2; exact h2⟩
        | ret =>
          obtain ⟨e2, S2, h5⟩ := pr J n .ret e1 S1
          exact ⟨.ret, e2, S2, fun k' => by rw [iter, h1]; exact h5 k', by simp only [next] at h2; rw [h5] at h2; exact h2⟩
    obtain ⟨t, e', S', h1, h2⟩ := key _ _ _ _ _ _ _ he
    exact ⟨t, e', S', fun k' => by rw [exec]; exact h1 k', h2⟩
  | scope bd ih =>
    intro R e S k x he
    rw [exec] at he
    obtain ⟨t, e1, S1, h1, h2⟩ := ih _ _ _ _ he
    exact ⟨t, e1, S1, fun k' => by rw [exec, h1], h2⟩
  | _ => intro R e S k x he; simp [exec] at he

theorem bodyK_fac {h : Hints} {L : Nat} {f : FuncId} {args : List AV} {S : Store} {R : Type} {fin : AV → Store → Option R} {x : R} (he : bodyK P C h L f args S fin = some x) :
    ∃ v S', body P C h L f args S = some (v, S') ∧ fin v S' = some x := by
  unfold bodyK at he
  unfold body bodyK
  split at he
  · cases he
  · rename_i fn hf
    simp only
    split at he
    · cases he
    · rename_i c hc
      split at he
      · cases he
      · rename_i hn
        rw [if_neg hn]
        obtain ⟨t, e1, S1, h1, h2⟩ := exec_fac _ _ _ _ _ he
        rw [h1]
        cases t with
        | exit id => cases h2
        | normal =>
          simp only at h2 ⊢
          split at h2
          · rename_i v hv; exact ⟨v, S1, rfl, h2⟩
          · cases h2
        | ret =>
          simp only at h2 ⊢
          split at h2
          · rename_i v hv; exact ⟨v, S1, rfl, h2⟩
          · cases h2
end
end Go.Lite

namespace Go.Lite
open Go

/-! # the evaluator, told so that a guard is looked at first -/
theorem Env.setF_get : ∀ (n : Nat) (e : Env) (t : Nat), t < n → e.get t ≠ .dead → Env.setF n e t (e.get t) = e := by
  intro n
  induction n with
  | zero => intro e t h; omega
  | succ n ih =>
    intro e t h hd
    cases e with
    | nil => exact absurd rfl hd
    | node v l r =>
      simp only [Env.setF, Env.get]
      by_cases h0 : t = 0
      · simp [h0]
      · by_cases h1 : t % 2 = 1
        · simp only [h0, h1, if_true, if_false]
          simp only [Env.get, h0, h1, if_true, if_false] at hd
          rw [ih l (t / 2) (by omega) hd]
        · simp only [h0, h1, if_false]
          simp only [Env.get, h0, h1, if_false] at hd
          rw [ih r (t / 2 - 1) (by omega) hd]
theorem Env.set_get {e : Env} {t : Nat} {d : PV} (h : e.get t = .pv d) : e.set t (.pv d) = e := by
  rw [← h]; exact Env.setF_get _ _ _ (by omega) (by rw [h]; simp)

def gcase {R : Type} (w : Bool) (d : PV) (y n u : Option R) : Option R :=
  match d with
  | .sc (.bool b) => (match b, w with | true, true => y | false, false => y | _, _ => n)
  | .tup [] => u
  | _ => none

def noK (h : Hints) : Kallee := ⟨fun f as => (match h.prim f with | some q => q as | none => none), fun _ _ _ => none, fun _ _ _ => none, fun _ _ => none, h.calmB, h.primS⟩
/-- a call that is handed the objects -/
def sharedK {R : Type} (P : Program) (H : Hints) (L : Nat) (K : Kallee) (g : FuncId) (as : List AV) (S : Store) (k : AV → Store → Option R) : Option R :=
  match H.primS g with
  | some q => (Out.p (q as S)).go fun v => k v S
  | none => match H.meth g with
    | some mk => methK mk K.meth g as S k
    | none => match H.ownF g with
      | some sp => ownK2 (H.rel g) sp K.own g as S k
      | none => match H.inl g with
        | true => bodyK P (noK H) H L g as S k
        | false => (match K.shared g as S with
          | some (v, S') => k v S'
          | none => none)
/-- the calls are as the hints say -/
structure KIs (P : Program) (H : Hints) (L : Nat) (K : Kallee) : Prop where
  prim : ∀ g q, H.primS g = some q → ∀ as S d, q as S = some d → K.shared g as S = some (.pv d, S)
  meth : ∀ g mk, H.primS g = none → H.meth g = some mk → ∀ as S r, methK mk K.meth g as S (fun v S => some (v, S)) = some r → K.shared g as S = some r
  own : ∀ g sp, H.primS g = none → H.meth g = none → H.ownF g = some sp → ∀ as S r, ownK2 (H.rel g) sp K.own g as S (fun v S => some (v, S)) = some r → K.shared g as S = some r
  inl : ∀ g, H.primS g = none → H.meth g = none → H.ownF g = none → ∀ as S r, body P (noK H) H L g as S = some r → K.shared g as S = some r
  calm : ∀ g as, K.calm g as = H.calmB g as
  read : ∀ g, K.read g = H.primS g
theorem ownK_some {R : Type} {sp : OwnSp} {own : FuncId → List OV → Option (List OV)} {g : FuncId} {as : List AV} {S : Store} {k : AV → Store → Option R} {x : R} (h : ownK sp own g as S k = some x) :
    ∃ v S', k v S' = some x ∧ ownK sp own g as S (fun v S => some (v, S)) = some (v, S') := by
  unfold ownK at h ⊢
  split at h
  · obtain ⟨hc, h⟩ := ckB_some h
    obtain ⟨r, hr, h⟩ := oo_some h
    obtain ⟨h1, h2⟩ := shO_some h
    refine ⟨_, _, h2, ?_⟩
    simp only [hc, ckB, hr, oo]
    rw [shO_of _ _ _ h1]
  · cases h
theorem ownK2_some {R : Type} {b : Bool} {sp : OwnSp} {own : FuncId → List OV → Option (List OV)} {g : FuncId} {as : List AV} {S : Store} {k : AV → Store → Option R} {x : R} (h : ownK2 b sp own g as S k = some x) :
    ∃ v S', k v S' = some x ∧ ownK2 b sp own g as S (fun v S => some (v, S)) = some (v, S') := by
  unfold ownK2 at h ⊢
  obtain ⟨v, S', h1, h2⟩ := ownK_ret h
  exact ⟨_, _, h1, h2 _⟩
theorem sharedK_some {R : Type} {P : Program} {H : Hints} {L : Nat} {K : Kallee} (hK : KIs P H L K) {g : FuncId} {as : List AV} {S : Store} {k : AV → Store → Option R} {x : R} (h : sharedK P H L K g as S k = some x) : ∃ v S', K.shared g as S = some (v, S') ∧ k v S' = some x := by
  unfold sharedK at h
  split at h
  · rename_i q hq
    cases hd : q as S with
    | none => rw [hd] at h; simp [Out.go] at h
    | some d => rw [hd] at h; exact ⟨_, _, hK.prim g q hq as S d hd, h⟩
  · rename_i hq
    split at h
    · rename_i mk hm
      obtain ⟨v, S', _, h2, h3⟩ := methK_some h
      exact ⟨v, S', hK.meth g mk hq hm as S _ h3, h2⟩
    · rename_i hm
      split at h
      · rename_i sp hsp
        obtain ⟨v, S', h2, h3⟩ := ownK2_some h
        exact ⟨v, S', hK.own g sp hq hm hsp as S _ h3, h2⟩
      · rename_i hsp
        split at h
        · obtain ⟨v, S', h1, h2⟩ := bodyK_fac h
          exact ⟨v, S', hK.inl g hq hm hsp as S _ h1, h2⟩
        · split at h
          · rename_i v S' hv; exact ⟨v, S', hv, h⟩
          · cases h
/-- one operation, its guard being known -/
def step1 (P : Program) (K : Kallee) (H : Hints) (L : Nat) (hint : Tmp → Option Nat) (shared : FuncId → Bool) (draw : Bool) (ops : Array Oper) {R : Type} (o : Oper) (i : Nat) (e : Env) (S : Store) (g : Bool) (cont : Env → Store → Option R) : Option R :=
  match kindOf (o.dst.bind hint) o with
  | .valP => (match g with | true => Out.p (opVPN P e S o) | false => .p (some (.tup []))).go fun v => cont (e.put o.dst v) S
  | .val => (match g with | true => opVO P e S o | false => .p (some (.tup []))).go fun v => cont (e.put o.dst v) S
  | .new => (match g with | true => opNO P (o.dst.bind hint) S.length e S o | false => .gen (some (undefA, .gone))).go fun v ob => cont (e.put o.dst v) (S ++ [ob])
  | .mut => if draw && !settledM hint ops i e then none else (match g with | true => opMO P e S o | false => .gen (some (undefA, S))).go S fun v S' => cont (e.put o.dst v) S'
  | .app => if draw && !settled ops i then none else (match g with | true => opAO P e S o | false => .gen (some (undefA, S, none))).go S fun v S' g => cont ((e.map (AV.looseO g)).put o.dst v) (S'.map (Ob.mapV (AV.looseO g)))
  | .appP => (match g with | true => Out.p (opAP P e o) | false => .p (some (.tup []))).go fun v => cont (e.put o.dst v) S
  | .call => match opC (shAt (o.dst.bind hint) shared) e S o with
    | some (.inl (d, as, strict)) => (match g with | true => Out.p (callD K.pure d as strict) | false => .p (some (.tup []))).go fun v => cont (e.put o.dst v) S
    | some (.inr (gf, as)) => match H.primS gf with
      | some q => (match g with | true => Out.p (q as S) | false => .p (some (.tup []))).go fun v => cont (e.put o.dst v) S
      | none => if draw && !settled ops i then none else match g with
        | false => cont ((e.map (staleK (H.calmB gf as) S S)).put o.dst undefA) S
        | true => sharedK P H L K gf as S fun v S' => cont ((e.map (staleK (H.calmB gf as) S S')).put o.dst v) S'
    | none => none
  | .bad => none

def evalOpsR (P : Program) (K : Kallee) (H : Hints) (L : Nat) (hint : Tmp → Option Nat) (shared : FuncId → Bool) (draw : Bool) (ops : Array Oper) {R : Type} :
    List Oper → Nat → Env → Store → (Env → Store → Option R) → Option R
  | [], _, e, S, k => k e S
  | o :: rest, i, e, S, k =>
    match o.guard with
    | none => step1 P K H L hint shared draw ops o i e S true fun e S => evalOpsR P K H L hint shared draw ops rest (i + 1) e S k
    | some (j, w) =>
      match (ops[j]?).bind (·.dst) with
      | none => step1 P K H L hint shared draw ops o i e S false fun e S => evalOpsR P K H L hint shared draw ops rest (i + 1) e S k
      | some t => match e.get t with
        | .pv d => gcase w d
          (step1 P K H L hint shared draw ops o i (e.set t (.pv (.sc (.bool w)))) S true fun e S => evalOpsR P K H L hint shared draw ops rest (i + 1) e S k)
          (step1 P K H L hint shared draw ops o i (e.set t (.pv (.sc (.bool (!w))))) S false fun e S => evalOpsR P K H L hint shared draw ops rest (i + 1) e S k)
          (step1 P K H L hint shared draw ops o i (e.set t (.pv (.tup []))) S false fun e S => evalOpsR P K H L hint shared draw ops rest (i + 1) e S k)
        | _ => none

section
variable {P : Program} {K : Kallee} {H : Hints} {L : Nat} {hint : Tmp → Option Nat} {shared : FuncId → Bool} {draw : Bool} {ops : Array Oper} {R : Type}

/-- what a guard comes to -/
def GuardIs (ops : Array Oper) (e : Env) (o : Oper) (g : Bool) : Prop :=
  match o.guard with
  | none => g = true
  | some (j, w) => guardAV ops e j w = some g

theorem guarded_is {α : Type} {e : Env} {o : Oper} {g : Bool} (hg : GuardIs ops e o g) (x : Option α) (d : α) : guarded ops e o x d = (match g with | true => x | false => some d) := by
  unfold GuardIs at hg
  unfold guarded
  split at hg
  · subst hg; rename_i h; simp [h]
  · rename_i j w h; simp only [h, hg]; cases g <;> rfl
theorem Out.guard_is {e : Env} {o : Oper} {g : Bool} (hg : GuardIs ops e o g) (x : Out) (F : AV → Option R) : (x.guard ops e o).go F = (match g with | true => x | false => Out.p (some (.tup []))).go F := by
  unfold GuardIs at hg
  unfold Out.guard
  split at hg
  · subst hg; rename_i h; simp [h]
  · rename_i j w h
    simp only [h, hg]
    cases g with
    | true => cases x with
      | p y => cases y <;> rfl
      | a y => cases y <;> rfl
      | n y id => cases y <;> rfl
      | s y id => cases y <;> rfl
    | false => cases x <;> simp [guardP, Out.go, undefA]
theorem Out.go_mono {o : Out} {F F' : AV → Option R} {x : R} (h : o.go F = some x) (hF : ∀ v, F v = some x → F' v = some x) : o.go F' = some x := by
  cases o with
  | p y => cases y with
    | none => simp [Out.go] at h
    | some d => exact hF _ h
  | a y => cases y with
    | none => simp [Out.go] at h
    | some d => exact hF _ h
  | n y id => cases y with
    | none => simp [Out.go] at h
    | some d => exact hF _ h
  | s y id => cases y with
    | none => simp [Out.go] at h
    | some d => exact hF _ h
theorem OutN.go_mono {o : OutN} {F F' : AV → Ob → Option R} {x : R} (h : o.go F = some x) (hF : ∀ v ob, F v ob = some x → F' v ob = some x) : o.go F' = some x := by
  cases o with
  | chk c v ob => cases c with
    | true => exact hF _ _ h
    | false => simp [OutN.go] at h
  | arr n lay y => cases y with
    | none => simp [OutN.go] at h
    | some d => exact hF _ _ h
  | arrX n lay y => cases y with
    | none => simp [OutN.go] at h
    | some d => exact hF _ _ h
  | sit n y => cases y with
    | none => simp [OutN.go] at h
    | some d => exact hF _ _ h
  | gen y => cases y with
    | none => simp [OutN.go] at h
    | some d => exact hF _ _ h
theorem OutM.go_mono {S : Store} {o : OutM} {F F' : AV → Store → Option R} {x : R} (h : o.go S F = some x) (hF : ∀ v S', F v S' = some x → F' v S' = some x) : o.go S F' = some x := by
  cases o with
  | mp id y => cases y with
    | none => simp [OutM.go] at h
    | some d => exact hF _ _ h
  | cellA id l0 c v => cases c with
    | false => simp [OutM.go] at h
    | true => exact hF _ _ h
  | cell id l0 y => cases y with
    | none => simp [OutM.go] at h
    | some d => exact hF _ _ h
  | elem id l0 y => cases y with
    | none => simp [OutM.go] at h
    | some d => exact hF _ _ h
  | gen y => cases y with
    | none => simp [OutM.go] at h
    | some d => exact hF _ _ h
theorem OutA.go_mono {S : Store} {o : OutA} {F F' : AV → Store → Option Nat → Option R} {x : R} (h : o.go S F = some x) (hF : ∀ v S' g, F v S' g = some x → F' v S' g = some x) : o.go S F' = some x := by
  cases o with
  | own id l0 ex y => cases y with
    | none => simp [OutA.go] at h
    | some d => exact hF _ _ _ h
  | p y => cases y with
    | none => simp [OutA.go] at h
    | some d => exact hF _ _ _ h
  | gen y => cases y with
    | none => simp [OutA.go] at h
    | some d => exact hF _ _ _ h

theorem step1_imp (hK : KIs P H L K) {o : Oper} {rest : List Oper} {i : Nat} {e : Env} {S : Store} {g : Bool} {cont : Env → Store → Option R} {k : Env → Store → Option R} {x : R}
    (hg : GuardIs ops e o g) (h : step1 P K H L hint shared draw ops o i e S g cont = some x)
    (hc : ∀ e S, cont e S = some x → evalOps P K hint shared draw ops rest (i + 1) e S k = some x) :
    evalOps P K hint shared draw ops (o :: rest) i e S k = some x := by
  rw [evalOps]
  unfold step1 at h
  split at h
  · rename_i hk; simp only [hk]
    rw [Out.guard_is hg]
    exact Out.go_mono h fun v hv => hc _ _ hv
  · rename_i hk; simp only [hk]
    rw [Out.guard_is hg]
    exact Out.go_mono h fun v hv => hc _ _ hv
  · rename_i hk; simp only [hk]
    have hq := guarded_is hg (opN P (o.dst.bind hint) S.length e S o) (undefA, .gone)
    split
    · rename_i hn
      have : g = true := by unfold GuardIs at hg; rw [hn] at hg; exact hg
      subst this
      exact OutN.go_mono h fun v ob hv => hc _ _ hv
    · rename_i hn
      rw [hq]
      cases g with
      | true =>
        obtain ⟨v, ob, h1, h2⟩ := opNO_imp h
        simp only [h1, OutN.go]
        exact hc _ _ h2
      | false => exact OutN.go_mono h fun v ob hv => hc _ _ hv
  · rename_i hk; simp only [hk]
    have hq := guarded_is hg (opM P e S o) (undefA, S)
    split at h
    · simp at h
    rename_i hs
    rw [if_neg hs]
    split
    · rename_i hn
      have : g = true := by unfold GuardIs at hg; rw [hn] at hg; exact hg
      subst this
      exact OutM.go_mono h fun v ob hv => hc _ _ hv
    · rename_i hn
      rw [hq]
      cases g with
      | true =>
        obtain ⟨v, S', h1, h2⟩ := opMO_imp h
        simp only [h1, OutM.go]
        exact hc _ _ h2
      | false => exact OutM.go_mono h fun v ob hv => hc _ _ hv
  · rename_i hk; simp only [hk]
    have hq := guarded_is hg (opA P e S o) (undefA, S, none)
    split at h
    · simp at h
    rename_i hs
    rw [if_neg hs]
    split
    · rename_i hn
      have : g = true := by unfold GuardIs at hg; rw [hn] at hg; exact hg
      subst this
      exact OutA.go_mono h fun v ob _ hv => hc _ _ hv
    · rename_i hn
      rw [hq]
      cases g with
      | true =>
        obtain ⟨v, S', g', h1, h2⟩ := opAO_imp h
        simp only [h1, OutA.go]
        exact hc _ _ h2
      | false => exact OutA.go_mono h fun v ob _ hv => hc _ _ hv
  · rename_i hk; simp only [hk]
    rw [Out.guard_is hg]
    exact Out.go_mono h fun v hv => hc _ _ hv
  · rename_i hk; simp only [hk]
    split at h
    · rename_i d as strict hC
      simp only [hC]
      rw [Out.guard_is hg]
      exact Out.go_mono h fun v hv => hc _ _ hv
    · rename_i gf as hC
      simp only [hC, hK.read gf]
      split at h
      · rename_i q hq
        simp only [hq]
        rw [Out.guard_is hg]
        exact Out.go_mono h fun v hv => hc _ _ hv
      rename_i hq
      simp only [hq]
      split at h
      · simp at h
      rename_i hs
      rw [if_neg hs, guarded_is hg]
      rw [← hK.calm gf as] at h
      cases g with
      | true =>
        simp only at h ⊢
        obtain ⟨v, S', h1, h2⟩ := sharedK_some hK h
        rw [h1]; exact hc _ _ h2
      | false => exact hc _ _ h
    · simp at h
  · simp at h

theorem gcase_some {w : Bool} {d : PV} {y n u : Option R} {x : R} (h : gcase w d y n u = some x) : (d = .sc (.bool w) ∧ y = some x) ∨ (d = .sc (.bool (!w)) ∧ n = some x) ∨ (d = .tup [] ∧ u = some x) := by
  unfold gcase at h
  split at h
  · rename_i b
    cases b <;> cases w <;> simp at h <;> simp [h]
  · exact .inr (.inr ⟨rfl, h⟩)
  · simp at h

theorem evalOpsR_imp (hK : KIs P H L K) {x : R} : ∀ (l : List Oper) (i : Nat) (e : Env) (S : Store) (k k' : Env → Store → Option R),
    evalOpsR P K H L hint shared draw ops l i e S k = some x → (∀ e S, k e S = some x → k' e S = some x) → evalOps P K hint shared draw ops l i e S k' = some x := by
  intro l
  induction l with
  | nil => intro i e S k k' h hk; rw [evalOps]; rw [evalOpsR] at h; exact hk _ _ h
  | cons o rest ih =>
    intro i e S k k' h hk
    rw [evalOpsR] at h
    split at h
    · rename_i hn
      exact step1_imp hK (by unfold GuardIs; rw [hn]) h fun e S hc => ih _ _ _ _ _ hc hk
    · rename_i j w hn
      split at h
      · rename_i hd
        exact step1_imp hK (by unfold GuardIs; rw [hn]; simp only [guardAV, hd]) h fun e S hc => ih _ _ _ _ _ hc hk
      · rename_i t hd
        split at h
        · rename_i d hg
          rcases gcase_some h with ⟨rfl, h'⟩ | ⟨rfl, h'⟩ | ⟨rfl, h'⟩
          · rw [Env.set_get hg] at h'
            exact step1_imp hK (by unfold GuardIs; rw [hn]; simp only [guardAV, hd, hg, guardPV]; simp) h' fun e S hc => ih _ _ _ _ _ hc hk
          · rw [Env.set_get hg] at h'
            exact step1_imp hK (by unfold GuardIs; rw [hn]; simp only [guardAV, hd, hg, guardPV]; cases w <;> simp) h' fun e S hc => ih _ _ _ _ _ hc hk
          · rw [Env.set_get hg] at h'
            exact step1_imp hK (by unfold GuardIs; rw [hn]; simp only [guardAV, hd, hg, guardPV]) h' fun e S hc => ih _ _ _ _ _ hc hk
        · simp at h
end

def execR (P : Program) (K : Kallee) (h : Hints) (L : Nat) (f : FuncId) : Code → {R : Type} → Env → Store → (Ex → Env → Store → Option R) → Option R
  | .skip, _, e, S, k => k .normal e S
  | .label _, _, e, S, k => k .normal e S
  | .region id ops draw, _, e, S, k => evalOpsR P K h L (h.own f) h.shared draw ops ops.toList 0 (enter (h.join f (4 * (id + 1) + 3)) e) (sealL e (h.stil f id) S) (prune (h.join f (4 * (id + 1) + 3)) S.length k .normal)
  | .seq a b, _, e, S, k => execR P K h L f a e S (next (fun e S => execR P K h L f b e S k) k)
  | .cond c a b, _, e, S, k =>
    caseB (opnd (enter (h.join f (spotOf (.cond c a b))) e) c)
      (execR P K h L f a (enter (h.join f (spotOf (.cond c a b))) e) S (prune (h.join f (spotOf (.cond c a b))) S.length k))
      (execR P K h L f b (enter (h.join f (spotOf (.cond c a b))) e) S (prune (h.join f (spotOf (.cond c a b))) S.length k))
  | .block id bd, _, e, S, k => execR P K h L f bd (enter (h.join f (spotOf (.block id bd))) e) S (leaveB id (prune (h.join f (spotOf (.block id bd))) S.length k))
  | .loop bd, _, e, S, k =>
    iter (execR P K h L f bd) (h.live f ((firstRegion bd).getD 0)) S.length (prune (h.join f (spotOf (.loop bd))) S.length k) L (e.pick (h.live f ((firstRegion bd).getD 0))) S
  | .exit id, _, e, S, k => k (.exit id) e S
  | .ret, _, e, S, k => k .ret e S
  | .scope bd, _, e, S, k => execR P K h L f bd e S k
  | _, _, _, _, _ => none

theorem prune_mono {R : Type} {J : Option Join} {n : Nat} {k k' : Ex → Env → Store → Option R} {x : R} (hk : ∀ t e S, k t e S = some x → k' t e S = some x) : ∀ t e S, prune J n k t e S = some x → prune J n k' t e S = some x := by
  intro t e S h
  cases J with
  | none => exact hk _ _ _ h
  | some j => exact hk _ _ _ h
theorem leaveB_mono {R : Type} {id : Nat} {k k' : Ex → Env → Store → Option R} {x : R} (hk : ∀ t e S, k t e S = some x → k' t e S = some x) : ∀ t e S, leaveB id k t e S = some x → leaveB id k' t e S = some x := by
  intro t e S h
  unfold leaveB at h ⊢
  split at h
  · split at h
    · rename_i h1; rw [if_pos h1]; exact hk _ _ _ h
    · rename_i h1; rw [if_neg h1]; exact hk _ _ _ h
  · exact hk _ _ _ h
theorem caseB_mono {R : Type} {a : AV} {y n y' n' : Option R} {x : R} (h : caseB a y n = some x) (hy : y = some x → y' = some x) (hn : n = some x → n' = some x) : caseB a y' n' = some x := by
  unfold caseB at h ⊢
  split at h
  · split at h
    · exact hy h
    · exact hn h
    · simp at h
  · simp at h

theorem execR_imp {P : Program} {C : Kallee} {h : Hints} {L : Nat} {f : FuncId} (hK : KIs P h L C) : ∀ (c : Code) (R : Type) (e : Env) (S : Store) (k k' : Ex → Env → Store → Option R) (x : R),
    execR P C h L f c e S k = some x → (∀ t e S, k t e S = some x → k' t e S = some x) → exec P C h L f c e S k' = some x := by
  intro c
  induction c with
  | skip => intro R e S k k' x he hk; rw [exec]; rw [execR] at he; exact hk _ _ _ he
  | label l => intro R e S k k' x he hk; rw [exec]; rw [execR] at he; exact hk _ _ _ he
  | exit id => intro R e S k k' x he hk; rw [exec]; rw [execR] at he; exact hk _ _ _ he
  | ret => intro R e S k k' x he hk; rw [exec]; rw [execR] at he; exact hk _ _ _ he
  | region id ops draw => intro R e S k k' x he hk; rw [exec]; rw [execR] at he; exact evalOpsR_imp hK _ _ _ _ _ _ he fun e S => prune_mono hk .normal e S
  | seq a b iha ihb =>
    intro R e S k k' x he hk
    rw [exec]; rw [execR] at he
    refine iha _ _ _ _ _ _ he fun t e S ht => ?_
    cases t with
    | normal => exact ihb _ _ _ _ _ _ ht hk
    | exit id => exact hk _ _ _ ht
    | ret => exact hk _ _ _ ht
  | cond cnd a b iha ihb =>
    intro R e S k k' x he hk
    rw [exec]; rw [execR] at he
    exact caseB_mono he (fun h => iha _ _ _ _ _ _ h (prune_mono hk)) (fun h => ihb _ _ _ _ _ _ h (prune_mono hk))
  | block id bd ih =>
    intro R e S k k' x he hk
    rw [exec]; rw [execR] at he
    exact ih _ _ _ _ _ _ he (leaveB_mono (prune_mono hk))
  | loop bd ih =>
    intro R e S k k' x he hk
    rw [exec]; rw [execR] at he
    generalize h.live f ((firstRegion bd).getD 0) = live at he ⊢
    generalize hn : S.length = n at he ⊢
    generalize e.pick live = e0 at he ⊢
    have hkk := prune_mono (J := h.join f (spotOf (.loop bd))) (n := n) hk
    generalize prune (h.join f (spotOf (.loop bd))) n k = kk at he hkk
    generalize prune (h.join f (spotOf (.loop bd))) n k' = kk' at hkk ⊢
    have key : ∀ (N : Nat) (e : Env) (S : Store), iter (execR P C h L f bd (R := R)) live n kk N e S = some x → iter (exec P C h L f bd (R := R)) live n kk' N e S = some x := by
      intro N
      induction N with
      | zero => intro e S h; simp [iter] at h
      | succ N ihN =>
        intro e S h
        rw [iter] at h ⊢
        refine ih _ _ _ _ _ _ h fun t e S ht => ?_
        cases t with
        | normal => exact ihN _ _ ht
        | exit id => exact hkk _ _ _ ht
        | ret => exact hkk _ _ _ ht
    exact key _ _ _ he
  | scope bd ih =>
    intro R e S k k' x he hk
    rw [exec]; rw [execR] at he
    exact ih _ _ _ _ _ _ he hk
  | _ => intro R e S k k' x he; simp [execR] at he

def nextT {R : Type} (P : Program) (C : Kallee) (h : Hints) (L : Nat) (f : FuncId) (c : Code) (K : Ex → Env → Store → Option R) : Ex → Env → Store → Option R := next (fun e S => execR P C h L f c e S K) K

def bodyPR (P : Program) (K : Kallee) (h : Hints) (L : Nat) (f : FuncId) (args : List PV) : Option PV :=
  match P.funcs[f]? with
  | none => none
  | some fn =>
    match fn.body with
    | none => none
    | some c =>
      if fn.name == "runtime.NumGoroutine" || decide (fn.ntmps < args.length) then none else
      execR P K h L f c (Env.ofArgs (args.map .pv) 0 .nil) [] (endP P fn)

theorem bodyPR_eq {P : Program} {K : Kallee} {h : Hints} {L : Nat} {f : FuncId} {fn : Func} {c : Code} (args : List PV) (hf : P.funcs[f]? = some fn) (hb : fn.body = some c) (hn : (fn.name == "runtime.NumGoroutine" || decide (fn.ntmps < args.length)) = false) :
    bodyPR P K h L f args = execR P K h L f c (Env.ofArgs (args.map .pv) 0 .nil) [] (endP P fn) := by
  unfold bodyPR
  simp only [hf, hb]
  rw [hn]; simp

theorem bodyPR_imp {P : Program} {K : Kallee} {h : Hints} {L : Nat} {f : FuncId} {args : List PV} {x : PV} (hK : KIs P h L K) (he : bodyPR P K h L f args = some x) : bodyP P K h L f args = some x := by
  unfold bodyPR at he
  unfold bodyP bodyK
  split at he
  · simp at he
  · rename_i fn hf
    simp only [hf]
    split at he
    · simp at he
    · rename_i c hc
      simp only [hc]
      split at he
      · simp at he
      · rename_i hn
        rw [List.length_map, if_neg hn]
        refine execR_imp hK _ _ _ _ _ _ _ he fun t e S ht => ?_
        unfold endP at ht
        exact ht
/-! # methods -/
def endM (P : Program) (fn : Func) (root : Bool) : Ex → Env → Store → Option (MR × List FV) := fun x e S =>
  match x with
  | .exit _ => none
  | _ => (match resultsAV P fn e S with | some v => finM root v S | none => none)
def bodyMR (P : Program) (K : Kallee) (h : Hints) (L : Nat) (f : FuncId) (d : Option (List FV)) (args : List PV) : Option (MR × List FV) :=
  match P.funcs[f]? with
  | none => none
  | some fn =>
    match fn.body with
    | none => none
    | some c =>
      if fn.name == "runtime.NumGoroutine" || decide (fn.ntmps < (startM d args).1.length) then none else
      execR P K h L f c (Env.ofArgs (startM d args).1 0 .nil) (startM d args).2 (endM P fn d.isSome)
theorem bodyMR_eq {P : Program} {K : Kallee} {h : Hints} {L : Nat} {f : FuncId} {fn : Func} {c : Code} (d : Option (List FV)) (args : List PV) (hf : P.funcs[f]? = some fn) (hb : fn.body = some c)
    (hn : (fn.name == "runtime.NumGoroutine" || decide (fn.ntmps < (startM d args).1.length)) = false) :
    bodyMR P K h L f d args = execR P K h L f c (Env.ofArgs (startM d args).1 0 .nil) (startM d args).2 (endM P fn d.isSome) := by
  unfold bodyMR
  simp only [hf, hb]
  rw [hn]; simp
theorem bodyMR_imp {P : Program} {K : Kallee} {h : Hints} {L : Nat} {f : FuncId} {d : Option (List FV)} {args : List PV} {x : MR × List FV} (hK : KIs P h L K) (he : bodyMR P K h L f d args = some x) : bodyM P K h L f d args = some x := by
  unfold bodyMR at he
  unfold bodyM bodyK
  split at he
  · simp at he
  · rename_i fn hf
    simp only [hf]
    split at he
    · simp at he
    · rename_i c hc
      simp only [hc]
      split at he
      · simp at he
      · rename_i hn
        rw [if_neg hn]
        refine execR_imp hK _ _ _ _ _ _ _ he fun t e S ht => ?_
        unfold endM at ht
        exact ht
/-! # functions that take arrays for their own -/
def endO (P : Program) (fn : Func) (sp : OwnSp) (le : List (Nat × Nat × Nat)) : Ex → Env → Store → Option (List OV) := fun x e S =>
  match x with
  | .exit _ => none
  | _ => (match resultsAV P fn e S with | some v => finL sp le v S | none => none)
def bodyOR (P : Program) (K : Kallee) (h : Hints) (L : Nat) (f : FuncId) (sp : OwnSp) (os : List OV) : Option (List OV) :=
  match P.funcs[f]? with
  | none => none
  | some fn =>
    match fn.body with
    | none => none
    | some c =>
      if fn.name == "runtime.NumGoroutine" || decide (fn.ntmps < (resO 0 os).1.length) then none else
      execR P K h L f c (Env.ofArgs (resO 0 os).1 0 .nil) (resO 0 os).2 (endO P fn sp (lentIds sp.args os 0))
theorem bodyOR_eq {P : Program} {K : Kallee} {h : Hints} {L : Nat} {f : FuncId} {fn : Func} {c : Code} (sp : OwnSp) (os : List OV) (hf : P.funcs[f]? = some fn) (hb : fn.body = some c)
    (hn : (fn.name == "runtime.NumGoroutine" || decide (fn.ntmps < (resO 0 os).1.length)) = false) :
    bodyOR P K h L f sp os = execR P K h L f c (Env.ofArgs (resO 0 os).1 0 .nil) (resO 0 os).2 (endO P fn sp (lentIds sp.args os 0)) := by
  unfold bodyOR
  simp only [hf, hb]
  rw [hn]; simp
theorem bodyOR_imp {P : Program} {K : Kallee} {h : Hints} {L : Nat} {f : FuncId} {sp : OwnSp} {os : List OV} {x : List OV} (hK : KIs P h L K) (he : bodyOR P K h L f sp os = some x) : bodyO P K h L f sp os = some x := by
  unfold bodyOR at he
  unfold bodyO bodyK
  split at he
  · simp at he
  · rename_i fn hf
    simp only [hf]
    split at he
    · simp at he
    · rename_i c hc
      simp only [hc]
      split at he
      · simp at he
      · rename_i hn
        rw [if_neg hn]
        refine execR_imp hK _ _ _ _ _ _ _ he fun t e S ht => ?_
        unfold endO at ht
        exact ht
end Go.Lite

namespace Go.Lite
open Go

/-! # more depth, more rounds: the same -/
theorem callD_mono {cp cp' : FuncId → List PV → Option PV} (h : ∀ f a r, cp f a = some r → cp' f a = some r) {d : PV} {xs : List PV} {s : Nat} {r : PV} (hr : callD cp d xs s = some r) : callD cp' d xs s = some r := by
  unfold callD at hr ⊢
  split at hr
  · unfold okK at hr ⊢
    split at hr
    · exact h _ _ _ hr
    · split at hr
      · rename_i r' h1
        simp only [h _ _ _ h1]; exact hr
      · cases hr
  · simp at hr

structure KLe (C C' : Kallee) : Prop where
  pure : ∀ f a r, C.pure f a = some r → C'.pure f a = some r
  shared : ∀ f a S r, C.shared f a S = some r → C'.shared f a S = some r
  meth : ∀ f d a r, C.meth f d a = some r → C'.meth f d a = some r
  own : ∀ f os r, C.own f os = some r → C'.own f os = some r
  calm : C.calm = C'.calm
  read : C.read = C'.read

theorem guardP_mono {g : Option Bool} {x y : Option PV} (h : ∀ r, x = some r → y = some r) {r : PV} (hr : guardP g x = some r) : guardP g y = some r := by
  unfold guardP at hr ⊢
  split at hr
  · exact h _ hr
  · exact hr
  · simp at hr

section
variable {P : Program} {C C' : Kallee} {hint : Tmp → Option Nat} {shared : FuncId → Bool} {draw : Bool} {ops : Array Oper} {R : Type}
theorem evalOps_mono (hC : KLe C C') {x : R} : ∀ (l : List Oper) (i : Nat) (e : Env) (S : Store) (k k' : Env → Store → Option R),
    evalOps P C hint shared draw ops l i e S k = some x → (∀ e S, k e S = some x → k' e S = some x) → evalOps P C' hint shared draw ops l i e S k' = some x := by
  intro l
  induction l with
  | nil => intro i e S k k' h hk; rw [evalOps] at h ⊢; exact hk _ _ h
  | cons o rest ih =>
    intro i e S k k' h hk
    rw [evalOps] at h ⊢
    split at h
    · exact Out.go_mono h fun v hv => ih _ _ _ _ _ hv hk
    · exact Out.go_mono h fun v hv => ih _ _ _ _ _ hv hk
    · exact OutN.go_mono h fun v ob hv => ih _ _ _ _ _ hv hk
    · split at h
      · simp at h
      · rename_i hs; rw [if_neg hs]; exact OutM.go_mono h fun v S' hv => ih _ _ _ _ _ hv hk
    · split at h
      · simp at h
      · rename_i hs; rw [if_neg hs]; exact OutA.go_mono h fun v S' g hv => ih _ _ _ _ _ hv hk
    · exact Out.go_mono h fun v hv => ih _ _ _ _ _ hv hk
    · split at h
      · rename_i d xs strict hc
        have : ∀ r, ((Out.p (callD C.pure d xs strict)).guard ops e o).opt = some r → ((Out.p (callD C'.pure d xs strict)).guard ops e o).opt = some r := by
          intro r hr
          unfold Out.guard at hr ⊢
          split at hr
          · simp only [Out.opt, Option.map_eq_some_iff] at hr ⊢
            obtain ⟨d', h1, h2⟩ := hr
            exact ⟨d', callD_mono hC.pure h1, h2⟩
          · simp only [Out.opt, Option.map_eq_some_iff] at hr ⊢
            obtain ⟨d', h1, h2⟩ := hr
            exact ⟨d', guardP_mono (fun r hr => callD_mono hC.pure hr) h1, h2⟩
        obtain ⟨v, hv, h⟩ := go_opt h
        have h2 := this v hv
        have hg : ∀ {o : Out} {v : AV} {F : AV → Option R}, o.opt = some v → F v = some x → o.go F = some x := by
          intro o v F ho hF
          cases o with
          | p y => cases y <;> simp [Out.opt] at ho; subst ho; exact hF
          | a y => simp only [Out.opt] at ho; subst ho; exact hF
          | n y id => cases y <;> simp [Out.opt] at ho; subst ho; exact hF
          | s y id => cases y <;> simp [Out.opt] at ho; subst ho; exact hF
        exact hg h2 (ih _ _ _ _ _ h hk)
      · rename_i g xs hc
        rw [← hC.read]
        split at h
        · rename_i q hq
          exact Out.go_mono h fun v hv => ih _ _ _ _ _ hv hk
        rename_i hq
        split at h
        · simp at h
        rename_i hs
        rw [if_neg hs]
        split at h
        · rename_i v S' hv
          have := guarded_mono hv fun r hr => hC.shared _ _ _ _ hr
          simp only [this]
          rw [← hC.calm]
          exact ih _ _ _ _ _ h hk
        · simp at h
      · simp at h
    · simp at h
end

theorem exec_mono {P : Program} {C C' : Kallee} (hC : KLe C C') {h : Hints} {L L' : Nat} (hL : L ≤ L') {f : FuncId} : ∀ (c : Code) (R : Type) (e : Env) (S : Store) (k k' : Ex → Env → Store → Option R) (x : R),
    exec P C h L f c e S k = some x → (∀ t e S, k t e S = some x → k' t e S = some x) → exec P C' h L' f c e S k' = some x := by
  intro c
  induction c with
  | skip => intro R e S k k' x he hk; rw [exec] at he ⊢; exact hk _ _ _ he
  | label l => intro R e S k k' x he hk; rw [exec] at he ⊢; exact hk _ _ _ he
  | exit id => intro R e S k k' x he hk; rw [exec] at he ⊢; exact hk _ _ _ he
  | ret => intro R e S k k' x he hk; rw [exec] at he ⊢; exact hk _ _ _ he
  | region id ops draw => intro R e S k k' x he hk; rw [exec] at he ⊢; exact evalOps_mono hC _ _ _ _ _ _ he fun e S => prune_mono hk .normal e S
  | seq a b iha ihb =>
    intro R e S k k' x he hk
    rw [exec] at he ⊢
    refine iha _ _ _ _ _ _ he fun t e S ht => ?_
    cases t with
    | normal => exact ihb _ _ _ _ _ _ ht hk
    | exit id => exact hk _ _ _ ht
    | ret => exact hk _ _ _ ht
  | cond cnd a b iha ihb =>
    intro R e S k k' x he hk
    rw [exec] at he ⊢
    exact caseB_mono he (fun h => iha _ _ _ _ _ _ h (prune_mono hk)) (fun h => ihb _ _ _ _ _ _ h (prune_mono hk))
  | block id bd ih =>
    intro R e S k k' x he hk
    rw [exec] at he ⊢
    exact ih _ _ _ _ _ _ he (leaveB_mono (prune_mono hk))
  | loop bd ih =>
    intro R e S k k' x he hk
    rw [exec] at he ⊢
    generalize h.live f ((firstRegion bd).getD 0) = live at he ⊢
    generalize hn : S.length = n at he ⊢
    generalize e.pick live = e0 at he ⊢
    have hkk := prune_mono (J := h.join f (spotOf (.loop bd))) (n := n) hk
    generalize prune (h.join f (spotOf (.loop bd))) n k = kk at he hkk
    generalize prune (h.join f (spotOf (.loop bd))) n k' = kk' at hkk ⊢
    have key : ∀ (N N' : Nat) (e : Env) (S : Store), N ≤ N' → iter (exec P C h L f bd (R := R)) live n kk N e S = some x → iter (exec P C' h L' f bd (R := R)) live n kk' N' e S = some x := by
      intro N
      induction N with
      | zero => intro N' e S _ h; simp [iter] at h
      | succ N ihN =>
        intro N' e S hN h
        obtain ⟨N', rfl⟩ : ∃ q, N' = q + 1 := ⟨N' - 1, by omega⟩
        rw [iter] at h ⊢
        refine ih _ _ _ _ _ _ h fun t e S ht => ?_
        cases t with
        | normal => exact ihN _ _ _ (by omega) ht
        | exit id => exact hkk _ _ _ ht
        | ret => exact hkk _ _ _ ht
    exact key _ _ _ _ hL he
  | scope bd ih =>
    intro R e S k k' x he hk
    rw [exec] at he ⊢
    exact ih _ _ _ _ _ _ he hk
  | _ => intro R e S k k' x he; simp [exec] at he

theorem bodyK_mono {P : Program} {C C' : Kallee} (hC : KLe C C') {h : Hints} {L L' : Nat} (hL : L ≤ L') {f : FuncId} {args : List AV} {S : Store} {R : Type} {fin : AV → Store → Option R} {x : R}
    (he : bodyK P C h L f args S fin = some x) : bodyK P C' h L' f args S fin = some x := by
  unfold bodyK at he ⊢
  split at he
  · simp at he
  · split at he
    · simp at he
    · rename_i c hc
      split at he
      · simp at he
      · rename_i hn
        rw [if_neg hn]
        exact exec_mono hC hL _ _ _ _ _ _ _ he fun t e S ht => ht

theorem om_mono {R : Type} {y y' : Option (MR × List FV)} (h : ∀ r, y = some r → y' = some r) {f : MR → List FV → Option R} {x : R} (hx : om y f = some x) : om y' f = some x := by
  obtain ⟨r, fs, h1, h2⟩ := om_some hx
  rw [h _ h1]; exact h2
theorem rootK_mono {R : Type} {S : Store} {id : Nat} {k k' : List AV → List FV → Option R} (h : ∀ cs fs x, k cs fs = some x → k' cs fs = some x) {x : R} (hx : rootK S id k = some x) : rootK S id k' = some x := by
  obtain ⟨cs, fs, h1, h2⟩ := rootK_some hx
  rw [rootK_of h1]; exact h _ _ _ h2
theorem methK_mono {R : Type} {mk : Nat × List Bool} {meth meth' : FuncId → Option (List FV) → List PV → Option (MR × List FV)} (h : ∀ f d a r, meth f d a = some r → meth' f d a = some r) {g : FuncId} {as : List AV} {S : Store}
    {k : AV → Store → Option R} {x : R} (hx : methK mk meth g as S k = some x) : methK mk meth' g as S k = some x := by
  unfold methK at hx ⊢
  split at hx
  · split at hx
    · refine rootK_mono (fun cs fs x hx => ?_) hx
      obtain ⟨hc, hx⟩ := ckB_some hx
      rw [hc]
      exact om_mono (h _ _ _) hx
    · cases hx
  · split at hx
    · exact om_mono (h _ _ _) hx
    · cases hx
theorem runM_mono {P : Program} {C C' : Kallee} (hC : KLe C C') {h : Hints} {L L' : Nat} (hL : L ≤ L') {f : FuncId} {d : Option (List FV)} {args : List PV} {x : MR × List FV} (he : runM P C h L f d args = some x) : runM P C' h L' f d args = some x := by
  unfold runM at he ⊢
  split at he
  · rename_i q hq
    split at he
    · rename_i r hr; exact he
    · rename_i hr; exact bodyK_mono hC hL he
  · exact bodyK_mono hC hL he
theorem runO_mono {P : Program} {C C' : Kallee} (hC : KLe C C') {h : Hints} {L L' : Nat} (hL : L ≤ L') {f : FuncId} {os x : List OV} (he : runO P C h L f os = some x) : runO P C' h L' f os = some x := by
  unfold runO at he ⊢
  split at he
  · rename_i q hq
    exact q.mono _ _ hC.pure _ _ he
  · split at he
    · exact bodyK_mono hC hL he
    · cases he
theorem ownK_mono {R : Type} {sp : OwnSp} {own own' : FuncId → List OV → Option (List OV)} (h : ∀ f os r, own f os = some r → own' f os = some r) {g : FuncId} {as : List AV} {S : Store} {k : AV → Store → Option R} {x : R} (hx : ownK sp own g as S k = some x) :
    ownK sp own' g as S k = some x := by
  unfold ownK at hx ⊢
  split at hx
  · obtain ⟨hc, hx⟩ := ckB_some hx
    obtain ⟨r, hr, hx⟩ := oo_some hx
    simp only [hc, ckB, h _ _ _ hr, oo]
    exact hx
  · cases hx
theorem call_mono {P : Program} {h : Hints} {L L' : Nat} (hL : L ≤ L') : ∀ (n n' : Nat), n ≤ n' → KLe ⟨callP P h L n, callS P h L n, callM P h L n, callO P h L n, h.calmB, h.primS⟩ ⟨callP P h L' n', callS P h L' n', callM P h L' n', callO P h L' n', h.calmB, h.primS⟩ := by
  intro n
  induction n with
  | zero =>
    intro n' _
    exact ⟨fun f a r hr => (by
      simp only [callP] at hr
      cases hq : h.prim f with
      | none => rw [hq] at hr; cases hr
      | some q =>
        rw [hq] at hr
        cases n' <;> simp only [callP, hq] <;> exact hr), fun f a S r hr => by simp [callS] at hr, fun f d a r hr => by simp [callM] at hr, fun f os r hr => by simp [callO] at hr, rfl, rfl⟩
  | succ n ih =>
    intro n' hn
    obtain ⟨n', rfl⟩ : ∃ q, n' = q + 1 := ⟨n' - 1, by omega⟩
    have := ih n' (by omega)
    refine ⟨fun f a r hr => ?_, fun f a S r hr => ?_, fun f d a r hr => ?_, fun f os r hr => ?_, rfl, rfl⟩
    · simp only [callP] at hr ⊢
      split at hr
      · exact hr
      · exact bodyK_mono this hL hr
    · simp only [callS] at hr ⊢
      split at hr
      · exact hr
      · split at hr
        · exact methK_mono (fun f d a r hr => runM_mono this hL hr) hr
        · split at hr
          · exact ownK_mono (fun f os r hr => runO_mono this hL hr) hr
          · exact bodyK_mono this hL hr
    · simp only [callM] at hr ⊢
      exact runM_mono this hL hr
    · simp only [callO] at hr ⊢
      exact runO_mono this hL hr
theorem callM_mono {P : Program} {h : Hints} {L L' n n' : Nat} (hL : L ≤ L') (hn : n ≤ n') {f : FuncId} {d : Option (List FV)} {args : List PV} {r : MR × List FV} (hr : callM P h L n f d args = some r) : callM P h L' n' f d args = some r :=
  (call_mono hL n n' hn).meth _ _ _ _ hr
theorem callO_mono {P : Program} {h : Hints} {L L' n n' : Nat} (hL : L ≤ L') (hn : n ≤ n') {f : FuncId} {os r : List OV} (hr : callO P h L n f os = some r) : callO P h L' n' f os = some r :=
  (call_mono hL n n' hn).own _ _ _ hr
theorem callP_mono {P : Program} {h : Hints} {L L' n n' : Nat} (hL : L ≤ L') (hn : n ≤ n') {f : FuncId} {args : List PV} {r : PV} (hr : callP P h L n f args = some r) : callP P h L' n' f args = some r :=
  (call_mono hL n n' hn).pure _ _ _ hr
theorem noK_le (h : Hints) (C : Kallee) (hp : ∀ f q, h.prim f = some q → ∀ a r, q a = some r → C.pure f a = some r) (hc : C.calm = h.calmB) (hr : C.read = h.primS) : KLe (noK h) C :=
  ⟨fun f a r hr => (by
    simp only [noK] at hr
    split at hr
    · rename_i q hq; exact hp f q hq a r hr
    · cases hr), fun f a S r hr => by simp [noK] at hr, fun f d a r hr => by simp [noK] at hr, fun f os r hr => by simp [noK] at hr, hc.symm, hr.symm⟩
theorem callM_succ (P : Program) (h : Hints) (L n : Nat) : callM P h L (n + 1) = fun g d as => runM P ⟨callP P h L n, callS P h L n, callM P h L n, callO P h L n, h.calmB, h.primS⟩ h L g d as := by funext g d as; rw [callM]
theorem callO_succ (P : Program) (h : Hints) (L n : Nat) : callO P h L (n + 1) = fun g os => runO P ⟨callP P h L n, callS P h L n, callM P h L n, callO P h L n, h.calmB, h.primS⟩ h L g os := by funext g os; rw [callO]
theorem kis (P : Program) (h : Hints) (L n : Nat) : KIs P h L ⟨callP P h L (n + 1), callS P h L (n + 1), callM P h L (n + 1), callO P h L (n + 1), h.calmB, h.primS⟩ where
  prim g q hq as S d hd := by simp only [callS, hq, hd, Option.map_some]
  meth g mk hq hm as S r hr := by simp only [callS, hq, hm]; simp only [callM_succ] at hr; exact hr
  own g sp hq hm hs as S r hr := by simp only [callS, hq, hm, hs]; simp only [callO_succ] at hr; exact hr
  inl g hq hm hs as S r hr := by
    simp only [callS, hq, hm, hs]
    exact bodyK_mono (noK_le h _ (fun f q hq a r hr => by cases n <;> simp only [callP, hq] <;> exact hr) rfl rfl) (Nat.le_refl L) hr
  calm _ _ := rfl
  read _ := rfl
theorem callP_of {P : Program} {h : Hints} {L n : Nat} {f : FuncId} {args : List PV} {x : PV} (hp : h.prim f = none) (he : bodyPR P ⟨callP P h L (n + 1), callS P h L (n + 1), callM P h L (n + 1), callO P h L (n + 1), h.calmB, h.primS⟩ h L f args = some x) : callP P h L (n + 1 + 1) f args = some x := by
  rw [callP, hp]
  exact bodyPR_imp (kis P h L n) he

theorem callM_of {P : Program} {h : Hints} {L n : Nat} {f : FuncId} {d : Option (List FV)} {args : List PV} {x : MR × List FV} (hq : h.primM f = none) (he : bodyMR P ⟨callP P h L (n + 1), callS P h L (n + 1), callM P h L (n + 1), callO P h L (n + 1), h.calmB, h.primS⟩ h L f d args = some x) :
    callM P h L (n + 1 + 1) f d args = some x := by
  rw [callM, runM]
  simp only [hq]
  exact bodyMR_imp (kis P h L n) he
theorem callO_of {P : Program} {h : Hints} {L n : Nat} {f : FuncId} {sp : OwnSp} {os x : List OV} (hq : h.primO f = none) (hs : h.ownF f = some sp) (he : bodyOR P ⟨callP P h L (n + 1), callS P h L (n + 1), callM P h L (n + 1), callO P h L (n + 1), h.calmB, h.primS⟩ h L f sp os = some x) :
    callO P h L (n + 1 + 1) f os = some x := by
  rw [callO, runO]
  simp only [hq, hs]
  exact bodyOR_imp (kis P h L n) he
theorem callO_prim {P : Program} {h : Hints} {L n : Nat} {f : FuncId} {q : PO} {os : List OV} (hq : h.primO f = some q) : callO P h L (n + 1) f os = q.q (callP P h L n) os := by
  rw [callO, runO]
  simp only [hq]
end Go.Lite

namespace Go.Lite
open Go
set_option linter.unusedVariables false

/-! # residual programs at typed data -/
/-- (simp shall not take these by definition) -/
theorem nonrfl {α : Type} {a b : α} (h : a = b) : a = b := by cases h; exact Eq.refl a
abbrev I (n : Int) : PV := .sc (.int .i64 n)
abbrev Bo (b : Bool) : PV := .sc (.bool b)
abbrev Sr (s : ByteArray) : PV := .sc (.string s)

section
variable {R : Type}
@[simp] theorem ob_some (d : PV) (f : PV → Option R) : ob (some d) f = f d := nonrfl rfl
@[simp] theorem ob_none (f : PV → Option R) : ob none f = none := nonrfl rfl
@[simp] theorem oxs_some (d : List PV) (f : List PV → Option R) : oxs (some d) f = f d := nonrfl rfl
@[simp] theorem obs_some (d : ByteArray) (f : ByteArray → Option R) : obs (some d) f = f d := nonrfl rfl
@[simp] theorem onat_some (d : Nat) (f : Nat → Option R) : onat (some d) f = f d := nonrfl rfl
@[simp] theorem ck_true (y : Option R) : ck true y = y := nonrfl rfl
@[simp] theorem cb_bool (b : Bool) (y n : Option R) : cb (.sc (.bool b)) y n = if b = true then y else n := by cases b <;> rfl
@[simp] theorem gcase_t (b : Bool) (y n u : Option R) : gcase true (.sc (.bool b)) y n u = if b = true then y else n := by cases b <;> rfl
@[simp] theorem gcase_f (b : Bool) (y n u : Option R) : gcase false (.sc (.bool b)) y n u = if b = true then n else y := by cases b <;> rfl
end
theorem toList_inj' {a b : ByteArray} (h : a.toList = b.toList) : a = b := by
  rw [Go.Lib.toList_data, Go.Lib.toList_data] at h
  obtain ⟨⟨x⟩⟩ := a
  obtain ⟨⟨y⟩⟩ := b
  simp at h
  rw [h]
theorem str_beq (a b : ByteArray) : (a.toList == b.toList) = decide (a = b) := by
  by_cases h : a = b
  · subst h; simp
  · have : a.toList ≠ b.toList := fun hh => h (toList_inj' hh)
    simp [h, this]
section
variable (P : Program) (t : TypeId) (x y : Operand)
@[simp] theorem lss_int (k : IntKind) (a b : Int) : binPV P .lss t x y (.sc (.int k a)) (.sc (.int k b)) = some (.sc (.bool (decide (a < b)))) := by
  simp [binPV, PV.plain?, eqGuard, binOp]; rfl
@[simp] theorem leq_int (k : IntKind) (a b : Int) : binPV P .leq t x y (.sc (.int k a)) (.sc (.int k b)) = some (.sc (.bool (decide (a ≤ b)))) := by
  simp [binPV, PV.plain?, eqGuard, binOp]; rfl
@[simp] theorem gtr_int (k : IntKind) (a b : Int) : binPV P .gtr t x y (.sc (.int k a)) (.sc (.int k b)) = some (.sc (.bool (decide (b < a)))) := by
  simp [binPV, PV.plain?, eqGuard, binOp]; rfl
@[simp] theorem geq_int (k : IntKind) (a b : Int) : binPV P .geq t x y (.sc (.int k a)) (.sc (.int k b)) = some (.sc (.bool (decide (b ≤ a)))) := by
  simp [binPV, PV.plain?, eqGuard, binOp]; rfl
@[simp] theorem eql_int (k : IntKind) (a b : Int) : binPV P .eql t x y (.sc (.int k a)) (.sc (.int k b)) = some (.sc (.bool (decide (a = b)))) := by
  simp [binPV, PV.plain?, eqGuard, binOp]; rfl
@[simp] theorem neq_int (k : IntKind) (a b : Int) : binPV P .neq t x y (.sc (.int k a)) (.sc (.int k b)) = some (.sc (.bool (decide (a ≠ b)))) := by
  simp [binPV, PV.plain?, eqGuard, binOp]; rfl
@[simp] theorem add_int (k : IntKind) (a b : Int) : binPV P .add t x y (.sc (.int k a)) (.sc (.int k b)) = some (.sc (.int k (k.wrap (a + b)))) := by
  simp [binPV, PV.plain?, eqGuard, binOp]; rfl
@[simp] theorem eql_str (a b : ByteArray) : binPV P .eql t x y (.sc (.string a)) (.sc (.string b)) = some (.sc (.bool (decide (a = b)))) := by
  simp [binPV, PV.plain?, eqGuard, binOp]
  show (some (Value.bool (a.toList == b.toList))) = _
  rw [str_beq]
@[simp] theorem neq_str (a b : ByteArray) : binPV P .neq t x y (.sc (.string a)) (.sc (.string b)) = some (.sc (.bool (!decide (a = b)))) := by
  simp [binPV, PV.plain?, eqGuard, binOp]
  show (some (Value.bool (!(a.toList == b.toList)))) = _
  rw [str_beq]
@[simp] theorem not_bool (b : Bool) : unPV P .not (.sc (.bool b)) = some (.sc (.bool (!b))) := nonrfl rfl
@[simp] theorem max_int (k : IntKind) (a b : Int) : maxPV P [.sc (.int k a), .sc (.int k b)] = some (.sc (.int k (max a b))) := by
  have : pureRun P (Builtin.max_ #[] 0 #[Value.int k a, Value.int k b]) = some (.int k (if b > a then b else a)) := rfl
  simp [maxPV, PV.scalar?, this]
  omega
@[simp] theorem extract_tup (vs : List PV) (i : Nat) : extractPV (.tup vs) i = vs[i]? := nonrfl rfl
@[simp] theorem callD_clo (cp : FuncId → List PV → Option PV) (g : FuncId) (a b as : List PV) : callD cp (.clo g a b) as 0 = cp g (a ++ as ++ b) := by
  simp [callD, okK]
end
/-! # the same, told from without (to be used before what goes on is looked at) -/
section
variable {R : Type} {P : Program} {t : TypeId} {x y : Operand} {f : PV → Option R}
theorem q_ex0 (a : PV) (r : List PV) : ob (extractPV (.tup (a :: r)) 0) f = f a := rfl
theorem q_ex1 (a b : PV) (r : List PV) : ob (extractPV (.tup (a :: b :: r)) 1) f = f b := rfl
theorem q_eql (k : IntKind) (a b : Int) : ob (binPV P .eql t x y (.sc (.int k a)) (.sc (.int k b))) f = f (.sc (.bool (decide (a = b)))) := by rw [eql_int]; rfl
theorem q_neq (k : IntKind) (a b : Int) : ob (binPV P .neq t x y (.sc (.int k a)) (.sc (.int k b))) f = f (.sc (.bool (decide (a ≠ b)))) := by rw [neq_int]; rfl
theorem q_lss (k : IntKind) (a b : Int) : ob (binPV P .lss t x y (.sc (.int k a)) (.sc (.int k b))) f = f (.sc (.bool (decide (a < b)))) := by rw [lss_int]; rfl
theorem q_leq (k : IntKind) (a b : Int) : ob (binPV P .leq t x y (.sc (.int k a)) (.sc (.int k b))) f = f (.sc (.bool (decide (a ≤ b)))) := by rw [leq_int]; rfl
theorem q_gtr (k : IntKind) (a b : Int) : ob (binPV P .gtr t x y (.sc (.int k a)) (.sc (.int k b))) f = f (.sc (.bool (decide (b < a)))) := by rw [gtr_int]; rfl
theorem q_geq (k : IntKind) (a b : Int) : ob (binPV P .geq t x y (.sc (.int k a)) (.sc (.int k b))) f = f (.sc (.bool (decide (b ≤ a)))) := by rw [geq_int]; rfl
theorem q_not (b : Bool) : ob (unPV P .not (.sc (.bool b))) f = f (.sc (.bool (!b))) := rfl
theorem q_cbT (y n : Option R) : cb (.sc (.bool true)) y n = y := rfl
theorem q_cbF (y n : Option R) : cb (.sc (.bool false)) y n = n := rfl
theorem q_cbP (c : Prop) [Decidable c] (h : c) (y n : Option R) : cb (.sc (.bool (decide c))) y n = y := by rw [decide_eq_true h]; rfl
theorem q_cbN (c : Prop) [Decidable c] (h : ¬ c) (y n : Option R) : cb (.sc (.bool (decide c))) y n = n := by rw [decide_eq_false h]; rfl
theorem q_gTT (y n u : Option R) : gcase true (.sc (.bool true)) y n u = y := rfl
theorem q_gTF (y n u : Option R) : gcase true (.sc (.bool false)) y n u = n := rfl
theorem q_gFT (y n u : Option R) : gcase false (.sc (.bool true)) y n u = n := rfl
theorem q_gFF (y n u : Option R) : gcase false (.sc (.bool false)) y n u = y := rfl
theorem q_gTP (c : Prop) [Decidable c] (h : c) (y n u : Option R) : gcase true (.sc (.bool (decide c))) y n u = y := by rw [decide_eq_true h]; rfl
theorem q_gTN (c : Prop) [Decidable c] (h : ¬ c) (y n u : Option R) : gcase true (.sc (.bool (decide c))) y n u = n := by rw [decide_eq_false h]; rfl
theorem q_gFP (c : Prop) [Decidable c] (h : c) (y n u : Option R) : gcase false (.sc (.bool (decide c))) y n u = n := by rw [decide_eq_true h]; rfl
theorem q_gFN (c : Prop) [Decidable c] (h : ¬ c) (y n u : Option R) : gcase false (.sc (.bool (decide c))) y n u = y := by rw [decide_eq_false h]; rfl
end
/-! # lists -/
theorem drop_nil' {α : Type} {l : List α} {i : Nat} (h : l.drop i = []) : ¬ i < l.length := by
  have := List.drop_eq_nil_iff.1 h; omega
theorem drop_cons' {α : Type} {l : List α} {i : Nat} {a : α} {r : List α} (h : l.drop i = a :: r) : i < l.length ∧ l[i]? = some a ∧ l.drop (i + 1) = r ∧ a ∈ l := by
  have hi : i < l.length := by
    rcases Nat.lt_or_ge i l.length with h' | h'
    · exact h'
    · rw [List.drop_eq_nil_of_le h'] at h; cases h
  rw [List.drop_eq_getElem_cons hi] at h
  simp only [List.cons.injEq] at h
  obtain ⟨rfl, h2⟩ := h
  exact ⟨hi, List.getElem?_eq_getElem hi, h2, List.getElem_mem hi⟩
theorem wrap64 {n : Int} (h : -9223372036854775808 ≤ n) (h' : n < 9223372036854775808) : IntKind.i64.wrap n = n := by
  have e1 : (2 ^ IntKind.i64.bits : Int) = 18446744073709551616 := by rfl
  have e2 : (2 ^ (IntKind.i64.bits - 1) : Int) = 9223372036854775808 := by rfl
  have e3 : IntKind.i64.signed = true := rfl
  simp only [IntKind.wrap, e1, e2, e3, Bool.true_and, decide_eq_true_eq]
  split <;> omega
theorem wrap_succ {i : Nat} (h : i < 9223372036854775807) : IntKind.i64.wrap ((i : Int) + 1) = ((i + 1 : Nat) : Int) := by
  rw [wrap64] <;> omega
/-- where the first one is -/
def ffrom {α : Type} (p : α → Bool) : Nat → List α → Option Nat
  | _, [] => none
  | i, a :: r => if p a then some i else ffrom p (i + 1) r
section
variable {P : Program} {t el : TypeId} {lay : Nat}
theorem indexAddr_list (hu : P.underlying t = some (.slice el)) (hl : layOf P el = some lay) (c : Bool) (xs : List PV) (i : Nat) : indexAddrPV P t (.list lay c xs) (I i) = (xs[i]?).map (.ro lay) := by
  simp [indexAddrPV, intPV?, hu, hl]
theorem load_ro (hl : layOf P t = some lay) (d : PV) : loadPV P t (.ro lay d) = some d := by
  simp [loadPV, hl, PV.at_]
theorem len_list (hu : P.underlying t = some (.slice el)) (c : Bool) (xs : List PV) : (lenPV P t (.list lay c xs)).map (fun n => PV.sc (goInt n)) = some (I xs.length) := by
  simp [lenPV, hu, goInt]
theorem len_nil (hu : P.underlying t = some (.slice el)) : (lenPV P t (.sc (.slice none 0 0))).map (fun n => PV.sc (goInt n)) = some (I 0) := by
  simp [lenPV, hu, goInt]
theorem len_str (hu : P.underlying t = some .string) (s : ByteArray) : (lenPV P t (Sr s)).map (fun n => PV.sc (goInt n)) = some (I s.size) := by
  simp [lenPV, hu, goInt]
theorem slice_to (hu : P.underlying t = some (.slice el)) (hl : layOf P el = some lay) (xs : List PV) (i : Nat) (h : i ≤ xs.length) : slicePVd P t (.list lay false xs) none (some (I i)) none = some (.list lay false (xs.take i)) := by
  simp [slicePVd, hu, hl, optIntPV, intPV?, sliceMxPV, slicePV, h]
end
end Go.Lite

namespace Go.Lite
open Go
open Go.RowKit (Below)
open Go.WideElems (Fit rd rg pl)

/-! # slices.Sorted(maps.Keys(m)): the keys, rising -/
def ins (x : Int) : List Int → List Int
  | [] => [x]
  | y :: r => bif decide (x ≤ y) then x :: y :: r else y :: ins x r
def isort : List Int → List Int
  | [] => []
  | x :: r => ins x (isort r)
theorem ins_perm (x : Int) : ∀ l, (ins x l).Perm (x :: l) := by
  intro l
  induction l with
  | nil => exact .refl _
  | cons y r ih =>
    simp only [ins]
    cases decide (x ≤ y)
    · exact (List.Perm.cons y ih).trans (List.Perm.swap x y r)
    · exact .refl _
theorem isort_perm : ∀ l, (isort l).Perm l := by
  intro l
  induction l with
  | nil => exact .refl _
  | cons x r ih => exact (ins_perm x _).trans (List.Perm.cons x ih)
theorem ins_sorted (x : Int) : ∀ l, l.Pairwise (· ≤ ·) → (ins x l).Pairwise (· ≤ ·) := by
  intro l
  induction l with
  | nil => intro _; simp [ins]
  | cons y r ih =>
    intro h
    simp only [ins]
    rw [List.pairwise_cons] at h
    cases hd : decide (x ≤ y)
    · simp only [cond_false, List.pairwise_cons]
      refine ⟨fun z hz => ?_, ih h.2⟩
      have := (ins_perm x r).mem_iff.1 hz
      simp only [List.mem_cons] at this
      rcases this with rfl | h'
      · have := of_decide_eq_false hd; omega
      · exact h.1 z h'
    · simp only [cond_true, List.pairwise_cons]
      have := of_decide_eq_true hd
      refine ⟨fun z hz => ?_, h⟩
      simp only [List.mem_cons] at hz
      rcases hz with rfl | hz
      · exact this
      · have := h.1 z hz; omega
theorem isort_sorted : ∀ l, (isort l).Pairwise (· ≤ ·) := by
  intro l
  induction l with
  | nil => simp [isort]
  | cons x r ih => exact ins_sorted x _ ih
theorem isort_eq {l l' : List Int} (h : l.Perm l') : l.mergeSort (fun x y => decide (x ≤ y)) = isort l' := by
  have tr : ∀ a b c : Int, decide (a ≤ b) = true → decide (b ≤ c) = true → decide (a ≤ c) = true := fun a b c h1 h2 => by simp only [decide_eq_true_eq] at *; omega
  have to : ∀ a b : Int, (decide (a ≤ b) || decide (b ≤ a)) = true := fun a b => by simp only [Bool.or_eq_true, decide_eq_true_eq]; omega
  refine List.Perm.eq_of_pairwise (le := (· ≤ ·)) (fun a b _ _ h1 h2 => Int.le_antisymm h1 h2) ?_ (isort_sorted l') (((List.mergeSort_perm l _).trans h).trans (isort_perm l').symm)
  exact (List.pairwise_mergeSort tr to l).imp fun h => by simpa using h

def keyOK (n : Int) : Bool := decide (-9223372036854775808 ≤ n) && decide (n < 9223372036854775808)
def intsPV (l : List Int) : PV := bif l.isEmpty then nilSlice else .list 0 false (l.map fun n => .sc (.int .i64 n))
def sortedPV (es : List (Int × PV)) : Option PV :=
  bif (es.all fun p => keyOK p.1) && decide (es.length * 8 ≤ 140737488355328) then some (intsPV (isort (es.map (·.1)))) else none
def sortedQ (kf : FuncId) (args : List AV) (S : Store) : Option PV :=
  match args with
  | [.clo f [] [.ptr id 0 0]] => (match Nat.beq f kf, S[id]? with
    | true, some (.var 0 (.mp j)) => (match S[j]? with
      | some (.map es) => sortedPV es
      | _ => none)
    | _, _ => none)
  | _ => none

/-- what the library's own text is known to do -/
def SortsKeys (P : Program) (sf kf : FuncId) : Prop :=
  Entered P sf ∧ ∃ kt, P.underlying kt = some (.int .i64) ∧ ∀ (Bm b nn : Nat) (D0 : DataW Unit) (W : World), W.cell? ⟨Bm, 0, none⟩ = some (.map (some b)) → W.ownsMap P kt (fun _ => some (.nil, [])) b nn D0 →
    Maps.size D0 ≤ maxLen → Maps.size D0 * 8 ≤ 140737488355328 →
    Calls P sf #[.func (.func kf) #[] #[.pointer (some ⟨Bm, 0, none⟩)]] W fun e w' => ∃ (v : Value) (ss : List Int), e = .returned v ∧ ss.Perm (intKeys D0) ∧
      w'.ownsRow W.heap.size kt 1 v ss.length ((ss.mergeSort (fun x y => decide (x ≤ y))).map encZ) ∧ (v = .slice none 0 0 ↔ ss = []) ∧ Below W.heap.size W w'

theorem keyOK_wf {n : Int} (h : keyOK n = true) : (Lit.int .i64 n).wf = true := by
  simp only [keyOK, Bool.and_eq_true, decide_eq_true_eq] at h
  have e1 : IntKind.i64.min = -9223372036854775808 := by rfl
  simp [Lit.wf, e1]
  omega

theorem one_array {α : Type} {vs : Array α} (h : vs.size = 0 + 1) : vs = #[vs[0]] := by
  apply Array.ext
  · simp [h]
  · intro i h1 h2
    have : i = 0 := by omega
    subst this; rfl

theorem sorted_ok {P : Program} {sf kf : FuncId} (hk : SortsKeys P sf kf) : ReadOK P fun g => if g = sf then some (sortedQ kf) else none := by
  obtain ⟨hent, kt, hkt, hcall⟩ := hk
  intro g q hr args S d hq X B w K m vs hS hs hx
  simp only at hr
  split at hr
  case isFalse => simp at hr
  rename_i hg; subst hg
  simp only [Option.some.injEq] at hr
  subst hr
  unfold sortedQ at hq
  split at hq
  case h_2 => simp at hq
  rename_i f id
  split at hq
  case h_2 => simp at hq
  rename_i j hf hv
  split at hq
  case h_2 => simp at hq
  rename_i es hes
  have hf' : f = kf := Nat.eq_of_beq_eq_true hf
  subst hf'
  simp only [List.length_cons, List.length_nil] at hs
  obtain ⟨v0, rfl⟩ : ∃ v0, vs = #[v0] := ⟨vs[0], one_array hs⟩
  have h0 := hx 0 _ v0 rfl rfl
  cases h0 with
  | clo ha hb hxa hxb =>
    rename_i va vb
    simp only [List.length_cons, List.length_nil] at ha hb
    obtain rfl : va = #[] := by simpa using ha
    obtain ⟨p0, rfl⟩ : ∃ p0, vb = #[p0] := ⟨vb[0], one_array hb⟩
    have hp := hxb 0 _ p0 rfl rfl
    cases hp with
    | ptr hm hla =>
      rename_i Bm o loc
      cases hS.ob id _ loc hv hm with
      | var hvv hl ha2 hz ho hbb hfz hkk =>
        rename_i cv b' ty fr
        rw [hla] at ha2; simp only [Option.some.injEq, Addr.mk.injEq] at ha2; obtain ⟨rfl, rfl, -⟩ := ha2
        cases hvv with
        | mp hmj hlaj =>
          rename_i b locj
          cases hS.ob j _ locj hes hmj with
          | map ha3 ho3 hb3 hs3 hx3 hst3 hk3 =>
            rename_i b3 clock ents
            rw [hlaj] at ha3; simp only [Option.some.injEq, Addr.mk.injEq] at ha3; obtain ⟨rfl, -⟩ := ha3
            unfold sortedPV at hq
            cases hcond : ((es.all fun p => keyOK p.1) && decide (es.length * 8 ≤ 140737488355328)) with
            | false => rw [hcond] at hq; simp at hq
            | true =>
              rw [hcond] at hq
              simp only [cond_true, Option.some.injEq] at hq
              subst hq
              simp only [Bool.and_eq_true, List.all_eq_true, decide_eq_true_eq] at hcond
              obtain ⟨hkeys, hlen⟩ := hcond
              have hkeyAt : ∀ x ∈ ents.toList, ∃ n : Int, x.key = .int .i64 n ∧ keyOK n = true := fun x hx => by
                obtain ⟨i, hi, hie⟩ := List.getElem_of_mem hx
                have hi' : i < es.length := by simp at hi; omega
                have := (hx3 i _ x (List.getElem?_eq_getElem hi') (by rw [← Array.getElem?_toList, List.getElem?_eq_getElem hi, hie])).1
                exact ⟨_, this, hkeys _ (List.getElem_mem hi')⟩
              have hrd : ∀ x ∈ ents.toList, ∃ n : Int, x.key = .int .i64 n ∧ rd (H := Unit) P kt (fun _ => some (.nil, [])) x = some (.int .i64 n, .nil) := fun x hx => by
                obtain ⟨n, h1, h2⟩ := hkeyAt x hx
                refine ⟨n, h1, ?_⟩
                simp [rd, h1, Maps.keyOf_int_mk hkt (keyOK_wf h2)]
              have hmax : es.length ≤ maxLen := by unfold maxLen; omega
              have hfit : Fit (H := Unit) P kt (fun _ => some (.nil, [])) ents clock := ⟨by omega, hst3, fun x hx => let ⟨n, _, h⟩ := hrd x hx; ⟨_, h⟩⟩
              have hown : w.ownsMap (H := Unit) P kt (fun _ => some (.nil, [])) b ents.size (.map ((ents.toList.map (rg P kt (fun _ => some (.nil, [])))).foldr DataW.insert [])) := ⟨ents, clock, hb3, hfit, Nat.le_refl _, rfl⟩
              have hsz : Maps.size (DataW.map (H := Unit) ((ents.toList.map (rg P kt (fun _ => some (.nil, [])))).foldr DataW.insert [])) = es.length := by
                simp [Maps.size, Go.length_sorted, hs3]
              have hcell : w.cell? ⟨Bm, 0, none⟩ = some (.map (some b)) := by simp [World.cell?, hbb, cellsL]
              have hperm : (intKeys (DataW.map (H := Unit) ((ents.toList.map (rg P kt (fun _ => some (.nil, [])))).foldr DataW.insert []))).Perm (es.map (·.1)) := by
                have h1 : (intKeys (DataW.map (H := Unit) ((ents.toList.map (rg P kt (fun _ => some (.nil, [])))).foldr DataW.insert []))).Perm ((ents.toList.map (rg P kt (fun _ => some (.nil, [])))).map fun p => intOf p.1) :=
                  (Go.WideShapes.sorted_perm _).map _
                have h2 : ((ents.toList.map (rg (H := Unit) P kt (fun _ => some (.nil, [])))).map fun p => intOf p.1) = es.map (·.1) := by
                  apply List.ext_getElem
                  · simp [hs3]
                  · intro i hi1 hi2
                    simp only [List.length_map, Array.length_toList] at hi1 hi2
                    have he := (hx3 i es[i] ents[i] (List.getElem?_eq_getElem hi2) (Array.getElem?_eq_getElem hi1)).1
                    obtain ⟨n, h3, h4⟩ := hrd ents[i] (by simp)
                    rw [he] at h3
                    simp only [Value.int.injEq, true_and] at h3
                    simp only [List.getElem_map, Array.getElem_toList, rg, h4, Option.getD_some, intOf]
                    exact h3.symm
                rw [h2] at h1; exact h1
              simp only [Nat.zero_mul, Nat.add_zero]
              refine .inl ⟨hent, (hcall Bm b _ _ w hcell hown (by rw [hsz]; exact hmax) (by rw [hsz]; exact hlen)).mono fun e w' ⟨v, ss, he, hss, hrow, hnil, hbel⟩ => ⟨v, he, ?_⟩⟩
              have hssp := hss.trans hperm
              have hsort := isort_eq hssp
              have hext : Ext w K w' (fun b o => K b o ∨ (w.heap.size ≤ b ∧ b < w'.heap.size)) := ⟨hbel, fun _ _ h => .inl h, fun _ _ h => h⟩
              refine ⟨_, hext, ?_⟩
              rw [hsort] at hrow
              obtain ⟨r1, r2⟩ := hrow
              rcases r2 with ⟨rfl, hz2⟩ | ⟨gb, cap, cur, rfl, hbase, hgb, q1, q2, q3, q4⟩
              · have hss0 := hnil.1 rfl
                subst hss0
                have : es.map (·.1) = [] := List.Perm.eq_nil hssp.symm
                rw [this]
                exact .sc _
              · have hne : ss ≠ [] := fun h => by simpa using hnil.2 h
                have hl2 : (isort (es.map (·.1))).length = ss.length := by rw [← hsort]; simp
                have hne2 : (isort (es.map (·.1))).isEmpty = false := by
                  cases hh : isort (es.map (·.1)) with
                  | nil => rw [hh] at hl2; simp at hl2; exact absurd (List.eq_nil_of_length_eq_zero hl2.symm) hne
                  | cons => rfl
                simp only [intsPV, hne2, cond_false]
                refine .list ((isort (es.map (·.1))).map encZ) (by simpa using hl2.symm) q1 (by simp) (by simp) (fun i x cv h1 h2 => ?_) fun i cv hi => ?_
                · simp only [List.getElem?_map, Option.map_eq_some_iff] at h1 h2
                  obtain ⟨n, h1, rfl⟩ := h1
                  obtain ⟨n', h2, rfl⟩ := h2
                  rw [h1] at h2; simp only [Option.some.injEq] at h2; subst h2
                  exact .sc _
                · have hcv : ∃ n, cv = encZ n := by
                    simp only [List.getElem?_map, Option.map_eq_some_iff] at hi
                    obtain ⟨n, _, rfl⟩ := hi; exact ⟨n, rfl⟩
                  have hilt : i < ss.length := by have := (List.getElem?_eq_some_iff.1 hi).1; simp at this; omega
                  have hcur : cur[i]? = some cv := by
                    rw [← q4] at hi
                    rw [List.getElem?_take] at hi
                    split at hi
                    · simpa using hi
                    · simp at hi
                  obtain ⟨n, rfl⟩ := hcv
                  refine ⟨⟨.inl rfl, fun k v hk => ?_⟩, fun k v hk => ?_⟩
                  all_goals
                    simp only [cellsL, if_true] at hk
                    obtain rfl : k = 0 := by have := (Array.getElem?_eq_some_iff.1 hk).1; simpa using this
                    simp at hk; subst hk
                  · rfl
                  · refine ⟨.inr ⟨hbase, lt_of_block hgb⟩, ?_⟩
                    simp [World.cell?, hgb, width, hcur]
end Go.Lite

namespace Go.Lite
open Go
open Go.RowKit (Below)

/-! # slices.Sorted(maps.Keys) at more than one type of map -/
def memN : List Nat → Nat → Bool
  | [], _ => false
  | k :: r, f => Nat.beq f k || memN r f
theorem memN_mem : ∀ {l : List Nat} {f : Nat}, memN l f = true → f ∈ l := by
  intro l
  induction l with
  | nil => intro f h; simp [memN] at h
  | cons k r ih =>
    intro f h
    simp only [memN, Bool.or_eq_true] at h
    rcases h with h | h
    · rw [Nat.eq_of_beq_eq_true h]; simp
    · exact List.mem_cons_of_mem _ (ih h)
def sortedQs (kfs : List Nat) (args : List AV) (S : Store) : Option PV :=
  match args with
  | [.clo f [] [.ptr id 0 0]] => (match memN kfs f with
    | true => sortedQ f [.clo f [] [.ptr id 0 0]] S
    | false => none)
  | _ => none
theorem sorteds_ok {P : Program} {sf : FuncId} {kfs : List Nat} (hk : ∀ kf ∈ kfs, SortsKeys P sf kf) : ReadOK P fun g => if g = sf then some (sortedQs kfs) else none := by
  intro g q hr args S d hq X B w K m vs hS hs hx
  simp only at hr
  split at hr
  case isFalse => simp at hr
  rename_i hg
  simp only [Option.some.injEq] at hr
  subst hr
  unfold sortedQs at hq
  split at hq
  case h_2 => cases hq
  rename_i f id
  split at hq
  case h_2 => cases hq
  rename_i hm
  exact sorted_ok (hk f (memN_mem hm)) g _ (by simp [hg]) _ S d hq X B w K m vs hS hs hx
/-! # slices.Clone -/
def cloneQ (lay : Nat) (args : List PV) : Option PV :=
  match args with
  | [.list l _ xs] => bif Nat.beq l lay && decide (xs.length ≤ 1099511627776) then some (.list lay false xs) else none
  | [.sc (.slice none 0 0)] => some nilSlice
  | _ => none
theorem clone_ok {P : Program} {f : FuncId} {lay : Nat} {C : Kallee} {h : Hints} {L : Nat} (hT : TidyF P) (hC : KOK P C)
    (h1 : ∀ c x xs, (x :: xs).length ≤ 1099511627776 → bodyP P C h L f [.list lay c (x :: xs)] = some (.list lay false (x :: xs)))
    (h2 : bodyP P C h L f [nilSlice] = some nilSlice) (h3 : ∀ a c, bodyP P C h L f [.sc (.slice (some a) 0 c)] = some (.list lay false [])) :
    PureOK P fun g args => if g = f then cloneQ lay args else none := by
  intro g args r hr X w K vs hX hk hs hx
  simp only at hr
  split at hr
  case isFalse => cases hr
  rename_i hg; subst hg
  unfold cloneQ at hr
  split at hr
  · rename_i l c xs
    cases hc : (Nat.beq l lay && decide (xs.length ≤ 1099511627776)) with
    | false => rw [hc] at hr; cases hr
    | true =>
      rw [hc] at hr
      simp only [cond_true, Option.some.injEq] at hr; subst hr
      simp only [Bool.and_eq_true, decide_eq_true_eq] at hc
      have hl := Nat.eq_of_beq_eq_true hc.1
      subst hl
      cases xs with
      | cons x xs => exact .inl (bodyP_sound hT hC (h1 c x xs hc.2) hX hk hs hx)
      | nil =>
        simp only [List.length_cons, List.length_nil] at hs
        obtain ⟨v0, rfl⟩ : ∃ v0, vs = #[v0] := ⟨vs[0], one_array hs⟩
        have h0 := hx 0 _ v0 rfl rfl
        cases h0 with
        | empty =>
          rename_i a
          cases a with
          | some a =>
            refine .inl (bodyP_sound hT hC (h3 a 0) hX hk rfl fun i c v a b => ?_)
            cases i with
            | zero => simp at a b; subst a; subst b; exact .sc _
            | succ i => simp at a
          | none =>
            refine .inl ?_
            obtain ⟨g1, g2⟩ := bodyP_sound hT hC h2 hX hk (vs := #[.slice none 0 0]) rfl fun i c v a b => by
              cases i with
              | zero => simp at a b; subst a; subst b; exact .sc _
              | succ i => simp at a
            refine ⟨g1, g2.mono fun e w' ⟨v, he, hx, hv⟩ => ⟨v, he, hx, ?_⟩⟩
            cases hv; exact .empty
        | list cvs hl hc' hcl hs' hx' hr' =>
          rename_i b off len cap
          simp only [List.length_nil] at hl; subst hl
          refine .inl (bodyP_sound hT hC (h3 ⟨b, off, none⟩ cap) hX hk rfl fun i c v a b => ?_)
          cases i with
          | zero => simp at a b; subst a; subst b; exact .sc _
          | succ i => simp at a
  · simp only [Option.some.injEq] at hr; subst hr
    exact .inl (bodyP_sound hT hC h2 hX hk hs hx)
  · cases hr
end Go.Lite

namespace Go.Lite
open Go
set_option linter.unusedVariables false

/-! # words for contracts -/
section
variable {R : Type}
@[simp] theorem oms_some (d : List (Int × PV)) (f : List (Int × PV) → Option R) : oms (some d) f = f d := nonrfl rfl
@[simp] theorem ckB_true (y : Option R) : ckB true y = y := nonrfl rfl
@[simp] theorem om_pair (r : MR) (fs : List FV) (f : MR → List FV → Option R) : om (some (r, fs)) f = f r fs := nonrfl rfl
@[simp] theorem fp_p (d : PV) (r : List FV) (f : PV → List FV → Option R) : fp (.p d :: r) f = f d r := nonrfl rfl
@[simp] theorem fm_m (es : List (Int × PV)) (r : List FV) (f : List (Int × PV) → List FV → Option R) : fm (.m es :: r) f = f es r := nonrfl rfl
@[simp] theorem fnil_nil (x : Option R) : fnil [] x = x := nonrfl rfl
@[simp] theorem r1_pure (d : PV) (f : PV → Option R) : r1 (.pure d) f = f d := nonrfl rfl
@[simp] theorem r2_one (d : List FV) (f : List FV → Option R) : r2 (.one d) f = f d := nonrfl rfl
@[simp] theorem r3_pure (d : PV) (f : PV → Option R) (g : List FV → PV → Option R) : r3 (.pure d) f g = f d := nonrfl rfl
@[simp] theorem r3_two (fs : List FV) (e : PV) (f : PV → Option R) (g : List FV → PV → Option R) : r3 (.two fs e) f g = g fs e := nonrfl rfl
end
/-! ## what goes on is looked at last -/
section
variable {R : Type}
theorem ob_cong {x y : Option PV} {f : PV → Option R} (h : x = y) : ob x f = ob y f := by rw [h]
theorem oxs_cong {x y : Option (List PV)} {f : List PV → Option R} (h : x = y) : oxs x f = oxs y f := by rw [h]
theorem oms_cong {x y : Option (List (Int × PV))} {f : List (Int × PV) → Option R} (h : x = y) : oms x f = oms y f := by rw [h]
theorem obs_cong {x y : Option ByteArray} {f : ByteArray → Option R} (h : x = y) : obs x f = obs y f := by rw [h]
theorem onat_cong {x y : Option Nat} {f : Nat → Option R} (h : x = y) : onat x f = onat y f := by rw [h]
theorem ck_cong {x y : Bool} {f : Option R} (h : x = y) : ck x f = ck y f := by rw [h]
theorem ckB_cong {x y : Bool} {f : Option R} (h : x = y) : ckB x f = ckB y f := by rw [h]
theorem cb_cong {x y : PV} {f g : Option R} (h : x = y) : cb x f g = cb y f g := by rw [h]
theorem gcase_cong {w : Bool} {x y : PV} {f g u : Option R} (h : x = y) : gcase w x f g u = gcase w y f g u := by rw [h]
theorem om_cong {x y : Option (MR × List FV)} {f : MR → List FV → Option R} (h : x = y) : om x f = om y f := by rw [h]
theorem fp_cong {x y : List FV} {f : PV → List FV → Option R} (h : x = y) : fp x f = fp y f := by rw [h]
theorem fm_cong {x y : List FV} {f : List (Int × PV) → List FV → Option R} (h : x = y) : fm x f = fm y f := by rw [h]
theorem fnil_cong {x y : List FV} {f : Option R} (h : x = y) : fnil x f = fnil y f := by rw [h]
theorem r1_cong {x y : MR} {f : PV → Option R} (h : x = y) : r1 x f = r1 y f := by rw [h]
theorem r2_cong {x y : MR} {f : List FV → Option R} (h : x = y) : r2 x f = r2 y f := by rw [h]
theorem r3_cong {x y : MR} {f : PV → Option R} {g : List FV → PV → Option R} (h : x = y) : r3 x f g = r3 y f g := by rw [h]

end
@[simp] theorem goI (n : Int) : PV.sc (goInt n) = I n := rfl
theorem bytes_of {P : Program} {t : TypeId} {n : Nat} (h : (P.info? t).map (·.bytes) = some n) : ∃ i, P.info? t = some i ∧ i.bytes = n := by
  cases hi : P.info? t with
  | none => rw [hi] at h; cases h
  | some i => rw [hi] at h; simp at h; exact ⟨i, rfl, h⟩

/-- a slice's type: its elements' layout and bytes -/
structure SlTy (P : Program) (t el lay n : Nat) : Prop where
  u : P.underlying t = some (.slice el)
  y : layOf P el = some lay
  z : ∃ z, zeroPV P el = some z ∧ z.hasLay lay = true
  w : 0 < width lay
  i : ∃ i, P.info? el = some i ∧ i.bytes = n
  n0 : 0 < n
def zOK (P : Program) (el lay : Nat) : Bool := match zeroPV P el with | some z => z.hasLay lay | none => false
theorem SlTy.of {P : Program} {t el lay n : Nat} (h1 : P.underlying t = some (.slice el)) (h2 : layOf P el = some lay) (h3 : zOK P el lay = true) (h4 : decide (0 < width lay) = true) (h5 : (P.info? el).map (·.bytes) = some n) (h6 : decide (0 < n) = true) : SlTy P t el lay n :=
  { u := h1, y := h2, z := by
      unfold zOK at h3
      split at h3
      · rename_i z hz; exact ⟨z, hz, h3⟩
      · cases h3
    w := of_decide_eq_true h4, i := bytes_of h5, n0 := of_decide_eq_true h6 }

/-- what shows these elements -/
def IsL (lay : Nat) (d : PV) (xs : List PV) : Prop := (d = nilSlice ∧ xs = []) ∨ ∃ c, d = .list lay c xs
theorem IsL.nil {lay : Nat} : IsL lay nilSlice [] := .inl ⟨rfl, rfl⟩
theorem IsL.list {lay : Nat} {c : Bool} {xs : List PV} : IsL lay (.list lay c xs) xs := .inr ⟨c, rfl⟩
theorem IsL.cell {lay : Nat} {d : PV} {xs : List PV} (h : IsL lay d xs) : d.isCell = true := by
  rcases h with ⟨rfl, _⟩ | ⟨c, rfl⟩ <;> rfl
theorem IsL.hasLay {lay : Nat} {d : PV} {xs : List PV} (h : IsL lay d xs) : PV.hasLay 0 d = true := by
  rcases h with ⟨rfl, _⟩ | ⟨c, rfl⟩ <;> rfl
theorem IsL.cells {lay : Nat} {d : PV} {xs : List PV} (h : IsL lay d xs) : PV.cells d = [d] := by
  rcases h with ⟨rfl, _⟩ | ⟨c, rfl⟩ <;> rfl

section
variable {P : Program} {t tx el elx lay n nx : Nat}
theorem SlTy.len (h : SlTy P t el lay n) {d : PV} {xs : List PV} (hd : IsL lay d xs) : (lenPV P t d).map (fun n => I n) = some (I xs.length) := by
  rcases hd with ⟨rfl, rfl⟩ | ⟨c, rfl⟩ <;> simp [lenPV, h.u, nilSlice]
theorem SlTy.lenL (h : SlTy P t el lay n) {c : Bool} {xs : List PV} : (lenPV P t (.list lay c xs)).map (fun n => I n) = some (I xs.length) := h.len .list
theorem SlTy.lenN (h : SlTy P t el lay n) : (lenPV P t (.sc (.slice none 0 0))).map (fun n => I n) = some (I 0) := h.len (lay := lay) .nil
theorem SlTy.at (h : SlTy P t el lay n) {d x : PV} {xs : List PV} (hd : IsL lay d xs) {i : Nat} (hi : xs[i]? = some x) : indexAddrPV P t d (I i) = some (.ro lay x) := by
  rcases hd with ⟨rfl, rfl⟩ | ⟨c, rfl⟩
  · simp at hi
  · rw [indexAddr_list h.u h.y, hi]; rfl
theorem SlTy.atL (h : SlTy P t el lay n) {c : Bool} {xs : List PV} {i : Nat} : indexAddrPV P t (.list lay c xs) (I i) = (xs[i]?).map (.ro lay) := indexAddr_list h.u h.y c xs i
theorem SlTy.appTo (h : SlTy P t el lay n) (hx : SlTy P tx elx lay nx) {d : PV} {xs ys : List PV} (hd : IsL lay d ys) (hb : (xs.length + ys.length) * n ≤ 140737488355328) : appendTo P t tx lay xs d = some (xs ++ ys) := by
  obtain ⟨i, h1, h2⟩ := h.i
  obtain ⟨z, h3, h4⟩ := h.z
  have h5 := h.n0
  have h6 := h.w
  rcases hd with ⟨rfl, rfl⟩ | ⟨c, rfl⟩
  · simp [appendTo, h.u, hx.u, h.y, h1, h3, h2, h4, h5, h6, layPV, elemsPV?, appendRoom, nilSlice] at hb ⊢; exact hb
  · simp [appendTo, h.u, hx.u, h.y, h1, h3, h2, h4, h5, h6, layPV, elemsPV?, appendRoom] at hb ⊢; exact hb
theorem SlTy.app (h : SlTy P t el lay n) (hx : SlTy P tx elx lay nx) {c c' : Bool} {xs ys : List PV} (hb : (xs.length + ys.length) * n ≤ 140737488355328) : appendPV P t tx (.list lay true xs) (.list lay c ys) = some (.list lay ys.isEmpty (xs ++ ys)) := by
  obtain ⟨i, h1, h2⟩ := h.i
  obtain ⟨z, h3, h4⟩ := h.z
  have h5 := h.n0
  have h6 := h.w
  simp [appendPV, h.u, hx.u, h.y, h1, h3, h2, h4, h5, h6, appendRoom]; exact hb
theorem SlTy.appN (h : SlTy P t el lay n) (hx : SlTy P tx elx lay nx) {c : Bool} {ys : List PV} (hb : ys.length * n ≤ 140737488355328) : appendPV P t tx (.sc (.slice none 0 0)) (.list lay c ys) = some (.list lay false ys) := by
  obtain ⟨i, h1, h2⟩ := h.i
  obtain ⟨z, h3, h4⟩ := h.z
  have h5 := h.n0
  have h6 := h.w
  simp [appendPV, h.u, hx.u, h.y, h1, h3, h2, h4, h5, h6, appendRoom]; exact hb
theorem SlTy.to (h : SlTy P t el lay n) {c : Bool} {xs : List PV} {i : Nat} (hi : i ≤ xs.length) : slicePVd P t (.list lay c xs) none (some (I i)) none = some (.list lay (c && ((i : Int) == xs.length)) (xs.take i)) := by
  simp [slicePVd, h.u, h.y, optIntPV, intPV?, sliceMxPV, slicePV, hi]
theorem SlTy.toMax (h : SlTy P t el lay n) {c : Bool} {xs : List PV} {i : Nat} (hi : i ≤ xs.length) : slicePVd P t (.list lay c xs) none (some (I i)) (some (I i)) = some (.list lay true (xs.take i)) := by
  simp [slicePVd, h.u, h.y, optIntPV, intPV?, sliceMxPV, slicePV, hi]
theorem SlTy.from (h : SlTy P t el lay n) {c : Bool} {xs : List PV} {i : Nat} (hi : i ≤ xs.length) : slicePVd P t (.list lay c xs) (some (I i)) none none = some (.list lay (c && ((xs.length : Int) == xs.length)) (xs.drop i)) := by
  simp [slicePVd, h.u, h.y, optIntPV, intPV?, sliceMxPV, slicePV, hi]
theorem SlTy.eqNil (h : SlTy P t el lay n) {x y : Operand} {c : Bool} {a : PV} {xs : List PV} : binPV P .eql t x y (.list lay c (a :: xs)) (.sc (.slice none 0 0)) = some (.sc (.bool false)) := by
  simp [binPV, PV.plain?, nilCmpPV, h.u]
end

/-! # numbers -/
section
variable (P : Program) (t : TypeId) (x y : Operand)
theorem add_int' (a b : Int) (h : -9223372036854775808 ≤ a + b ∧ a + b < 9223372036854775808) : binPV P .add t x y (I a) (I b) = some (I (a + b)) := by
  rw [add_int, wrap64 h.1 h.2]
@[simp] theorem sub_int0 (k : IntKind) (a b : Int) : binPV P .sub t x y (.sc (.int k a)) (.sc (.int k b)) = some (.sc (.int k (k.wrap (a - b)))) := by
  simp [binPV, PV.plain?, eqGuard, binOp]; rfl
@[simp] theorem mul_int0 (k : IntKind) (a b : Int) : binPV P .mul t x y (.sc (.int k a)) (.sc (.int k b)) = some (.sc (.int k (k.wrap (a * b)))) := by
  simp [binPV, PV.plain?, eqGuard, binOp]; rfl
theorem sub_int (a b : Int) (h : -9223372036854775808 ≤ a - b ∧ a - b < 9223372036854775808) : binPV P .sub t x y (I a) (I b) = some (I (a - b)) := by
  rw [sub_int0, wrap64 h.1 h.2]
theorem mul_int (a b : Int) (h : -9223372036854775808 ≤ a * b ∧ a * b < 9223372036854775808) : binPV P .mul t x y (I a) (I b) = some (I (a * b)) := by
  rw [mul_int0, wrap64 h.1 h.2]
theorem rem_int (a : Int) (k : Int) (h : ¬ k = 0) : binPV P .rem t x y (I a) (I k) = some (I (a.tmod k)) := by
  simp only [binPV, PV.plain?, eqGuard, binOp]
  have : pureRun P (Op.intDiv .rem .i64 a k) = some (.int .i64 (a.tmod k)) := by
    unfold Op.intDiv; rw [if_neg h]; rfl
  simp [this]
theorem rem_pos (a k : Int) (ha : 0 ≤ a) (h : 0 < k) : binPV P .rem t x y (I a) (I k) = some (I (a % k)) := by
  rw [rem_int _ _ _ _ _ _ (by omega), Int.tmod_eq_emod_of_nonneg ha]
theorem quo_int (a : Int) (k : Int) (h : ¬ k = 0) (hb : -9223372036854775808 ≤ a.tdiv k ∧ a.tdiv k < 9223372036854775808) : binPV P .quo t x y (I a) (I k) = some (I (a.tdiv k)) := by
  simp only [binPV, PV.plain?, eqGuard, binOp]
  have : pureRun P (Op.intDiv .quo .i64 a k) = some (.int .i64 (IntKind.i64.wrap (a.tdiv k))) := by
    unfold Op.intDiv; rw [if_neg h]; rfl
  simp [this, wrap64 hb.1 hb.2]
theorem quo_pos (a k : Int) (ha : 0 ≤ a) (ha' : a < 9223372036854775808) (h : 0 < k) : binPV P .quo t x y (I a) (I k) = some (I (a / k)) := by
  have h1 : a.tdiv k = a / k := Int.tdiv_eq_ediv_of_nonneg ha
  have h2 : 0 ≤ a / k := Int.ediv_nonneg ha (by omega)
  have h3 : a / k ≤ a := Int.ediv_le_self k ha
  rw [quo_int _ _ _ _ _ _ (by omega) (by rw [h1]; omega), h1]
end
/-! # elements of own arrays -/
theorem idxArr_nat {lay n i : Nat} (h : i < n) : idxArr lay lay n (I i) = some i := by
  simp [idxArr, intPV?, h]
@[simp] theorem put_I (y : AV) (k : IntKind) (n : Int) : putPV 0 0 0 y (.sc (.int k n)) = some (.sc (.int k n)) := by simp [putPV, PV.hasLay, PV.isCell]
@[simp] theorem put_Bo (y : AV) (b : Bool) : putPV 0 0 0 y (.sc (.bool b)) = some (.sc (.bool b)) := by simp [putPV, PV.hasLay, PV.isCell]
theorem put_cell (y : AV) (d : PV) (h : PV.hasLay 0 d = true) : putPV 0 0 0 y d = some d := by simp [putPV, h]
theorem set_cell {xs : List PV} {i : Nat} {d : PV} (hi : i < xs.length) (h : PV.hasLay 0 d = true) : ((xs[i]?).bind fun y => (putPV 0 0 0 (.pv y) d).map fun z => List.set xs i z) = some (xs.set i d) := by
  rw [List.getElem?_eq_getElem hi]
  simp [put_cell _ d h]
theorem get_cell {xs : List PV} {i : Nat} {d : PV} (h : xs[i]? = some d) : ((xs[i]?).bind fun x => x.at_ 0 0 0) = some d := by
  rw [h]; simp [PV.at_]
@[simp] theorem at_0 (d : PV) : PV.at_ 0 0 0 d = some d := by simp [PV.at_]
theorem putPV_all {l0 : Nat} {v : AV} {d : PV} (h : d.hasLay l0 = true) : putPV l0 0 l0 v d = some d := by simp [putPV, h]

/-! # what Typed says -/
theorem consL {α : Type} {xs : List α} {n : Nat} (h : xs.length = n + 1) : ∃ a r, xs = a :: r ∧ r.length = n := by
  cases xs with
  | nil => simp at h
  | cons a r => exact ⟨a, r, rfl, by simpa using h⟩
theorem nilL {α : Type} {xs : List α} (h : xs.length = 0) : xs = [] := List.eq_nil_of_length_eq_zero h
theorem TypedA.cell {ct : CT} {d : PV} (h : TypedA (0, [ct]) d) : Typed ct d := by
  obtain ⟨xs, rfl, hl, hx⟩ := h
  match xs, hl with
  | [x], _ => exact hx 0 ct x rfl rfl
theorem rows_one {α : Type} {ct : CT} {f : α → PV} (hi : ∀ d, Typed ct d → ∃ n, d = f n) : ∀ (rows : List (List PV)), (∀ xs ∈ rows, xs.length = 1) → (∀ xs ∈ rows, ∀ (i : Nat) (c : CT) (x : PV), [ct][i]? = some c → xs[i]? = some x → Typed c x) →
    ∃ ns : List α, rows.map (rowPV 0) = ns.map f ∧ ns.length = rows.length := by
  intro rows
  induction rows with
  | nil => intro _ _; exact ⟨[], rfl, rfl⟩
  | cons r rows ih =>
    intro hl hx
    obtain ⟨ns, h1, h2⟩ := ih (fun xs h => hl xs (by simp [h])) (fun xs h => hx xs (by simp [h]))
    have hr := hl r (by simp)
    match r, hr with
    | [x], _ =>
      obtain ⟨n, rfl⟩ := hi x (hx [x] (by simp) 0 ct x rfl rfl)
      exact ⟨n :: ns, by simp [h1, rowPV], by simp [h2]⟩
theorem ints_inv {k : IntKind} {bytes : Nat} {d : PV} (h : Typed (.list 0 bytes [.int k]) d) : ∃ ns : List Int, d = .list 0 false (ns.map fun n => .sc (.int k n)) ∧ ns.length * bytes ≤ reachBytes := by
  cases h with
  | list rows hm hb hl hx =>
    obtain ⟨ns, h1, h2⟩ := rows_one (f := fun n => PV.sc (.int k n)) (fun d h => by cases h; exact ⟨_, rfl⟩) rows hl hx
    exact ⟨ns, by rw [h1], by rw [h2]; exact hb⟩
end Go.Lite
namespace Go.Lite
open Go
/-! # maps as lists of pairs -/
section
variable {α : Type}
def mapE (f : α → PV) (l : List (Int × α)) : List (Int × PV) := l.map fun p => (p.1, f p.2)
def lookE (k : Int) : List (Int × α) → Option α
  | [] => none
  | p :: r => if p.1 = k then some p.2 else lookE k r
def updE (k : Int) (x : α) : List (Int × α) → List (Int × α)
  | [] => [(k, x)]
  | p :: r => if p.1 = k then (k, x) :: r else p :: updE k x r
def delE (k : Int) : List (Int × α) → List (Int × α)
  | [] => []
  | p :: r => if p.1 = k then r else p :: delE k r
@[simp] theorem mapE_nil (f : α → PV) : mapE f [] = [] := rfl
@[simp] theorem mapE_length (f : α → PV) (l : List (Int × α)) : (mapE f l).length = l.length := by simp [mapE]
theorem mapE_keys (f : α → PV) (l : List (Int × α)) : (mapE f l).map (·.1) = l.map (·.1) := by simp [mapE]
@[simp] theorem findM_mapE (f : α → PV) (k : Int) (l : List (Int × α)) : findM k (mapE f l) = (lookE k l).map f := by
  induction l with
  | nil => rfl
  | cons p r ih =>
    simp only [mapE, List.map_cons, findM, lookE] at ih ⊢
    by_cases h : p.1 = k
    · simp [h]
    · have h2 : (p.1 == k) = false := by simpa using h
      rw [if_neg h, h2]; exact ih
@[simp] theorem updM_mapE (f : α → PV) (k : Int) (x : α) (l : List (Int × α)) : updM k (f x) (mapE f l) = mapE f (updE k x l) := by
  induction l with
  | nil => rfl
  | cons p r ih =>
    simp only [mapE, List.map_cons, updM, updE] at ih ⊢
    by_cases h : p.1 = k
    · simp [h]
    · have h2 : (p.1 == k) = false := by simpa using h
      rw [if_neg h, h2]; simp [ih]
@[simp] theorem delM_mapE (f : α → PV) (k : Int) (l : List (Int × α)) : delM k (mapE f l) = mapE f (delE k l) := by
  induction l with
  | nil => rfl
  | cons p r ih =>
    simp only [mapE, List.map_cons, delM, delE] at ih ⊢
    by_cases h : p.1 = k
    · simp [h]
    · have h2 : (p.1 == k) = false := by simpa using h
      rw [if_neg h, h2]; simp [ih]
def keysE (l : List (Int × α)) : List Int := l.map (·.1)
theorem lookE_none {k : Int} {l : List (Int × α)} : lookE k l = none ↔ k ∉ keysE l := by
  induction l with
  | nil => simp [lookE, keysE]
  | cons p r ih =>
    simp only [lookE, keysE, List.map_cons, List.mem_cons, not_or] at ih ⊢
    by_cases h : p.1 = k
    · simp [h]
    · rw [if_neg h, ih]
      exact ⟨fun x => ⟨fun e => h e.symm, x⟩, fun x => x.2⟩
theorem lookE_some_mem {k : Int} {x : α} {l : List (Int × α)} (h : lookE k l = some x) : (k, x) ∈ l := by
  induction l with
  | nil => simp [lookE] at h
  | cons p r ih =>
    simp only [lookE] at h
    split at h
    · rename_i hk; simp at h; subst h; subst hk; simp
    · exact List.mem_cons_of_mem _ (ih h)
theorem lookE_updE {k j : Int} {x : α} {l : List (Int × α)} : lookE j (updE k x l) = if j = k then some x else lookE j l := by
  induction l with
  | nil => simp only [updE, lookE]; by_cases h : j = k <;> simp [h]; intro e; exact absurd e.symm h
  | cons p r ih =>
    simp only [updE]
    by_cases h : p.1 = k
    · rw [if_pos h]; simp only [lookE, h]
      by_cases hj : j = k
      · simp [hj]
      · have : ¬ k = j := fun e => hj e.symm
        simp [hj, this]
    · rw [if_neg h]; simp only [lookE, ih]
      by_cases hj : p.1 = j
      · have : ¬ j = k := fun e => h (hj.trans e)
        simp [hj, this]
      · simp [hj]
theorem keysE_cons (p : Int × α) (r : List (Int × α)) : keysE (p :: r) = p.1 :: keysE r := rfl
theorem keysE_updE {k : Int} {x : α} {l : List (Int × α)} : keysE (updE k x l) = if k ∈ keysE l then keysE l else keysE l ++ [k] := by
  induction l with
  | nil => simp [updE, keysE]
  | cons p r ih =>
    simp only [updE]
    by_cases h : p.1 = k
    · rw [if_pos h, keysE_cons, keysE_cons, if_pos (by rw [h]; simp), h]
    · have h' : ¬ k = p.1 := fun e => h e.symm
      rw [if_neg h, keysE_cons, keysE_cons, ih]
      by_cases hk : k ∈ keysE r
      · rw [if_pos hk, if_pos (by simp [hk])]
      · rw [if_neg hk, if_neg (by simp [hk, h'])]; rfl
theorem mem_updE {k j : Int} {x : α} {l : List (Int × α)} : j ∈ keysE (updE k x l) ↔ j = k ∨ j ∈ keysE l := by
  rw [keysE_updE]
  by_cases h : k ∈ keysE l
  · rw [if_pos h]; exact ⟨.inr, fun x => x.elim (fun e => e ▸ h) id⟩
  · rw [if_neg h]; simp [or_comm]
theorem nodup_updE {k : Int} {x : α} {l : List (Int × α)} (h : (keysE l).Nodup) : (keysE (updE k x l)).Nodup := by
  rw [keysE_updE]
  by_cases hk : k ∈ keysE l
  · rw [if_pos hk]; exact h
  · rw [if_neg hk]
    exact List.nodup_append.2 ⟨h, by simp, fun a ha b hb => by simp at hb; subst hb; intro e; subst e; exact hk ha⟩
theorem keysE_delE {k : Int} {l : List (Int × α)} : keysE (delE k l) = (keysE l).erase k := by
  induction l with
  | nil => rfl
  | cons p r ih =>
    simp only [delE, keysE, List.map_cons] at ih ⊢
    by_cases h : p.1 = k
    · rw [if_pos h, h]; simp
    · have : (p.1 == k) = false := by simpa using h
      rw [if_neg h, List.erase_cons, this]; simp [ih]
theorem nodup_delE {k : Int} {l : List (Int × α)} (h : (keysE l).Nodup) : (keysE (delE k l)).Nodup := by
  rw [keysE_delE]; exact h.erase k
theorem mem_delE {k j : Int} {l : List (Int × α)} (h : (keysE l).Nodup) : j ∈ keysE (delE k l) ↔ j ≠ k ∧ j ∈ keysE l := by
  rw [keysE_delE]; exact h.mem_erase_iff
theorem lookE_delE {k j : Int} {l : List (Int × α)} (h : (keysE l).Nodup) : lookE j (delE k l) = if j = k then none else lookE j l := by
  induction l with
  | nil => simp [delE, lookE]
  | cons p r ih =>
    simp only [keysE, List.map_cons, List.nodup_cons] at h
    simp only [delE]
    by_cases hk : p.1 = k
    · rw [if_pos hk]
      by_cases hj : j = k
      · rw [if_pos hj]; exact lookE_none.2 (by rw [hj, ← hk]; exact h.1)
      · rw [if_neg hj]; have : ¬ p.1 = j := fun e => hj (e.symm.trans hk)
        simp [lookE, this]
    · rw [if_neg hk]; simp only [lookE, ih h.2]
      by_cases hj : p.1 = j
      · have : ¬ j = k := fun e => hk (hj.trans e)
        simp [hj, this]
      · simp [hj]
theorem mem_of_updE {k : Int} {x : α} {l : List (Int × α)} {p : Int × α} (h : p ∈ updE k x l) : p = (k, x) ∨ p ∈ l := by
  induction l with
  | nil => simp [updE] at h; exact .inl h
  | cons q r ih =>
    simp only [updE] at h
    split at h
    · simp only [List.mem_cons] at h ⊢; exact h.imp id .inr
    · simp only [List.mem_cons] at h ⊢
      rcases h with h | h
      · exact .inr (.inl h)
      · exact (ih h).imp id .inr
theorem mem_of_delE {k : Int} {l : List (Int × α)} {p : Int × α} (h : p ∈ delE k l) : p ∈ l := by
  induction l with
  | nil => simp [delE] at h
  | cons q r ih =>
    simp only [delE] at h
    split at h
    · exact List.mem_cons_of_mem _ h
    · simp only [List.mem_cons] at h ⊢; exact h.imp id ih
end
/-- the keys of a list, rising: of what the list's keys are -/
theorem sorted_mapE {α : Type} {f : α → PV} {l : List (Int × α)} (hk : ∀ j ∈ keysE l, keyOK j = true) (hl : l.length ≤ 1000000) : sortedPV (mapE f l) = some (intsPV (isort (keysE l))) := by
  have h1 : ((mapE f l).all fun p => keyOK p.1) = true := by
    simp only [mapE, List.all_map, List.all_eq_true]
    exact fun p hp => hk p.1 (List.mem_map.2 ⟨p, hp, rfl⟩)
  have h2 : decide ((mapE f l).length * 8 ≤ 140737488355328) = true := by simp; omega
  simp only [sortedPV, h1, h2, mapE_keys, keysE, Bool.and_self, cond_true]
theorem sorted_unique {l l' : List Int} (h : l.Pairwise (· < ·)) (h' : l'.Pairwise (· < ·)) (hm : ∀ x, x ∈ l ↔ x ∈ l') : l = l' := by
  have n1 : l.Nodup := h.imp fun h => Int.ne_of_lt h
  have n2 : l'.Nodup := h'.imp fun h => Int.ne_of_lt h
  exact List.Perm.eq_of_pairwise (le := (· ≤ ·)) (fun a b _ _ h1 h2 => Int.le_antisymm h1 h2) (h.imp Int.le_of_lt) (h'.imp Int.le_of_lt) ((List.perm_ext_iff_of_nodup n1 n2).2 hm)
theorem isort_strict {l : List Int} (h : l.Nodup) : (isort l).Pairwise (· < ·) := by
  have h1 : (isort l).Nodup := (isort_perm l).nodup_iff.2 h
  have h2 := isort_sorted l
  exact (h2.and h1).imp fun ⟨a, b⟩ => Int.lt_iff_le_and_ne.2 ⟨a, b⟩
theorem intsPV_is (l : List Int) : IsL 0 (intsPV l) (l.map I) := by
  cases l with
  | nil => exact .nil
  | cons a r => exact .list
end Go.Lite

namespace Go.Lite
open Go
open Go.RowKit (Below)
open Go.Sort (Holds putRow grow mapBlock onCells putCells)

/-! # own functions that are not entered -/
theorem one_sr {X B : Nat} {w : World} {K : Keep} {m : Map} {lay : Nat} {xs : List PV} {loc : Loc} (hS : SR X B w K m [.arr lay true xs]) (hm : m 0 = some loc) : ObR X w K m (.arr lay true xs) loc := hS.ob 0 _ loc rfl hm

theorem unfrozen_same {w w' : World} {b : Nat} {cs cs' : Array Value} {ty : TypeId} {fr : Nat × Nat} (hu : Unfrozen w b) (hb : w.heap[b]? = some (.cells cs ty fr)) (hb' : w'.heap[b]? = some (.cells cs' ty fr)) (hs : cs'.size = cs.size) : Unfrozen w' b :=
  ⟨fun o ho => by
    have h0 : w.frozen? ⟨b, o, none⟩ = true := by simp only [World.frozen?, hb, hb'] at ho ⊢; exact ho
    have h1 := hu.1 o h0
    simp only [World.cell?, hb, hb'] at h1 ⊢
    simp only [Option.isSome_none, Bool.false_eq_true, if_false, Array.getElem?_eq_none_iff] at h1 ⊢
    omega, fun cs2 ty2 fr2 h2 => by rw [hb'] at h2; simp only [Option.some.injEq, Obj.cells.injEq] at h2; obtain ⟨_, _, rfl⟩ := h2; exact hu.2 _ _ _ hb⟩
/-- an array that is written in place -/
theorem lent_turn {X B : Nat} {w w1 w2 : World} {K : Keep} {m : Map} {lay b off : Nat} {xs ys : List PV} {loc : Loc} (hS : SR X B w K m [.arr lay true xs]) (hm : m 0 = some loc) (ha : loc.a = some ⟨b, off, none⟩) (hown : loc.own = true)
    (hU : Upd b w w1) (hE : Ext w1 K w2 K) (hcell : ∃ cs cs' ty fr, w.heap[b]? = some (.cells cs ty fr) ∧ w1.heap[b]? = some (.cells cs' ty fr) ∧ cs'.size = cs.size) (hl : ys.length = xs.length)
    (cvs : List Value) (hcl : cvs.length = ys.length) (hx : ∀ (i : Nat) (y : PV) (cv : Value), ys[i]? = some y → cvs[i]? = some cv → PVR X w K y cv)
    (hr : ∀ (i : Nat) (cv : Value), cvs[i]? = some cv → Row w1 (fun _ _ => True) b (off + i * width lay) lay cv) :
    SR X B w2 K m [.arr lay true ys] ∧ Fr X B w K [.arr lay true xs] m w2 K [.arr lay true ys] m := by
  have hob := one_sr hS hm
  have hblk : loc.block? = some b := by simp [Loc.block?, hown, ha]
  obtain ⟨hBb, hblt⟩ := hS.mine 0 loc b hm hblk
  have hnoK : ∀ o, ¬ K b o := by
    generalize hex : (true : Bool) = ex at hob
    cases hob with
    | nilArr hz hl hc ho => rw [hown] at ho; cases ho
    | arr cvs' ha' hz hl' hc hs hx' hr' ho hn =>
      subst hex
      rw [ha] at ha'; simp only [Option.some.injEq, Addr.mk.injEq, and_true] at ha'; obtain ⟨rfl, rfl⟩ := ha'
      intro o hK
      have := ((ho hown).2.2 o hK).1; simp at this
  have hp : Pres X w K w1 := fun b' o v hK hc => by
    have hne : b' ≠ b := by
      rintro rfl
      rcases hK with hK | hK
      · exact hnoK o hK
      · have := hS.low.1; omega
    rw [cell?_of_heap (hU.block _ hne)]; exact hc
  have hob1 : ObR X w1 K m (.arr lay true ys) loc := by
    generalize hex : (true : Bool) = ex at hob
    cases hob with
    | nilArr hz hl hc ho => rw [hown] at ho; cases ho
    | arr cvs' ha' hz hl' hc hs hx' hr' ho hn =>
      subst hex
      rw [ha] at ha'; simp only [Option.some.injEq, Addr.mk.injEq, and_true] at ha'; obtain ⟨rfl, rfl⟩ := ha'
      obtain ⟨⟨cs0, ty0, fr0, hb0, hfit⟩, hu, _⟩ := ho hown
      obtain ⟨cs, cs', ty, fr, hb, hb', hsz⟩ := hcell
      rw [hb] at hb0; simp only [Option.some.injEq, Obj.cells.injEq] at hb0; obtain ⟨rfl, rfl, rfl⟩ := hb0
      exact .arr cvs ha hz (by omega) hc hcl (fun i x cv h1 h2 => (hx i x cv h1 h2).mono hp (Sub.refl _)) (by simpa using hr) (fun _ => ⟨⟨cs', ty, fr, hb', by omega⟩, hu.turn hb hb' (unfrozen_same hu.1 hb hb' hsz), fun o hK => absurd hK (hnoK o)⟩) hn
  have hS1 := hS.upd hm hblk hU hp hob1
  have hF1 : Fr X B w K [.arr lay true xs] m w1 K [.arr lay true ys] m := ⟨hU.below hBb, hp, Sub.refl _, fun _ _ h => .inl h, ⟨by simp, fun id n hid hn => ⟨n, by
      simp only [List.length_cons, List.length_nil] at hid
      obtain rfl : id = 0 := by omega
      simp only [alen, List.getElem?_cons_zero, Option.some.injEq] at hn ⊢; omega, Nat.le_refl _, fun _ => rfl⟩, fun id hid hn => by
      simp only [List.length_cons, List.length_nil] at hid
      obtain rfl : id = 0 := by omega
      simp [alen] at hn, fun id hid => by
      simp only [List.length_cons, List.length_nil] at hid
      obtain rfl : id = 0 := by omega
      rfl⟩, hU.frm hm hblk⟩
  exact ⟨SR.ext hE hS1, hF1.trans (hE.fr (by rw [hU.size]; exact hS.size))⟩

/-! ## slices.Sort of ints -/
/-- what the library's own text is known to do -/
def SortsI (P : Program) (g : FuncId) : Prop :=
  Entered P g ∧ (∀ (blk off cap : Nat) (zs : List Int) (w : World), Holds (Value.int .i64) w blk off zs.toArray → blk < w.heap.size → zs.length < 4611686018427387904 →
    Calls P g #[.slice (some ⟨blk, off, none⟩) zs.length cap] w fun e w' => e = .returned (.tuple #[]) ∧ ∃ n os, w' = grow (putRow (Value.int .i64) (Sort.ahead w n) blk off (zs.mergeSort fun x y => decide (x ≤ y)).toArray) os) ∧
  ∀ (p : Option Addr) (cap : Nat) (w : World), Calls P g #[.slice p 0 cap] w fun e w' => e = .returned (.tuple #[]) ∧ w' = w

def i64? : PV → Option Int
  | .sc (.int .i64 n) => some n
  | _ => none
def i64s : List PV → Option (List Int)
  | [] => some []
  | d :: r => (match i64? d, i64s r with
    | some n, some ns => some (n :: ns)
    | _, _ => none)
theorem i64s_map : ∀ (l : List Int), i64s (l.map fun n => .sc (.int .i64 n)) = some l
  | [] => rfl
  | x :: r => by simp [i64s, i64?, i64s_map r]
theorem i64s_some : ∀ {xs : List PV} {ns : List Int}, i64s xs = some ns → xs = ns.map fun n => .sc (.int .i64 n)
  | [], ns, h => by simp [i64s] at h; subst h; rfl
  | d :: r, ns, h => by
    simp only [i64s] at h
    split at h
    · rename_i n ns' h1 h2
      simp only [Option.some.injEq] at h; subst h
      have := i64s_some h2
      unfold i64? at h1
      split at h1
      · simp only [Option.some.injEq] at h1; subst h1; simp [this]
      · cases h1
    · cases h
def sortQ (_ : FuncId → List PV → Option PV) (os : List OV) : Option (List OV) :=
  match os with
  | [.a 0 xs] => (match i64s xs with
    | some ns => bif decide (ns.length < 4611686018427387904) then some [.a 0 ((isort ns).map fun n => .sc (.int .i64 n))] else none
    | none => none)
  | _ => none
def sortPO : PO := ⟨sortQ, fun _ _ _ _ _ h => h⟩
theorem sortQ_ints (cp : FuncId → List PV → Option PV) (ns : List Int) (h : ns.length < 4611686018427387904) : sortPO.q cp [.a 0 (ns.map fun n => .sc (.int .i64 n))] = some [.a 0 ((isort ns).map fun n => .sc (.int .i64 n))] := by
  simp [sortPO, sortQ, i64s_map, h]

theorem sort_ok {P : Program} {g : FuncId} (hg : SortsI P g) (os r : List OV) (hq : sortQ (fun _ _ => none) os = some r) (X B : Nat) (w : World) (K : Keep) (m : Map) (vs : Array Value) (hS : SR X B w K m (resO 0 os).2)
    (hd : ∀ id, (resO 0 os).2.length ≤ id → m id = none) (hs : vs.size = (resO 0 os).1.length) (hx : ∀ (i : Nat) (c : AV) (v : Value), (resO 0 os).1[i]? = some c → vs[i]? = some v → VR X w K m c v) :
    Entered P g ∧ Calls P g vs w fun e w' => ∃ v, e = .returned v ∧ ∃ dd S' K' m', finO ⟨[2], 1, []⟩ os dd S' = some r ∧ Fr X B w K (resO 0 os).2 m w' K' S' m' ∧ SR X B w' K' m' S' ∧ (∀ id, S'.length ≤ id → m' id = none) ∧ VR X w' K' m' dd v := by
  obtain ⟨hent, hcall, hnone⟩ := hg
  refine ⟨hent, ?_⟩
  unfold sortQ at hq
  split at hq
  case h_2 => cases hq
  rename_i xs
  split at hq
  case h_2 => cases hq
  rename_i ns hns
  cases hlt : decide (ns.length < 4611686018427387904) <;> rw [hlt] at hq <;> simp only [cond_true, cond_false, Option.some.injEq, reduceCtorEq] at hq
  simp only [decide_eq_true_eq] at hlt
  subst hq
  have hxs := i64s_some hns
  simp only [resO, List.length_cons, List.length_nil] at hs hS hd hx ⊢
  obtain ⟨v0, rfl⟩ : ∃ v0, vs = #[v0] := ⟨vs[0], one_array hs⟩
  have hv := hx 0 _ v0 rfl rfl
  cases hv with
  | arr hm =>
    rename_i loc
    have hfin : ∀ {lay : Nat} {ys : List PV}, lay = 0 → ys.length = xs.length → finO ⟨[2], 1, []⟩ [.a 0 xs] (.pv (.tup [])) [.arr lay true ys] = some [.a 0 ys] := by
      intro lay ys h0 hl
      subst h0
      have : Nat.beq ys.length xs.length = true := by rw [hl]; exact Nat.beq_refl _
      simp [finO, finL, AV.parts, lentIds, cellsK, lentK, ckB, nodupN, this]
    have hob := one_sr hS hm
    have hslen : (isort ns).length = ns.length := (isort_perm ns).length_eq
    by_cases hown : loc.own = true
    · generalize hex : (true : Bool) = ex at hob
      cases hob with
      | nilArr hz hl hc ho => rw [hown] at ho; cases ho
      | arr cvs ha hz hl hc hcl hcx hr ho hn =>
        rename_i b off
        subst hex
        have hblk : loc.block? = some b := by simp [Loc.block?, hown, ha]
        obtain ⟨hBb, hblt⟩ := hS.mine 0 loc b hm hblk
        obtain ⟨⟨cs, ty, fr, hb, hfit⟩, hu, hnk⟩ := ho hown
        have hlx : xs.length = ns.length := by rw [hxs, List.length_map]
        have hcell : ∀ j, j < ns.length → w.cell? ⟨b, off + j, none⟩ = some (.int .i64 (ns.getD j 0)) := by
          intro j hj
          have h1 : xs[j]? = some (.sc (.int .i64 (ns.getD j 0))) := by rw [hxs]; simp [List.getD_eq_getElem?_getD, List.getElem?_eq_getElem hj]
          obtain ⟨cv, h2⟩ : ∃ cv, cvs[j]? = some cv := ⟨cvs[j]'(by omega), List.getElem?_eq_getElem (by omega)⟩
          have h3 := hcx j _ _ h1 h2
          have h4 := (hr j _ h2).2 0 cv (by simp [cellsL])
          simp only [width, if_true, Nat.mul_one, Nat.add_zero] at h4
          rw [h4.2]
          cases h3; rfl
        have hH : Holds (Value.int .i64) w b off ns.toArray := by
          intro j hj
          simp only [List.size_toArray] at hj
          refine ⟨?_, ?_⟩
          · rw [hcell j hj]; simp [List.getD_eq_getElem?_getD, List.getElem?_eq_getElem hj, hj]
          · cases hf : w.frozen? ⟨b, off + j, none⟩ with
            | false => rfl
            | true => have := hu.1.1 _ hf; rw [hcell j hj] at this; cases this
        rw [ha, hl, hlx]
        refine (hcall b off loc.cap ns w hH hblt hlt).mono fun e w' ⟨he, n, os', hw⟩ => ⟨_, he, .pv (.tup []), [.arr 0 true ((isort ns).map fun n => .sc (.int .i64 n))], K, m, hfin rfl (by simp [hslen, hlx]), ?_⟩
        rw [isort_eq (List.Perm.refl ns)] at hw
        let w1 := putRow (Value.int .i64) (Sort.ahead w n) b off (isort ns).toArray
        have hH' : Holds (Value.int .i64) (Sort.ahead w n) b off ns.toArray := hH
        have hcell1 : ∀ j, j < ns.length → w1.cell? ⟨b, off + j, none⟩ = some (.int .i64 ((isort ns).getD j 0)) := by
          intro j hj
          have := Sort.cell?_putRow (Value.int .i64) (Sort.ahead w n) b off ns.toArray (isort ns).toArray hH' (by simp [hslen]) j (by simp [hslen]; exact hj)
          rw [this]; simp [List.getD_eq_getElem?_getD, hslen, hj]
        have hU : Upd b w w1 := ⟨rfl, rfl, rfl, by simp [w1, Sort.ahead], fun k hk => by
          simp [w1, putRow, mapBlock, Sort.ahead, Array.getElem?_modify, Ne.symm hk]⟩
        have hE : Ext w1 K w' K := by
          rw [hw]
          refine ⟨⟨rfl, rfl, rfl, by simp [grow, w1], fun k hk => ?_⟩, Sub.refl _, fun _ _ h => .inl h⟩
          show (w1.heap ++ os')[k]? = w1.heap[k]?
          rw [Array.getElem?_append, if_pos hk]
        have hb1 : w1.heap[b]? = some (.cells (putCells (Value.int .i64) off (isort ns).toArray cs) ty fr) := by
          simp [w1, putRow, mapBlock, Sort.ahead, Array.getElem?_modify, hb, onCells]
        have hcs1 : (putCells (Value.int .i64) off (isort ns).toArray cs).size = cs.size := by simp [putCells]
        obtain ⟨g1, g2⟩ := lent_turn (w2 := w') hS hm ha hown hU hE ⟨cs, _, ty, fr, hb, hb1, hcs1⟩
          (ys := (isort ns).map fun n => .sc (.int .i64 n)) (by simp [hslen, hlx]) ((isort ns).map fun n => .int .i64 n) (by simp) (fun i y cv h1 h2 => by
            simp only [List.getElem?_map, Option.map_eq_some_iff] at h1 h2
            obtain ⟨z, h1, rfl⟩ := h1
            obtain ⟨z', h2, rfl⟩ := h2
            rw [h1] at h2; simp only [Option.some.injEq] at h2; subst h2
            exact .sc _) (fun i cv h1 => by
            simp only [List.getElem?_map, Option.map_eq_some_iff] at h1
            obtain ⟨z, h1, rfl⟩ := h1
            have hi : i < ns.length := by rw [← hslen]; exact getElem?_lt h1
            refine ⟨⟨.inl rfl, fun j v hj => ?_⟩, fun j v hj => ⟨trivial, ?_⟩⟩
            · simp [cellsL] at hj
              cases j with
              | zero => simp at hj; subst hj; rfl
              | succ j => simp at hj
            · simp [cellsL] at hj
              cases j with
              | zero =>
                simp at hj; subst hj
                have := hcell1 i hi
                simp only [width, if_true, Nat.mul_one, Nat.add_zero]
                rw [this]
                simp [List.getD_eq_getElem?_getD, h1]
              | succ j => simp at hj)
        exact ⟨g2, g1, fun id hid => hd id (by simpa using hid), .pv (.tup rfl (by simp))⟩
    · -- nothing is there
      have hown' : loc.own = false := by simpa using hown
      generalize hex : (true : Bool) = ex at hob
      cases hob with
      | arr cvs ha hz hl hc hcl hcx hr ho hn => subst hex; have := (hn hown').1; simp at this
      | nilArr hz hl hc ho =>
        subst hex
        have hns0 : ns = [] := by simp [i64s] at hns; exact hns
        subst hns0
        rw [hl]
        refine (hnone loc.a loc.cap w).mono fun e w' ⟨he, hw⟩ => ⟨_, he, .pv (.tup []), [.arr 0 true []], K, m, by simpa [isort] using hfin (ys := []) rfl rfl, ?_⟩
        subst hw
        exact ⟨Fr.refl _ _ _ _ _ _, hS, fun id hid => hd id (by simpa using hid), .pv (.tup rfl (by simp))⟩
/-! ## slices.Insert -/
def insertList (lay : Nat) : PV → Option (List PV)
  | .list l _ ys => bif Nat.beq l lay then some ys else none
  | .sc (.slice none 0 0) => some []
  | _ => none
def insertQ (lay bytes : Nat) (_ : FuncId → List PV → Option PV) (os : List OV) : Option (List OV) :=
  match os with
  | [.a l xs, .p (.sc (.int .i64 i)), .p v] => (match insertList lay v with
    | some ys => bif Nat.beq l lay && (decide (0 ≤ i) && (decide (i ≤ xs.length) && decide ((xs.length + ys.length) * bytes ≤ 140737488355328))) then some [.a l (xs.take i.toNat ++ (ys ++ xs.drop i.toNat))] else none
    | none => none)
  | _ => none
def insertPO (lay bytes : Nat) : PO := ⟨insertQ lay bytes, fun _ _ _ _ _ h => h⟩

end Go.Lite
