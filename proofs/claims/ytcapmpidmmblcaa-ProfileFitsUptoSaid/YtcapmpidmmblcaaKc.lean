import Derived.Test.YtcapmpidmmblcaaRo
import Derived.Deep.CondSized
set_option linter.unusedVariables false
set_option linter.unusedSimpArgs false

namespace Go.Lite
open Go
open Go.RowKit (Below)
set_option linter.unusedVariables false

/-! # rows where what is handed in is small -/
mutual
/-- how many elements there are, in all -/
def PV.cnt : PV → Nat
  | .list _ _ xs => PV.cntS xs
  | .agg cs => PV.cntA cs
  | _ => 0
def PV.cntS : List PV → Nat
  | [] => 0
  | y :: r => y.cnt + 1 + PV.cntS r
def PV.cntA : List PV → Nat
  | [] => 0
  | y :: r => y.cnt + PV.cntA r
end
theorem PV.cntA_append : ∀ (a b : List PV), PV.cntA (a ++ b) = PV.cntA a + PV.cntA b
  | [], b => by simp [PV.cntA]
  | x :: a, b => by simp only [List.cons_append, PV.cntA, PV.cntA_append a b]; omega
theorem PV.cntS_len : ∀ (a : List PV), a.length ≤ PV.cntS a
  | [] => by simp [PV.cntS]
  | x :: a => by have := PV.cntS_len a; simp only [PV.cntS, List.length_cons]; omega
structure BulkOK {H : Type} (bk : DataW H → Nat) (bkA : List (DataW H) → Nat) : Prop where
  one : ∀ d, 1 ≤ bk d
  slice : ∀ e s, bk (.slice e s) = bkA e + bkA s + 1
  agg : ∀ ps, bk (.agg ps) = bkA ps + 1
  nil : bkA [] = 0
  cons : ∀ d r, bkA (d :: r) = bk d + bkA r
theorem rowPV_cnt {lay : Nat} {xs : List PV} (h : xs.length = width lay) : (rowPV lay xs).cnt = PV.cntA xs := by
  unfold rowPV
  by_cases h0 : lay = 0
  · subst h0
    simp only [width, if_true] at h
    cases xs with
    | nil => simp at h
    | cons x r =>
      have : r = [] := by
        have : r.length = 0 := by simp at h; exact List.length_eq_zero_iff.2 h
        simpa using this
      subst this
      simp [PV.cntA]
  · simp [h0, PV.cnt]
section
variable {H : Type} {enc : TypeId × Value → H} {P : Program} {w : World} {sp : Nat → Bool} {bk : DataW H → Nat} {bkA : List (DataW H) → Nat} {base : Nat}
theorem cntS_le (hB : BulkOK bk bkA) : ∀ (l : List (DataW H)) (ys : List PV), ys.length = l.length → (∀ (i : Nat) y d, ys[i]? = some y → l[i]? = some d → y.cnt + 1 ≤ bk d) → PV.cntS ys ≤ bkA l
  | [], [], _, _ => by simp [PV.cntS]
  | d :: l, y :: ys, h, hh => by
    have h1 := cntS_le hB l ys (by simpa using h) fun i y d a b => hh (i + 1) y d (by simpa using a) (by simpa using b)
    have h2 := hh 0 y d rfl rfl
    rw [hB.cons]
    simp only [PV.cntS]
    omega
  | [], _ :: _, h, _ => by simp at h
  | _ :: _, [], h, _ => by simp at h
theorem fields_typedB (hB : BulkOK bk bkA) {X : Nat} {K : Keep} {fuel n : Nat} {cs : List Value}
    (ih : ∀ (t : TypeId) (cs : List Value) (d : DataW H) (ps : List MemPlace) (cts : List CT), DataW.trod enc P w 0 sp true fuel t cs = some (d, ps) → (DataW.weights P t d).all (· ≤ reachBytes) = true → ctsOf P n t = some cts → ∃ xs, RowT X w K cts cs xs ∧ PV.cntA xs + 1 ≤ bk d) :
    ∀ (fs : List Field) (ctss : List (List CT)) (o : Nat) (xs : List (DataW H × List MemPlace)), fs.mapM (fun f => ctsOf P n f.type) = some ctss → fitsF P fs ctss o = true →
      fs.mapM (fun f => DataW.trod enc P w 0 sp true fuel f.type ((cs.drop f.offset).take (P.cellsOf f.type))) = some xs → (DataW.weightsEach P (fs.map (·.type)) (xs.map (·.1))).all (· ≤ reachBytes) = true → ∃ ys, RowT X w K ctss.flatten ((cs.drop o).take ctss.flatten.length) ys ∧ PV.cntA ys ≤ bkA (xs.map (·.1)) := by
  intro fs
  induction fs with
  | nil =>
    intro ctss o xs h1 h2 h3 _
    simp at h1; subst h1
    exact ⟨[], by simpa using RowT.nil X w K, by simp [PV.cntA]⟩
  | cons f fs ihf =>
    intro ctss o xs h1 h2 h3 hwt
    simp only [List.mapM_cons, Option.pure_def, Option.bind_eq_bind, Option.bind_eq_some_iff, Option.some.injEq] at h1 h3
    obtain ⟨c, hc, css, hcss, rfl⟩ := h1
    obtain ⟨⟨d, ps⟩, hd, ds, hds, rfl⟩ := h3
    simp only [fitsF, Bool.and_eq_true, beq_iff_eq] at h2
    obtain ⟨⟨hoff, hsz⟩, hrest⟩ := h2
    simp only [List.map_cons, DataW.weightsEach, List.all_append, Bool.and_eq_true] at hwt
    obtain ⟨y1, hy1, hc1⟩ := ih f.type _ d ps c hd hwt.1 hc
    obtain ⟨y2, hy2, hc2⟩ := ihf css (o + c.length) ds hcss hrest hds hwt.2
    refine ⟨y1 ++ y2, ?_, by rw [PV.cntA_append, List.map_cons, hB.cons]; simp only; omega⟩
    rw [hoff, hsz] at hy1
    have := hy1.append hy2
    simp only [List.flatten_cons, List.length_append]
    rw [List.take_add, List.drop_drop]
    exact this

theorem trod_typedB (hB : BulkOK bk bkA) {X : Nat} : ∀ (fuel n : Nat) (t : TypeId) (cs : List Value) (d : DataW H) (ps : List MemPlace) (cts : List CT), (∀ b, sp b = true) →
    DataW.trod enc P w 0 sp true fuel t cs = some (d, ps) → (DataW.weights P t d).all (· ≤ reachBytes) = true → ctsOf P n t = some cts → ∃ xs, RowT X w (allK w) cts cs xs ∧ PV.cntA xs + 1 ≤ bk d := by
  intro fuel
  induction fuel with
  | zero => intro n t cs d ps cts _ h; simp [DataW.trod] at h
  | succ fuel ih =>
    intro n t cs d ps cts hsp h hwt hc
    cases n with
    | zero => simp [ctsOf] at hc
    | succ n =>
      unfold ctsOf at hc
      unfold DataW.trod at h
      split at hc
      · -- bool
        rename_i hu
        simp only [Option.some.injEq] at hc; subst hc
        rw [hu] at h
        split at h <;> (try (exfalso; clear ih; simp_all; done)) <;> (try (exfalso; clear ih; simp at h; done))
        exact ⟨_, RowT.one (.bool _) (.sc _) rfl, by have := hB.one d; simp [PV.cntA, PV.cnt]; exact this⟩
      · rename_i k hu
        simp only [Option.some.injEq] at hc; subst hc
        rw [hu] at h
        split at h <;> (try (exfalso; clear ih; simp_all; done)) <;> (try (exfalso; clear ih; simp at h; done))
        rename_i h1
        simp only [Option.some.injEq, TypeDesc.int.injEq] at h1; subst h1
        split at h
        · rename_i hk
          obtain ⟨rfl, hwf⟩ := hk
          exact ⟨_, RowT.one (.int hwf) (.sc _) rfl, by have := hB.one d; simp [PV.cntA, PV.cnt]; exact this⟩
        · simp at h
      · rename_i hu
        simp only [Option.some.injEq] at hc; subst hc
        rw [hu] at h
        split at h <;> (try (exfalso; clear ih; simp_all; done)) <;> (try (exfalso; clear ih; simp at h; done))
        split at h
        · rename_i hk
          simp only [Option.some.injEq, Prod.mk.injEq] at h
          obtain ⟨rfl, _⟩ := h
          simp only [DataW.weights, List.all_cons, Bool.and_eq_true, decide_eq_true_eq] at hwt
          exact ⟨_, RowT.one (.str (by have := hwt.1; simpa using this)) (.sc _) rfl, by simp [PV.cntA, PV.cnt]; exact hB.one _⟩
        · simp at h
      · -- slice
        rename_i e hu
        split at hc
        case h_2 => simp at hc
        rename_i lay cte hlay hcte
        split at hc
        case isFalse => simp at hc
        rename_i hcond
        obtain ⟨hw1, hw2, hw3⟩ := hcond
        simp only [Option.some.injEq] at hc; subst hc
        rw [hu] at h
        split at h <;> (try (exfalso; clear ih; simp_all; done)) <;> (try (exfalso; clear ih; simp at h; done))
        · exact ⟨_, RowT.one (x := .list lay false ([].map (rowPV lay))) (.list [] (by simp) (by simp) (by simp) (by simp)) .empty rfl, by simp [PV.cntA, PV.cnt, PV.cntS]; exact hB.one _⟩
        · rename_i a len cap h1
          simp only [Option.some.injEq, TypeDesc.slice.injEq] at h1; subst h1
          split at h
          case isFalse => simp at h
          rename_i hb
          obtain ⟨_, hlc, hmax⟩ := hb
          simp only [hsp, if_true, Option.bind_eq_some_iff, Option.map_eq_some_iff] at h
          obtain ⟨elems, he, rest, hr, hdd⟩ := h
          simp only [Prod.mk.injEq] at hdd
          obtain ⟨rfl, _⟩ := hdd
          simp only [DataW.weights, hu, List.all_cons, List.all_append, Bool.and_eq_true, decide_eq_true_eq, List.length_map] at hwt
          obtain ⟨hwl, hwe, hwr⟩ := hwt
          have wAll : ∀ (l : List (DataW H)), (DataW.weightsAll P e l).all (· ≤ reachBytes) = true → ∀ x ∈ l, (DataW.weights P e x).all (· ≤ reachBytes) = true := by
            intro l
            induction l with
            | nil => intro _ x hx; simp at hx
            | cons y l ihl =>
              intro hy x hx
              simp only [DataW.weightsAll, List.all_append, Bool.and_eq_true] at hy
              rcases List.mem_cons.1 hx with rfl | hx
              · exact hy.1
              · exact ihl hy.2 x hx
          obtain ⟨e1, e2⟩ := mapM_range he
          obtain ⟨r1, r2⟩ := mapM_range hr
          rw [hw2] at e2 r2
          have row : ∀ (i : Nat) (y : DataW H × List MemPlace), ((w.cells? 0 (a.add (i * width lay)) (width lay)).bind (DataW.trod enc P w 0 sp true fuel e)) = some y → (y ∈ elems ∨ y ∈ rest) →
              ∃ vs xs, w.cells? 0 (a.add (i * width lay)) (width lay) = some vs ∧ RowT X w (allK w) cte vs xs ∧ PV.cntA xs + 1 ≤ bk y.1 := by
            intro i y hy hmem
            simp only [Option.bind_eq_some_iff] at hy
            obtain ⟨vs, hvs, hy⟩ := hy
            obtain ⟨d', ps'⟩ := y
            have hw' : (DataW.weights P e d').all (· ≤ reachBytes) = true := by
              rcases hmem with hmem | hmem
              · exact wAll _ hwe d' (List.mem_map.2 ⟨_, hmem, rfl⟩)
              · exact wAll _ hwr d' (List.mem_map.2 ⟨_, hmem, rfl⟩)
            obtain ⟨xs, hxs, hcx⟩ := ih n e vs d' ps' cte hsp hy hw' hcte
            exact ⟨vs, xs, hvs, hxs, hcx⟩
          by_cases hcap : cap = 0
          · have hlen : len = 0 := by omega
            subst hlen; subst hcap
            exact ⟨_, RowT.one (x := .list lay false ([].map (rowPV lay))) (.list [] (by simp) (by simp) (by simp) (by simp)) .empty rfl, by simp [PV.cntA, PV.cnt, PV.cntS]; exact hB.one _⟩
          · have hspot : a = ⟨a.block, a.off, none⟩ := by
              have : ∃ y, ((w.cells? 0 (a.add (0 * width lay)) (width lay)).bind (DataW.trod enc P w 0 sp true fuel e)) = some y ∧ (y ∈ elems ∨ y ∈ rest) := by
                by_cases hl : len = 0
                · subst hl
                  obtain ⟨y, hy, hm⟩ := r2 0 (by omega)
                  exact ⟨y, by simpa using hy, .inr (List.mem_of_getElem? hm)⟩
                · obtain ⟨y, hy, hm⟩ := e2 0 (by omega)
                  exact ⟨y, hy, .inl (List.mem_of_getElem? hm)⟩
              obtain ⟨y, hy, hm⟩ := this
              obtain ⟨vs, xs, hvs, hxs, _⟩ := row 0 y hy hm
              obtain ⟨c1, c2⟩ := cells?_some hvs
              have := c2 0 (vs[0]'(by omega)) (List.getElem?_eq_getElem (by omega))
              simp only [Nat.zero_mul, Addr.add, if_true] at this
              exact spot_of_cell this
            generalize a.block = b at hspot
            generalize a.off = off at hspot
            subst hspot
            -- the rows
            have rows : ∀ i, i < len → ∃ vs xs, w.cells? 0 (Addr.add ⟨b, off, none⟩ (i * width lay)) (width lay) = some vs ∧ RowT X w (allK w) cte vs xs ∧ ∀ y, elems[i]? = some y → PV.cntA xs + 1 ≤ bk y.1 := fun i hi => by
              obtain ⟨y, hy, hm⟩ := e2 i hi
              obtain ⟨vs, xs, q1, q2, q3⟩ := row i y hy (.inl (List.mem_of_getElem? hm))
              exact ⟨vs, xs, q1, q2, fun y' hy' => by rw [hm] at hy'; simp only [Option.some.injEq] at hy'; subst hy'; exact q3⟩
            obtain ⟨F, hF⟩ : ∃ F : Nat → List Value × List PV, ∀ i, i < len → w.cells? 0 (Addr.add ⟨b, off, none⟩ (i * width lay)) (width lay) = some (F i).1 ∧ RowT X w (allK w) cte (F i).1 (F i).2 ∧ ∀ y, elems[i]? = some y → PV.cntA (F i).2 + 1 ≤ bk y.1 := by
              refine ⟨fun i => if hi : i < len then (Classical.choose (rows i hi), Classical.choose (Classical.choose_spec (rows i hi))) else ([], []), fun i hi => ?_⟩
              simp only [hi, dif_pos]
              exact Classical.choose_spec (Classical.choose_spec (rows i hi))
            have hcnt : PV.cntA [.list lay false (((List.range len).map fun i => (F i).2).map (rowPV lay))] + 1 ≤ bk (.slice (elems.map (·.1)) (rest.map (·.1))) := by
              have := cntS_le hB (elems.map (·.1)) (((List.range len).map fun i => (F i).2).map (rowPV lay)) (by simp [e1]) fun i y d hy hd => by
                simp only [List.map_map, List.getElem?_map, Option.map_eq_some_iff] at hy hd
                obtain ⟨i1, hi1, rfl⟩ := hy
                obtain ⟨z, hz, rfl⟩ := hd
                have hi : i < len ∧ i1 = i := by
                  rcases Nat.lt_or_ge i len with h' | h'
                  · rw [List.getElem?_range h'] at hi1; exact ⟨h', by simpa using hi1.symm⟩
                  · rw [List.getElem?_eq_none (by simpa using h')] at hi1; cases hi1
                obtain ⟨hi, rfl⟩ := hi
                have h3 := (hF i1 hi).2.2 z hz
                have h4 := (hF i1 hi).2.1.len
                simp only [Function.comp_apply]
                rw [rowPV_cnt (by rw [h4, hw1])]; exact h3
              rw [hB.slice]
              simp only [PV.cntA, PV.cnt, Nat.add_zero]
              omega
            refine ⟨[.list lay false (((List.range len).map fun i => (F i).2).map (rowPV lay))], RowT.one (.list _ ?_ ?_ ?_ ?_) (.list ((List.range len).map fun i => rowV lay (F i).1) ?_ hlc (by simp) ?_ ?_ ?_) rfl, hcnt⟩
            · simp; exact Nat.le_trans hlc hmax
            · simp only [List.length_map, List.length_range]
              rw [e1] at hwl
              exact Nat.le_trans (Nat.mul_le_mul_right _ (Nat.le_add_right _ _)) hwl
            · intro xs hx
              simp only [List.mem_map, List.mem_range] at hx
              obtain ⟨i, hi, rfl⟩ := hx
              exact (hF i hi).2.1.len
            · intro xs hx
              simp only [List.mem_map, List.mem_range] at hx
              obtain ⟨i, hi, rfl⟩ := hx
              exact (hF i hi).2.1.typed
            · simp
            · simp
            · intro i x cv hx hcv
              simp only [List.map_map, List.getElem?_map, Option.map_eq_some_iff] at hx hcv
              obtain ⟨i1, hi1, rfl⟩ := hx
              obtain ⟨i2, hi2, rfl⟩ := hcv
              rw [hi1] at hi2; simp only [Option.some.injEq] at hi2; subst hi2
              have hi : i1 < len := by
                have := List.mem_of_getElem? hi1
                simpa using this
              exact (hF i1 hi).2.1.pvr hw1
            · intro i cv hcv
              simp only [List.getElem?_map, Option.map_eq_some_iff] at hcv
              obtain ⟨i1, hi1, rfl⟩ := hcv
              have hi : i < len ∧ i1 = i := by
                rcases Nat.lt_or_ge i len with h' | h'
                · rw [List.getElem?_range h'] at hi1; exact ⟨h', by simpa using hi1.symm⟩
                · rw [List.getElem?_eq_none (by simpa using h')] at hi1; cases hi1
              obtain ⟨hi, rfl⟩ := hi
              obtain ⟨l1, l2⟩ := (hF i1 hi).2.1.lay hw1
              refine ⟨l1, fun j v hj => ?_⟩
              obtain ⟨c1, c2⟩ := cells?_some (hF i1 hi).1
              have hj' : (F i1).1[j]? = some v := by rw [← l2]; simpa using hj
              have := c2 j v hj'
              rw [add_none, add_none] at this
              exact ⟨lt_of_cell this, this⟩
      · -- struct
        rename_i fs hu
        split at hc
        case h_2 => simp at hc
        rename_i ctss hctss
        split at hc
        case isFalse => simp at hc
        rename_i hcond
        simp only [Option.some.injEq] at hc; subst hc
        rw [hu] at h
        split at h <;> (try (exfalso; clear ih; simp_all; done)) <;> (try (exfalso; clear ih; simp at h; done))
        rename_i h1
        simp only [Option.some.injEq, TypeDesc.struct.injEq] at h1; subst h1
        split at h
        case isFalse => simp at h
        rename_i hlen
        simp only [Option.map_eq_some_iff] at h
        obtain ⟨xs, hxs, hdd⟩ := h
        simp only [Prod.mk.injEq] at hdd
        obtain ⟨rfl, _⟩ := hdd
        simp only [DataW.weights, hu] at hwt
        obtain ⟨ys, hys, hcy⟩ := fields_typedB (X := X) hB (K := allK w) (fun t cs d ps cts h1 h2 h3 => ih n t cs d ps cts hsp h1 h2 h3) fs.toList ctss 0 xs hctss hcond.1 hxs hwt
        rw [List.drop_zero, List.take_of_length_le (by omega)] at hys
        exact ⟨ys, hys, by rw [hB.agg]; omega⟩
      · simp at hc
theorem args_typedB (hB : BulkOK bk bkA) {X n : Nat} : ∀ (ts : List TypeId) (vs : List Value) (ds : List (DataW H)) (p : List MemPlace) (ats : List (Nat × List CT)), DataW.TrodAll enc P w 0 (fun _ => true) true ts vs ds p → (DataW.weightsEach P ts ds).all (· ≤ reachBytes) = true →
    (∀ (j : Nat) t v, ts[j]? = some t → vs[j]? = some v → Value.okWide P w .any base t v) → ts.mapM (argT P n) = some ats →
    ∃ args : List PV, args.length = vs.length ∧ args.length = ats.length ∧ (∀ (i : Nat) a d, ats[i]? = some a → args[i]? = some d → TypedA a d) ∧ (∀ (i : Nat) d v, args[i]? = some d → vs[i]? = some v → PVR X w (allK w) d v) ∧ PV.cntA args ≤ bkA ds := by
  intro ts
  induction ts with
  | nil =>
    intro vs ds p ats h _ _ ha
    obtain ⟨rfl, rfl, rfl⟩ := Go.ChangeShapes.trodAll_nil h
    simp at ha; subst ha
    exact ⟨[], rfl, rfl, by simp, by simp, by simp [PV.cntA]⟩
  | cons t ts ih =>
    intro vs ds p ats h hwt hok ha
    simp only [List.mapM_cons, Option.pure_def, Option.bind_eq_bind, Option.bind_eq_some_iff, Option.some.injEq] at ha
    obtain ⟨a, hat, rest, hrest, rfl⟩ := ha
    cases vs with
    | nil => simp [DataW.TrodAll] at h
    | cons v vs =>
      cases ds with
      | nil => simp [DataW.TrodAll] at h
      | cons d ds =>
        simp only [DataW.TrodAll] at h
        obtain ⟨p1, q1, ⟨fuel, ht⟩, hall, rfl⟩ := h
        simp only [DataW.weightsEach, List.all_append, Bool.and_eq_true] at hwt
        unfold argT at hat
        split at hat
        case h_2 => simp at hat
        rename_i lay cts hlay hcts
        split at hat
        case isFalse => simp at hat
        rename_i hw
        simp only [Option.some.injEq] at hat; subst hat
        obtain ⟨xs, hxs, hcx⟩ := trod_typedB (X := X) hB fuel n t _ d p1 cts (fun _ => rfl) ht hwt.1 hcts
        obtain ⟨args, e1, e2, e3, e4, e5⟩ := ih vs ds q1 rest hall hwt.2 (fun j t' v' h1 h2 => hok (j + 1) t' v' (by simpa using h1) (by simpa using h2)) hrest
        have hv : v = rowV lay v.cells.toList := value_row hlay (hok 0 t v rfl rfl) fun h0 => by
          subst h0; rw [hxs.lenV, hw]; rfl
        refine ⟨rowPV lay xs :: args, by simp [e1], by simp [e2], fun i a d h1 h2 => ?_, fun i d v' h1 h2 => ?_, by rw [hB.cons]; simp only [PV.cntA]; rw [rowPV_cnt (by rw [hxs.len, hw])]; omega⟩
        · cases i with
          | zero => simp at h1 h2; subst h1; subst h2; exact ⟨xs, rfl, hxs.len, hxs.typed⟩
          | succ i => exact e3 i a d (by simpa using h1) (by simpa using h2)
        · cases i with
          | zero =>
            simp only [List.getElem?_cons_zero, Option.some.injEq] at h1 h2; subst h1; subst h2
            have := hxs.pvr hw
            rw [← hv] at this
            exact this
          | succ i => exact e4 i d v' (by simpa using h1) (by simpa using h2)

theorem liftedC (hB : BulkOK bk bkA) {B : Nat} {h : Hints} {C : Checked} {f : FuncId} {fn : Func} {s : ChangeSpec} {apart fresh handsOn : Bool} {bt : TypeId} {ats : List (Nat × List CT)} {depth : Nat}
    (hT : TidyF C.prog) (hp : PrimsOK C.prog h.prim) (hps : PrimsSOK C.prog h.primS) (hpm : PrimsMOK C.prog h.primM) (hpo : PrimsOOK C.prog h.ownF h.primO) (hpf : h.prim f = none) (hvars : s.vars = [])
    (hs : ∀ ds : List (DataW H), ds.length = fn.params.size → s.fn H ds = { results := [.lit (.bool true)], args := ds })
    (hres : fn.resultTypes = #[bt]) (hbt : C.prog.underlying bt = some .bool) (hlaid : laidOutB C.prog = true) (hpar : fn.params.toList.mapM (argT C.prog depth) = some ats)
    (hread : ∀ t ∈ fn.params.toList, C.prog.readableRec t = true ∧ t < C.prog.types.size)
    (hmain : ∀ args : List PV, args.length = ats.length → (∀ (i : Nat) a d, ats[i]? = some a → args[i]? = some d → TypedA a d) → PV.cntA args ≤ B → ∃ L n, callP C.prog h L n f args = some (.sc (.bool true)))
    (W : World) (base : Nat) (args : Array Value) (ds gs : List (DataW H)) (before : List MemPlace) (hval0 : ∀ (j : Nat) t v, fn.params[j]? = some t → args[j]? = some v → Value.okWide C.prog W .any base t v)
    (hW : DataW.Whole enc C.prog fn.params.toList s.vars apart W args.toList ds gs before) (hsmall : bkA (ds ++ gs) ≤ B) (hwt : (DataW.weightsEach C.prog (fn.params.toList ++ s.plain.varTypes C.prog) (ds ++ gs)).all (· ≤ reachBytes) = true) :
    Calls C.prog f args W fun e W' => ∃ v, e = .returned v ∧ s.post enc C.prog fn apart fresh handsOn false W args v W' := by
  have hlt := hW.lt
  obtain ⟨p, q, hA, hV, rfl, hfz, hnd⟩ := id hW
  obtain ⟨rfl, rfl⟩ : gs = [] ∧ q = [] := by rw [hvars] at hV; exact Go.ChangeShapes.trodVars_none hV
  have hval' : ∀ (j : Nat) t v, fn.params.toList[j]? = some t → args.toList[j]? = some v → Value.okWide C.prog W .any base t v := fun j t v h1 h2 => hval0 j t v (by simpa using h1) (by simpa using h2)
  obtain ⟨l1, l2⟩ := trodAll_length hA
  rw [weights_front C.prog _ _ _ (by first | exact l2.symm | omega)] at hwt
  obtain ⟨avs, e1, e2, e3, e4, e5⟩ := args_typedB hB (X := W.heap.size) fn.params.toList args.toList ds p ats hA hwt hval' hpar
  obtain ⟨L, n, hr⟩ := hmain avs e2 e3 (by rw [List.append_nil] at hsmall; omega)
  refine (callP_calls (L := L) hT hp hps hpm hpo hpf hr (K := allK W) (vs := args) (Nat.le_refl _) (fun b o hb => hb) (by simpa using e1.symm) fun i c v h1 h2 => e4 i c v h1 (by simpa using h2)).mono fun e W' ⟨v, he, hx, hv⟩ => ⟨v, he, ?_⟩
  have hb := hx.below
  cases hv
  have hss := hs ds (by simpa using l2)
  have hargs := trodAll_below hlaid hb _ _ _ _ hread hA fun x hx => hlt x (by simp [hx])
  refine ⟨ds, [], p ++ [], [], p, [], hW, ?_, ?_, ?_, ?_, fun h => by cases h⟩
  · rw [List.append_nil, hss, hres]
    refine ⟨[], [], ⟨1, ?_⟩, rfl, rfl⟩
    simp [DataW.trod, hbt, Value.cells]
  · rw [List.append_nil, hss]; exact hargs
  · rw [hvars]; simp only [List.append_nil, hss]; exact rfl
  · exact Below.frame hb _
end
end Go.Lite
